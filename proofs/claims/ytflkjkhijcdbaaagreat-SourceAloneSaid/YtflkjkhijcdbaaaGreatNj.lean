/- Contracts. -/
import Derived.Test.YtflkjkhijcdbaaaGreatNi
set_option maxHeartbeats 16000000
set_option maxRecDepth 100000
set_option linter.all false
namespace Go.Proofs.YtflkjkhijcdbaaaGreat
open Go Go.RowKit Wx Go.Proofs.Tryz
attribute [local irreducible] lsH rsH stars
variable {F f:Fnd}{N pp n i:Nat}{s:SS}{p:PPr}{q:List HP}{g:FC}{U U' σ1:StC}{k x sl ot V W o hi:Int}{picks l:List Int}{L r:List PStm}{G:World}{t:PTr}{lo:Bool}{c v:UInt8}{a b:List Nat}{ts:List Tk}{d:PDec}{nm:ByteArray}{e:PEx}{P:List PStm->Prop}{ds:List PDec}
theorem SS.fine.pg (h:s.fine F N):s.pg.fine F N:=h.out _
theorem SS.fine.doP (h:s.fine F N)(hM:MayP F)(z:Int):(s.doP F.pr z).1.fine F (N+1):=by
 unfold SS.doP;split
 . exact h.mono (cX N)
 rename_i b;split
 . exact h.mono (cX N)
 split
 . exact h.mono (cX N)
 rename_i a;exact (h.step hM (n:=z.toNat) (by omega) (by simpa using a)).pg
theorem Zzl (h:s.pg=s)(z:Int):(s.doP p z).1.pg=(s.doP p z).1:=by
 unfold SS.doP;split
 . exact h
 split
 . exact h
 split
 . exact h
 exact SS.pg_pg _
theorem Hd.next {z:Int}(h:Hd q pp g N U)(e:(SS.doP g.er.pr U.er z).1=U'.er)(hT:Kn q fun M=>TodoAt M U'.ths):Hd q pp g (N+1) U':=
 ⟨h.P,h.M,e ▸ h.F.doP h.M z,e ▸ Zzl h.G z,hT⟩
theorem Hd.mono {N':Nat}(h:Hd q pp g N U)(l:N<=N'):Hd q pp g N' U:=⟨h.P,h.M,h.F.mono l,h.G,h.T⟩
def SS.ix (k:Int)(n:Nat):Nat:=((k.tmod n+n).tmod n).toNat
def SS.stepP (p:PPr)(s:SS)(k:Int):SS×PEv×Int:=
 if s.all p= [] then (s,zE0,150) else s.doP p ((s.all p).getD (SS.ix k (s.all p).length) 0)
theorem Hd.step (h:Hd q pp g N U)(e:(SS.stepP g.er.pr U.er k).1=U'.er)(hT:Kn q fun M=>TodoAt M U'.ths):Hd q pp g (N+1) U':=by
 unfold SS.stepP at e;split at e
 . exact ⟨h.P,h.M,e ▸ h.F.mono (cX N),e ▸ h.G,hT⟩
 exact h.next e hT
theorem ix_ok (h:0<n)(h8:n<=1000):(-(n:Int)<k.tmod n/\k.tmod n<n)/\(0<=(k.tmod n+n).tmod n/\(k.tmod n+n).tmod n<n)/\SS.ix k n<n:=by
 have c: -(n:Int)<k.tmod n/\k.tmod n<n:=by
  have e:=Int.tmod_lt_of_pos k (b:=(n:Int)) (by omega);have d:=Int.lt_tmod_of_pos k (b:=(n:Int)) (by omega);exact ⟨d,e⟩
 have a:0<=(k.tmod n+n).tmod n/\(k.tmod n+n).tmod n<n:=⟨Int.tmod_nonneg _ (by omega),Int.tmod_lt_of_pos _ (by omega)⟩;exact ⟨c,a,by unfold SS.ix;omega⟩
theorem Ej (p:PPr)(s:SS):(s.all p).length<=s.ths.length:=by
 unfold SS.all;rw [aU];exact cP (gV _ _) (Nat.le_of_eq List.length_range)
def SS.runP (p:PPr):SS->List Int->SS×List PEv
 |s, []=>(s, [])
 |s,k::r=>if s.all p= [] then (s, []) else ((SS.runP p (s.stepP p k).1 r).1,(s.stepP p k).2.1::(SS.runP p (s.stepP p k).1 r).2)
theorem Hz (p:PPr)(s:SS)(k:Int)(r:List Int):SS.runP p s (k::r)=if s.all p= [] then (s, []) else ((SS.runP p (s.stepP p k).1 r).1,(s.stepP p k).2.1::(SS.runP p (s.stepP p k).1 r).2):=by rw [SS.runP]
theorem It (h:x∈s.all p): ∃ n:Nat,x=n/\n<s.ths.length/\s.can p n=true:=by
 unfold SS.all at h;obtain ⟨n,a,rfl⟩:=bU.1 h;obtain ⟨c,b⟩:=fH.1 a;exact ⟨n,rfl,jC.1 c,b⟩
theorem Tb (h:s.all p≠ [])(h8:s.ths.length<=8): ∃ n:Nat,n<s.ths.length/\s.can p n=true/\(s.all p).getD (SS.ix k (s.all p).length) 0=n/\s.stepP p k=((s.step p n).1.pg,(s.step p n).2,0):=by
 have d:=Ej p s;obtain ⟨_,_,hi⟩:=ix_ok (k:=k) (iK.2 h) (by omega);obtain ⟨n,b,c,a⟩:=It (aB hi);refine ⟨n,c,a,by rw [Wl hi,b],?_⟩;unfold SS.stepP SS.doP;rw [if_neg h,Wl hi,b,if_neg (by omega),if_neg h,show ((n:Int)).toNat=n from rfl,a];rfl
theorem R7 (x:EvC):(evC x).length=9:=rfl
theorem evC_one (x:EvC):(evC x).all (·.oneCell')=true:=rfl
def E3 (a:Option Addr)(c:Nat)(L:List EvC):List HP:= [rsH evC 9 47 a c L,stars (L.map fun x=>stars (evL x))]
structure Goes (q:List HP) (pp:Nat) (g:FC) (N:Nat) (U:StC) (picks:List Int) (i:Nat) (U':StC) (L:List EvC):Prop where
 h:Hd q pp g (N+i) U'
 e:L.map EvC.e++(SS.runP g.er.pr U'.er (picks.drop i)).2=(SS.runP g.er.pr U.er picks).2
 s:(SS.runP g.er.pr U'.er (picks.drop i)).1=(SS.runP g.er.pr U.er picks).1
 l:L.length<=i
theorem Goes.next {σ2:StC}{L:List EvC}{x:EvC}(h:Goes q pp g N U picks i σ1 L)(hi:i<picks.length)(hn:σ1.er.all g.er.pr≠ [])(e:SS.stepP g.er.pr σ1.er picks[i]=(σ2.er,x.e,0))(hT:Kn q fun M=>TodoAt M σ2.ths):Goes q pp g N U picks (i+1) σ2 (L++ [x]):=by
 have c:picks.drop i=picks[i]::picks.drop (i+1):=aJ hi;have b:=h.e;have a:=h.s;rw [c,Hz] at b a;rw [if_neg hn,e] at b a;refine ⟨?_,?_,a,by rw [aG];have:=h.l;simp;omega⟩
 . have:=Hd.step (k:=picks[i]) h.h (by rw [e]) hT;rwa [eL] at this
 rw [aM,aA];exact b
theorem Goes.stop {L:List EvC}(h:Goes q pp g N U picks i σ1 L)(hi:i<picks.length)(hn:σ1.er.all g.er.pr= []):σ1.er=(SS.runP g.er.pr U.er picks).1/\L.map EvC.e=(SS.runP g.er.pr U.er picks).2:=by
 have c:picks.drop i=picks[i]::picks.drop (i+1):=aJ hi;have b:=h.e;have a:=h.s;rw [c,Hz] at b a;rw [if_pos hn] at b a;exact ⟨a,by rw [<-b,cA]⟩
theorem Goes.done {L:List EvC}(h:Goes q pp g N U picks i σ1 L)(hi:i=picks.length):σ1.er=(SS.runP g.er.pr U.er picks).1/\L.map EvC.e=(SS.runP g.er.pr U.er picks).2:=by
 subst hi;have b:=h.e;have a:=h.s;rw [dP] at b a;exact ⟨a,by rw [<-b];simp [SS.runP]⟩
theorem Cy:(prog.info? 47).map (fun i=>(i.zero,i.size,i.bytes))=some (some (.agg #[I64 0,I64 0,.bool false,I64 0,.slice none 0 0,.bool false,I64 0,I64 0,.slice none 0 0]),9,104):=by kernel_rfl
section
variable {p who:Nat}{ev:EvC}{u:Int}{bb:Bool}
variable {z:Int}
theorem SDo2_ok (E:List HP){F:List HP}(hH:Hd q pp g N U)(hN:N<=899):CallF prog G 30 [.pointer (some ⟨p,0,none⟩),I64 z] (stP p pp U::(Zr U++(E++(q++F)))) (Ret fun v q'=> ∃ (x:EvC) (U':StC) (e:Int),v= .tuple [.agg (evC x).toArray,I64 e].toArray/\q'=stP p pp U'::(Zr U'++(evL x++(E++(q++F))))/\(Kn q fun M=>TodoAt M U'.ths)/\SS.doP g.er.pr U.er z=(U'.er,x.e,e)):=
 dF (pre':=(stP p pp U::(Zr U++q))++(E++F)) (dD _ (by show Le _ ((Zr U++q)++(E++F));rw [aA];exact dH _ (Vw E q F))) (Mh (E++F) (SDo_ok hH hN)) (by
  rintro _ _ ⟨_,⟨v,rfl,x,U',e,rfl,rfl,b,a⟩,rfl⟩;exact ⟨_,⟨_,rfl,x,U',e,rfl,rfl,b,a⟩,dD _ (by show Le ((Zr U'++(evL x++q))++(E++F)) _;rw [aA,aA];exact dH _ (dH _ (Vw q E F)))⟩)
theorem Lj (hH:Hd q pp g N U)(hN:N<=899)(hk: -9223372036854775808<=k/\k<=9223372036854775807):CallF prog G 19 [.pointer (some ⟨p,0,none⟩),I64 k] (stP p pp U::(Zr U++q)) (Ret fun v q'=> ∃ (x:EvC) (U':StC) (e:Int),v= .tuple [.agg (evC x).toArray,I64 e].toArray/\q'=stP p pp U'::(Zr U'++(evL x++q))/\(Kn q fun M=>TodoAt M U'.ths)/\SS.stepP g.er.pr U.er k=(U'.er,x.e,e)):=by
 refine aC func19 ntmps19 rfl fun F cs=> ?_;have hF:=hH.F;have j:=hH.T;have h:=hF.ok;have a:U.er.ths.length=U.ths.length:=eP U;have h8:=h.t.2;rw [a] at h8;have b:=Ej g.er.pr U.er;rw [a] at b;change X _ _ _ _ _ _ _ _ (stP p pp U::lsH I64 2 U.ca U.cc U.cells::yH U.sp U.sy::rsH trC 5 116 U.ha U.hc U.ths::stars (U.ths.map trH)::(q++F));refine xo 2 ?_;refine bW zeroValue47 fun y=> ?_
 refine oo 6 ?_;refine aO call49 (Q7 (p:=p) (pp:=pp) clA) ?_;refine Zt (bV rfl) ?_;refine rn [1,1009] ?_;obtain ⟨L,m⟩:=kL (U.er.all g.er.pr);rw [<-m] at b;refine xo 5 ?_;refine Zb call40 leA (On (p:=p) (pp:=pp) (U:=U) (q:=pto y AU::(q++F)) h (by omega) (j.le leA)) ?_;rintro _ _ ⟨a1,z,rfl,rfl⟩;rw [<-m];refine ox 9 ?_;refine xp 15 ?_ ?_<;>intro h2
 . have f:=aK (show L.length=0 by omega);refine rn [4,0,2] ?_;refine bY (Zi acC 3 140 _) (bY (Zi snC 3 50 _) ?_);refine Zq (stP p pp U::(Zr U++(evL Aj++q))) func19 (N1 results19) ⟨_,rfl,Aj,U,150,rfl,rfl,j,by unfold SS.stepP;rw [if_pos (by rw [<-m];exact f)]⟩ (by unfold Zr evL;exact leA)
 have d:0<L.length:=(by omega);have f: ¬U.er.all g.er.pr= []:=(fun k=>by rw [<-m] at k;rw [k] at d;exact aR d (by decide));obtain ⟨a0,s,i⟩:=ix_ok (k:=k) d (by omega);refine Uw (l:=L) (by omega) fun gl n=> ?_;have o: ∀ r,Sees (lsH I64 3 a1 z L::r) (some ⟨gl,0,none⟩) (L.map I64):=fun r=>by rw [<-n];exact bR r
 refine xo 16 ?_;refine bA 28 (I64 (SS.ix k L.length:Int)) rfl (by unfold SS.ix;rw [Int.toNat_of_nonneg s.1]) ?_;refine rf [3018,1] n ?_;refine ld ?_ (hc:=(((o _).le leA).at (by omega) i));refine Zb call30 (by unfold Zr;exact leA) (SDo2_ok (p:=p) (pp:=pp) (U:=U) (q:=q) (F:=F) (pto y AU::lsH I64 3 a1 z L:: []) hH hN) ?_;rintro _ _ ⟨x,c,e2,rfl,rfl,u,w⟩;simp only [Zr,evL,ca,na];refine rn [2,0,2] ?_;refine Zq (stP p pp c::(Zr c++(evL x++q))) func19 (N1 results19) ⟨_,rfl,x,c,e2,rfl,rfl,u,by unfold SS.stepP;rw [if_neg f,<-m,Wl i];exact w⟩ (by unfold Zr evL;exact leA)
theorem Zzi (E:List HP){F:List HP}(hH:Hd q pp g N U)(hN:N<=899)(hk: -9223372036854775808<=k/\k<=9223372036854775807):CallF prog G 19 [.pointer (some ⟨p,0,none⟩),I64 k] (stP p pp U::(Zr U++(E++(q++F)))) (Ret fun v q'=> ∃ (x:EvC) (U':StC) (e:Int),v= .tuple [.agg (evC x).toArray,I64 e].toArray/\q'=stP p pp U'::(Zr U'++(evL x++(E++(q++F))))/\(Kn q fun M=>TodoAt M U'.ths)/\SS.stepP g.er.pr U.er k=(U'.er,x.e,e)):=
 dF (pre':=(stP p pp U::(Zr U++q))++(E++F)) (dD _ (by show Le _ ((Zr U++q)++(E++F));rw [aA];exact dH _ (Vw E q F))) (Mh (E++F) (Lj hH hN hk)) (by
  rintro _ _ ⟨_,⟨v,rfl,x,U',e,rfl,rfl,b,a⟩,rfl⟩;exact ⟨_,⟨_,rfl,x,U',e,rfl,rfl,b,a⟩,dD _ (by show Le ((Zr U'++(evL x++q))++(E++F)) _;rw [aA,aA];exact dH _ (dH _ (Vw q E F)))⟩)
variable {pa:Option Addr}{pc:Nat}
theorem SRun_ok (hH:Hd q pp g N U)(hN:N+picks.length<=899)(hs:Sees q pa (picks.map I64))(hk: ∀ k∈picks, -9223372036854775808<=k/\k<=9223372036854775807):CallF prog G 16 [.pointer (some ⟨p,0,none⟩),.slice pa picks.length pc] (stP p pp U::(Zr U++q)) (Ret fun v q'=> ∃ (U':StC) (L:List EvC) (a':Option Addr) (c':Nat),v= .tuple [.slice a' L.length c',.agg (otC (U'.er.outc g.er.pr)).toArray].toArray/\q'=stP p pp U'::(Zr U'++(E3 a' c' L++q))/\Hd q pp g (N+picks.length) U'/\U'.er=(SS.runP g.er.pr U.er picks).1/\L.map EvC.e=(SS.runP g.er.pr U.er picks).2/\L.length<=picks.length):=by
 refine aC func16 ntmps16 rfl fun F cs=> ?_;change X _ _ _ _ _ _ _ _ (stP p pp U::lsH I64 2 U.ca U.cc U.cells::yH U.sp U.sy::rsH trC 5 116 U.ha U.hc U.ths::stars (U.ths.map trH)::(q++F));refine xo 3 ?_;refine bW zeroValue41 fun n1=> ?_
 refine ox 13 ?_;refine aY (cG (fun (s:Nat×StC×List EvC×Option Addr×Nat)=>s.1<=picks.length/\Goes q pp g N U picks s.1 s.2.1 s.2.2.1) (fun s=> [(0,.pointer (some ⟨p,0,none⟩)),(5,pt n1),(6,.slice s.2.2.2.1 s.2.2.1.length s.2.2.2.2),(11,.slice pa picks.length pc),(12,I64 picks.length),(13,I64 (s.1:Int))]) (fun s=>stP p pp s.2.1::lsH I64 2 s.2.1.ca s.2.1.cc s.2.1.cells::yH s.2.1.sp s.2.1.sy::rsH trC 5 116 s.2.1.ha s.2.1.hc s.2.1.ths::stars (s.2.1.ths.map trH)::pto n1 AF::rsH evC 9 47 s.2.2.2.1 s.2.2.2.2 s.2.2.1::stars (s.2.2.1.map fun x=>stars (evL x))::(q++F)) (fun s=>picks.length - s.1) (fun s c0 ih=> ?_) (0,U, [],none,0) ⟨bB _,⟨hH,rfl,rfl,aL _⟩⟩) Zu (aS (Zi evC 9 47 _) (aS (W6 _) leA));try dsimp only at c0 ih|-
 obtain ⟨hi,j⟩:=c0;obtain ⟨i,σ1,L,ea,z⟩:=s;dsimp only at*;refine xx 5 ?_;refine xp 14 ?_ ?_<;>intro h0
 . have w:i<picks.length:=(by omega);refine Yd (hs.le leA) (by rw [aU];omega) fun b1 o1 a0=> ?_;have b0:=hs;rw [a0] at b0;refine rg [6,3011,1,0,6] a0 b0 ?_;refine Zb call19 (by unfold Zr;exact leA) (Zzi (p:=p) (pp:=pp) (U:=σ1) (g:=g) (N:=N+i) (q:=q) (F:=F) (pto n1 AF::rsH evC 9 47 ea z L::stars (L.map fun x=>stars (evL x)):: []) j.h (by omega) (hk _ (aB w))) ?_;rintro _ _ ⟨x,c,e2,rfl,rfl,d0,n⟩;simp only [Zr,evL,ca,na];refine oo 3 ?_;refine bW zeroValue47 fun n2=> ?_
   refine rn [0,8] ?_;have i0:=j.h.F.ok.t.2;by_cases hal:σ1.er.all g.er.pr= []
   . have d:=n;unfold SS.stepP at d;rw [if_pos hal] at d;obtain ⟨g0,y⟩:=kJ d;obtain ⟨k0,rfl⟩:=kJ y;obtain ⟨r,o⟩:=j.stop w hal;refine X.kt 24 ?_;have a:=Hd.step j.h (by rw [n]) d0;refine xo 6 ?_;refine Zb call22 (by unfold Zr;exact leA) (Nh (p:=p) (pp:=pp) (U:=c) (g:=g) (N:=N+i+1) (q:=pto n1 AF::rsH evC 9 47 ea z L::stars (L.map fun x=>stars (evL x))::(q++F)) a.F.ok (by omega) (a.T.le leA)) ?_;rintro _ _ ⟨rfl,rfl⟩;simp only [Zr,ca,na];refine rn [1,0,1] ?_;refine Zq (stP p pp c::(Zr c++(E3 ea z L++q))) func16 (Ea results16 (eB rfl (eE rfl (LV.agg isAgg41 sizeOf41 Qu rfl) eI))) ⟨_,rfl,c,L,ea,z,rfl,rfl,a.mono (by omega),by rw [<-g0];exact r,o,by have:=j.l;omega⟩ (by unfold Zr E3;exact leA)
   obtain ⟨_,_,_,_,d⟩:=Tb (k:=picks[i]) hal i0;have e0:=n;rw [d] at e0;obtain ⟨_,y⟩:=kJ e0;obtain ⟨_,rfl⟩:=kJ y;have f0:=j.next w hal n d0;have j0:=j.l;refine rn [1024,4,0] ?_;refine bQ (Yz (u:=x) evC underlying37 Cy rfl rfl R7 rfl) ?_;rintro _ _ ⟨g3,rfl,rfl⟩;refine bQ (Z9 (f:=evC) (l:=L) (m:= [x]) underlying37 Cy rfl rfl R7 rfl rfl Zk ((bE _).le leA) evC_one (by simp;omega) (by simp;omega)) ?_;rintro _ _ ⟨a3,c3,rfl,rfl⟩;refine ox 7 ?_;refine bY (q':=stars ((L++ [x]).map fun x=>stars (evL x))::_) (aS (b:=stars (L.map fun x=>stars (evL x))::rsH acC 3 140 x.aa x.ac x.e.acc::rsH snC 3 50 x.na x.nc x.e.syn::_) (bM Zk (bM Zk Zk)) (aS (dD _ (Z5 (evL x) _)) (by rw [aM];exact Le.stars_snoc _ _ _))) ?_;refine cQ 11 (AI pa picks pc) rfl (by rw [a0]) ?_;refine aY (ih (i+1,c,L++ [x],a3,c3) ⟨by dsimp only;omega,f0⟩ (by dsimp only;omega)) Zu leA
 obtain ⟨r,o⟩:=j.done (show i=picks.length by omega);have a:=j.h;refine xo 6 ?_;refine Zb call22 (by unfold Zr;exact leA) (Nh (p:=p) (pp:=pp) (U:=σ1) (g:=g) (N:=N+i) (q:=pto n1 AF::rsH evC 9 47 ea z L::stars (L.map fun x=>stars (evL x))::(q++F)) a.F.ok (by omega) (a.T.le leA)) ?_;rintro _ _ ⟨rfl,rfl⟩;simp only [Zr,ca,na];refine rn [1,0,1] ?_;refine Zq (stP p pp σ1::(Zr σ1++(E3 ea z L++q))) func16 (Ea results16 (eB rfl (eE rfl (LV.agg isAgg41 sizeOf41 Qu rfl) eI))) ⟨_,rfl,σ1,L,ea,z,rfl,rfl,a.mono (by omega),r,o,by have:=j.l;omega⟩ (by unfold Zr E3;exact leA)
end
def Tk.w (t:Tk):Int×Bs×Int:=(t.k,bs t.t,t.n)
theorem Tk.of_w {t:Tk}{n:Int}{w:Bs}(h:t.w=(k,w,n)):t=⟨k,ba w,n,t.ln,t.cl⟩:=by
 obtain ⟨a,b,c,d,e⟩:=t;simp only [Tk.w,jK] at h;obtain ⟨rfl,f,rfl⟩:=h;rw [<-f,ba_bs]
theorem Ht {p:UInt8->Bool}{c:UInt8}(hc:p c=false): ∀ (a r:Bs),((a++ [c])++r).takeWhile p=(a++ [c]).takeWhile p
 | [],r=>by simp [List.takeWhile,hc]
 |x::a,r=>by
  have:=Ht hc a r;simp only [cM,iJ] at this|-;split
  . rw [this]
  rfl
theorem oneW_app {a r:Bs}(h:a≠ []):M0 ((a++ [32])++r)=M0 (a++ [32]):=by
 have f:Q2 ((a++ [32])++r)=Q2 (a++ [32]):=by unfold Q2;rw [Ht (by decide)]
 have i:=Mq (a++ [32]);have d: ∀ n,n<=(a++ [32]).length->((a++ [32])++r).take n=(a++ [32]).take n:=fun n g=>List.take_append_of_le_length g
 have l:2<=(a++ [32]).length:=by
  cases a with
  |nil=>exact aR rfl h
  |cons x b=>simp
 have c: ∀ s∈signsS,(s==((a++ [32])++r).take s.length)=(s==(a++ [32]).take s.length):=fun s c=>by
  have:s.length<=2:=by
   have: ∀ s∈signsS,s.length<=2:=by decide
   exact this s c
  rw [d _ (by omega)]
 have j:signsS.find? (fun s=>s==((a++ [32])++r).take s.length)=signsS.find? (fun s=>s==(a++ [32]).take s.length):=by
  generalize signsS=L at c|-
  induction L with
  |nil=>rfl
  |cons s L ih=>
   simp only [List.find?_cons];rw [c s (bI ..),ih fun x e=>c x (bZ _ e)]
 have k:((a++ [32])++r).getD 0 0=(a++ [32]).getD 0 0:=by
  cases a with
  |nil=>exact aR rfl h
  |cons x b=>rfl
 unfold M0;rw [f,d _ i,k,j]
theorem oneW_len {l w:Bs}{n:Int}(h:M0 l=some (k,w,n)):1<=w.length/\w.length<=l.length/\w=l.take w.length:=by
 unfold M0 at h;dsimp only at h;have d:=Mq l
 have b:0<Q2 l->1<=(l.take (Q2 l)).length/\(l.take (Q2 l)).length<=l.length/\l.take (Q2 l)=l.take (l.take (Q2 l)).length:=fun i=>by
  rw [bH,eQ d];exact ⟨i,d,rfl⟩
 split at h
 . rename_i a;split at h
   . cases h;exact b a.1
   cases h
 split at h
 . rename_i a;cases h;exact b a.1
 split at h
 . cases h
 split at h
 . rename_i a;cases h;exact b a
 split at h
 . rename_i s c
   cases h
   have a:=List.find?_some c;have g:=iO c;have e:w=l.take w.length:=by simpa using a
   have f:1<=w.length:=by
    have: ∀ s∈signsS,1<=s.length:=by decide
    exact this _ g
   refine ⟨f,?_,e⟩;have:=bK List.length e;rw [bH] at this;omega
 cases h
def Lx (l:Bs)(D:List (Int×Bs×Int)):Prop:= ∀ f cl,l.length<f-> ∃ ts,Ju f l 1 cl=some ts/\ts.map Tk.w=D
def wdS:Nat->Bs->Option (List (Int×Bs×Int))
 |0,_=>none
 |_+1, []=>some []
 |f+1,c::r=>
  if c=32 then wdS f r
  else if c=10\/c=9\/c=13\/c=35 then none
  else match M0 (c::r) with
   |none=>none
   |some (k,w,n)=>(wdS f ((c::r).drop w.length)).map ((k,w,n):: ·)
theorem Lx.app {r:Bs}{D:List (Int×Bs×Int)}(H:Lx r D): ∀ (f:Nat) (a:Bs) (E:List (Int×Bs×Int)),wdS f (a++ [32])=some E->Lx ((a++ [32])++r) (E++D)
 |0,_,_,h=>by cases h
 |f+1, [],E,h=>fun g m i=>by
  obtain ⟨g,rfl⟩: ∃ t,g=t+1:=⟨g - 1,by simp at i;omega⟩
  cases f with
  |zero=>cases h
  |succ f=>
   have:E= []:=by
    have l:wdS (f+1+1) ([]++ [32])=some []:=rfl;rw [l] at h;cases h;rfl
   subst this;exact H g (m+1) (by simp at i;omega)
 |f+1,c::a,E,h=>fun g m i=>by
  obtain ⟨g,rfl⟩: ∃ t,g=t+1:=⟨g - 1,by simp at i;omega⟩;have y:a.length+2+r.length<g+1:=by simpa [eL,jZ,Nat.add_left_comm] using i
  simp only [cM,wdS] at h;simp only [cM,Ju];split at h
  . rename_i q;subst q;rw [if_neg (by decide),if_pos (by decide)];exact Lx.app H f a E h g (m+1) (by simp;omega)
  rename_i q;split at h
  . cases h
  rename_i o;rw [if_neg (fun e=>o (.inl e)),if_neg (by rintro (e|e|e);exact q e;exact o (.inr (.inl e));exact o (.inr (.inr (.inl e)))),if_neg (fun e=>o (.inr (.inr (.inr e))))];have v:=oneW_app (c:=c) (a:=c::a) (r:=r) (by simp);simp only [cM] at v;rw [v];split at h
  . cases h
  rename_i k w n u;rw [u];dsimp only;obtain ⟨w1,x,z⟩:=oneW_len u
  obtain ⟨d,j,rfl⟩: ∃ d,wdS f ((c::(a++ [32])).drop w.length)=some d/\E=(k,w,n)::d:=by
   cases hx:wdS f ((c::(a++ [32])).drop w.length) with
   |none=>rw [hx] at h;cases h
   |some d=>rw [hx] at h;cases h;exact ⟨d,rfl,rfl⟩
  by_cases hlen:w.length<=a.length+1
  . have p:(c::(a++ [32])).drop w.length=(c::a).drop w.length++ [32]:=by
     rw [<-cM,eV (by simpa using hlen)]
    have b:(c::(a++ [32]++r)).drop w.length=(c::a).drop w.length++ [32]++r:=by
     rw [<-cM,<-cM,eV (by simp;omega),eV (by simpa using hlen)]
    rw [p] at j;obtain ⟨ts,l,s⟩:=Lx.app H f _ d j g (m+w.length) (by simp;omega);rw [b,l];exact ⟨_,rfl,by rw [bP,s];simp [Tk.w,V3]⟩
  have p:(c::(a++ [32])).drop w.length= []:=cO (by simp;omega)
  have b:(c::(a++ [32]++r)).drop w.length=r:=by
   have e:w.length=(c::(a++ [32])).length:=by simp at x|-;omega
   rw [<-cM,eV (by omega),p];rfl
  rw [p] at j
  have:d= []:=by
   cases f with
   |zero=>cases j
   |succ f=>cases j;rfl
  subst this;obtain ⟨ts,l,s⟩:=H g (m+w.length) (by omega);rw [b,l];exact ⟨_,rfl,by rw [bP,s];simp [Tk.w,V3]⟩
def pcB (v:UInt8)(i:Nat)(k:Nat):Bs:=
 if k=0 then [v,32,61,32,v,32,42,32,50,32,43,32,49,59,32]
 else if k=1 then [108,101,116,32,108,97+UInt8.ofNat i,32,61,32,v,59,32]
 else if k=2 then [105,102,32,v,32,60,32,53,32,123,32,v,32,61,32,v,32,43,32,51,59,32,125,32]
 else [112,114,105,110,116,32,v,59,32]
def Vk (v:UInt8):Nat->List Nat->Bs
 |_, []=> []
 |i,k::r=>pcB v i k++Vk v (i+1) r
theorem D1 (v:UInt8)(k:Nat): ∀ (l:List Nat) (i:Nat),Vk v i (l++ [k])=Vk v i l++pcB v (i+l.length) k
 | [],i=>by simp [Vk]
 |x::l,i=>by
  simp only [cM,Vk,D1 v k l (i+1),aA,bG];rw [show i+1+l.length=i+(l.length+1) by omega]
abbrev Wd:=Int×Bs×Int
variable {D:List Wd}
def pcW (v:UInt8)(i:Nat)(k:Nat):List Wd:=
 if k=0 then [(1, [v],0),(4, [61],0),(1, [v],0),(4, [42],0),(2, [50],2),(4, [43],0),(2, [49],1),(4, [59],0)]
 else if k=1 then [(3, [108,101,116],0),(1, [108,97+UInt8.ofNat i],0),(4, [61],0),(1, [v],0),(4, [59],0)]
 else if k=2 then [(3, [105,102],0),(1, [v],0),(4, [60],0),(2, [53],5),(4, [123],0),(1, [v],0),(4, [61],0),(1, [v],0),(4, [43],0),(2, [51],3),(4, [59],0),(4, [125],0)]
 else [(3, [112,114,105,110,116],0),(1, [v],0),(4, [59],0)]
def H1 (v:UInt8):Nat->List Nat->List Wd
 |_, []=> []
 |i,k::r=>pcW v i k++H1 v (i+1) r
def hdB:Bs:= [118,97,114,32,120,32,61,32,49,59,32,118,97,114,32,121,32,61,32,50,59,32,116,104,114,101,97,100,32,109,97,105,110,32,123,32,115,112,97,119,110,32,116,59,32]
def mdB:Bs:= [125,32,116,104,114,101,97,100,32,116,32,123,32]
def hdW:List Wd:= [(3, [118,97,114],0),(1, [120],0),(4, [61],0),(2, [49],1),(4, [59],0),(3, [118,97,114],0),(1, [121],0),(4, [61],0),(2, [50],2),(4, [59],0),(3, [116,104,114,101,97,100],0),(1, [109,97,105,110],0),(4, [123],0),(3, [115,112,97,119,110],0),(1, [116],0),(4, [59],0)]
def mdW:List Wd:= [(4, [125],0),(3, [116,104,114,101,97,100],0),(1, [116],0),(4, [123],0)]
def Qw (a b:List Nat):Bs:=hdB++(Vk 120 0 a++(mdB++(Vk 121 0 b++ [125])))
def pcOk:Bool:= [120,121].all fun v=>(List.range 6).all fun i=>(List.range 4).all fun k=>wdS 40 (pcB v i k)==some (pcW v i k)
theorem pcOk_ok:pcOk=true:=by decide+kernel
theorem pcB_end (v:UInt8)(i k:Nat): ∃ a,pcB v i k=a++ [32]:=by
 unfold pcB;split
 . exact ⟨[v,32,61,32,v,32,42,32,50,32,43,32,49,59],rfl⟩
 split
 . exact ⟨[108,101,116,32,108,97+UInt8.ofNat i,32,61,32,v,59],rfl⟩
 split
 . exact ⟨[105,102,32,v,32,60,32,53,32,123,32,v,32,61,32,v,32,43,32,51,59,32,125],rfl⟩
 exact ⟨[112,114,105,110,116,32,v,59],rfl⟩
theorem Lx.pc {k:Nat}{r:Bs}(hv:v=120\/v=121)(hi:i<6)(hk:k<4)(H:Lx r D):Lx (pcB v i k++r) (pcW v i k++D):=by
 have h:=pcOk_ok;unfold pcOk at h;rw [cC] at h;have d:=h v (by rcases hv with rfl|rfl<;>decide);rw [cC] at d;have c:=d i (jC.2 hi);rw [cC] at c;have b:=dC.1 (c k (jC.2 hk));obtain ⟨a,e⟩:=pcB_end v i k;rw [e] at b|-;exact Lx.app H 40 a _ b
theorem Lx.body (hv:v=120\/v=121){r:Bs}(H:Lx r D): ∀ (l:List Nat) (i:Nat),i+l.length<=6->(∀ k∈l,k<4)->Lx (Vk v i l++r) (H1 v i l++D)
 | [],_,_,_=>H
 |k::l,i,hi,hk=>by
  simp only [bG] at hi;simp only [Vk,H1,aA];exact Lx.pc hv (by omega) (hk k (bI ..)) (Lx.body hv H l (i+1) (by omega) fun x a=>hk x (bZ _ a))
theorem Zzf (ha:a.length<=6)(hb:b.length<=6)(hka: ∀ k∈a,k<4)(hkb: ∀ k∈b,k<4):Lx (Qw a b) (hdW++(H1 120 0 a++(mdW++(H1 121 0 b++ [(4, [125],0)])))):=by
 have i:Lx [125] [(4, [125],0)]:=fun f j h=>by
  obtain ⟨g,rfl⟩: ∃ g,f=g+2:=⟨f - 2,by simp at h;omega⟩;exact ⟨[⟨4,ba [125],0,1,j⟩],rfl,rfl⟩
 have e:=Lx.body (.inr rfl) i b 0 (by omega) hkb;have d:Lx (mdB++_) (mdW++_):=Lx.app e 30 [125,32,116,104,114,101,97,100,32,116,32,123] mdW (by decide+kernel);have c:=Lx.body (.inl rfl) d a 0 (by omega) hka;exact Lx.app c 60 [118,97,114,32,120,32,61,32,49,59,32,118,97,114,32,121,32,61,32,50,59,32,116,104,114,101,97,100,32,109,97,105,110,32,123,32,115,112,97,119,110,32,116,59] hdW (by decide+kernel)
theorem Y0 {n:Int}{w:Bs}(h:ts.map Tk.w=(k,w,n)::D): ∃ ln cl r,ts=⟨k,ba w,n,ln,cl⟩::r/\r.map Tk.w=D:=by
 cases ts with
 |nil=>cases h
 |cons t r=>
  simp only [bP,gP] at h;exact ⟨t.ln,t.cl,r,by rw [<-Tk.of_w h.1],h.2⟩
abbrev nmE (v:UInt8):PEx:= .mk 2 0 (ba [v]) 0 false 0 []
abbrev nuE (n:Int):PEx:= .mk 1 n em 0 false 0 []
abbrev opE (o:Int)(a b:PEx):PEx:= .mk 6 0 em 0 false o [a,b]
inductive Raw (v:UInt8) (i:Nat):Nat->PStm->Prop
 |dbl (ln cl):Raw v i 0 (.mk 2 ln cl (ba [v]) em (opE 7 (opE 9 (nmE v) (nuE 2)) (nuE 1)) .z [] [] 0 0 0 false)
 |lt (ln cl):Raw v i 1 (.mk 1 ln cl (ba [108,97+UInt8.ofNat i]) em (nmE v) .z [] [] 0 0 0 false)
 |cond (ln cl a b):Raw v i 2 (.mk 4 ln cl em em (opE 5 (nmE v) (nuE 5)) .z [.mk 2 a b (ba [v]) em (opE 7 (nmE v) (nuE 3)) .z [] [] 0 0 0 false] [] 0 0 0 false)
 |prt (ln cl):Raw v i 3 (.mk 15 ln cl em em (nmE v) .z [] [] 0 0 0 false)
inductive RawL (v:UInt8):Nat->List Nat->List PStm->Prop
 |nil (i):RawL v i [] []
 |cons {i k s l L} (h:Raw v i k s) (t:RawL v (i+1) l L):RawL v i (k::l) (s::L)
abbrev elB:Bs:= [101,108,115,101]
def NoEl (D:List Wd):Prop:= ∀ k n E,D≠(k,elB,n)::E
theorem NoEl.isW {D:List Wd}(hD:NoEl D){r:List Tk}(h:r.map Tk.w=D):isW elB r=false:=by
 cases r with
 |nil=>rfl
 |cons t r=>
  subst h;show (bs t.t==elB && decide (3<=t.k))=false
  have: ¬bs t.t=elB:=fun e=>hD t.k t.n (r.map Tk.w) (by rw [bP,<-e];rfl)
  rw [dB.2 this];rfl
theorem NoEl.body (hv:v=120\/v=121)(i:Nat)(l:List Nat)(D:List Wd):NoEl (H1 v i l++((4, [125],0)::D)):=fun k n E e=>by
 cases l with
 |nil=>cases e
 |cons x l=>
  simp only [H1,aA] at e;unfold pcW at e;split at e
  . rcases hv with rfl|rfl<;>cases e
  split at e
  . cases e
  split at e
  . cases e
  cases e
theorem stmt_pc {k g:Nat}(hv:v=120\/v=121)(hi:i<6)(hk:k<4)(hD:NoEl D)(h:ts.map Tk.w=pcW v i k++D):isW [125] ts=false/\ ∃ s r,U8 (g+40) ts=some (s,r)/\Raw v i k s/\r.map Tk.w=D:=by
 have b0:k=0\/k=1\/k=2\/k=3:=by omega
 rcases b0 with rfl|rfl|rfl|rfl
 iterate 3
  focus
   obtain ⟨b,c,t1,rfl,u⟩:=Y0 h;obtain ⟨l2,c2,t2,rfl,p⟩:=Y0 u;obtain ⟨l3,c3,t3,rfl,o⟩:=Y0 p;obtain ⟨l4,c4,t4,rfl,y4⟩:=Y0 o;obtain ⟨l5,c5,t5,rfl,n⟩:=Y0 y4
  rotate_left
 . obtain ⟨b,c,t1,rfl,u⟩:=Y0 h;obtain ⟨l2,c2,t2,rfl,p⟩:=Y0 u;obtain ⟨l3,c3,t3,rfl,o⟩:=Y0 p;rcases hv with rfl|rfl<;>exact ⟨by kernel_rfl,_,t3,by kernel_rfl,.prt b c,o⟩
 . obtain ⟨e,f,t6,rfl,m⟩:=Y0 n;obtain ⟨l7,c7,t7,rfl,l⟩:=Y0 m;obtain ⟨l8,c8,t8,rfl,j⟩:=Y0 l;rcases hv with rfl|rfl<;>exact ⟨by kernel_rfl,_,t8,by kernel_rfl,.dbl b c,j⟩
 . have c0:i=0\/i=1\/i=2\/i=3\/i=4\/i=5:=by omega
   rcases hv with rfl|rfl<;>rcases c0 with rfl|rfl|rfl|rfl|rfl|rfl<;>exact ⟨by kernel_rfl,_,t5,by kernel_rfl,.lt b c,n⟩
 obtain ⟨e,f,t6,rfl,m⟩:=Y0 n;obtain ⟨l7,c7,t7,rfl,l⟩:=Y0 m;obtain ⟨l8,c8,t8,rfl,j⟩:=Y0 l;obtain ⟨l9,c9,t9,rfl,y9⟩:=Y0 j;obtain ⟨a0,f0,h0,rfl,t⟩:=Y0 y9;obtain ⟨y,e0,g0,rfl,q⟩:=Y0 t;obtain ⟨x,d0,a,rfl,d⟩:=Y0 q;have he:=hD.isW d
 have z: ∀ v,v=120\/v=121->U8 (g+40) (⟨3,ba [105,102],0,b,c⟩::⟨1,ba [v],0,l2,c2⟩::⟨4,ba [60],0,l3,c3⟩::⟨2,ba [53],5,l4,c4⟩::⟨4,ba [123],0,l5,c5⟩::⟨1,ba [v],0,e,f⟩::⟨4,ba [61],0,l7,c7⟩::⟨1,ba [v],0,l8,c8⟩::⟨4,ba [43],0,l9,c9⟩::⟨2,ba [51],3,a0,f0⟩::⟨4,ba [59],0,y,e0⟩::⟨4,ba [125],0,x,d0⟩::a)=if (4:Nat)=4/\isW elB a=true then bnd (Ke (g+39) a.tail) fun b2 r=>some (.mk 4 b c em em (opE 5 (nmE v) (nuE 5)) .z [.mk 2 e f (ba [v]) em (opE 7 (nmE v) (nuE 3)) .z [] [] 0 0 0 false] b2 0 0 0 false,r) else some (.mk 4 b c em em (opE 5 (nmE v) (nuE 5)) .z [.mk 2 e f (ba [v]) em (opE 7 (nmE v) (nuE 3)) .z [] [] 0 0 0 false] [] 0 0 0 false,a):=by
  rintro v (rfl|rfl)<;>kernel_rfl
 exact ⟨by rcases hv with rfl|rfl<;>kernel_rfl,_,a,(z v hv).trans (if_neg fun h=>by rw [he] at h;exact aR h.2 (by decide)),.cond b c e f,d⟩
theorem D0 (h:ts.map Tk.w=(4, [125],0)::D):isW [125] ts=true/\tkW [125] ts=some ts.tail/\W2 [125] ts=some ((),ts.tail)/\ts.tail.map Tk.w=D:=by
 obtain ⟨c,d,b,rfl,a⟩:=Y0 h;exact ⟨by kernel_rfl,by kernel_rfl,by kernel_rfl,a⟩
theorem Mo {v:UInt8}(hv:v=120\/v=121){D:List Wd}: ∀ (l:List Nat) (i g:Nat) (ts:List Tk),i+l.length<=6->(∀ k∈l,k<4)->ts.map Tk.w=H1 v i l++((4, [125],0)::D)-> ∃ L r,We (g+l.length+41) ts=some (L,r)/\RawL v i l L/\r.map Tk.w=(4, [125],0)::D
 | [],i,g,ts,_,_,h=>by
  refine ⟨[],ts,?_,.nil i,h⟩;show We (g+40+1) ts=_
  rw [We,if_pos (D0 h).1]
 |k::l,i,g,ts,hi,hk,h=>by
  simp only [bG] at hi;simp only [H1,aA] at h;obtain ⟨n,s,r,a,m,j⟩:=stmt_pc (g:=g+l.length+1) hv (by omega) (hk k (bI ..)) (NoEl.body hv (i+1) l D) h;obtain ⟨L,b,f,e,d⟩:=Mo hv l (i+1) g r (by omega) (fun x c=>hk x (bZ _ c)) j;refine ⟨s::L,b,?_,.cons m e,d⟩;show We (g+l.length+41+1) ts=_
  rw [We,if_neg (by rw [n];decide)];have a:U8 (g+l.length+41) ts=some (s,r):=by rw [<-a]
  rw [a];simp only [bnd];rw [f]
theorem T2 (v:UInt8): ∀ (l:List Nat) (i:Nat),l.length<=(H1 v i l).length
 | [],_=>aL _
 |k::l,i=>by
  have:=T2 v l (i+1);have a:1<=(pcW v i k).length:=by unfold pcW;(repeat' split)<;>simp
  simp only [H1,aG,bG];omega
theorem Xy (v:UInt8)(i k:Nat):(pcB v i k).length<=24:=by unfold pcB;(repeat' split)<;>simp
theorem Q9 (v:UInt8): ∀ (l:List Nat) (i:Nat),(Vk v i l).length<=24*l.length
 | [],_=>aL _
 |k::l,i=>by
  have:=Q9 v l (i+1);have:=Xy v i k;simp only [Vk,aG,bG];omega
abbrev spS (ln cl:Int):PStm:= .mk 13 ln cl (ba [116]) em .z .z [] [] 0 0 0 false
abbrev mnB:ByteArray:=ba [109,97,105,110]
theorem Js {g f:Nat}{r:List Tk}{l:List PDec}(h0:ts≠ [])(h1:Ui g ts=some (d,r))(h2:Vh g f r=some l):Vh g (f+1) ts=some (d::l):=by
 rw [Vh,if_neg h0,h1];simp only [bnd];rw [h2];rfl
theorem Pe (ha:a.length<=6)(hb:b.length<=6)(hka: ∀ k∈a,k<4)(hkb: ∀ k∈b,k<4): ∃ (ds:List PDec) (A B:List PStm) (l1 c1 l2 c2 l3 c3 l4 c4 l5 c5:Int),ds= [⟨1,l1,c1,ba [120],1, []⟩,⟨1,l2,c2,ba [121],2, []⟩,⟨6,l3,c3,mnB,0,spS l4 c4::A⟩,⟨6,l5,c5,ba [116],0,B⟩]/\RawL 120 0 a A/\RawL 121 0 b B/\ ∃ ts,Ju ((Qw a b).length+1) (Qw a b) 1 1=some ts/\Vh (10*ts.length+20) (ts.length+1) ts=some ds:=by
 obtain ⟨ts,h1,h⟩:=Zzf ha hb hka hkb _ 1 (gC _);have i:=bK List.length h;have l0:=T2 120 a 0;have k0:=T2 121 b 0;simp only [aU,aG,bG,dN,hdW,mdW] at i;obtain ⟨u,hu⟩: ∃ u,10*ts.length+20=u+200:=⟨10*ts.length+20 - 200,by omega⟩;obtain ⟨w,hw⟩: ∃ w,ts.length+1=w+5:=⟨ts.length+1 - 5,by omega⟩;clear i l0 k0;obtain ⟨l1,c1,t1,e1,y1⟩:=Y0 h;obtain ⟨l2,c2,t2,rfl,y2⟩:=Y0 y1;obtain ⟨l3,c3,t3,rfl,y3⟩:=Y0 y2;obtain ⟨l4,c4,t4,rfl,y4⟩:=Y0 y3;obtain ⟨l5,c5,t5,rfl,y5⟩:=Y0 y4;obtain ⟨l6,c6,t6,e6,y6⟩:=Y0 y5;obtain ⟨l7,c7,t7,rfl,y7⟩:=Y0 y6;obtain ⟨l8,c8,t8,rfl,y8⟩:=Y0 y7;obtain ⟨l9,c9,t9,rfl,y9⟩:=Y0 y8;obtain ⟨a1,f1,q,rfl,f0⟩:=Y0 y9;obtain ⟨d,g,x0,t,e0⟩:=Y0 f0;obtain ⟨j0,q0,w0,rfl,d0⟩:=Y0 e0;obtain ⟨i0,p0,m,rfl,c0⟩:=Y0 d0;obtain ⟨n,o,v0,m0,b0⟩:=Y0 c0;obtain ⟨z0,d1,u0,rfl,a0⟩:=Y0 b0;obtain ⟨y0,b1,p,rfl,z⟩:=Y0 a0;obtain ⟨A,r,g1,g2,g3⟩:=Mo (.inl rfl) a 0 (u+157 - a.length) p (by omega) hka z;obtain ⟨_,_,k3,k4⟩:=D0 g3;obtain ⟨c,f,t0,s,y⟩:=Y0 k4;obtain ⟨h0,o0,r0,rfl,x⟩:=Y0 y;obtain ⟨g0,n0,j,rfl,v⟩:=Y0 x;obtain ⟨B,r2,g4,g5,g6⟩:=Mo (.inr rfl) b 0 (u+158 - b.length) j (by omega) hkb v;obtain ⟨_,_,m3,m4⟩:=D0 g6;have m5:r2.tail= []:=List.map_eq_nil_iff.1 m4;refine ⟨_,A,B,l1,c1,l6,c6,d,g,n,o,c,f,rfl,g2,g5,ts,h1,?_⟩;rw [hu,hw];rw [show u+157 - a.length+a.length+41=u+198 by omega] at g1;rw [show u+158 - b.length+b.length+41=u+199 by omega] at g4;have s0:Vh (u+200) (w+1) r2.tail=some []:=by rw [m5,Vh,if_pos rfl]
 have s1:Ui (u+200) r.tail=some (⟨6,c,f,ba [116],0,B⟩,r2.tail):=by
  rw [s];have e:Ui (u+200) (⟨3,ba [116,104,114,101,97,100],0,c,f⟩::⟨1,ba [116],0,h0,o0⟩::⟨4,ba [123],0,g0,n0⟩::j)=bnd (bnd (We (u+199) j) fun l r=>bnd (W2 [125] r) fun _ r=>some (l,r)) fun b r=>some (⟨6,c,f,ba [116],0,b⟩,r):=by kernel_rfl
  rw [e,g4];simp only [bnd];rw [m3]
 have s2:Ui (u+200) q=some (⟨6,d,g,mnB,0,spS n o::A⟩,r.tail):=by
  rw [t];have e:Ui (u+200) (⟨3,ba [116,104,114,101,97,100],0,d,g⟩::⟨1,mnB,0,j0,q0⟩::⟨4,ba [123],0,i0,p0⟩::m)=bnd (bnd (We (u+199) m) fun l r=>bnd (W2 [125] r) fun _ r=>some (l,r)) fun b r=>some (⟨6,d,g,mnB,0,b⟩,r):=by kernel_rfl
  have e2:We (u+199) m=bnd (We (u+198) p) fun l r=>some (spS n o::l,r):=by rw [m0];kernel_rfl
  rw [e,e2,g1];simp only [bnd];rw [k3]
 have s3:Ui (u+200) t5=some (⟨1,l6,c6,ba [121],2, []⟩,q):=by rw [e6];kernel_rfl
 have s4:Ui (u+200) ts=some (⟨1,l1,c1,ba [120],1, []⟩,t5):=by rw [e1];kernel_rfl
 exact Js (by rw [e1];exact gZ _ _) s4 (Js (by rw [e6];exact gZ _ _) s3 (Js (by rw [t];exact gZ _ _) s2 (Js (by rw [s];exact gZ _ _) s1 s0)))
theorem Raw.deep {k:Nat}{s:PStm}(h:Raw v i k s):s.deep 1=false:=by cases h<;>rfl
theorem RawL.deep {l:List Nat}(h:RawL v i l L):Yq L 1=false:=by
 induction h with
 |nil i=>rfl
 |cons h t ih=>show (_||_)=false;rw [h.deep,ih];rfl
theorem Raw.may {k:Nat}{s:PStm}(hv:v=120\/v=121)(hi:i<6)(h:Raw v i k s):s.may 1=true:=by
 have a:i=0\/i=1\/i=2\/i=3\/i=4\/i=5:=by omega
 cases h<;>rcases hv with rfl|rfl<;>rcases a with rfl|rfl|rfl|rfl|rfl|rfl<;>(change _=_;kernel_rfl)
theorem RawL.mays (hv:v=120\/v=121){l:List Nat}(h:RawL v i l L)(hi:i+l.length<=6):PStm.mays L 1=true:=by
 induction h with
 |nil i=>rfl
 |cons h t ih=> 
  simp only [bG] at hi;show (_ && _)=true;rw [h.may hv (by omega),ih (by omega)];rfl
def Mc:List Nm:= [⟨ba [120],1,0⟩,⟨ba [121],1,1⟩,⟨mnB,6,0⟩,⟨ba [116],6,1⟩]
def LocN (i:Nat)(L:List Nm):Prop:= ∀ x∈L,∃ j,j<i/\bs x.t= [108,97+UInt8.ofNat j]
theorem Fy {s:ByteArray}{B:List Nm}: ∀ (L:List Nm),(∀ x∈L,bs x.t≠bs s)-> ∀ n,n<=L.length->Qd (B++L) s (B.length+n)=Qd (B++L) s B.length
 |_,_,0,_=>rfl
 |L,h,n+1,hn=>by
  have a:=Fy (B:=B) L h n (by omega);show Qd (B++L) s (B.length+n+1)=_
  rw [Qd,if_neg,a];rw [bD,fJ,cY (by omega),show B.length+n - B.length=n by omega,aD (show n<L.length by omega)];simp only [gJ,jO,dC];exact h _ (aB _)
theorem Xo {L:List Nm}{s:ByteArray}(hn:f.names=Mc++L)(h: ∀ x∈L,bs x.t≠bs s):f.at s=Qd (Mc++L) s 4:=by
 unfold Fnd.at;rw [hn,aG];exact Fy L h _ (aL _)
def slotV (v:UInt8):Int:=if v=120 then 0 else 1
theorem wants_v {L:List Nm}(hv:v=120\/v=121)(hn:f.names=Mc++L)(hL:LocN i L):f.wants (ba [v]) 1 100=(f,1,slotV v):=by
 have b:f.at (ba [v])=if v=120 then 1 else 2:=by
  rw [Xo hn fun x a e=>by obtain ⟨j,_,c⟩:=hL x a;rw [c] at e;cases e];rcases hv with rfl|rfl<;>(change _=_;kernel_rfl)
 unfold Fnd.wants;rw [b,hn];rcases hv with rfl|rfl<;>(change _=_;kernel_rfl)
theorem wants_t (hn:f.names=Mc):f.wants (ba [116]) 6 6=(f,6,1):=by
 unfold Fnd.wants Fnd.at;rw [hn];kernel_rfl
theorem at_new {L:List Nm}(hi:i<6)(hn:f.names=Mc++L)(hL:LocN i L):f.at (ba [108,97+UInt8.ofNat i])=0:=by
 rw [Xo hn fun x b e=>by
  obtain ⟨j,c,g⟩:=hL x b;rw [g] at e;have d: ∀ i,i<6-> ∀ j,j<i->([108,97+UInt8.ofNat j]:Bs)≠bs (ba [108,97+UInt8.ofNat i]):=by decide
  exact d i hi j c e]
 have a:i=0\/i=1\/i=2\/i=3\/i=4\/i=5:=by omega
 rcases a with rfl|rfl|rfl|rfl|rfl|rfl<;>(change _=_;kernel_rfl)
abbrev nmR (v:UInt8):PEx:= .mk 2 0 (ba [v]) (slotV v) false 0 []
inductive Res (v:UInt8):Nat->PStm->Prop
 |dbl (ln cl nm wt ix id ot):Res v 0 (.mk 2 ln cl nm wt (opE 7 (opE 9 (nmR v) (nuE 2)) (nuE 1)) ix [] [] id (slotV v) ot false)
 |lt (ln cl nm wt ix id sl ot):Res v 1 (.mk 1 ln cl nm wt (nmR v) ix [] [] id sl ot true)
 |cond (ln cl a b nm wt ix id sl ot lo m2 w2 i2 d2 o2):Res v 2 (.mk 4 ln cl nm wt (opE 5 (nmR v) (nuE 5)) ix [.mk 2 a b m2 w2 (opE 7 (nmR v) (nuE 3)) i2 [] [] d2 (slotV v) o2 false] [] id sl ot lo)
 |prt (ln cl nm wt ix id sl ot lo):Res v 3 (.mk 15 ln cl nm wt (nmR v) ix [] [] id sl ot lo)
inductive ResL (v:UInt8):List Nat->List PStm->Prop
 |nil:ResL v [] []
 |cons {k s l L} (h:Res v k s) (t:ResL v l L):ResL v (k::l) (s::L)
structure FAt (N:Nat) (f:Fnd) (i:Nat):Prop where
 hN:N<=400
 fl:f.flaw=0
 nm: ∃ L,f.names=Mc++L/\LocN i L
 lo:f.locals<=i
 st:f.stm<=N+2*i
def FSame (f g:Fnd):Prop:= ∃ n s k m,g= { f with names:=n,stm:=s,locals:=k,most:=m }
theorem FSame.trans {g h:Fnd}(a:FSame f g)(b:FSame g h):FSame f h:=by
 obtain ⟨n,s,k,m,rfl⟩:=a;obtain ⟨d,c,i,e,rfl⟩:=b;exact ⟨d,c,i,e,rfl⟩
theorem stmt_eq {g g2 g3:Fnd}{ln cl id sl' ot':Int}{wt:ByteArray}{ix e' ix':PEx}{body els b' l':List PStm}{lo':Bool}(hs: ¬512<=f.stm)(h1:Fnd.expr { f with stm:=f.stm+1 } ix=({ f with stm:=f.stm+1 },ix'))(h2:Fnd.expr { f with stm:=f.stm+1 } e=({ f with stm:=f.stm+1 },e'))(h3:Fnd.own { f with stm:=f.stm+1 } k nm wt sl ot lo=(g,sl',ot',lo'))(h4:Fnd.blk g body=(g2,b'))(h5:Fnd.blk { g2 with names:=g.names,locals:=g.locals } els=(g3,l')):f.stmt (.mk k ln cl nm wt e ix body els id sl ot lo)=({ g3 with names:=g.names,locals:=g.locals },.mk k ln cl nm wt e' ix' b' l' f.stm sl' ot' lo'):=by
 simp only [Fnd.stmt,if_neg hs,h1,h2,h3,h4,h5]
theorem Nk (f:Fnd):Fnd.expr f .z=(f,.z):=rfl
theorem own_z {wt:ByteArray}(h:k=4\/k=15):Fnd.own f k nm wt sl ot lo=(f,sl,ot,lo):=by rcases h with rfl|rfl<;>rfl
theorem Raw.found {k:Nat}{s:PStm}(hv:v=120\/v=121)(hi:i<6)(hf:FAt N f i)(h:Raw v i k s):Res v k (f.stmt s).2/\FAt N (f.stmt s).1 (i+1)/\FSame f (f.stmt s).1:=by
 obtain ⟨u,r,⟨L,q,h3⟩,h4,h5⟩:=hf;have t: ¬512<=f.stm:=by omega
 have a0: ¬512<=f.stm+1:=by omega
 have hw: ∀ s,Fnd.wants { f with stm:=s } (ba [v]) 1 100=({ f with stm:=s },1,slotV v):=fun s=>wants_v (L:=L) hv q h3
 have l:LocN (i+1) L:=fun x p=>by obtain ⟨j,a,b⟩:=h3 x p;exact ⟨j,by omega,b⟩
 have c: ∀ s,Fnd.expr { f with stm:=s } (nmE v)=({ f with stm:=s },nmR v):=fun s=>by
  show (_,PEx.mk 2 0 (ba [v]) (Fnd.wants { f with stm:=s } (ba [v]) 1 100).2.2 ((Fnd.wants { f with stm:=s } (ba [v]) 1 100).2.1==100) 0 _)=_
  rw [hw];rfl
 have d: ∀ s o a b y w,Fnd.expr { f with stm:=s } a=({ f with stm:=s },y)->Fnd.expr { f with stm:=s } b=({ f with stm:=s },w)->Fnd.expr { f with stm:=s } (opE o a b)=({ f with stm:=s },opE o y w):=fun s o a b y w ha hb=>by
  have e:Fnd.exprs { f with stm:=s } [a,b]=({ f with stm:=s }, [y,w]):=by simp only [Fnd.exprs,ha,hb]
  show ((Fnd.exprs { f with stm:=s } [a,b]).1,PEx.mk 6 0 em 0 false o (Fnd.exprs { f with stm:=s } [a,b]).2)=_
  rw [e]
 have g: ∀ s n,Fnd.expr { f with stm:=s } (nuE n)=({ f with stm:=s },nuE n):=fun _ _=>rfl
 have m: ∀ s,Fnd.own { f with stm:=s } 2 (ba [v]) em 0 0 false=({ f with stm:=s },slotV v,0,false):=fun s=>by
  show Fnd.own2 (Fnd.wants { f with stm:=s } (ba [v]) 1 100).1 2 (ba [v]) em (Fnd.wants { f with stm:=s } (ba [v]) 1 100).2.2 0 ((Fnd.wants { f with stm:=s } (ba [v]) 1 100).2.1==100)=_
  rw [hw];rfl
 cases h with
 |dbl ln cl=>
  have e:=stmt_eq (ln:=ln) (cl:=cl) (id:=0) t (Nk _) (d _ 7 _ _ _ _ (d _ 9 _ _ _ _ (c _) (g _ 2)) (g _ 1)) (m _) (body:= []) rfl (els:= []) rfl;rw [e];exact ⟨.dbl ..,⟨u,r,⟨L,q,l⟩,by show f.locals<=_;omega,by show f.stm+1<=_;omega⟩,⟨_,_,_,_,rfl⟩⟩
 |lt ln cl=>
  have ha: ∀ s,Fnd.at { f with stm:=s } (ba [108,97+UInt8.ofNat i])=0:=fun s=>at_new (f:= { f with stm:=s }) hi q h3
  have ho:Fnd.own { f with stm:=f.stm+1 } 1 (ba [108,97+UInt8.ofNat i]) em 0 0 false=({ f with stm:=f.stm+1,names:=f.names++ [⟨ba [108,97+UInt8.ofNat i],100,f.locals⟩],locals:=f.locals+1,most:=max f.most (f.locals+1) },f.locals,0,true):=by
   have hl: ¬ (32:Int)<=f.locals:=by omega
   have e1:Fnd.loc1 { f with stm:=f.stm+1 } (ba [108,97+UInt8.ofNat i])= { f with stm:=f.stm+1 } :=by unfold Fnd.loc1;rw [ha,if_neg (by decide)]
   have e2:Fnd.loc2 { f with stm:=f.stm+1 } = { f with stm:=f.stm+1 } :=by unfold Fnd.loc2;exact if_neg hl
   show (((Fnd.loc1 { f with stm:=f.stm+1 } (ba [108,97+UInt8.ofNat i])).loc2).loc3 _,((Fnd.loc1 { f with stm:=f.stm+1 } (ba [108,97+UInt8.ofNat i])).loc2).locals,(0:Int),true)=_
   rw [e1,e2];rfl
  have e:=stmt_eq (ln:=ln) (cl:=cl) (id:=0) t (Nk _) (c _) ho (body:= []) rfl (els:= []) rfl;rw [e];refine ⟨.lt ..,⟨u,r,⟨L++ [⟨ba [108,97+UInt8.ofNat i],100,f.locals⟩],by show f.names++_=_;rw [q,aA],fun x p=> ?_⟩,by show f.locals+1<=_;omega,by show f.stm+1<=_;omega⟩,⟨_,_,_,_,rfl⟩⟩;rcases aQ.1 p with p|p
  . exact l x p
  rw [aZ.1 p];exact ⟨i,by omega,rfl⟩
 |cond ln cl a b=>
  have e1:=stmt_eq (f:= { f with stm:=f.stm+1 }) (ln:=a) (cl:=b) (id:=0) a0 (Nk _) (d _ 7 _ _ _ _ (c _) (g _ 3)) (m _) (body:= []) rfl (els:= []) rfl
  have e2:Fnd.blk { f with stm:=f.stm+1 } [.mk 2 a b (ba [v]) em (opE 7 (nmE v) (nuE 3)) .z [] [] 0 0 0 false]=({ f with stm:=f.stm+1+1 }, [.mk 2 a b (ba [v]) em (opE 7 (nmR v) (nuE 3)) .z [] [] (f.stm+1) (slotV v) 0 false]):=by
   simp only [Fnd.blk,if_pos r,e1]
  have e:=stmt_eq (ln:=ln) (cl:=cl) (id:=0) (nm:=em) (wt:=em) t (Nk _) (d _ 5 _ _ _ _ (c _) (g _ 5)) (own_z (k:=4) (sl:=0) (ot:=0) (lo:=false) (.inl rfl)) e2 (els:= []) rfl;rw [e];exact ⟨.cond ..,⟨u,r,⟨L,q,l⟩,by show f.locals<=_;omega,by show f.stm+1+1<=_;omega⟩,⟨_,_,_,_,rfl⟩⟩
 |prt ln cl=>
  have e:=stmt_eq (ln:=ln) (cl:=cl) (id:=0) (nm:=em) (wt:=em) t (Nk _) (c _) (own_z (k:=15) (sl:=0) (ot:=0) (lo:=false) (.inr rfl)) (body:= []) rfl (els:= []) rfl;rw [e];exact ⟨.prt ..,⟨u,r,⟨L,q,l⟩,by show f.locals<=_;omega,by show f.stm+1<=_;omega⟩,⟨_,_,_,_,rfl⟩⟩
theorem RawL.found (hv:v=120\/v=121){l:List Nat}(h:RawL v i l L): ∀ {f:Fnd},i+l.length<=6->FAt N f i->ResL v l (f.blk L).2/\FAt N (f.blk L).1 (i+l.length)/\FSame f (f.blk L).1:=by
 induction h with
 |nil i=>exact fun _ a=>⟨.nil,a,⟨_,_,_,_,rfl⟩⟩
 | @cons i k s l L h t ih=>
  intro f hi a;simp only [bG] at hi;obtain ⟨j,g,e⟩:=h.found hv (by omega) a;obtain ⟨d,c,b⟩:=ih (f:=(f.stmt s).1) (by omega) g;simp only [Fnd.blk,if_pos a.fl];exact ⟨.cons j d,by rw [bG,show i+(l.length+1)=i+1+l.length by omega];exact c,e.trans b⟩
theorem Ct (hn:f.names=Mc)(hs:f.stm=0)(ln cl:Int):f.stmt (spS ln cl)=({ f with stm:=1 },.mk 13 ln cl (ba [116]) em .z .z [] [] 0 1 0 false):=by
 have a:Fnd.wants { f with stm:=f.stm+1 } (ba [116]) 6 6=({ f with stm:=f.stm+1 },6,1):=wants_t hn
 have b:Fnd.own { f with stm:=f.stm+1 } 13 (ba [116]) em 0 0 false=({ f with stm:=f.stm+1 },1,0,false):=by
  show Fnd.own2 (Fnd.wants { f with stm:=f.stm+1 } (ba [116]) 6 6).1 13 (ba [116]) em (Fnd.wants { f with stm:=f.stm+1 } (ba [116]) 6 6).2.2 0 ((Fnd.wants { f with stm:=f.stm+1 } (ba [116]) 6 6).2.1==100)=_
  rw [a];rfl
 have e:=stmt_eq (ln:=ln) (cl:=cl) (id:=0) (by omega) (Nk _) (Nk _) b (body:= []) rfl (els:= []) rfl;rw [spS,e,hs];rfl
structure IsAlone (F:Fnd) (a b:List Nat):Prop where
 p: ∃ A B ln cl k0 k1,F.pr=⟨[1,2], [], [],0,0,0, [(k0,PStm.mk 13 ln cl (ba [116]) em .z .z [] [] 0 1 0 false::A),(k1,B)]⟩/\ResL 120 a A/\ResL 121 b B
theorem Ib (ha:a.length<=6)(hb:b.length<=6)(hka: ∀ k∈a,k<4)(hkb: ∀ k∈b,k<4): ∃ F,Jj (Qw a b)=some F/\IsAlone F a b:=by
 obtain ⟨ds,A,B,t,c1,r,c2,q,c3,g,i,p,y,rfl,hA,hB,ts,h1,h2⟩:=Pe ha hb hka hkb
 have hl: ¬65536<(Qw a b).length:=by
  have:=Q9 120 a 0;have:=Q9 121 b 0;simp only [Qw,hdB,mdB,aG,bG,dN];omega
 have hd:([⟨1,t,c1,ba [120],1, []⟩,⟨1,r,c2,ba [121],2, []⟩,⟨6,q,c3,mnB,0,spS g i::A⟩,⟨6,p,y,ba [116],0,B⟩]:List PDec).any (fun d=>Yq d.body 1)=false:=by
  have e1:Yq (spS g i::A) 1=false:=by show (_||_)=false;rw [hA.deep];rfl
  simp only [iD,List.any_nil,e1,hB.deep];rfl
 have hp:Qz (Qw a b)=some [⟨1,t,c1,ba [120],1, []⟩,⟨1,r,c2,ba [121],2, []⟩,⟨6,q,c3,mnB,0,spS g i::A⟩,⟨6,p,y,ba [116],0,B⟩]:=by
  unfold Qz;rw [if_neg hl,h1];dsimp only;rw [h2];dsimp only;rw [hd];rfl
 have d0:PStm.mays (spS g i::A) 1=true:=by show (_ && _)=true;rw [hA.mays (.inl rfl) (by omega)];kernel_rfl
 have c0:=hB.mays (.inr rfl) (by omega)
 have i0:([⟨1,t,c1,ba [120],1, []⟩,⟨1,r,c2,ba [121],2, []⟩,⟨6,q,c3,mnB,0,spS g i::A⟩,⟨6,p,y,ba [116],0,B⟩]:List PDec).any PDec.bad=false:=by
  simp only [iD,List.any_nil,PDec.bad,d0,c0];kernel_rfl
 have u:Fnd.decls .z [⟨1,t,c1,ba [120],1, []⟩,⟨1,r,c2,ba [121],2, []⟩,⟨6,q,c3,mnB,0,spS g i::A⟩,⟨6,p,y,ba [116],0,B⟩]=⟨[1,2], [],0,0, [], [⟨mnB,0, []⟩,⟨ba [116],0, []⟩],0,0, [ba [120],ba [121]], [], [], [], [],Mc,0,0,0,0⟩:=by kernel_rfl
 generalize hg:(⟨[1,2], [],0,0, [], [⟨mnB,0, []⟩,⟨ba [116],0, []⟩],0,0, [ba [120],ba [121]], [], [], [], [],Mc,0,0,0,0⟩:Fnd)=f0 at u;have m:f0.at Um=3:=by rw [<-hg];kernel_rfl
 have e0:((f0.names.map (·.k)).getD (f0.at Um - 1) 0)=6:=by rw [m,<-hg];rfl
 have j:f0.flaw=0:=by rw [<-hg]
 have g0:(([⟨1,t,c1,ba [120],1, []⟩,⟨1,r,c2,ba [121],2, []⟩,⟨6,q,c3,mnB,0,spS g i::A⟩,⟨6,p,y,ba [116],0,B⟩]:List PDec).filter fun d=>d.k==6).map (·.body)= [spS g i::A,B]:=by kernel_rfl
 have a0:=Ct (f:= { f0 with most:=0 }) (by rw [<-hg]) (by rw [<-hg]) g i;obtain ⟨a1,a2,n1,s1,k1,m1,e1⟩:=hA.found (N:=1) (.inl rfl) (f:= { { f0 with most:=0 } with stm:=1 }) (by omega) ⟨by decide,j,⟨[],by show f0.names=_;rw [<-hg];rfl,fun x hx=>by cases hx⟩,by show f0.locals<=_;rw [<-hg];decide,by show (1:Int)<=_;omega⟩
 have w:Fnd.block { f0 with most:=0 } (spS g i::A)=({ f0 with stm:=s1,most:=m1 },.mk 13 g i (ba [116]) em .z .z [] [] 0 1 0 false::(Fnd.blk { { f0 with most:=0 } with stm:=1 } A).2):=by
  unfold Fnd.block;simp only [Fnd.blk,if_pos (show ({ f0 with most:=0 } :Fnd).flaw=0 from j),a0,e1]
 generalize (Fnd.blk { { f0 with most:=0 } with stm:=1 } A).2=A' at a1 w;have j0:s1<=13:=by have:=a2.st;rw [e1] at this;dsimp only at this;omega
 obtain ⟨e,c⟩: ∃ e:Fnd,e= { { f0 with stm:=s1,most:=m1 } with ths:=f0.ths.set 0 ⟨mnB,m1,.mk 13 g i (ba [116]) em .z .z [] [] 0 1 0 false::A'⟩ } :=⟨_,rfl⟩;obtain ⟨b1,b2,n2,o,k2,l,e2⟩:=hB.found (N:=13) (.inr rfl) (f:= { e with most:=0 }) (by omega) ⟨by decide,by rw [c];exact j,⟨[],by rw [c];show f0.names=_;rw [<-hg];rfl,fun x hx=>by cases hx⟩,by rw [c];show f0.locals<=_;rw [<-hg];decide,by rw [c];show s1<=_;omega⟩
 have v:Fnd.block { e with most:=0 } B=({ e with stm:=o,most:=l },(Fnd.blk { e with most:=0 } B).2):=by
  unfold Fnd.block;rw [e2]
 generalize (Fnd.blk { e with most:=0 } B).2=B' at b1 v
 have h0:Fnd.bodies f0 0 [spS g i::A,B]= { { e with stm:=o,most:=l } with ths:=e.ths.set 1 ⟨ba [116],l,B'⟩ } :=by
  have n:e.flaw=0:=by rw [c];exact j
  have e3:Fnd.bodies f0 0 [spS g i::A,B]=Fnd.bodies e 1 [B]:=by
   rw [Fnd.bodies,if_pos j];dsimp only;rw [w,c,<-hg];rfl
  rw [e3,Fnd.bodies,if_pos n];dsimp only;rw [v,c,<-hg];rfl
 refine ⟨{ { { e with stm:=o,most:=l } with ths:=e.ths.set 1 ⟨ba [116],l,B'⟩ } with main:=0 },?_,⟨A',B',g,i,m1,l,?_,a1,b1⟩⟩
 . unfold Jj;rw [hp];dsimp only;unfold N9;rw [i0,u];simp only [Bool.false_eq_true,if_false];rw [g0]
   have hm: ¬ (f0.flaw=0/\(f0.at Um=0\/((f0.names.map (·.k)).getD (f0.at Um - 1) 0)≠6)):=by
    rintro ⟨_,(h|h)⟩
    . rw [m] at h;exact aR h (by decide)
    exact h e0
   rw [if_neg hm,h0,m]
   have b0:((({ { e with stm:=o,most:=l } with ths:=e.ths.set 1 ⟨ba [116],l,B'⟩ } :Fnd).names.map (·.s)).getD (3 - 1) 0)=0:=by
    have:({ { e with stm:=o,most:=l } with ths:=e.ths.set 1 ⟨ba [116],l,B'⟩ } :Fnd).names=Mc:=by rw [c,<-hg]
    rw [this];rfl
   rw [b0];have n:({ { e with stm:=o,most:=l } with ths:=e.ths.set 1 ⟨ba [116],l,B'⟩ } :Fnd).flaw=0:=by rw [c];exact j
   rw [if_neg fun h=>h n]
 rw [c,<-hg];rfl
def E4 (k:Nat)(v:Int):Int:=if k=0 then v*2+1 else if k=2 then (if v<5 then v+3 else v) else v
def finS:List Nat->Int->Int
 | [],v=>v
 |k::l,v=>finS l (E4 k v)
inductive InS (v:UInt8):PStm->Prop
 |mk (a b m2 w2 i2 d2 o2):InS v (.mk 2 a b m2 w2 (opE 7 (nmR v) (nuE 3)) i2 [] [] d2 (slotV v) o2 false)
inductive Lf (v:UInt8):List PStm->Int->Int->Nat->Prop
 |nil (x):Lf v [] x x 0
 |cons {k s r x V c} (h:Res v k s) (hk:k<4) (h0:0<=x/\x<=100000) (t:Lf v r (E4 k x) V c):Lf v (s::r) x V (c+2)
 |inn {s r x V c} (h:InS v s) (h0:0<=x/\x<=100000) (t:Lf v r (x+3) V c):Lf v (s::r) x V (c+1)
theorem effS_le {k:Nat}{B:Int}(h:0<=x/\x<=B)(hB:4<=B):0<=E4 k x/\E4 k x<=2*B+1:=by
 unfold E4;(repeat' split)<;>omega
theorem ResL.lf {l:List Nat}(h:ResL v l L): ∀ {x B:Int},(∀ k∈l,k<4)->0<=x/\x<=B->4<=B->(B+1)*2 ^ l.length<=100000->Lf v L x (finS l x) (2*l.length):=by
 induction h with
 |nil=>exact fun _ _ _ _=> .nil _
 | @cons k s l L h t ih=>
  intro x B c b i g
  have f:(1:Int)<=2 ^ l.length:=by
   have:1<=2 ^ l.length:=Nat.one_le_two_pow;exact_mod_cast this
  have e:(B+1)*2 ^ (l.length+1)=(2*B+1+1)*2 ^ l.length:=by
   rw [Int.pow_succ];generalize (2:Int) ^ l.length=z;have:(2*B+1+1)=(B+1)*2:=by omega
   rw [this,Int.mul_assoc,Int.mul_comm z 2]
  have a:=g;rw [bG,e] at a;have j:(2*B+1+1)*1<=(2*B+1+1)*2 ^ l.length:=Int.mul_le_mul_of_nonneg_left f (by omega);have:=ih (x:=E4 k x) (B:=2*B+1) (fun y d=>c y (bZ _ d)) (effS_le b i) (by omega) a;exact .cons h (c k (bI ..)) ⟨b.1,by omega⟩ this
def Zzu (v:UInt8)(t:PTr)(x V:Int)(c:Nat):Prop:=(t.st=4/\t.left= []\/t.st=1/\t.left≠ [])/\Lf v t.left x V c
inductive Al (p:PPr) (V W:Int):SS->Nat->Prop
 |one {s x y t A B ln cl nm wt e ix id ot lo k1 n c d} (hc:s.cells= [x,y]) (ho:s.out=Bw) (ht:s.ths= [t]) (h1:t.st=1) (hl:t.left=PStm.mk 13 ln cl nm wt e ix [] [] id 1 ot lo::A) (hp:p.ths.getD 1 (0, [])=(k1,B)) (hA:Lf 120 A x V c) (hB:Lf 121 B y W d) (hn:c+d+1<=n):Al p V W s n
 |two {s x y t u n c d} (hc:s.cells= [x,y]) (ho:s.out=Bw) (ht:s.ths= [t,u]) (hA:Zzu 120 t x V c) (hB:Zzu 121 u y W d) (hn:c+d<=n):Al p V W s n
theorem Al.mono {m:Nat}(h:Al p V W s n)(l:n<=m):Al p V W s m:=by
 cases h with
 |one hc ho ht h1 hl hp hA hB hn=>exact .one hc ho ht h1 hl hp hA hB (by omega)
 |two hc ho ht hA hB hn=>exact .two hc ho ht hA hB (by omega)
theorem Lf.kind {c:Nat}(h:Lf v r x V c)(hr:r≠ []): ∃ s L,r=s::L/\(s.kd=1\/s.kd=2\/s.kd=4\/s.kd=15):=by
 cases h with
 |nil=>exact aR rfl hr
 |cons h _ _ t=>refine ⟨_,_,rfl,?_⟩;cases h<;>simp [PStm.kd]
 |inn h _ t=>refine ⟨_,_,rfl,?_⟩;cases h;simp [PStm.kd]
theorem can_of {x:PStm}(ho:s.out=Bw)(h1:(s.th n).st=1)(hl:(s.th n).left=x::L)(hk:x.kd=1\/x.kd=2\/x.kd=4\/x.kd=15\/x.kd=13):s.can p n=true:=by
 obtain ⟨k,g,j,nm,f,e,h,c,d,i,b,a,loc⟩:=x;simp only [PStm.kd] at hk;unfold SS.can;dsimp only;rw [if_neg (by rw [ho,h1];decide)];have:(s.th n).next= .mk k g j nm f e h c d i b a loc:=by unfold PTr.next;rw [hl];rfl
 rw [this];dsimp only;rw [if_neg (by rw [h1];decide),if_neg (by omega),if_neg (by omega),if_neg (by omega),if_neg (by omega)]
theorem all_ne (hn:n<s.ths.length)(h:s.can p n=true):s.all p≠ []:=fun e=>by
 have:(n:Int)∈s.all p:=bU.2 ⟨n,fH.2 ⟨jC.2 hn,h⟩,rfl⟩;rw [e] at this;cases this
theorem th0 {l:List PTr}(h:s.ths=t::l):s.th 0=t:=by unfold SS.th;rw [h];rfl
theorem th1 {u:PTr}{l:List PTr}(h:s.ths=t::u::l):s.th 1=u:=by unfold SS.th;rw [h];rfl
theorem Al.stop (h:Al p V W s n)(ha:s.all p= []):Al p V W s 0:=by
 cases h with
 |one hc ho ht h1 j hp f b hn=>
  have g:=th0 ht;exact aR ha (all_ne (n:=0) (by rw [ht];exact gE _) (can_of ho (by rw [g];exact h1) (by rw [g];exact j) (by simp [PStm.kd])))
 |two hc ho ht f b hn=>
  have g:=th0 ht;have o:=th1 ht
  have z: ∀ {v:UInt8} {i:Nat} {t:PTr} {x V:Int} {c:Nat},i<s.ths.length->s.th i=t->Zzu v t x V c->t.st=4/\t.left= []:=by
   rintro v i t x V c hi e ⟨(h|h),j⟩
   . exact h
   obtain ⟨y,L,m,u⟩:=j.kind h.2;exact aR ha (all_ne hi (can_of ho (by rw [e];exact h.1) (by rw [e];exact m) (by omega)))
  obtain ⟨r,l⟩:=z (i:=0) (by rw [ht];exact gE _) g f;obtain ⟨q,k⟩:=z (i:=1) (by rw [ht];exact gC _) o b;obtain ⟨_,f⟩:=f;obtain ⟨_,b⟩:=b;have d:=f;have a:=b;rw [l] at d;rw [k] at a
  cases d;cases a
  exact .two hc ho ht ⟨.inl ⟨r,l⟩,by rw [l];exact .nil _⟩ ⟨.inl ⟨q,k⟩,by rw [k];exact .nil _⟩ (aL 0)
theorem Lf.zero (h:Lf v r x V 0):r= []/\x=V:=by
 cases h;exact ⟨rfl,rfl⟩
theorem Al.zero (h:Al p V W s 0):s.cells= [V,W]/\(s.outc p).kind=2:=by
 cases h with
 |one _ _ _ _ _ _ _ _ hn=>omega
 |two hc ho ht hA hB hn=>
  rename_i c d;obtain rfl:c=0:=by omega
  obtain rfl:d=0:=by omega
  obtain ⟨u,t⟩:=hA;obtain ⟨q,o⟩:=hB;obtain ⟨r,rfl⟩:=t.zero;obtain ⟨m,rfl⟩:=o.zero;have g:=u.resolve_right fun a=>a.2 r
  have f:=q.resolve_right fun a=>a.2 m
  refine ⟨hc,?_⟩
  have e: ∀ (z:SS),z.ths=s.ths->z.all p= []:=fun z b=>by
   rw [ht] at b;have j:=th0 b;have i:=th1 b;have l:z.can p 0=false:=by unfold SS.can;dsimp only;rw [j,if_pos (.inr (.inr g.1))]
   have k:z.can p 1=false:=by unfold SS.can;dsimp only;rw [i,if_pos (.inr (.inr f.1))]
   unfold SS.all;rw [b];show ((List.range 2).filter fun n=>z.can p n).map _= []
   rw [show List.range 2= [0,1] from rfl];simp only [jQ,l,k,List.filter_nil];rfl
  unfold SS.outc;rw [if_neg (by rw [ho];decide)];unfold SS.stands;dsimp only;rw [if_neg (by rw [e { s with out:=⟨1,0,0,0⟩ } rfl];decide)];dsimp only;rw [ht];simp [g.1,f.1]
theorem L6 (h: -1000000<=x/\x<=1000000):val x:=by unfold val;omega
section
variable {cells loc:List Int}
theorem made_nm:(nmR v).made p cells loc=(cells.getD (slotV v).toNat 0,0, [(slotV v,false,cells.getD (slotV v).toNat 0)]):=by
 simp (config:= { decide:=true }) only [PEx.made,if_true,if_false]
theorem R3 (k:Int):(nuE k).made p cells loc=(k,0, []):=by
 simp (config:= { decide:=true }) only [PEx.made,if_true]
theorem R2 {y:Int}{a b:PEx}{ax ay:List Ac}(ha:a.made p cells loc=(x,0,ax))(hb:b.made p cells loc=(y,0,ay))(ho:2<o):(opE o a b).made p cells loc=((Yi o x y).1,(Yi o x y).2,ax++ay):=by
 have d: ¬ ((o=1/\x≠0)\/(o=2/\x=0)):=by omega
 have c: ¬o<=2:=by omega
 simp (config:= { decide:=true }) only [PEx.made,Ym,ha,hb,if_false,List.getD_cons_zero,List.getD_cons_succ];rw [if_neg d,if_neg c]
theorem T0 {x:PStm}(h1:(s.th n).st=1)(hl:(s.th n).left=x::r)(hk:x.kd<=5\/x.kd=11\/x.kd=15):s.did p n=(s.put n { s.th n with left:=r }).data p n x (zEv n x.idn):=by
 have e:(s.th n).next=x:=by unfold PTr.next;rw [hl];rfl
 unfold SS.did;dsimp only;rw [if_neg (by rw [h1];decide),e,if_pos hk,hl];rfl
end
theorem did_lf {c:Nat}(hx:s.cells.getD (slotV v).toNat 0=x)(hn:n<s.ths.length)(h1:(s.th n).st=1)(hl:(s.th n).left≠ [])(h:Lf v (s.th n).left x V c): ∃ (L:List Int) (r:List PStm) (x':Int) (c':Nat),(s.did p n).2.2=0/\(s.did p n).1= { s with cells:=s.cells.set (slotV v).toNat x',ths:=s.ths.set n { s.th n with left:=r,loc:=L } } /\Lf v r x' V c'/\c'<c:=by
 have j:s.cells.set (slotV v).toNat x=s.cells:=by
  apply fW fun i=> ?_
  rw [List.getElem?_set];split
  . rename_i e;subst e;split
    . rename_i h;rw [<-hx,bD,aD h];rfl
    rename_i h;rw [cF (by omega)]
  rfl
 have f: ∀ t:PTr,(s.put n t).th n=t:=fun t=>Dd hn
 have d: ∀ t:PTr,(s.put n t).cells=s.cells:=fun _=>rfl
 have q: ∀ t u:PTr,(s.put n t).put n u=s.put n u:=fun t u=>by unfold SS.put;simp [fI]
 have g:(nmR v).made p s.cells (s.th n).loc=(x,0, [(slotV v,false,x)]):=by rw [made_nm,hx]
 generalize hL:(s.th n).left=l at h hl
 cases h with
 |nil=>exact aR rfl hl
 | @cons k y r x V c h hk h0 t=>
  cases h with
  |dbl ln cl nm wt ix id ot=>
   refine ⟨(s.th n).loc,r,x*2+1,c,?_⟩;have e1:Yi 9 x 2=(x*2,0):=by unfold Yi;simp (config:= { decide:=true }) only [if_false,if_true];rw [if_pos (L6 (by omega))]
   have e2:Yi 7 (x*2) 1=(x*2+1,0):=by unfold Yi;simp (config:= { decide:=true }) only [if_false,if_true];rw [if_pos (L6 (by omega))]
   have m:=R2 (p:=p) g (R3 2) (o:=9) (by decide);rw [e1] at m;have w:=R2 (p:=p) m (R3 1) (o:=7) (by decide);rw [e2] at w;rw [T0 h1 hL (.inl (by simp [PStm.kd]))];refine ⟨?_,?_,t,by omega⟩
   . simp (config:= { decide:=true }) only [SS.data,f,d,w,if_true,if_false]
   simp (config:= { decide:=true }) only [SS.data,f,d,w,if_true,if_false,SS.into];rfl
  |lt ln cl nm wt ix id sl ot=>
   refine ⟨(s.th n).loc.set sl.toNat x,r,x,c,?_⟩;rw [T0 h1 hL (.inl (by simp [PStm.kd])),j];refine ⟨?_,?_,t,by omega⟩
   . simp (config:= { decide:=true }) only [SS.data,f,d,g,if_true,if_false]
   simp (config:= { decide:=true }) only [SS.data,f,d,g,if_true,if_false,SS.into];rw [q];rfl
  |cond ln cl a b nm wt ix id sl ot lo w w2 i2 d2 o2=>
   have e1:Yi 5 x 5=(Ux (decide (x<5)),0):=by unfold Yi;simp (config:= { decide:=true }) only [if_false,if_true]
   have m:=R2 (p:=p) g (R3 5) (o:=5) (by decide);rw [e1] at m;by_cases h5:x<5
   . have z:E4 2 x=x+3:=by unfold E4;rw [if_neg (by decide),if_pos rfl,if_pos h5]
     rw [z] at t;refine ⟨(s.th n).loc,.mk 2 a b w w2 (opE 7 (nmR v) (nuE 3)) i2 [] [] d2 (slotV v) o2 false::r,x,c+1,?_⟩;rw [T0 h1 hL (.inl (by simp [PStm.kd])),j];refine ⟨?_,?_,.inn (.mk ..) h0 t,by omega⟩
     . simp (config:= { decide:=true }) only [SS.data,f,d,m,if_true,if_false]
     simp (config:= { decide:=true }) only [SS.data,f,d,m,h5,Ux,if_true,if_false];rw [q];rfl
   have z:E4 2 x=x:=by unfold E4;rw [if_neg (by decide),if_pos rfl,if_neg h5]
   rw [z] at t;refine ⟨(s.th n).loc,r,x,c,?_⟩;rw [T0 h1 hL (.inl (by simp [PStm.kd])),j];refine ⟨?_,?_,t,by omega⟩
   . simp (config:= { decide:=true }) only [SS.data,f,d,m,if_true,if_false]
   simp (config:= { decide:=true }) only [SS.data,f,d,m,h5,Ux,if_true,if_false];rw [q];rfl
  |prt ln cl nm wt ix id sl ot lo=>
   refine ⟨(s.th n).loc,r,x,c,?_⟩;rw [T0 h1 hL (.inr (.inr rfl)),j];refine ⟨?_,?_,t,by omega⟩
   . simp (config:= { decide:=true }) only [SS.data,f,d,g,if_true,if_false]
   simp (config:= { decide:=true }) only [SS.data,f,d,g,if_true,if_false];rfl
 | @inn y r x V c h h0 t=>
  obtain ⟨a,b,w,w2,i2,d2,o2⟩:=h;refine ⟨(s.th n).loc,r,x+3,c,?_⟩;have e2:Yi 7 x 3=(x+3,0):=by unfold Yi;simp (config:= { decide:=true }) only [if_false,if_true];rw [if_pos (L6 (by omega))]
  have m:=R2 (p:=p) g (R3 3) (o:=7) (by decide);rw [e2] at m;rw [T0 h1 hL (.inl (by simp [PStm.kd]))];refine ⟨?_,?_,t,by omega⟩
  . simp (config:= { decide:=true }) only [SS.data,f,d,m,if_true,if_false]
  simp (config:= { decide:=true }) only [SS.data,f,d,m,if_true,if_false,SS.into];rfl
theorem Fg {ev:PEv}{cs:List Int}(hn:n<s.ths.length):(({ s with cells:=cs,ths:=s.ths.set n t } :SS).ended n ev).1= { s with cells:=cs,ths:=s.ths.set n (if t.left= [] then { t with st:=4 } else t) } :=by
 have a:n<({ s with cells:=cs,ths:=s.ths.set n t } :SS).ths.length:=by show n<(s.ths.set n t).length;rw [bC];exact hn
 have e:({ s with cells:=cs,ths:=s.ths.set n t } :SS).th n=t:=by
  rw [Kg a];exact cN ..
 unfold SS.ended;rw [e];split
 . unfold SS.put;simp only [fI]
 rfl
theorem Lf.th {L:List Int}{c:Nat}(h1:t.st=1)(h:Lf v r x V c):Zzu v (if r= [] then { t with left:=r,loc:=L,st:=4 } else { t with left:=r,loc:=L }) x V c:=by
 by_cases hr:r= []
 . rw [if_pos hr];exact ⟨.inl ⟨rfl,hr⟩,h⟩
 rw [if_neg hr];exact ⟨.inr ⟨h1,hr⟩,h⟩
theorem Al.step (h:Al p V W s n)(hi:i<s.ths.length)(hc:s.can p i=true): ∃ m,m<n/\Al p V W (s.step p i).1.pg m:=by
 have hg:s.pg=s:=by
  have:s.out=Bw:=by cases h<;>assumption
  unfold SS.pg;rw [if_neg (by rw [this];decide),<-this]
 cases h with
 |one hc0 ho ht h1 hl hp hA hB hn=>
  rename_i x y t A B ln cl nm wt e ix id ot lo f c d;obtain rfl:i=0:=by rw [ht] at hi;exact Nat.lt_one_iff.1 hi
  have b:=th0 ht;have g:s.ths.length=1:=by rw [ht];rfl
  have hd:(s.did p 0).1= { s with ths:= [{ t with left:=A,sp:=t.sp++ [1] },Wc p 1] } /\(s.did p 0).2.2=0:=by
   have c0:(s.th 0).next= .mk 13 ln cl nm wt e ix [] [] id 1 ot lo:=by rw [b];unfold PTr.next;rw [hl];rfl
   have a0: ∀ u:PTr,(s.put 0 u).th 0=u:=fun u=>Dd hi
   have b0: ∀ u:PTr,(s.put 0 u).ths= [u]:=fun u=>by unfold SS.put;rw [ht];rfl
   unfold SS.did;dsimp only;rw [if_neg (by rw [b,h1];decide),c0,if_neg (by simp [PStm.kd])];simp (config:= { decide:=true }) only [SS.others,a0,b0,if_true,if_false,bJ];refine ⟨?_,trivial⟩;rw [b];unfold SS.put;rw [ht,hl];rfl
  obtain ⟨k,g2⟩:=Hq hg hc hd.2;rw [k,hd.1];have f0:Wc p 1=⟨1,if B= [] then 4 else 1,List.replicate f.toNat 0,B, []⟩:=by unfold Wc;rw [show (1:Int).toNat=1 from rfl,hp]
  have j:Zzu 121 (Wc p 1) y W d:=by
   rw [f0];by_cases hb:B= []
   . rw [if_pos hb];exact ⟨.inl ⟨rfl,hb⟩,hB⟩
   rw [if_neg hb];exact ⟨.inr ⟨rfl,hb⟩,hB⟩
  refine ⟨c+d,by omega,?_⟩;generalize (s.did p 0).2.1=ev;unfold SS.ended;have e3:({ s with ths:= [{ t with left:=A,sp:=t.sp++ [1] },Wc p 1] } :SS).th 0= { t with left:=A,sp:=t.sp++ [1] } :=rfl;rw [e3];split
  . rename_i ha;exact .two hc0 ho (t:= { { t with left:=A,sp:=t.sp++ [1] } with st:=4 }) rfl ⟨.inl ⟨rfl,ha⟩,hA⟩ j (aL _)
  rename_i ha;exact .two hc0 ho rfl ⟨.inr ⟨h1,ha⟩,hA⟩ j (aL _)
 |two hc0 ho ht hA hB hn=>
  rename_i x y t u c d;have b:=th0 ht;have l:=th1 ht;have g:s.ths.length=2:=by rw [ht];rfl
  -- a thread that can go on has something left
  have z: ∀ {v:UInt8} {t:PTr} {x V:Int} {c:Nat},s.th i=t->Zzu v t x V c->t.st=1/\t.left≠ []:=fun e h=>h.1.resolve_left fun a=>by
   unfold SS.can at hc;dsimp only at hc;rw [if_pos (.inr (.inr (by rw [e];exact a.1)))] at hc
   cases hc
  have d0:i=0\/i=1:=by omega
  rcases d0 with rfl|rfl
  . obtain ⟨o,b2⟩:=z b hA;obtain ⟨L,r,q,c',f,k2,w,k4⟩:=did_lf (p:=p) (v:=120) (x:=x) (by rw [hc0];rfl) hi (by rw [b];exact o) (by rw [b];exact b2) (by rw [b];exact hA.2);obtain ⟨k,g2⟩:=Hq hg hc f;rw [k,k2,Fg hi,b];refine ⟨c'+d,by omega,.two (x:=q) (y:=y) (by rw [hc0];rfl) ho (by rw [ht];rfl) (w.th o) hB (aL _)⟩
  obtain ⟨o,b2⟩:=z l hB;obtain ⟨L,r,q,c',f,k2,w,k4⟩:=did_lf (p:=p) (v:=121) (x:=y) (by rw [hc0];rfl) hi (by rw [l];exact o) (by rw [l];exact b2) (by rw [l];exact hB.2);obtain ⟨k,g2⟩:=Hq hg hc f;rw [k,k2,Fg hi,l];refine ⟨c+c',by omega,.two (x:=x) (y:=q) (by rw [hc0];rfl) ho (by rw [ht];rfl) hA (w.th o) (aL _)⟩
theorem Al.th8 (h:Al p V W s n):s.ths.length<=8:=by
 cases h with
 |one hc ho ht h1 hl hp hA hB hn=>rw [ht];simp
 |two hc ho ht hA hB hn=>rw [ht];simp
theorem Al.stepP (h:Al p V W s n)(k:Int):Al p V W (s.stepP p k).1 (n - 1):=by
 by_cases ha:s.all p= []
 . have e:(s.stepP p k).1=s:=by unfold SS.stepP;rw [if_pos ha]
   rw [e];exact (h.stop ha).mono (bB _)
 obtain ⟨i,d,c,g,b⟩:=Tb (k:=k) ha h.th8;rw [b];obtain ⟨m,f,a⟩:=h.step d c;exact a.mono (by omega)
theorem Al.runP : ∀ (l:List Int) {s:SS} {n:Nat},Al p V W s n->Al p V W (SS.runP p s l).1 n
 | [],_,_,h=>h
 |k::l,s,n,h=>by
  rw [Hz];split
  . exact h
  exact Al.runP l ((h.stepP k).mono (by omega))
def SS.stepN (p:PPr)(k:Int):Nat->SS->SS
 |0,s=>s
 |m+1,s=>(SS.stepP p (SS.stepN p k m s) k).1
theorem Al.stepN (h:Al p V W s n)(k:Int): ∀ m,Al p V W (SS.stepN p k m s) (n - m)
 |0=>h
 |m+1=>by
  have:=(Al.stepN h k m).stepP k;rwa [Nat.sub_sub] at this
theorem IsAlone.al (h:IsAlone F a b)(ha:a.length<=6)(hb:b.length<=6)(hka: ∀ k∈a,k<4)(hkb: ∀ k∈b,k<4):Al F.pr (finS a 1) (finS b 2) (Vs F.pr) 25:=by
 obtain ⟨A,B,j,n,m,c,e,g,f⟩:=h.p
 have d: ∀ {l:List Nat},l.length<=6->(2:Int) ^ l.length<=64:=fun {l} hl=>by
  have:2 ^ l.length<=2 ^ 6:=Nat.pow_le_pow_right (by decide) hl;exact_mod_cast this
 have pa:=d ha;have i:=d hb;rw [e];exact .one (x:=1) (y:=2) rfl rfl rfl rfl rfl (k1:=c) (B:=B) rfl (g.lf (x:=1) (B:=4) hka (by omega) (by omega) (by omega)) (f.lf (x:=2) (B:=4) hkb (by omega) (by omega) (by omega)) (by omega)
theorem lm_info5:(prog.info? 5).map (fun i=>(i.zero,i.size,i.bytes))=some (some (.int .u8 0),1,1):=by kernel_rfl
theorem Wf {P:Program}{p:PE}{d:Option Tmp}{ty:TypeId}{pos:String}{af:Array Edge}{gd:Option (Nat×Bool)}{x y:Operand}{t t':TypeId}{a b:ByteArray}(hx:evp p x=some (.string a))(hy:evp p y=some (.string b))(h:a.size+b.size<=9223372036854775807):Pu P p ⟨d,.binOp .add t x y t',ty,pos,af,gd⟩ (.string (a++b)):=fun f w c=>by
 have e: ¬ (((a.size+b.size:Nat):Int)>IntKind.i64.max):=by show ¬ (((a.size+b.size:Nat):Int)>9223372036854775807);omega
 simp only [execOp,Zh c hx,Zh c hy,eqGuard,Go.binOp,Op.stringOp,if_neg e];rfl
theorem Rs (a b:ByteArray):(a++b).size=a.size+b.size:=ByteArray.size_append
theorem lv_info9:(prog.info? 9).map (fun i=>(i.zero,i.size,i.bytes))=some (some (.string ⟨#[]⟩),1,16):=by kernel_rfl
theorem Iy (x y:Bs):ba x++ba y=ba (x++y):=by
 apply ByteArray.ext;rw [ByteArray.data_append];simp [ba]
def Qk (l:List Int):List Nat:=l.map fun k=>(k.tmod 4).toNat
theorem kinS_at (h:i<l.length):Qk (l.take (i+1))=Qk (l.take i)++ [(l[i].tmod 4).toNat]:=by
 unfold Qk;rw [aH h,aM];rfl
theorem R5 (h: ∀ k∈l,0<=k/\k<=255): ∀ k∈Qk l,k<4:=fun k b=>by
 obtain ⟨x,a,rfl⟩:=bU.1 b;have:=h x a;rw [Int.tmod_eq_emod_of_nonneg this.1];omega
theorem N6 (l:List Int):(Qk l).length=l.length:=by unfold Qk;rw [aU]
theorem pcs_at {z:Int}(hk:0<=k/\k<4)(hi:i<6)(hz:z=97+i)(h:k.toNat<4):([ba [c]++ba [32,61,32]++ba [c]++ba [32,42,32,50,32,43,32,49,59,32],ba [108,101,116,32,108]++Zzy [z]++ba [32,61,32]++ba [c]++ba [59,32],ba [105,102,32]++ba [c]++ba [32,60,32,53,32,123,32]++ba [c]++ba [32,61,32]++ba [c]++ba [32,43,32,51,59,32,125,32],ba [112,114,105,110,116,32]++ba [c]++ba [59,32]]:List ByteArray)[k.toNat]'h=ba (pcB c i k.toNat):=by
 have d:Zzy [z]=ba [97+UInt8.ofNat i]:=by
  subst hz;have b:i=0\/i=1\/i=2\/i=3\/i=4\/i=5:=by omega
  rcases b with rfl|rfl|rfl|rfl|rfl|rfl<;>rfl
 have a:k=0\/k=1\/k=2\/k=3:=by omega
 rw [d];simp only [Iy];rcases a with rfl|rfl|rfl|rfl<;>rfl
theorem pcB_at {s:Nat}(h:s<l.length):ba (Vk c 0 (Qk (l.take s)))++ba (pcB c s (l[s].tmod 4).toNat)=ba (Vk c 0 (Qk (l.take (s+1)))):=by
 rw [Iy,kinS_at h,D1,N6,bH,eQ (Nat.le_of_lt h),eC]
theorem K0 (l:Bs):(ba l).size=l.length:=by simp [ba,ByteArray.size]
theorem pcB_size {s k:Nat}(h:l.length<=6):(ba (Vk c 0 (Qk (l.take s)))).size+(ba (pcB c s k)).size<=9223372036854775807:=by
 have a:=Q9 c (Qk (l.take s)) 0;have b:=Xy c s k;rw [N6,bH] at a;rw [K0,K0];omega
section
variable {a:Option Addr}
theorem Ft (hs:Sees q a (l.map (Value.int .u8)))(hk: ∀ k∈l,0<=k/\k<=255)(hl:l.length<=6):CallF prog G 18 [.string (ba [c]),.slice a l.length n] (q) (Ret fun v q'=>v= .string (ba (Vk c 0 (Qk l)))/\q'=q):=by
 refine aC func18 ntmps18 rfl fun F y=> ?_;refine xx 14 ?_;refine aY (cG (fun (s:Nat)=>s<=l.length) (fun s=> [(0,.string (ba [c])),(1,.slice a l.length n),(5,.string (ba (Vk c 0 (Qk (l.take s))))),(6,I64 s)]) (fun s=>q++F) (fun s=>l.length - s) (fun s d j=> ?_) 0 (bB _)) Zu leA;try dsimp only at d j|-
 obtain hi:=d;refine xx 8 ?_;refine xp 10 ?_ ?_<;>intro w
 . have b:s<l.length:=(by omega);have m:=hk _ (aB b);have o:0<=(l[s]).tmod 4/\(l[s]).tmod 4<4:=(by rw [Int.tmod_eq_emod_of_nonneg m.1];omega);have i:IntKind.u8.wrap (s:Int)=s:=(by rw [wu8];omega);have g:IntKind.u8.wrap (97+(s:Int))=97+s:=(by rw [wu8];omega);refine Yd hs (by rw [aU];omega) (fun z t r=> ?_) leA;subst r;have e:((l[s]).tmod 4).toNat<4:=(by omega);refine rn [4,0,1,2] ?_;refine Vz 2 rfl (Wf rfl rfl (cL rfl)) ?_;refine dd [3] ?_;refine Vz 4 rfl (Wf rfl rfl (cL rfl)) ?_;refine Vz 5 rfl (Wf rfl rfl (cL rfl)) ?_;refine dd [6,7,8,13,16] ?_;refine Vz 17 rfl (Wf rfl rfl (cL rfl)) ?_;refine Vz 18 rfl (Wf rfl rfl (cL rfl)) ?_;refine dd [19] ?_;refine Vz 20 rfl (Wf rfl rfl (cL rfl)) ?_;refine Vz 21 rfl (Wf rfl rfl (cL rfl)) ?_;refine dd [22] ?_;refine Vz 23 rfl (Wf rfl rfl (cL rfl)) ?_;refine Vz 24 rfl (Wf rfl rfl (cL rfl)) ?_;refine dd [25] ?_;refine Vz 26 rfl (Wf rfl rfl (cL rfl)) ?_;refine Vz 27 rfl (Wf rfl rfl (cL rfl)) ?_;refine rf [30,31,32,33,34,35] hs ?_;refine fC 9 rfl (U3 (u:=_) (Value.int .u8) underlying57 lm_info5 rfl rfl) ?_;rintro _ _ ⟨p,rfl,rfl⟩;refine ⟨hlA,?_⟩;refine Zzh 10 [_] underlying57 underlying5 underlying9 (bR _) ?_;refine Vz 11 rfl (Wf rfl rfl (cL rfl)) ?_;refine Vz 12 rfl (Wf rfl rfl (cL rfl)) ?_;refine Vz 14 rfl (Wf rfl rfl (cL rfl)) ?_;refine Vz 15 rfl (Wf rfl rfl (cL rfl)) ?_;refine fC 28 rfl (Yp Value.string [_,_,_,_] underlying25 lv_info9 rfl rfl rfl rfl rfl rfl (fun _=>rfl)) ?_;rintro _ _ ⟨x,rfl,rfl⟩;refine ⟨(hlA (h:=by repeat first|exact trivial|refine ⟨clA,?_⟩|refine ⟨(hs.le leA).at rfl b,?_⟩|refine ⟨((bR (f:=Value.int .u8) (a:=some ⟨p,0,none⟩) (l:= [_]) _).le leA).at rfl (gE 0),?_⟩)),?_⟩;refine dd [35] ?_;refine ldD 36 ?_ (hc:=((bR _).at rfl e));refine dS 49 (.string (ba (pcB c s ((l[s]).tmod 4).toNat))) rfl (bK Value.string (pcs_at o (by omega) (by rw [i,g]) e)) ?_;refine Vz 37 rfl (Wf rfl rfl (pcB_size hl)) ?_;refine rn [39,0,6] ?_;refine cQ 5 (.string (ba (Vk c 0 (Qk (l.take (s+1)))))) rfl (bK Value.string (pcB_at b)) ?_;refine aY (j (s+1) (by omega) (by omega)) Zu leA
 refine xx 7 ?_;refine Zq (q) func18 (Zn results18 rfl) ⟨_,rfl,by rw [show s=l.length from (by omega),cD],rfl⟩
end
mutual
def PEx.sz:PEx->Nat
 | .mk _ _ _ _ _ _ args=>Qm args+1
def Qm:List PEx->Nat
 | []=>0
 |e::r=>e.sz+Qm r
end
mutual
theorem Ls: ∀ (e:Ex),e.er.sz=e.sz
 | .mk _ _ _ _ _ _ args _ _=>by simp only [Ex.er,PEx.sz,Ex.sz,Ec args]
theorem Ec: ∀ (l:List Ex),Qm (Z3 l)=Qe l
 | []=>rfl
 |e::r=>by simp only [Z3,Qm,Qe,Ls e,Ec r]
end
mutual
/-- What an expression that may be is like. -/
def PEx.fit:PEx->Prop
 | .mk k n _ _ _ op args=>(1<=k/\k<=6)/\args.length=Xp k/\(k=1->0<=n/\n<=2147483647)/\(k=6->1<=op/\op<=11)/\PEx.fits args
def PEx.fits:List PEx->Prop
 | []=>True
 |e::r=>e.fit/\PEx.fits r
end
mutual
theorem J7: ∀ {e:PEx} {d:Nat},e.right d=true->e.fit
 | .mk k n nm _ _ op args,d,h=>by
  simp only [PEx.right] at h;split at h
  . cases h
  split at h
  . rename_i b;rw [aI,aI,bN] at h;obtain ⟨⟨a,f⟩,c⟩:=h;refine ⟨b,f,fun h=> ?_,fun h=> ?_,H4 c⟩
    . subst h;unfold Xb at a;rw [if_pos rfl,aI] at a;simpa using a
    subst h;unfold Xb at a;rw [if_neg (by decide),if_neg (by decide),if_pos rfl,aI] at a;simpa using a
  cases h
theorem H4: ∀ {l:List PEx} {d:Nat},Y4 l d=true->PEx.fits l
 | [],_,_=>trivial
 |e::r,d,h=>by
  simp only [Y4,aI] at h;exact ⟨J7 h.1,H4 h.2⟩
end
mutual
/-- How much code a statement makes at most. -/
def PStm.wt:PStm->Nat
 | .mk _ _ _ _ _ e ix body els _ _ _ _=>4*e.sz+4*ix.sz+6+W5 body+W5 els
def W5:List PStm->Nat
 | []=>0
 |s::r=>s.wt+W5 r
end
theorem Y5 {w:Int}(hw:w≠0):(f.fl w).flaw≠0:=by
 unfold Fnd.fl;split
 . exact hw
 rename_i h;exact h
theorem Nd {g:Fnd}(h:((g.loc1 nm).loc2).flaw=0):(g.loc1 nm).loc2=g/\g.locals<32/\g.flaw=0:=by
 have e:(g.loc1 nm)=g:=by
  by_cases hk:g.at nm≠0
  . exfalso;have a:(g.loc1 nm).flaw≠0:=by unfold Fnd.loc1;rw [if_pos hk];exact Y5 (by decide)
    unfold Fnd.loc2 at h;split at h
    . exact Y5 (by decide) h
    exact a h
  unfold Fnd.loc1;rw [if_neg hk]
 rw [e] at h|-;unfold Fnd.loc2 at h|-;by_cases h5:32<=g.locals
 . rw [if_pos h5] at h;exact aR h (Y5 (by decide))
 rw [if_neg h5] at h|-;exact ⟨rfl,by omega,h⟩
structure Cn.le (c d:Cn):Prop where
 v:c.v<=d.v
 a:c.a<=d.a
 mu:c.mu<=d.mu
 co:c.co<=d.co
 ch:c.ch<=d.ch
 th:c.th<=d.th
structure NmOk (c:Cn) (lo:Int) (x:Nm):Prop where
 z:0<=x.s
 v:x.k=1->x.s<c.v
 a:x.k=2->x.s<c.a
 mu:x.k=3->x.s<c.mu
 co:x.k=4->x.s<c.co
 ch:x.k=5->x.s<c.ch
 th:x.k=6->x.s<c.th
 lo:x.k=100->x.s<lo
theorem NmOk.up {c d:Cn}{lo:Int}{x:Nm}(h:NmOk c lo x)(hc:c.le d)(hl:lo<=hi):NmOk d hi x:=by
 obtain ⟨l,k,j,i,g,f,b,a⟩:=h;obtain ⟨r,q,p,o,n,m⟩:=hc;exact ⟨l,fun e=>by have:=k e;omega,fun e=>by have:=j e;omega,fun e=>by have:=i e;omega,fun e=>by have:=g e;omega,fun e=>by have:=f e;omega,fun e=>by have:=b e;omega,fun e=>by have:=a e;omega⟩
theorem Cn.le_refl (c:Cn):c.le c:=⟨bL _,bL _,bL _,bL _,bL _,bL _⟩
def vaOk (c:Cn)(lo:Int)(s:Int)(l:Bool):Prop:=0<=s/\(if l=true then s<lo else s<c.v)
mutual
def PEx.wl (c:Cn)(lo:Int):PEx->Prop
 | .mk k _ _ slot loc _ args=>(k=2->vaOk c lo slot loc)/\(k=3->0<=slot/\slot<c.a)/\Mf c lo args
def Mf (c:Cn)(lo:Int):List PEx->Prop
 | []=>True
 |e::r=>e.wl c lo/\Mf c lo r
end
theorem vaOk.up {c:Cn}{lo:Int}{s:Int}{l:Bool}(h:vaOk c lo s l)(hl:lo<=hi):vaOk c hi s l:=by
 unfold vaOk at*;refine ⟨h.1,?_⟩;have:=h.2;split<;>rename_i k
 . rw [if_pos k] at this;omega
 rw [if_neg k] at this;omega
mutual
theorem Kh {c:Cn}{lo hi:Int}(hl:lo<=hi): ∀ {e:PEx},e.wl c lo->e.wl c hi
 | .mk ..,⟨h1,h2,h3⟩=>⟨fun k=>(h1 k).up hl,h2,Ey hl h3⟩
theorem Ey {c:Cn}{lo hi:Int}(hl:lo<=hi): ∀ {l:List PEx},Mf c lo l->Mf c hi l
 | [],_=>trivial
 |_::_,⟨h1,h2⟩=>⟨Kh hl h1,Ey hl h2⟩
end
theorem Fnd.wants_ok {s:ByteArray}{a b:Int}(h:(f.wants s a b).1.flaw=0):(f.wants s a b).1=f/\ ∃ x∈f.names,(x.k=a\/x.k=b)/\(f.wants s a b).2=(x.k,x.s):=by
 unfold Fnd.wants at h|-;have j:f.at s<=f.names.length:=Kx;split at h
 . exact aR h (Y5 (by decide))
 rename_i i hi;have c:i<f.names.length:=by omega
 have g:(f.names.map fun x=>(x.k,x.s)).getD i (0,0)=(f.names[i].k,f.names[i].s):=by
  rw [bD,fJ,aD c];rfl
 dsimp only at h|-;rw [g] at h|-;split at h
 . exact aR h (Y5 (by decide))
 rename_i d;rw [if_neg d];refine ⟨rfl,_,aB c,?_,rfl⟩;simp only [aI,iY,ne_eq,not_and,fX] at d;by_cases e:f.names[i].k=a
 . exact .inl e
 exact .inr (d e)
abbrev fE:=@Fnd.wants_ok
mutual
theorem Uj: ∀ (e:PEx) (f:Fnd),(f.expr e).2.sz=e.sz/\(f.expr e).2.dep=e.dep/\(e.fit->(f.expr e).2.fit)
 | .mk k n nm slot loc op args,f=>by
  simp only [Fnd.expr];split
  . obtain ⟨j,i,h,g⟩:=U2 args (f.wants nm 1 100).1;exact ⟨by simp only [PEx.sz,j],by simp only [PEx.dep,i],fun ⟨a,b,c,d,e⟩=>⟨a,h.trans b,c,d,g e⟩⟩
  split
  . obtain ⟨j,i,h,g⟩:=U2 args (f.wants nm 2 2).1;exact ⟨by simp only [PEx.sz,j],by simp only [PEx.dep,i],fun ⟨a,b,c,d,e⟩=>⟨a,h.trans b,c,d,g e⟩⟩
  obtain ⟨j,i,h,g⟩:=U2 args f;exact ⟨by simp only [PEx.sz,j],by simp only [PEx.dep,i],fun ⟨a,b,c,d,e⟩=>⟨a,h.trans b,c,d,g e⟩⟩
theorem U2: ∀ (l:List PEx) (f:Fnd),Qm (f.exprs l).2=Qm l/\Yb (f.exprs l).2=Yb l/\(f.exprs l).2.length=l.length/\(PEx.fits l->PEx.fits (f.exprs l).2)
 | [],f=>⟨rfl,rfl,rfl,fun _=>trivial⟩
 |e::r,f=>by
  obtain ⟨k,j,i⟩:=Uj e f;obtain ⟨h,g,d,c⟩:=U2 r (f.expr e).1;simp only [Fnd.exprs];exact ⟨by simp only [Qm,k,h],by simp only [Yb,j,g],by simp only [bG,d],fun ⟨b,a⟩=>⟨i b,c a⟩⟩
end
mutual
theorem Qa {c:Cn}{lo:Int}: ∀ (e:PEx) (f:Fnd),(f.expr e).1.flaw=0->(f.expr e).1=f/\((∀ x∈f.names,NmOk c lo x)->(f.expr e).2.wl c lo)
 | .mk k n nm slot loc op args,f,h=>by
  simp only [Fnd.expr] at h|-;split at h
  . rename_i m;rw [if_pos m];obtain ⟨g,o⟩:=Q5 (c:=c) (lo:=lo) args _ h;dsimp only at h g|-;rw [g] at h;obtain ⟨p,x,q,b,r⟩:=fE h;refine ⟨g.trans p,fun i=>⟨fun _=> ?_,fun e=>aR (m.symm.trans e) (by decide),o (by rw [p];exact i)⟩⟩;have d:=i x q;rw [r];refine ⟨d.z,?_⟩;dsimp only;rcases b with b|b
    . rw [if_neg (by rw [b];decide)];exact d.v b
    rw [if_pos (by rw [b];decide)];exact d.lo b
  rename_i l;rw [if_neg l];split at h
  . rename_i m;rw [if_pos m];obtain ⟨g,o⟩:=Q5 (c:=c) (lo:=lo) args _ h;dsimp only at h g|-;rw [g] at h;obtain ⟨p,x,q,b,r⟩:=fE h;refine ⟨g.trans p,fun i=>⟨fun e=>aR (m.symm.trans e) (by decide),fun _=> ?_,o (by rw [p];exact i)⟩⟩;have d:=i x q;rw [r];exact ⟨d.z,d.a (by rcases b with e|e<;>exact e)⟩
  rename_i j;rw [if_neg j];obtain ⟨g,o⟩:=Q5 (c:=c) (lo:=lo) args _ h;exact ⟨g,fun i=>⟨fun e=>aR e l,fun e=>aR e j,o i⟩⟩
theorem Q5 {c:Cn}{lo:Int}: ∀ (l:List PEx) (f:Fnd),(f.exprs l).1.flaw=0->(f.exprs l).1=f/\((∀ x∈f.names,NmOk c lo x)->Mf c lo (f.exprs l).2)
 | [],f,_=>⟨rfl,fun _=>trivial⟩
 |e::r,f,h=>by
  simp only [Fnd.exprs] at h|-;obtain ⟨d,i⟩:=Q5 (c:=c) (lo:=lo) r _ h;rw [d] at h;obtain ⟨a,g⟩:=Qa (c:=c) (lo:=lo) e f h;exact ⟨d.trans a,fun b=>⟨g b,i (by rw [a];exact b)⟩⟩
end
def ownOk (c:Cn)(lo k slot other:Int)(loc:Bool):Prop:=
 (k=1\/k=2->vaOk c lo slot loc)/\(k=3->0<=slot/\slot<c.a)/\(k=6\/k=7->0<=slot/\slot<c.mu)/\(k=8\/k=9\/k=10->0<=slot/\slot<c.co)/\(k=8->0<=other/\other<c.mu)/\(k=11\/k=12->0<=slot/\slot<c.ch)/\(k=12->vaOk c lo other loc)/\(k=13->0<=slot/\slot<c.th)
theorem ownOk.up {c:Cn}{lo s:Int}{l:Bool}(h:ownOk c lo k s o l)(hl:lo<=hi):ownOk c hi k s o l:=by
 obtain ⟨m,j,i,g,f,d,b,a⟩:=h;exact ⟨fun e=>(m e).up hl,j,i,g,f,d,fun e=>(b e).up hl,a⟩
mutual
def PStm.wl (c:Cn)(lo:Int):PStm->Prop
 | .mk k _ _ _ _ e ix body els id slot other loc=>(1<=k/\k<=15)/\(k<=5\/k=11\/k=15->e.fit/\e.dep<=24/\e.wl c lo)/\(k=3->ix.fit/\ix.dep<=24/\ix.wl c lo)/\(0<=id/\id<512)/\ownOk c lo k slot other loc/\Qi c lo body/\Qi c lo els
def Qi (c:Cn)(lo:Int):List PStm->Prop
 | []=>True
 |s::r=>s.wl c lo/\Qi c lo r
end
mutual
theorem Ev {c:Cn}{lo hi:Int}(hl:lo<=hi): ∀ {s:PStm},s.wl c lo->s.wl c hi
 | .mk ..,⟨h1,h2,h3,h4,h5,h6,h7⟩=>⟨h1,fun k=>⟨(h2 k).1,(h2 k).2.1,Kh hl (h2 k).2.2⟩,fun k=>⟨(h3 k).1,(h3 k).2.1,Kh hl (h3 k).2.2⟩,h4,h5.up hl,J1 hl h6,J1 hl h7⟩
theorem J1 {c:Cn}{lo hi:Int}(hl:lo<=hi): ∀ {l:List PStm},Qi c lo l->Qi c hi l
 | [],_=>trivial
 |_::_,⟨h1,h2⟩=>⟨Ev hl h1,J1 hl h2⟩
end
structure Ctx (c:Cn) (f:Fnd):Prop where
 n: ∀ x∈f.names,NmOk c f.locals x
 l:0<=f.locals/\f.locals<=f.most/\f.most<=32
 s:0<=f.stm
theorem Og {c:Cn}{wt:ByteArray}(h:(f.own k nm wt sl ot lo).1.flaw=0)(hx:Ctx c f):
 f.flaw=0/\Ctx c (f.own k nm wt sl ot lo).1/\f.most<=(f.own k nm wt sl ot lo).1.most/\(f.own k nm wt sl ot lo).1.stm=f.stm/\ownOk c (f.own k nm wt sl ot lo).1.most k (f.own k nm wt sl ot lo).2.1 (f.own k nm wt sl ot lo).2.2.1 (f.own k nm wt sl ot lo).2.2.2:=by
 obtain ⟨g, hg⟩ : ∃ g, f.own1 k nm sl lo = g := ⟨_, rfl⟩; unfold Fnd.own at h |-; rw [hg] at h |-; -- behind own1 nothing is flawed
 have p:g.1.flaw=0:=by
  unfold Fnd.own2 at h;split at h
  . exact (Nd (show ((g.1.loc1 nm).loc2).flaw=0 from h)).2.2
  split at h
  . dsimp only at h;rw [<-(fE h).1];exact h
  split at h
  . dsimp only at h;rw [<-(fE h).1];exact h
  exact h
 have hw:g.1=f/\(k=2->vaOk c f.locals g.2.1 g.2.2)/\(k=3->0<=g.2.1/\g.2.1<c.a)/\(k=6\/k=7->0<=g.2.1/\g.2.1<c.mu)/\(k=8\/k=9\/k=10->0<=g.2.1/\g.2.1<c.co)/\(k=11\/k=12->0<=g.2.1/\g.2.1<c.ch)/\(k=13->0<=g.2.1/\g.2.1<c.th):=by
  rw [<-hg] at p|-;unfold Fnd.own1 at p|-;by_cases hz:(Jt k).1≠0
  . rw [if_pos hz] at p|-;obtain ⟨o,x,b,j,q⟩:=fE p;have i:=hx.n x b;rw [q];refine ⟨o,fun e=> ?_,fun e=> ?_,fun e=> ?_,fun e=> ?_,fun e=> ?_,fun e=> ?_⟩
    . subst e;refine ⟨i.z,?_⟩;dsimp only;rcases j with j|j
      . rw [if_neg (by rw [j];decide)];exact i.v j
      rw [if_pos (by rw [j];decide)];exact i.lo j
    . subst e;exact ⟨i.z,i.a (by rcases j with e|e<;>exact e)⟩
    . refine ⟨i.z,i.mu ?_⟩;rcases e with e|e<;>subst e<;>rcases j with e|e<;>exact e
    . refine ⟨i.z,i.co ?_⟩;rcases e with e|e|e<;>subst e<;>rcases j with e|e<;>exact e
    . refine ⟨i.z,i.ch ?_⟩;rcases e with e|e<;>subst e<;>rcases j with e|e<;>exact e
    subst e;exact ⟨i.z,i.th (by rcases j with e|e<;>exact e)⟩
  rw [if_neg hz] at p|-;have r:(Jt k).1=0:=fX.1 hz;refine ⟨rfl,fun e=> ?_,fun e=> ?_,fun e=> ?_,fun e=> ?_,fun e=> ?_,fun e=> ?_⟩<;>exfalso<;>revert r
  . subst e;decide
  . subst e;decide
  . rcases e with e|e<;>subst e<;>decide
  . rcases e with e|e|e<;>subst e<;>decide
  . rcases e with e|e<;>subst e<;>decide
  subst e;decide
 obtain ⟨o,w2,w3,w4,y,w,w7⟩:=hw;obtain ⟨m,gs,gl⟩:=g;dsimp only at*;subst o;obtain ⟨l1,l2,l3⟩:=hx.l;refine ⟨p,?_⟩;unfold Fnd.own2 at h|-;split at h
 . rename_i j;rw [if_pos j];obtain ⟨e3,e4,_⟩:=Nd (show ((m.loc1 nm).loc2).flaw=0 from h);dsimp only;rw [e3];have hm:(m.loc3 nm).most=max m.most (m.locals+1):=rfl;have a0:(m.loc3 nm).locals=m.locals+1:=rfl;refine ⟨⟨fun x b=> ?_,⟨by omega,by omega,by omega⟩,hx.s⟩,by omega,rfl,?_⟩
   . rcases aQ.1 (show x∈m.names++ [⟨nm,100,m.locals⟩] from b) with b|b
     . exact (hx.n x b).up (Cn.le_refl c) (by omega)
     rw [aZ.1 b];exact ⟨l1,fun e=>aR (show (100:Int)=1 from e) (by decide),fun e=>aR (show (100:Int)=2 from e) (by decide),fun e=>aR (show (100:Int)=3 from e) (by decide),fun e=>aR (show (100:Int)=4 from e) (by decide),fun e=>aR (show (100:Int)=5 from e) (by decide),fun e=>aR (show (100:Int)=6 from e) (by decide),fun _=>by dsimp only;omega⟩
   exact ⟨fun _=>⟨l1,by rw [if_pos rfl];omega⟩,fun e=>by omega,fun e=>by omega,fun e=>by omega,fun e=>by omega,fun e=>by omega,fun e=>by omega,fun e=>by omega⟩
 rename_i u;rw [if_neg u];split at h
 . rename_i j;rw [if_pos j];dsimp only at h|-;obtain ⟨o,x,b,d,q⟩:=fE h;rw [o,q];have i:=hx.n x b;exact ⟨hx,bL _,rfl,fun e=>by omega,fun e=>by omega,fun e=>by omega,fun e=>y (by omega),fun _=>⟨i.z,i.mu (by rcases d with e|e<;>exact e)⟩,fun e=>by omega,fun e=>by omega,fun e=>by omega⟩
 rename_i t;rw [if_neg t];split at h
 . rename_i j;rw [if_pos j];dsimp only at h|-;obtain ⟨o,x,b,d,q⟩:=fE h;rw [o,q];have i:=hx.n x b;refine ⟨hx,bL _,rfl,fun e=>by omega,fun e=>by omega,fun e=>by omega,fun e=>by omega,fun e=>by omega,fun e=>w (by omega),fun _=>⟨i.z,?_⟩,fun e=>by omega⟩;dsimp only;rcases d with d|d
   . rw [if_neg (by rw [d];decide)];exact i.v d
   rw [if_pos (by rw [d];decide)];have:=i.lo d;omega
 rename_i d;rw [if_neg d];dsimp only;exact ⟨hx,bL _,rfl,fun e=>(w2 (by omega)).up l2,w3,w4,fun e=>y (by omega),fun e=>by omega,fun e=>w (by omega),fun e=>by omega,w7⟩
theorem Eu {wt:ByteArray}(h:(f.own k nm wt sl ot lo).1.flaw=0):f.flaw=0:=by
 have a:(f.own1 k nm sl lo).1.flaw=0:=by
  unfold Fnd.own Fnd.own2 at h;split at h
  . exact (Nd (show (((f.own1 k nm sl lo).1.loc1 nm).loc2).flaw=0 from h)).2.2
  split at h
  . dsimp only at h;rw [<-(fE h).1];exact h
  split at h
  . dsimp only at h;rw [<-(fE h).1];exact h
  exact h
 unfold Fnd.own1 at a;split at a
 . dsimp only at a;rw [<-(fE a).1];exact a
 exact a
theorem Qy (l:List PStm)(f:Fnd)(h:(f.blk l).1.flaw=0):f.flaw=0:=by
 cases l with
 |nil=>exact h
 |cons s r=>
  simp only [Fnd.blk] at h;split at h
  . rename_i k;exact k
  exact h
mutual
/-- A statement that Check lets pass. -/
def PStm.raw:PStm->Prop
 | .mk k _ _ _ _ e ix body els _ _ _ _=>(1<=k/\k<=15)/\(k<=5\/k=11\/k=15->e.fit/\e.dep<=24)/\(k=3->ix.fit/\ix.dep<=24)/\(e.sz<=e.nd+1/\ix.sz<=ix.nd+1)/\Vu body/\Vu els
def Vu:List PStm->Prop
 | []=>True
 |s::r=>s.raw/\Vu r
end
mutual
theorem Lr {c:Cn}: ∀ (s:PStm) (f:Fnd),s.raw->(f.stmt s).1.flaw=0->Ctx c f->f.flaw=0/\Ctx c (f.stmt s).1/\f.most<=(f.stmt s).1.most/\(f.stmt s).2.wl c (f.stmt s).1.most
 | .mk k ln cl nm wt e ix body els id slot other loc,f,hr,h,hx=>by
  obtain ⟨r1,r2,r3,r4,r5,r6⟩:=hr;simp only [Fnd.stmt] at h|-;split at h
  . exact aR h (Y5 (by decide))
  rename_i h5;rw [if_neg h5];dsimp only at h|-;obtain ⟨q,a⟩: ∃ g:Fnd,g= { f with stm:=f.stm+1 } :=⟨_,rfl⟩;rw [<-a] at h|-;obtain ⟨f1,o⟩:=kL (q.expr ix);rw [<-o] at h|-;obtain ⟨t,m⟩:=kL (f1.1.expr e);rw [<-m] at h|-;obtain ⟨r,j⟩:=kL (t.1.own k nm wt slot other loc);rw [<-j] at h|-;obtain ⟨f4,i⟩:=kL (r.1.blk body);rw [<-i] at h|-;obtain ⟨z,b⟩: ∃ g:Fnd,g= { f4.1 with names:=r.1.names,locals:=r.1.locals } :=⟨_,rfl⟩;rw [<-b] at h|-;obtain ⟨f5,d⟩:=kL (z.blk els);rw [<-d] at h|-;have q5:=Qy els z (by rw [<-d];exact h);have q4:f4.1.flaw=0:=by rw [b] at q5;exact q5
  have q3:r.1.flaw=0:=Qy body r.1 (by rw [<-i];exact q4);have q2:t.1.flaw=0:=Eu (by rw [<-j];exact q3);have p2:=Qa (c:=c) (lo:=f.locals) e f1.1 (by rw [<-m];exact q2);rw [<-m] at p2;have q1:f1.1.flaw=0:=by rw [<-p2.1];exact q2
  have p1:=Qa (c:=c) (lo:=f.locals) ix q (by rw [<-o];exact q1);rw [<-o] at p1;have x0:Ctx c q:=by rw [a];exact ⟨hx.n,hx.l,by have:=hx.s;dsimp only;omega⟩
  have e2:t.1=q:=p2.1.trans p1.1;have v: ∀ x∈q.names,NmOk c f.locals x:=by rw [a];exact hx.n
  have w1:=p1.2 v;have w2:=p2.2 (by rw [p1.1];exact v);have u:=Og (c:=c) (f:=t.1) (k:=k) (sl:=slot) (ot:=other) (nm:=nm) (wt:=wt) (lo:=loc) (by rw [<-j];exact q3) (by rw [e2];exact x0);rw [<-j] at u;obtain ⟨o1,p,o3,o4,o5⟩:=u;have b4:=Jp (c:=c) body r.1 r5 (by rw [<-i];exact q4) p;rw [<-i] at b4;obtain ⟨b0,f0,d0⟩:=b4;have x4:Ctx c z:=by rw [b];exact ⟨p.n,⟨p.l.1,by have:=p.l.2.1;dsimp only;omega,b0.l.2.2⟩,b0.s⟩
  have b5:=Jp (c:=c) els z r6 (by rw [<-d];exact h) x4;rw [<-d] at b5;obtain ⟨a0,e0,c0⟩:=b5;have m4:z.most=f4.1.most:=by rw [b]
  have m2:t.1.most=f.most:=by rw [e2,a]
  have s2:t.1.stm=f.stm+1:=by rw [e2,a]
  have k1:=Uj ix q;have k2:=Uj e f1.1;rw [<-o] at k1;rw [<-m] at k2;have hl:=hx.l;have w:f.locals<=f5.1.most:=by omega
  refine ⟨by rw [e2,a] at o1;exact o1,⟨p.n,⟨p.l.1,by have:=p.l.2.1;dsimp only;omega,a0.l.2.2⟩,a0.s⟩,by (try dsimp only);omega,r1,fun y=>⟨k2.2.2 (r2 y).1,by rw [k2.2.1];exact (r2 y).2,Kh w w2⟩,fun y=>⟨k1.2.2 (r3 y).1,by rw [k1.2.1];exact (r3 y).2,Kh w w1⟩,⟨hx.s,by omega⟩,o5.up (by (try dsimp only);omega),J1 (by (try dsimp only);omega) d0,c0⟩
theorem Jp {c:Cn}: ∀ (l:List PStm) (f:Fnd),Vu l->(f.blk l).1.flaw=0->Ctx c f->Ctx c (f.blk l).1/\f.most<=(f.blk l).1.most/\Qi c (f.blk l).1.most (f.blk l).2
 | [],f,_,_,hx=>⟨hx,bL _,trivial⟩
 |s::r,f,hr,h,hx=>by
  simp only [Fnd.blk] at h|-;split at h
  . rename_i a;rw [if_pos a];have q:=Qy r (f.stmt s).1 h;obtain ⟨_,i,j,g⟩:=Lr (c:=c) s f hr.1 q hx;obtain ⟨e,d,b⟩:=Jp (c:=c) r (f.stmt s).1 hr.2 h i;exact ⟨e,by (try dsimp only);omega,Ev d g,b⟩
  rename_i a;exact aR h a
end
mutual
theorem Lt: ∀ (s:PStm) (f:Fnd),s.raw->(f.stmt s).2.wt<=14*s.nd
 | .mk k ln cl nm wt e ix body els id slot other loc,f,hr=>by
  obtain ⟨_,_,_,⟨h,g⟩,b,a⟩:=hr;simp only [Fnd.stmt];split
  . have j:=Us body b;have i:=Us els a;simp only [PStm.wt,Hi];omega
  dsimp only;have d:=Uj ix { f with stm:=f.stm+1 };have c:=Uj e (Fnd.expr { f with stm:=f.stm+1 } ix).1;simp only [PStm.wt,Hi,d.1,c.1];refine cP (Nat.add_le_add_left (Hb els _ a) _) (cP (Nat.add_le_add_right (Nat.add_le_add_left (Hb body _ b) _) _) ?_);omega
theorem Hb: ∀ (l:List PStm) (f:Fnd),Vu l->W5 (f.blk l).2<=14*Zo l
 | [],f,_=>bB _
 |s::r,f,hr=>by
  simp only [Fnd.blk];split
  . have b:=Lt s f hr.1;have a:=Hb r (f.stmt s).1 hr.2;simp only [W5,Zo];omega
  simp [W5]
theorem Lh: ∀ (s:PStm),s.raw->s.wt<=14*s.nd
 | .mk k ln cl nm wt e ix body els id slot other loc,hr=>by
  obtain ⟨_,_,_,⟨d,c⟩,b,a⟩:=hr;have g:=Us body b;have f:=Us els a;simp only [PStm.wt,Hi];omega
theorem Us: ∀ (l:List PStm),Vu l->W5 l<=14*Zo l
 | [],_=>bB _
 |s::r,hr=>by
  have b:=Lh s hr.1;have a:=Us r hr.2;simp only [W5,Zo];omega
end
mutual
theorem U0: ∀ {e:PEx} {d:Nat},e.right d=true->e.sz=e.nd/\e.dep<=d
 | .mk k n nm _ _ op args,d,h=>by
  simp only [PEx.right] at h;split at h
  . cases h
  rename_i c;split at h
  . rename_i f;rw [aI] at h
    have g:1<=d:=by
     unfold Rz at c;simp only [dM,not_or,bN] at c;omega
    obtain ⟨a,b⟩:=Ma h.2;simp only [PEx.sz,PEx.nd,PEx.dep];rw [if_neg (by omega)];omega
  cases h
theorem Ma: ∀ {l:List PEx} {d:Nat},Y4 l d=true->Qm l=Bq l/\Yb l<=d
 | [],_,_=>⟨rfl,bB _⟩
 |e::r,d,h=>by
  simp only [Y4,aI] at h;have b:=U0 h.1;have a:=Ma h.2;simp only [Qm,Bq,Yb];omega
end
theorem Eb (h:e.nil=true):e.sz<=e.nd+1:=by
 cases e with
 |mk k n nm s l op args=>
  simp only [PEx.nil,aI,bN] at h;have:args= []:=aK h.2;subst this;simp only [PEx.sz,Qm];omega
mutual
theorem G8: ∀ {s:PStm} {n:Nat},s.may n=true->s.raw
 | .mk k _ _ nm wt e ix body els _ _ _ _,n,h=>by
  simp only [PStm.may] at h;split at h;cases h
  rename_i f;split at h;cases h
  split at h;cases h
  rename_i c;split at h;cases h
  rw [aI] at h;unfold Su at f;simp only [dM,not_or,bN] at f;unfold Pz at c;have b:E0 k=true->e.right 24=true:=fun b=>by cases hr:e.right 24 with|true=>rfl|false=>simp [b,hr] at c
  have g:E0 k=false->e.nil=true:=fun b=>by cases hr:e.nil with|true=>rfl|false=>simp [b,hr] at c
  have d:k=3->ix.right 24=true:=fun a=>by cases hr:ix.right 24 with|true=>rfl|false=>simp [a,hr] at c
  have i: ¬k=3->ix.nil=true:=fun a=>by cases hr:ix.nil with|true=>rfl|false=>simp [a,hr] at c
  refine ⟨by omega,fun a=> ?_,fun a=>⟨J7 (d a),(U0 (d a)).2⟩,⟨?_,?_⟩,W8 h.1,W8 h.2⟩
  . have:E0 k=true:=by unfold E0;simp only [dM,bN,dC];omega
    exact ⟨J7 (b this),(U0 (b this)).2⟩
  . cases a:E0 k with
    |true=>have:=(U0 (b a)).1;omega
    |false=>exact Eb (g a)
  by_cases a:k=3
  . have:=(U0 (d a)).1;omega
  exact Eb (i a)
theorem W8: ∀ {l:List PStm} {n:Nat},PStm.mays l n=true->Vu l
 | [],_,_=>trivial
 |s::r,n,h=>by
  simp only [PStm.mays,aI] at h;exact ⟨G8 h.1,W8 h.2⟩
end
structure DInv (f:Fnd):Prop where
 n: ∀ x∈f.names,NmOk f.cn 0 x
 l:f.locals=0/\f.stm=0
 k:f.names.length<=64/\f.vars.length<=f.names.length/\f.arrs.length<=f.names.length/\f.chs.length<=f.names.length/\f.ths.length<=f.names.length/\(0<=f.mu/\f.mu<=f.names.length)/\(0<=f.co/\f.co<=f.names.length)
 v: ∀ n∈f.vars, -2147483648<=n/\n<=2147483647
 a: ∀ n∈f.arrs,1<=n/\n<=256
 c: ∀ n∈f.chs,1<=n/\n<=16
 t: ∀ t∈f.ths,(1<=t.nm.size/\t.nm.size<=16)/\t.loc=0/\t.body= []
theorem Ho {α:Type}{φ:α->Prop}{l:List α}{x:α}(h: ∀ y∈l,φ y)(hx:φ x): ∀ y∈l++ [x],φ y:=by
 intro y a;rcases aQ.1 a with a|a
 . exact h y a
 rw [aZ.1 a];exact hx
theorem DInv.z:DInv Fnd.z:=⟨fun x a=>(by cases a),⟨rfl,rfl⟩,by decide,fun x a=>(by cases a),fun x a=>(by cases a),fun x a=>(by cases a),fun x a=>(by cases a)⟩
theorem DInv.decl (h:DInv f)(hf:(f.decl d).flaw=0)(h0:f.flaw=0)(hk:1<=d.k/\d.k<=6)(hn:1<=d.nm.size/\d.nm.size<=16):DInv (f.decl d):=by
 have t: ∃ g s,f.decl d= { g with names:=f.names++ [⟨d.nm,d.k,s⟩] } /\g.names=f.names/\f.names.length<64/\g=(f.decl1 d).1/\s=(f.decl1 d).2.1/\(f.decl1 d).2.2=true:=by
  unfold Fnd.decl at hf|-;split at hf
  . exact aR hf (Y5 (by decide))
  rename_i c1;rw [if_neg c1];split at hf
  . rename_i m;rw [J9 m] at hf;exact aR hf (Y5 (by decide))
  rename_i m;rw [if_neg m]
  have v:(f.decl1 d).1.names=f.names:=by
   unfold Fnd.decl1;(repeat' split)<;>first|rfl|exact (f.fl_keep _).2.2.1
  split at hf
  . exact aR hf (Y5 (by decide))
  rename_i w;rw [if_neg w];rw [v] at w;exact ⟨_,_,by rw [v],v,by omega,rfl,rfl,by revert m;cases (f.decl1 d).2.2<;>simp⟩
 obtain ⟨g,s,e1,e2,e3,b,a,l⟩:=t;rw [e1];obtain ⟨z,r,i3,q,p,o,n⟩:=h;have j:d.k=1\/d.k=2\/d.k=3\/d.k=4\/d.k=5\/d.k=6:=by omega
 have i: ∀ {c:Cn},f.cn.le c->NmOk c 0 ⟨d.nm,d.k,s⟩-> ∀ x∈f.names++ [⟨d.nm,d.k,s⟩],NmOk c 0 x:=fun u ho=>Ho (fun y hy=>(z y hy).up u (bL _)) ho
 unfold Fnd.decl1 at b a l;rcases j with j|j|j|j|j|j 
 . rw [if_pos j] at b a l;split at l
   . cases l
   rename_i m;rw [if_neg m] at b a;subst b;subst a;refine ⟨i ⟨by simp [Fnd.cn]<;>omega,bL _,bL _,bL _,bL _,bL _⟩ ⟨by simp,fun _=>by simp [Fnd.cn]<;>omega,?_,?_,?_,?_,?_,?_⟩,r,by simp;omega,Ho q (by omega),p,o,n⟩<;>(intro e;have e:d.k=_:=e;omega)
 . rw [if_neg (by omega),if_pos j] at b a l;split at l
   . cases l
   rename_i m;rw [if_neg m] at b a;subst b;subst a;refine ⟨i ⟨bL _,by simp [Fnd.cn]<;>omega,bL _,bL _,bL _,bL _⟩ ⟨by simp,?_,fun _=>by simp [Fnd.cn]<;>omega,?_,?_,?_,?_,?_⟩,r,by simp;omega,q,Ho p (by omega),o,n⟩<;>(intro e;have e:d.k=_:=e;omega)
 . rw [if_neg (by omega),if_neg (by omega),if_pos j] at b a l;subst b;subst a;refine ⟨i ⟨bL _,bL _,by simp [Fnd.cn]<;>omega,bL _,bL _,bL _⟩ ⟨by dsimp only;omega,?_,?_,fun _=>by simp [Fnd.cn]<;>omega,?_,?_,?_,?_⟩,r,by simp;omega,q,p,o,n⟩<;>(intro e;have e:d.k=_:=e;omega)
 . rw [if_neg (by omega),if_neg (by omega),if_neg (by omega),if_pos j] at b a l;subst b;subst a;refine ⟨i ⟨bL _,bL _,bL _,by simp [Fnd.cn]<;>omega,bL _,bL _⟩ ⟨by dsimp only;omega,?_,?_,?_,fun _=>by simp [Fnd.cn]<;>omega,?_,?_,?_⟩,r,by simp;omega,q,p,o,n⟩<;>(intro e;have e:d.k=_:=e;omega)
 . rw [if_neg (by omega),if_neg (by omega),if_neg (by omega),if_neg (by omega),if_pos j] at b a l;split at l
   . cases l
   rename_i m;rw [if_neg m] at b a;subst b;subst a;refine ⟨i ⟨bL _,bL _,bL _,bL _,by simp [Fnd.cn]<;>omega,bL _⟩ ⟨by simp,?_,?_,?_,?_,fun _=>by simp [Fnd.cn]<;>omega,?_,?_⟩,r,by simp;omega,q,p,Ho o (by omega),n⟩<;>(intro e;have e:d.k=_:=e;omega)
 rw [if_neg (by omega),if_neg (by omega),if_neg (by omega),if_neg (by omega),if_neg (by omega),if_pos j] at b a l;subst b;subst a;refine ⟨i ⟨bL _,bL _,bL _,bL _,bL _,by simp [Fnd.cn]<;>omega⟩ ⟨by simp,?_,?_,?_,?_,?_,fun _=>by simp [Fnd.cn]<;>omega,?_⟩,r,by simp;omega,q,p,o,Ho n ⟨hn,rfl,rfl⟩⟩<;>(intro e;have e:d.k=_:=e;omega)
theorem DInv.decls: ∀ {ds:List PDec} {f:Fnd},DInv f->(∀ d∈ds,(1<=d.k/\d.k<=6)/\(1<=d.nm.size/\d.nm.size<=16))->(f.decls ds).flaw=0->DInv (f.decls ds)
 | [],_,h,_,_=>h
 |d::r,f,h,hd,hf=>by
  unfold Fnd.decls at hf|-;split at hf
  . rename_i a;rw [if_pos a]
    have b:(f.decl d).flaw=0:=by
     cases r with
     |nil=>exact hf
     |cons x r=>
      unfold Fnd.decls at hf;split at hf
      . assumption
      exact hf
    exact DInv.decls (h.decl b a (hd d (bI ..)).1 (hd d (bI ..)).2) (fun x c=>hd x (bZ _ c)) hf
  rename_i a;exact aR hf a
structure ThW (P:List PStm->Prop) (c:Cn) (t:PTh):Prop where
 n:1<=t.nm.size/\t.nm.size<=16
 l:0<=t.loc/\t.loc<=32
 b:Qi c t.loc t.body
 p:P t.body
structure BInv (P:List PStm->Prop) (d f:Fnd):Prop where
 e:f.vars=d.vars/\f.arrs=d.arrs/\f.chs=d.chs/\f.mu=d.mu/\f.co=d.co/\f.ths.length=d.ths.length/\f.names=d.names
 n: ∀ x∈d.names,NmOk d.cn 0 x
 l:f.locals=0/\0<=f.stm
 t: ∀ t∈f.ths,ThW P d.cn t
theorem BInv.bodies {d:Fnd}: ∀ {bs:List (List PStm)} {i:Nat} {f:Fnd},(∀ b∈bs,Vu b/\ ∀ g,P (Fnd.blk g b).2)->BInv P d f->(f.bodies i bs).flaw=0->BInv P d (f.bodies i bs)
 | [],_,_,_,h,_=>h
 |b::r,i,f,hb,h,hf=>by
  unfold Fnd.bodies at hf|-;split at hf
  . rename_i o;rw [if_pos o];dsimp only at hf|-;obtain ⟨g,hg⟩:=kL (Fnd.block { f with most:=0 } b);rw [<-hg] at hf|-;obtain ⟨q,j⟩:=kL (Fnd.blk { f with most:=0 } b);have k:g=({ q.1 with names:=f.names,locals:=f.locals },q.2):=by rw [hg,j];rfl
    have fl:g.1.flaw=0:=by
     cases r with
     |nil=>exact hf
     |cons x r=>
      unfold Fnd.bodies at hf;split at hf
      . assumption
      exact hf
    have p:q.1.flaw=0:=by rw [k] at fl;exact fl
    have v:=fY b { f with most:=0 };rw [<-j] at v;obtain ⟨t1,t2,t3,z,y,m,_⟩:=v.e;dsimp only at t1 t2 t3 z y m;obtain ⟨j1,j2,j3,j4,j5,j6,j7⟩:=h.e;have cx:Ctx d.cn { f with most:=0 } :=⟨by dsimp only;rw [j7,h.l.1];exact h.n,by dsimp only;rw [h.l.1];decide,h.l.2⟩;have w:=Jp (c:=d.cn) b { f with most:=0 } (hb b (bI ..)).1 (by rw [<-j];exact p) cx;have hp:=(hb b (bI ..)).2 { f with most:=0 };rw [<-j] at w hp;obtain ⟨w1,u,w3⟩:=w;dsimp only at u;refine BInv.bodies (fun x hx=>hb x (bZ _ hx)) ⟨?_,h.n,?_,?_⟩ hf
    . rw [k];dsimp only;rw [bC,m];exact ⟨t1.trans j1,t2.trans j2,y.trans j3,t3.trans j4,z.trans j5,j6,j7⟩
    . rw [k];exact ⟨h.l.1,w1.s⟩
    rw [k];dsimp only;rw [m];intro t a;by_cases hi:i<f.ths.length
    . rcases bO a with a|a
      . exact h.t t a
      rw [a,bD,aD hi];exact ⟨(h.t _ (aB hi)).n,⟨u,w1.l.2.2⟩,w3,hp⟩
    rw [iW (by omega)] at a;exact h.t t a
  rename_i o;exact aR hf o
structure PrgOk (P:List PStm->Prop) (F:Fnd):Prop where
 k:F.vars.length<=64/\F.arrs.length<=64/\F.chs.length<=64/\F.ths.length<=64/\(0<=F.mu/\F.mu<=64)/\(0<=F.co/\F.co<=64)
 v: ∀ n∈F.vars, -2147483648<=n/\n<=2147483647
 a: ∀ n∈F.arrs,1<=n/\n<=256
 c: ∀ n∈F.chs,1<=n/\n<=16
 t: ∀ t∈F.ths,ThW P F.cn t
 m:0<=F.main/\F.main<F.ths.length
theorem bad_nm (h:d.bad=false):1<=d.nm.size/\d.nm.size<=16:=by
 unfold PDec.bad Sd at h;simp only [eK,cS,gK] at h;obtain ⟨⟨⟨⟨⟨⟨⟨⟨_,_⟩,b⟩,_⟩,_⟩,_⟩,_⟩,_⟩,_⟩:=h;have a:nmS (bs d.nm)=true:=by simpa using b
 unfold nmS at a;split at a
 . cases a
 rename_i c;have e:(bs d.nm).length=d.nm.size:=Ko d.nm;omega
theorem Xa (h:d.bad=false):Vu d.body:=by
 unfold PDec.bad Sd at h;simp only [eK,cS,gK] at h;exact W8 h.2
theorem Pm (h:N9 ds=some F)(h0:P [])(hP: ∀ d∈ds,d.bad=false-> ∀ g,P (Fnd.blk g d.body).2):PrgOk P F:=by
 unfold N9 at h;split at h
 . cases h
 rename_i a0
 have o: ∀ d∈ds,d.bad=false:=fun d w=>by
  cases hb:d.bad with
  |false=>rfl
  |true=>exact aR (jP.2 ⟨d,w,hb⟩) a0
 dsimp only at h;obtain ⟨f,hf⟩:=kL (Fnd.decls .z ds);rw [<-hf] at h;obtain ⟨f1,m⟩: ∃ f1,f1=(if f.flaw=0/\(f.at Um=0\/((f.names.map (·.k)).getD (f.at Um - 1) 0)≠6) then f.fl 133 else f):=⟨_,rfl⟩;rw [<-m] at h;obtain ⟨bs,y⟩:=kL ((ds.filter fun d=>d.k==6).map (·.body));rw [<-y] at h;by_cases hfl:(f1.bodies 0 bs).flaw≠0
 . rw [if_pos hfl] at h;cases h
 rw [if_neg hfl] at h
 cases h
 have j:=fX.1 hfl
 have u:f1.flaw=0:=by
  cases bs with
  |nil=>exact j
  |cons x r=>
   unfold Fnd.bodies at j;split at j
   . assumption
   exact j
 have hm:f1=f/\f.flaw=0/\f.at Um≠0/\((f.names.map (·.k)).getD (f.at Um - 1) 0)=6:=by
  split at m
  . rw [m] at u;exact aR u (Y5 (by decide))
  rename_i hn;rw [m] at u;refine ⟨m,u,fun k=>hn ⟨u,.inl k⟩,Decidable.byContradiction fun k=>hn ⟨u,.inr k⟩⟩
 obtain ⟨e1,z2,m1,m2⟩:=hm
 have D:DInv f:=by
  rw [hf];exact DInv.decls .z (fun d w=>⟨(Gl (o d w)).1,bad_nm (o d w)⟩) (by rw [<-hf];exact z2)
 rw [e1] at j|-
 have B:=BInv.bodies (P:=P) (d:=f) (bs:=bs) (i:=0) (f:=f) (fun b hb=>by
  rw [y] at hb;obtain ⟨d,w,rfl⟩:=bU.1 hb;have q:=(fH.1 w).1
  exact ⟨Xa (o d q),hP d q (o d q)⟩) ⟨⟨rfl,rfl,rfl,rfl,rfl,rfl,rfl⟩,D.n,⟨D.l.1,by rw [D.l.2];decide⟩,fun t ht=>by
   obtain ⟨a,b,c⟩:=D.t t ht;exact ⟨a,by omega,by rw [c];trivial,by rw [c];exact h0⟩⟩ j
 obtain ⟨g,hg⟩:=kL (f.bodies 0 bs);rw [<-hg] at B|-;obtain ⟨b1,b2,b3,b4,b5,b6,b7⟩:=B.e;have cn:Fnd.cn { g with main:=(g.names.map (·.s)).getD (f.at Um - 1) 0 } =f.cn:=by unfold Fnd.cn;dsimp only;rw [b1,b2,b3,b4,b5,b6]
 obtain ⟨k1,k2,k3,k4,k5,k6,k7⟩:=D.k;refine ⟨?_,by dsimp only;rw [b1];exact D.v,by dsimp only;rw [b2];exact D.a,by dsimp only;rw [b3];exact D.c,by rw [cn];exact B.t,?_⟩
 . dsimp only;rw [b1,b2,b3,b4,b5,b6];omega
 have p:f.at Um - 1<f.names.length:=by
  have:f.at Um<=f.names.length:=Kx;omega
 have e6:f.names[f.at Um - 1].k=6:=by
  rw [bD,fJ,aD p] at m2;exact m2
 have ho:=D.n _ (aB p);dsimp only;rw [b7,bD,fJ,aD p,b6];exact ⟨ho.z,ho.th e6⟩
theorem Zq4 {l:Bs}(h:Qz l=some ds):(ds.map fun d=>Zo d.body+1).sum<=l.length/\l.length<=65536:=by
 unfold Qz at h;split at h
 . cases h
 rename_i g;split at h
 . cases h
 rename_i ts b;split at h
 . cases h
 rename_i c a;split at h
 . cases h
 cases h
 have f:=(Kl b).1;have e:=(Tz (aL _) a).1;omega
theorem text_prg {l:Bs}(h:Jj l=some F):PrgOk (fun b=>W5 b<=14*l.length) F/\l.length<=65536:=by
 unfold Jj at h;split at h
 . cases h
 rename_i ds c;obtain ⟨n,j⟩:=Zq4 c;refine ⟨Pm h (bB _) fun d a e g=> ?_,j⟩;have m:=Hb d.body g (Xa e);have i:=F8 (f:=fun d:PDec=>Zo d.body+1) a;have k:Zo d.body+1<=(ds.map fun d=>Zo d.body+1).sum:=i;show W5 (Fnd.blk g d.body).2<=14*l.length
 omega
end Go.Proofs.YtflkjkhijcdbaaaGreat
