/- Contracts. -/
import Derived.Test.YtflkjkhijcdbaaaGreatKi
set_option maxHeartbeats 16000000
set_option maxRecDepth 100000
set_option linter.all false
namespace Go.Proofs.YtflkjkhijcdbaaaGreat
open Go Go.RowKit Wx Go.Proofs.Tryz
attribute [local irreducible] lsH rsH stars
variable {F:Fnd}{N i:Nat}{s s0:SS}{k:Int}{l:List Int}{L:List EvC}{x:EvC}{q:List HP}
theorem C8:(prog.info? 47).map (fun i=>(i.zero,i.size,i.bytes))=some (some (.agg #[I64 0,I64 0,.bool false,I64 0,.slice none 0 0,.bool false,I64 0,I64 0,.slice none 0 0]),9,104):=by kernel_rfl
theorem Dg:(prog.info? 70).map (fun i=>(i.zero,i.size,i.bytes))=some (some (.agg #[.slice none 0 0,.slice none 0 0,I64 0,I64 0,.slice none 0 0,.slice none 0 0,I64 0,I64 0,.slice none 0 0,.slice none 0 0,.slice none 0 0,.slice none 0 0,.slice none 0 0,.slice none 0 0,.slice none 0 0,.slice none 0 0,.slice none 0 0,.slice none 0 0,.slice none 0 0,I64 0,I64 0,I64 0,I64 0]),23,424):=by kernel_rfl
def Wc (p:PPr):SS->List Int->SS×List PEv
 |s, []=>(s, [])
 |s,k::r=>if s.all p= [] then (s, []) else ((Wc p (s.dstep p k).1 r).1,(s.dstep p k).2.1::(Wc p (s.dstep p k).1 r).2)
theorem Mk (p:PPr)(s:SS)(k:Int)(r:List Int):Wc p s (k::r)=if s.all p= [] then (s, []) else ((Wc p (s.dstep p k).1 r).1,(s.dstep p k).2.1::(Wc p (s.dstep p k).1 r).2):=by rw [Wc]
theorem SS.fine.stepP (h:s.fine F N)(hM:MayP F):(SS.stepP F.pr s k).1.fine F (N+1):=by
 unfold SS.stepP;split
 . exact h.mono (dG N)
 exact h.doP hM _
theorem SS.fine.dstep (h:s.fine F N)(hM:MayP F)(hst:s.stood F.pr):(s.dstep F.pr k).1.fine F (N+1):=by
 have B:=Nu (p:=F.pr) (k:=k) h.th8 hst;have a:=h.pg.stepP (k:=k) hM;rw [B.s] at a;exact a.of_pg
theorem S4 {F:Fnd}(hM:MayP F): ∀ (l:List Int) {s:SS} {N:Nat},s.fine F N->s.stood F.pr->(Ye F.pr s.pg l).1=(Wc F.pr s l).1.pg/\(Ye F.pr s.pg l).2=(Wc F.pr s l).2
 | [],s,N,_,_=>⟨rfl,rfl⟩
 |k::r,s,N,h,hst=>by
  have B:=Nu (p:=F.pr) (k:=k) h.th8 hst;obtain ⟨b,a⟩:=S4 hM r (h.dstep (k:=k) hM hst) B.o;rw [Mj,Mk,Tu];by_cases ha:s.all F.pr= []
  . rw [if_pos ha,if_pos ha];exact ⟨rfl,rfl⟩
  rw [if_neg ha,if_neg ha,B.s,B.e];exact ⟨b,by rw [a]⟩
structure DGoes (F:Fnd) (N:Nat) (s0:SS) (l:List Int) (i:Nat) (s:SS) (L:List EvC):Prop where
 f:s.fine F (N+i)
 o:s.stood F.pr
 r:Wc F.pr s0 l=((Wc F.pr s (l.drop i)).1,L.map EvC.e++(Wc F.pr s (l.drop i)).2)
 l:L.length<=i
theorem DGoes.next (h:DGoes F N s0 l i s L)(hM:MayP F)(hi:i<l.length)(ha:(s.dstep F.pr l[i]).2.2=true)(hx:x.e=(s.dstep F.pr l[i]).2.1):DGoes F N s0 l (i+1) (s.dstep F.pr l[i]).1 (L++ [x]):=by
 refine ⟨h.f.dstep hM h.o,(Nu (p:=F.pr) (k:=l[i]) h.f.th8 h.o).o,?_,?_⟩
 . have a: ¬s.all F.pr= []:=fun k=>by unfold SS.dstep at ha;rw [if_pos k] at ha;cases ha
   rw [h.r,aS hi,Mk,if_neg a];simp [hx]
 have:=h.l;simp;omega
theorem DGoes.stop (h:DGoes F N s0 l i s L)(hi:i<l.length)(ha:(s.dstep F.pr l[i]).2.2=false):s=(Wc F.pr s0 l).1/\L.map EvC.e=(Wc F.pr s0 l).2:=by
 have a:s.all F.pr= []:=by
  by_cases k:s.all F.pr= []
  . exact k
  unfold SS.dstep at ha;rw [if_neg k] at ha;cases ha
 rw [h.r,aS hi,Mk,if_pos a];simp
theorem DGoes.done (h:DGoes F N s0 l i s L)(hi:i=l.length):s=(Wc F.pr s0 l).1/\L.map EvC.e=(Wc F.pr s0 l).2:=by
 rw [h.r,hi,dN];simp [Wc]
theorem docC_one (D:DC):(Y3 D).all (·.oneCell')=true:=rfl
section
variable {G:World}{D:DC}{S0:SS}{g0:FC}{picks:List Int}{pa:Option Addr}{pc:Nat}
theorem dRun_ok (hK:Kn q fun M=>D.At M)(hI:D.Is S0)(hg0:D.g=g0)(hF:S0.fine g0.er N)(hst:S0.stood g0.er.pr)(hM:MayP g0.er)(hN:N+picks.length<=899)(hs:Sees q pa (picks.map I64))(hk: ∀ k∈picks, -9223372036854775808<=k/\k<=9223372036854775807):CallF prog G 32 [.agg (Y3 D).toArray,.slice pa picks.length pc] (q) (Ret fun v q'=> ∃ (D':DC) (L:List EvC) (a' a2:Option Addr) (c' n2 c2:Nat),v= .tuple [.agg (Y3 D').toArray,.slice a' L.length c',.slice a2 n2 c2].toArray/\q'=docM D'::(Ta a' c' L++q)/\D'.g=g0/\D'.Is (Wc g0.er.pr S0 picks).1/\L.map EvC.e=(Wc g0.er.pr S0 picks).2/\L.length<=picks.length/\(Wc g0.er.pr S0 picks).1.stood g0.er.pr):=by
 refine aC func32 ntmps32 rfl fun F cs=> ?_;refine xo 2 ?_;refine Z0 fun n3=> ?_
 refine bE zeroValue70 fun n4=> ?_
 refine rn [9,0] ?_;refine bI (Zl (u:=D) Y3 underlying81 Dg rfl rfl Gh rfl) ?_;rintro _ _ ⟨g1,rfl,rfl⟩;refine ox 8 ?_;refine aZ (cD (fun (s:Nat×DC×SS×List EvC×Option Addr×Nat×List DC×Option Addr×Nat)=>s.1<=picks.length/\s.2.1.g=g0/\s.2.1.Is s.2.2.1/\DGoes g0.er N S0 picks s.1 s.2.2.1 s.2.2.2.1/\s.2.2.2.2.2.2.1.length<=s.1+1) (fun s=> [(1,.slice pa picks.length pc),(2,pt n3),(4,pt n4),(7,.slice s.2.2.2.2.1 s.2.2.2.1.length s.2.2.2.2.2.1),(8,.slice s.2.2.2.2.2.2.2.1 s.2.2.2.2.2.2.1.length s.2.2.2.2.2.2.2.2),(9,I64 (s.1:Int))]) (fun s=>docM s.2.1::pto n3 (.cells (Y3 s.2.1).toArray 70 (0,0))::pto n4 Ad::rsH evC 9 47 s.2.2.2.2.1 s.2.2.2.2.2.1 s.2.2.2.1::stars (s.2.2.2.1.map fun x=>stars (evL x))::rsH Y3 23 70 s.2.2.2.2.2.2.2.1 s.2.2.2.2.2.2.2.2 s.2.2.2.2.2.2.1::(q++F)) (fun s=>picks.length - s.1) (fun s y ih=> ?_) (0,D,S0, [],none,0, [D],some ⟨g1,0,none⟩,1) ⟨bC _,hg0,hI,⟨hF,hst,by simp,aY _⟩,aY _⟩) Zg ((bY (bU hK leA)).trans (bB (Zm evC 9 47 _) (bB (Vv _) leA)));try dsimp only at y ih|-
 obtain ⟨hi,hg,p,c,j0⟩:=y;obtain ⟨i,h,S,L,ea,ec,A,aa,ac⟩:=s;dsimp only at*;refine xx 8 ?_;refine xp 18 ?_ ?_<;>intro h0
 . have d:i<picks.length:=(by omega);subst hg;have d0: ∀ r,Kn (docM h::r) fun M=>DC.At M h:=fun r=>fK;have c0:=hk _ (aA d)
   refine Zs (hs.le leA) (by rw [aG];omega) fun b1 o1 a0=> ?_;have n:=hs;rw [a0] at n;refine rg [5,0,1,2,3,3023,4,5] a0 n ?_;refine Z7 (fl:= [⟨10,10,fun g=> pt g,fun g=>pto g Ad⟩,⟨11,11,fun g=> pt g,fun g=>pto g Ag⟩]) ?_;refine Ji 5 ⟨⟨_,rfl,rfl,rfl,rfl,rfl,rfl,fun q=>bA zeroValue70⟩,⟨_,rfl,rfl,rfl,rfl,rfl,rfl,fun q=>bA zeroValue47⟩,trivial⟩ call26 (aD _) (I3 (D:=h) (S0:=S) (N:=N+i) ((d0 _).le leA) p c.f hM (by omega) c0) ?_ (hL:=(hlF (cH n d)));rintro _ _ ⟨D2,a,rfl,rfl,z,f0,b0⟩;refine ⟨trivial,?_⟩;simp only [evL,ca,na];refine Vl 6 ⟨⟨_,rfl,rfl,rfl,rfl,rfl,rfl,fun q=>bA zeroValue70⟩,⟨_,rfl,rfl,rfl,rfl,rfl,rfl,fun q=>bA zeroValue47⟩,trivial⟩ (jM rfl) ?_;refine Vl 7 ⟨⟨_,rfl,rfl,rfl,rfl,rfl,rfl,fun q=>bA zeroValue70⟩,⟨_,rfl,rfl,rfl,rfl,rfl,rfl,fun q=>bA zeroValue47⟩,trivial⟩ (eB rfl rfl) ?_;refine Vl 8 ⟨⟨_,rfl,rfl,rfl,rfl,rfl,rfl,fun q=>bA zeroValue70⟩,⟨_,rfl,rfl,rfl,rfl,rfl,rfl,fun q=>bA zeroValue47⟩,trivial⟩ (eB rfl rfl) ?_;refine Vl 9 ⟨⟨_,rfl,rfl,rfl,rfl,rfl,rfl,fun q=>bA zeroValue70⟩,⟨_,rfl,rfl,rfl,rfl,rfl,rfl,fun q=>bA zeroValue47⟩,trivial⟩ (eB rfl rfl) ?_;refine Yn (e0:=⟨10,10,fun g=> pt g,fun g=>pto g Ad⟩) (hnd:=by simp) 10 ⟨⟨_,rfl,rfl,rfl,rfl,rfl,rfl,fun q=>bA zeroValue70⟩,⟨_,rfl,rfl,rfl,rfl,rfl,rfl,fun q=>bA zeroValue47⟩,trivial⟩ fun w=> ?_;change XF _ _ _ _ _ _ _ [⟨11,11,fun g=> pt g,fun g=>pto g Ag⟩] _ _ _ ((10,.pointer (some ⟨w,0,none⟩))::_) _ _ (pto w Ad::_);refine Yn (e0:=⟨11,11,fun g=> pt g,fun g=>pto g Ag⟩) (hnd:=by simp) 11 ⟨⟨_,rfl,rfl,rfl,rfl,rfl,rfl,fun q=>bA zeroValue47⟩,trivial⟩ fun t=> ?_;change XF _ _ _ _ _ _ _ [] _ _ _ ((11,.pointer (some ⟨t,0,none⟩))::_) _ _ (pto t Ag::_);refine dO ?_;refine rn [13,14,15,0,1] ?_;rcases hbb:(S.dstep h.g.er.pr picks[i]).2.2 with _|_
   . have j:=c.stop d hbb;refine xo 3 ?_;refine Zi (bO rfl) ?_;refine rn [1,2032,4,0,2,0,3] ?_;refine Zq (docM h::(Ta ea ec L++q)) func32 (Rh results32) ⟨_,rfl,h,L,ea,aa,ec,A.length,ac,rfl,rfl,rfl,by rw [<-j.1];exact p,j.2,by have:=c.l;omega,by rw [<-j.1];exact c.o⟩ (by unfold Ta;exact leA)
   have i0:=c.next hM d hbb b0;refine xo 3 ?_;refine Zi (bO rfl) ?_;refine rn [1,1032,4,0,0,4,0] ?_;refine bI (Zl (u:=a) evC underlying37 C8 rfl rfl Jj rfl) ?_;rintro _ _ ⟨g3,rfl,rfl⟩;refine bI (Zu (f:=evC) (l:=L) (m:= [a]) underlying37 C8 rfl rfl Jj rfl rfl Zj ((aV _).le leA) Zjw (by have:=c.l;simp;omega) (by have:=c.l;simp;omega)) ?_;rintro _ _ ⟨a3,c3,rfl,rfl⟩;refine rn [4,0] ?_;refine bI (Zl (u:=D2) Y3 underlying81 Dg rfl rfl Gh rfl) ?_;rintro _ _ ⟨g4,rfl,rfl⟩;refine bI (Zu (f:=Y3) (l:=A) (m:= [D2]) underlying81 Dg rfl rfl Gh rfl rfl Zj ((aV _).le leA) docC_one (by simp;omega) (by simp;omega)) ?_;rintro _ _ ⟨a4,c4,rfl,rfl⟩;refine ox 8 ?_;refine bK (q':=stars ((L++ [a]).map fun x=>stars (evL x))::_) (bB (b:=stars (AJ L)::rsH acC 3 140 a.aa a.ac a.e.acc::rsH snC 3 50 a.na a.nc a.e.syn::_) (bP Zj (bP Zj Zj)) (bB (dJ _ (Yk (evL a) _)) (by rw [aT];exact Le.stars_snoc _ _ _))) ?_;refine aZ (ih (i+1,D2,(S.dstep h.g.er.pr picks[i]).1,L++ [a],a3,c3,A++ [D2],a4,c4) ⟨by dsimp only;omega,z,f0,i0,by simp;omega⟩ (by dsimp only;omega)) Zg leA
 have j:=c.done (show i=picks.length by omega);refine rn [4,0,2,0,3] ?_;refine Zq (docM h::(Ta ea ec L++q)) func32 (Rh results32) ⟨_,rfl,h,L,ea,aa,ec,A.length,ac,rfl,rfl,hg,by rw [<-j.1];exact p,j.2,by have:=c.l;omega,by rw [<-j.1];exact c.o⟩ (by unfold Ta;exact leA)
theorem Sees.evA :Sees (stars (evL x)::q) x.aa (x.e.acc.flatMap acC):=Sees.le (aV _) (Z3 (evL x) q)
theorem Sees.evB :Sees (stars (evL x)::q) x.na (x.e.syn.flatMap snC):=Sees.le (Sees.there (aV _)) (Z3 (evL x) q)
structure EvS (q:List HP) (a:Option Addr) (x:List EvC):Prop where
 s:Sees q a (x.flatMap evC)
 a: ∀ i (h:i<x.length),Sees q x[i].aa (x[i].e.acc.flatMap acC)
 n: ∀ i (h:i<x.length),Sees q x[i].na (x[i].e.syn.flatMap snC)
 l: ∀ i (h:i<x.length),x[i].e.acc.length<=9223372036854775807/\x[i].e.syn.length<=9223372036854775807
variable {a b:Option Addr}{c d:Nat}{x y:List EvC}
theorem Cg (hm:x.map EvC.e=y.map EvC.e)(h1:EvS q a x)(h2:EvS q b y)(hl:x.length<=1000):CallF prog G 33 [.slice a x.length c,.slice b y.length d] (q) (Am q):=by
 refine aC func33 ntmps33 rfl fun F cs=> ?_;have t:x.length=y.length:=(by have:=bL List.length hm;simpa using this);have m:=Zv Jj x;have j:=Zv Jj y;refine xx 13 ?_;refine Ux 10 ?_ rfl (by rw [t];exact bne_self_eq_false _);refine xx 8 ?_;refine aZ (cD (fun (s:Nat)=>s<=x.length) (fun s=> [(0,.slice a x.length c),(1,.slice b y.length d),(5,I64 s)]) (fun s=>q++F) (fun s=>x.length - s) (fun s o ih=> ?_) 0 (bC _)) Zg leA;try dsimp only at o ih|-
 obtain hi:=o;refine xx 8 ?_;refine dH 14 rfl ?_ ?_<;>intro h0
 . replace h0:=sp h0;have g:s<x.length:=(by omega);have f:s<y.length:=(by omega);have he:x[s].e=y[s].e:=(by have:=bL (fun l=>l[s]?) hm;simpa [eR,aH g,aH f] using this);have hA:=h1.a s g;have hN:=h1.n s g;have hB:=h2.a s f;have hO:=h2.n s f;have hL:=h1.l s g;have i:=h1.s;have h:=h2.s;refine Zs (i.le leA) (by rw [m];omega) fun ab ao r=> ?_;rw [r] at i;refine Zs (h.le leA) (by rw [j];omega) fun bb bo p=> ?_;rw [p] at h;obtain ⟨X1,hX⟩:=lA x[s];obtain ⟨Y1,hY⟩:=lA y[s];rw [<-hX] at he hA hN hL;rw [<-hY] at he hB hO;have z: ∀ (Q:List HP),Le Q q-> ∀ (k:Nat) (u:Value),(evC X1)[k]? =some u->Cl Q ⟨ab,ao+(s:Int).toNat*9+k,none⟩ u:=fun Q hQ k u v=>cF (n:=s) i hQ Jj g rfl k u (by rw [<-hX];exact v)
   have w: ∀ (Q:List HP),Le Q q-> ∀ (k:Nat) (u:Value),(evC Y1)[k]? =some u->Cl Q ⟨bb,bo+(s:Int).toNat*9+k,none⟩ u:=fun Q hQ k u v=>cF (n:=s) h hQ Jj f rfl k u (by rw [<-hY];exact v)
   refine rf [5,0,1,2,3017,3] r ?_;refine iM 3 (us:=evC X1) rfl rfl isAgg47 sizeOf47 rfl (z _ leA) ?_;refine rf [5,6,3021,7] p ?_;refine iM 7 (us:=evC Y1) rfl rfl isAgg47 sizeOf47 rfl (w _ leA) ?_;refine Yx 8 call27 (Ja (x:=X1) (y:=Y1) he (hA.le leA) (hB.le leA) (hN.le leA) (hO.le leA) hL) ?_;refine Vx 9 rfl (bO rfl) ?_;refine rn [0,1026,8] ?_;refine aZ (ih (s+1) (by omega) (by omega)) Zg leA
 refine xx 6 ?_;refine Zq (q) func33 (Zh results33 rfl) ⟨_,rfl,rfl,rfl⟩
end
end Go.Proofs.YtflkjkhijcdbaaaGreat
