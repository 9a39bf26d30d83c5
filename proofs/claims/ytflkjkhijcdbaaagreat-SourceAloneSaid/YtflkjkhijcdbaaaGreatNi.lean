/- Contracts. -/
import Derived.Test.YtflkjkhijcdbaaaGreatNh
set_option maxHeartbeats 16000000
set_option maxRecDepth 100000
set_option linter.all false
namespace Go.Proofs.YtflkjkhijcdbaaaGreat
open Go Go.RowKit Wx Go.Proofs.Tryz
attribute [local irreducible] lsH rsH stars
variable {p:PPr}{s:SS}{G:World}{q F:List HP}{pp n N who i:Nat}{g:FC}{U U' σ1:StC}{ev:PEv}{x k sl ot u z V W:Int}{bb lo:Bool}{picks l:List Int}{L r:List PStm}{t:PTr}{c v:UInt8}{a b:List Nat}{ts:List Tk}{f:Fnd}{nm wt:ByteArray}
def SS.outc (p:PPr)(s:SS):POut:=if s.out.kind=4 then s.out else (s.stands p).out
def otC (x:POut):List Value:= [I64 x.kind,I64 x.trap,I64 x.th,I64 x.stmt]
structure VwC where
 decl:Int
 st:Int
 la:Option Addr
 lc:Nat
 loc:List Int
 nx:Int
 sa:Option Addr
 sc:Nat
 sp:List Int
theorem all_zero (h: ¬s.out.kind=4):({ s with out:=⟨1,0,0,0⟩ } :SS).all p=s.all p:=by
 unfold SS.all;congr 1;apply List.filter_congr;intro n _;unfold SS.can SS.th;simp only [show ¬ ((1:Int)=4) by decide,h]
section
variable {p:Nat}
abbrev AF :=((.cells zz0.toArray 41 (0,0)):Obj)
theorem Nh (hok:SS.ok g.er N U.er)(hN:N<=900)(hTd:Kn q fun M=>TodoAt M U.ths):CallF prog G 22 [.pointer (some ⟨p,0,none⟩)] (stP p pp U::(Zr U++q)) (Ret fun v q'=>v= .agg (otC (U.er.outc g.er.pr)).toArray/\q'=stP p pp U::(Zr U++q)):=by
 refine aC func22 ntmps22 rfl fun F cs=> ?_;change X _ _ _ _ _ _ _ _ (pto p (AH pp U)::lsH I64 2 U.ca U.cc U.cells::yH U.sp U.sy::rsH trC 5 116 U.ha U.hc U.ths::stars (U.ths.map trH)::(q++F));have k:=Zx Zd U.ths;have h8:U.ths.length<=8:=by have:=hok.t.2;rwa [eP] at this
 have a0:1<=U.ths.length:=by have:=hok.t.1;rwa [eP] at this
 refine Yw (l:=U.ths) (by omega) fun ga o=> ?_;have w: ∀ r,Sees (rsH trC 5 116 U.ha U.hc U.ths::r) (some ⟨ga,0,none⟩) (U.ths.flatMap trC):=fun r=>by rw [<-o];exact bE r
 obtain ⟨R,a⟩:=kL (U.er.outc g.er.pr);rw [<-a];unfold SS.outc at a;refine xo 2 ?_;refine bW zeroValue41 fun i=> ?_
 refine oo 5 ?_;refine aO call49 (Q7 (p:=p) (pp:=pp) clA) ?_;refine Zt (bV rfl) ?_;refine rn [1,1006,9,0,2] ?_;refine xp 13 ?_ ?_<;>intro m
 . rw [if_pos (show U.er.out.kind=4 from m)] at a;refine rn [6,0,0,1] ?_;refine Zq (stP p pp U::(Zr U++q)) func22 (rA_ results22) ⟨_,rfl,by rw [a];rfl,rfl⟩
 have e: ¬U.er.out.kind=4:=m;rw [if_neg e] at a;unfold SS.stands at a;dsimp only at a;rw [all_zero e] at a;refine xo 6 ?_;refine Zb call40 leA (On (p:=p) (pp:=pp) (U:=U) (q:=pto i AF::(q++F)) hok hN (hTd.le leA)) ?_;rintro _ _ ⟨a1,c1,rfl,rfl⟩;refine ox 3 ?_;refine xp 21 ?_ ?_<;>intro h2
 . rw [if_pos (by omega)] at a;refine rn [4,0,1] ?_;refine Zq (stP p pp U::(Zr U++q)) func22 (rA_ results22) ⟨_,rfl,by rw [a];rfl,rfl⟩
 rw [if_neg (by omega)] at a;dsimp only at a;refine rn [8,0,4] ?_;refine aY (cG (fun (s:Nat)=>s<=U.ths.length/\ ∀ t∈U.ths.take s,t.st=4) (fun s=> [(0,.pointer (some ⟨p,0,none⟩)),(2,pt i),(27,I64 U.ths.length),(28,I64 s)]) (fun s=>pto i AF::pto p (AH pp U)::lsH I64 2 U.ca U.cc U.cells::yH U.sp U.sy::rsH trC 5 116 U.ha U.hc U.ths::stars (U.ths.map trH)::(q++F)) (fun s=>U.ths.length - s) (fun s h j=> ?_) 0 ⟨bB _,by simp⟩) Zu leA;try dsimp only at h j|-
 obtain ⟨y,d⟩:=h;refine xx 5 ?_;refine xp 29 ?_ ?_<;>intro h0
 . have c:s<U.ths.length:=(by omega);refine rf [14,0,1,3034,2] o ?_;refine ld ?_ (hc:=(cT (n:=s) (w _) leA Zd c rfl 1 _ rfl));refine ox 2 ?_;refine xp 39 ?_ ?_<;>intro z
   . refine rn [4,0,1] ?_;refine Zq (stP p pp U::(Zr U++q)) func22 (rA_ results22) ⟨_,rfl,by rw [a,if_neg (by rw [Bool.not_eq_true];exact List.all_eq_false.2 ⟨(U.ths[s]).er,aP (f:=TC.er) (aB c),by rw [dC];exact z⟩)];rfl,rfl⟩
   refine xx 7 ?_
   refine aY (j (s+1) ⟨by omega,fun t b=>by
    rw [aH c] at b;rcases aQ.1 b with b|b
    . exact d t b
    rw [aZ.1 b];omega⟩ (by omega)) Zu leA
 obtain rfl:s=U.ths.length:=(by omega);rw [cD] at d;refine rn [5,0,1] ?_;refine Zq (stP p pp U::(Zr U++q)) func22 (rA_ results22) ⟨_,rfl,by rw [a,if_pos (cC.2 fun t b=>by obtain ⟨x,u,rfl⟩:=bU.1 b;rw [dC];exact d x u)];rfl,rfl⟩
theorem Zzs (hl:U.cells.length<=1000000):CallF prog G 21 [.pointer (some ⟨p,0,none⟩)] (stP p pp U::(Zr U++q)) (Ret fun v q'=> ∃ a' c',v= .slice a' U.cells.length c'/\q'=lsH I64 2 a' c' U.cells::stP p pp U::(Zr U++q)):=by
 refine aC func21 ntmps21 rfl fun F c=> ?_;change X _ _ _ _ _ _ _ _ (pto p (AH pp U)::lsH I64 2 U.ca U.cc U.cells::yH U.sp U.sy::rsH trC 5 116 U.ha U.hc U.ths::stars (U.ths.map trH)::(q++F));refine xo 8 ?_;refine aO call49 (Q7 (p:=p) (pp:=pp) clA) ?_;refine Zt (bV rfl) ?_;refine rn [1,1005,7,0] ?_;refine Zb call50 (aE _) (Qb (l:=U.cells) ((bR _).le leA) (by omega)) ?_;rintro _ _ ⟨b,a,rfl,rfl⟩;refine ox 2 ?_;refine Zq (lsH I64 2 b a U.cells::stP p pp U::(Zr U++q)) func21 (Zn results21 rfl) ⟨_,rfl,b,a,rfl,rfl⟩
end
def zE0:PEv:=zEv 0 0
def SS.doP (p:PPr)(s:SS)(n:Int):SS×PEv×Int:=
 if n<0\/(s.ths.length:Int)<=n then (s,zE0,2) else if s.all p= [] then (s,zE0,150) else if s.can p n.toNat=false then (s,zE0,151)
 else ((s.step p n.toNat).1.pg,(s.step p n.toNat).2,0)
theorem Rg: ∀ (l:List Int) (s:SS),(s.wake l).out=s.out
 | [],_=>rfl
 |i::r,s=>by show (SS.wake _ r).out=_;rw [Rg r];rfl
theorem Rh (s:SS)(n:Nat)(k:Int)(b:Bool)(v:Int):(s.into n k b v).1.out=s.out:=by unfold SS.into SS.put;split<;>rfl
theorem Il :(s.did p n).1.out=s.out:=by
 unfold SS.did;dsimp only;split
 . rfl
 generalize (s.th n).next=x;split
 . obtain ⟨k,f,i,nm,wt,e,g,c,d,h,b,a,loc⟩:=x;unfold SS.data;dsimp only;(repeat' split)<;>first|rfl|(rw [Rh];rfl)
 obtain ⟨k,f,i,nm,wt,e,g,c,d,h,b,a,loc⟩:=x;unfold SS.others;dsimp only;(repeat' split)<;>first|rfl|(rw [Rh];rfl)|(dsimp only;rw [Rg];rfl)
theorem G3 :(s.ended n ev).1.out=s.out:=by unfold SS.ended SS.put;split<;>rfl
theorem SS.pg_pg (s:SS):s.pg.pg=s.pg:=by unfold SS.pg;dsimp only;split<;>simp_all [Bw]
theorem Lb (h:s.can p n=true):s.out.kind≠4:=by
 intro e;unfold SS.can at h;dsimp only at h;rw [if_pos (.inl e)] at h;cases h
theorem SS.out_z (h:s.pg=s)(k:s.out.kind≠4):s.out=Bw:=by
 have:=bK SS.out h;unfold SS.pg at this;dsimp only at this;rw [if_neg k] at this;exact this.symm
theorem Hq (h:s.pg=s)(hc:s.can p n=true)(ht:(s.did p n).2.2=0):(s.step p n).1.pg=((s.did p n).1.ended n (s.did p n).2.1).1/\(s.step p n).2=((s.did p n).1.ended n (s.did p n).2.1).2:=by
 rw [Nb,if_neg (fun k=>k ht)];refine ⟨?_,rfl⟩;dsimp only;rw [Zqn];have:((s.did p n).1.ended n (s.did p n).2.1).1.out=Bw:=by rw [G3,Il];exact SS.out_z h (Lb hc)
 rw [<-this]
theorem G1 (ht:(s.did p n).2.2≠0):(s.step p n).1.pg= { s with out:=⟨4,(s.did p n).2.2,n,(s.th n).next.idn⟩ } /\(s.step p n).2= { zEv n (s.th n).next.idn with trap:=(s.did p n).2.2,acc:=(s.did p n).2.1.acc } :=by
 rw [Nb,if_pos ht];exact ⟨by unfold SS.pg;rw [if_pos rfl],rfl⟩
theorem G4 {x:PStm}:(s.data p n x ev).2.1.stmt=ev.stmt:=by
 obtain ⟨k,f,i,nm,wt,e,g,c,d,h,b,a,loc⟩:=x;unfold SS.data;dsimp only;(repeat' split)<;>rfl
theorem Ez {x:PStm}:(s.others p n x ev).2.1.stmt=ev.stmt:=by
 obtain ⟨k,f,i,nm,wt,e,g,c,d,h,b,a,loc⟩:=x;unfold SS.others;dsimp only;(repeat' split)<;>rfl
theorem Lw :(s.did p n).2.1.stmt=(s.th n).next.idn:=by
 unfold SS.did;dsimp only;split
 . rfl
 split
 . rw [G4];rfl
 rw [Ez];rfl
structure Hd (q:List HP) (pp:Nat) (g:FC) (N:Nat) (U:StC):Prop where
 P:Prg q pp g
 M:MayP g.er
 F:SS.fine g.er N U.er
 G:U.er.pg=U.er
 T:Kn q fun M=>TodoAt M U.ths
section
variable {p:Nat}{ev:EvC}
theorem do2_ok (E:List HP)(hP:Prg q pp g)(hM:MayP g.er)(hF:SS.fine g.er N U.er)(hN:N<=899)(hwho:who<U.ths.length)(hc:U.er.can g.er.pr who=true)(hTd:Kn q fun M=>TodoAt M U.ths)(hev:ev.e=zEv who (U.er.th who).next.idn):CallF prog G 61 (A8 p) (Zw p pp who U ev++(E++(q++F))) (Ret fun v q'=> ∃ (U':StC) (ev':EvC),(((U.er.did g.er.pr who).2.2=0/\v= I64 0/\U'.er=((U.er.did g.er.pr who).1.ended who (U.er.did g.er.pr who).2.1).1/\ev'.e=((U.er.did g.er.pr who).1.ended who (U.er.did g.er.pr who).2.1).2/\Kn q fun M=>TodoAt M U'.ths)\/((U.er.did g.er.pr who).2.2≠0/\v= I64 (U.er.did g.er.pr who).2.2/\ev'.e=(U.er.did g.er.pr who).2.1))/\q'=Zw p pp who U' ev'++(E++(q++F))):=
 dF (pre':=(Zw p pp who U ev++q)++(E++F)) (by rw [aA];exact dH _ (Vw E q F)) (Mh (E++F) (do_ok hP hM hF hN hwho hc hTd hev)) (by
  rintro _ _ ⟨_,⟨v,rfl,U',ev',h,rfl⟩,rfl⟩;exact ⟨_,⟨v,rfl,U',ev',h,rfl⟩,by rw [aA];exact dH _ (Vw q E F)⟩)
abbrev Aj :=(⟨zE0,none,0,none,0⟩:EvC)
abbrev AU :=((.cells (evC Aj).toArray 47 (0,0)):Obj)
theorem SDo_ok (hH:Hd q pp g N U)(hN:N<=899):CallF prog G 30 [.pointer (some ⟨p,0,none⟩),I64 z] (stP p pp U::(Zr U++q)) (Ret fun v q'=> ∃ (x:EvC) (U':StC) (e:Int),v= .tuple [.agg (evC x).toArray,I64 e].toArray/\q'=stP p pp U'::(Zr U'++(evL x++q))/\(Kn q fun M=>TodoAt M U'.ths)/\SS.doP g.er.pr U.er z=(U'.er,x.e,e)):=by
 refine aC func30 ntmps30 rfl fun F cs=> ?_;obtain ⟨hP,hM,hF,hG,d⟩:=hH;have f:=hF.ok;have j:U.er.ths.length=U.ths.length:=eP U;have h8:=f.t.2;rw [j] at h8;have t0:=f.t.1;rw [j] at t0;change X _ _ _ _ _ _ _ _ (stP p pp U::lsH I64 2 U.ca U.cc U.cells::yH U.sp U.sy::rsH trC 5 116 U.ha U.hc U.ths::stars (U.ths.map trH)::(q++F));refine Yw (l:=U.ths) (by omega) fun ga e_=> ?_;have hr: ∀ r,Sees (rsH trC 5 116 U.ha U.hc U.ths::r) (some ⟨ga,0,none⟩) (U.ths.flatMap trC):=fun r=>by rw [<-e_];exact bE r
 refine xo 2 ?_;refine bW zeroValue47 fun n1=> ?_
 refine oo 7 ?_;refine aO call49 (Q7 (p:=p) (pp:=pp) clA) ?_;refine Zt (bV rfl) ?_;refine rn [2,1008] ?_;have f0:z<0\/(¬z<0/\(U.ths.length:Int)<=z)\/(0<=z/\z<U.ths.length):=(by omega);rcases f0 with hz|hz|hz
 focus
  refine xo 6 ?_;refine XO.kt 16 ?_ rfl (aN hz);refine oo 14 ?_
 rotate_left
 focus
  refine xo 6 ?_;refine XO.kf 16 ?_ rfl (aW hz.1);refine rn [4,0,5,2013,4] ?_
 rotate_left
 . refine rn [6,1016,4,0,5,1013,4] ?_;obtain ⟨n,rfl⟩:=aV hz.1;have hn:n<U.ths.length:=(by omega);have i: ¬ ((n:Int)<0\/(U.er.ths.length:Int)<=n):=(by rw [j];omega);refine Zb call40 leA (On (p:=p) (pp:=pp) (U:=U) (q:=pto n1 _::(q++F)) f (by omega) (d.le leA)) ?_;rintro _ _ ⟨a1,c1,rfl,rfl⟩;refine ox 4 ?_;refine xp 26 ?_ ?_<;>intro h2
   . have u:=aK (show (U.er.all g.er.pr).length=0 by omega);refine rn [4,0,2] ?_;skip;refine bY (Zi acC 3 140 _) (bY (Zi snC 3 50 _) ?_);refine Zq (stP p pp U::(Zr U++(evL Aj++q))) func30 (N1 results30) ⟨_,rfl,Aj,U,150,rfl,rfl,d,by unfold SS.doP;rw [if_neg i,if_pos u]⟩ (by unfold Zr evL;exact leA)
   have u: ¬U.er.all g.er.pr= []:=(fun k=>by rw [k] at h2;exact h2 rfl);refine xo 5 ?_;refine Zb call59 leA (X0 (p:=p) (pp:=pp) (U:=U) (n:=n) (q:=pto n1 _::(q++F)) f (by omega) hn (d.le leA)) ?_;rintro _ _ ⟨rfl,rfl⟩;refine Zt (bV rfl) ?_;refine ox 2 ?_;refine xp 32 ?_ ?_<;>intro h3
   . refine rn [4,0,2] ?_;skip;refine bY (Zi acC 3 140 _) (bY (Zi snC 3 50 _) ?_);refine Zq (stP p pp U::(Zr U++(evL Aj++q))) func30 (N1 results30) ⟨_,rfl,Aj,U,151,rfl,rfl,d,by unfold SS.doP;rw [if_neg i,if_neg u,if_pos (by simpa using h3)]⟩ (by unfold Zr evL;exact leA)
   have hc:U.er.can g.er.pr n=true:=(by simpa using h3);have q0:U.cells.length<=1000000:=(by have h:=f.c;have h2:=hM.l.1;have h3:=hM.s;have h4:(U.er.cells.length:Int)=U.cells.length:=rfl;omega)
   have hR:=hF.ready (p:=g.er.pr) (by rw [j];exact hn) hc;have w:U.er.th n=(U.ths[n]).er:=Ze hn;have n0:U.ths[n].todo≠ []:=by
    have h1:=hR.l;rw [w] at h1;intro e;rw [<-Qr] at e;rw [e] at h1;cases h1
   obtain ⟨⟨yb,yo,ys⟩,j0,i0,y0,x0,c0⟩:=R9 n0;rw [<-w] at c0;dsimp only at c0;have k0:=(f.at hn).n;rw [Va] at k0;have g0:Kn q fun M=>PS.At M ⟨yb,yo,ys⟩:=d.imp fun M h=>h U.ths[n] (aB hn) _ i0
   have s0:Cl q ⟨yb,yo+21,none⟩ (I64 ys.er.idn):=by have h:=eR g0;obtain ⟨kk,ln,cl,nm,wt,⟨ek,en,f1,z0,g1,d1,el,ea,ec⟩,⟨xk,xn,v0,xsl,w0,u0,xl,xa,xc⟩,bd,b1,ba,bc,j1,i1,id,sl,ot,lo⟩:=ys;exact h 21 _ rfl
   refine xo 6 ?_;refine Zb call37 leA (SCopy_ok (p:=p) (pp:=pp) (U:=U) (q:=pto n1 AU::(q++F)) f (by omega) q0) ?_;rintro _ _ ⟨p2,b0,m,m0,rfl,rfl⟩;refine rn [1,0,2] ?_;refine Ww fun n2=> ?_
   refine rf [10,0,1,3051,1] e_ ?_;refine aO call60 (Kv (b:=ga) (o:=0+(n:Int).toNat*5) (todo:=U.ths[n].todo) (cT (n:=n) (hr _) leA Zd hn rfl 3 _ rfl) ((Sees.todo hn).le leA) (by omega)) ?_;refine bA 54 (.pointer (some ⟨yb,yo,none⟩)) rfl (by rw [j0];rfl) ?_;refine oo 2 ?_;refine ld ?_ (hc:=(s0.le leA));refine rn [3,0,3,0,5] ?_;have p0:b0.ths.length=U.ths.length:=by rw [<-eP,m,eP]
   have o0:n<b0.ths.length:=(by rw [p0];exact hn);refine eU (Zi acC 3 140 _) (eU (Zi snC 3 50 _) ?_);refine Zb call61 (by unfold Zw spP Zr evL;exact leA) (do2_ok (p:=n2) (pp:=pp) (who:=n) (U:=b0) (ev:=(⟨zEv n ys.er.idn,none,0,none,0⟩:EvC)) (q:=q) (F:=F) (pto n1 AU::stP p pp U::lsH I64 2 U.ca U.cc U.cells::yH U.sp U.sy::rsH trC 5 116 U.ha U.hc U.ths::stars (U.ths.map trH):: []) hP hM (by rw [m];exact hF) (by omega) o0 (by rw [m];exact hc) (d.imp fun M h=>iV m0 h) (by rw [m,c0])) ?_;rintro _ _ ⟨a0,a,d0,e0⟩;simp only [Zw,spP,Zr,evL,ca,na] at e0;subst e0;rw [m] at d0;obtain ⟨D,hD⟩:=kL (U.er.did g.er.pr n);rw [<-hD] at d0;have y:=Lw (p:=g.er.pr) (s:=U.er) (n:=n);rw [<-hD] at y;rcases d0 with ⟨h0,rfl,hE,hV,r0⟩|⟨h0,rfl,hV⟩
   . refine rn [7,1067,8,0,1,0,6,0,0,2] ?_;refine Zq (stP p pp a0::(Zr a0++(evL a++q))) func30 (N1 results30) ⟨_,rfl,a,a0,0,rfl,rfl,r0,by unfold SS.doP;rw [if_neg i,if_neg u,if_neg (by rw [show ((n:Int)).toNat=n from rfl,hc];decide),show ((n:Int)).toNat=n from rfl];obtain ⟨e1,e2⟩:=Hq hG hc (by rw [<-hD];exact h0);rw [e1,e2,<-hD,hE,hV]⟩ (by unfold stP Zr evL;exact leA)
   have l0:a.e.stmt=(U.er.th n).next.idn:=by rw [hV];exact y
   refine ox 7 ?_;refine X.kt 67 ?_ rfl (iY.2 h0);refine rn [10,0,3,0,2,0,1,2,3,4,5,6,7,8,9,10,11,12,13,14,15,0] ?_;refine bY (Zi snC 3 50 _) ?_;refine Zq (stP p pp ({ U with out:=⟨4,D.2.2,n,a.e.stmt⟩ } :StC)::(Zr ({ U with out:=⟨4,D.2.2,n,a.e.stmt⟩ } :StC)++(evL (⟨{ zEv n a.e.stmt with trap:=D.2.2,acc:=a.e.acc },a.aa,a.ac,none,0⟩:EvC)++q))) func30 (N1 results30) ⟨_,rfl,(⟨{ zEv n a.e.stmt with trap:=D.2.2,acc:=a.e.acc },a.aa,a.ac,none,0⟩:EvC),({ U with out:=⟨4,D.2.2,n,a.e.stmt⟩ } :StC),0,rfl,rfl,d,by unfold SS.doP;rw [if_neg i,if_neg u,if_neg (by rw [show ((n:Int)).toNat=n from rfl,hc];decide),show ((n:Int)).toNat=n from rfl];obtain ⟨e1,e2⟩:=G1 (p:=g.er.pr) (s:=U.er) (n:=n) (by rw [<-hD];exact h0);rw [e1,e2,<-hD,<-l0,hV];rfl⟩ (by unfold stP Zr evL;exact leA)
 all_goals
  refine rn [0,2] ?_;skip;refine bY (Zi acC 3 140 _) (bY (Zi snC 3 50 _) ?_);refine Zq (stP p pp U::(Zr U++(evL Aj++q))) func30 (N1 results30) ⟨_,rfl,Aj,U,2,rfl,rfl,d,by unfold SS.doP;rw [if_pos (by omega)]⟩ (by unfold Zr evL;exact leA)
end
theorem SS.fine.pg {F:Fnd}(h:s.fine F N):s.pg.fine F N:=h.out _
theorem SS.fine.doP {F:Fnd}(h:s.fine F N)(hM:MayP F)(z:Int):(s.doP F.pr z).1.fine F (N+1):=by
 unfold SS.doP;split
 . exact h.mono (cX N)
 rename_i b;split
 . exact h.mono (cX N)
 split
 . exact h.mono (cX N)
 rename_i a;exact (h.step hM (n:=z.toNat) (by omega) (by simpa using a)).pg
theorem Zzl (h:s.pg=s)(z:Int):(s.doP p z).1.pg=(s.doP p z).1:=by
 unfold SS.doP;split
 . exact h
 split
 . exact h
 split
 . exact h
 exact SS.pg_pg _
theorem Hd.next (h:Hd q pp g N U)(e:(SS.doP g.er.pr U.er z).1=U'.er)(hT:Kn q fun M=>TodoAt M U'.ths):Hd q pp g (N+1) U':=
 ⟨h.P,h.M,e ▸ h.F.doP h.M z,e ▸ Zzl h.G z,hT⟩
theorem Hd.mono {N':Nat}(h:Hd q pp g N U)(l:N<=N'):Hd q pp g N' U:=⟨h.P,h.M,h.F.mono l,h.G,h.T⟩
def SS.ix (k:Int)(n:Nat):Nat:=((k.tmod n+n).tmod n).toNat
def SS.stepP (p:PPr)(s:SS)(k:Int):SS×PEv×Int:=
 if s.all p= [] then (s,zE0,150) else s.doP p ((s.all p).getD (SS.ix k (s.all p).length) 0)
theorem Hd.step (h:Hd q pp g N U)(e:(SS.stepP g.er.pr U.er k).1=U'.er)(hT:Kn q fun M=>TodoAt M U'.ths):Hd q pp g (N+1) U':=by
 unfold SS.stepP at e;split at e
 . exact ⟨h.P,h.M,e ▸ h.F.mono (cX N),e ▸ h.G,hT⟩
 exact h.next e hT
theorem ix_ok (h:0<n)(h8:n<=1000):(-(n:Int)<k.tmod n/\k.tmod n<n)/\(0<=(k.tmod n+n).tmod n/\(k.tmod n+n).tmod n<n)/\SS.ix k n<n:=by
 have c: -(n:Int)<k.tmod n/\k.tmod n<n:=by
  have e:=Int.tmod_lt_of_pos k (b:=(n:Int)) (by omega);have d:=Int.lt_tmod_of_pos k (b:=(n:Int)) (by omega);exact ⟨d,e⟩
 have a:0<=(k.tmod n+n).tmod n/\(k.tmod n+n).tmod n<n:=⟨Int.tmod_nonneg _ (by omega),Int.tmod_lt_of_pos _ (by omega)⟩;exact ⟨c,a,by unfold SS.ix;omega⟩
theorem Ej (p:PPr)(s:SS):(s.all p).length<=s.ths.length:=by
 unfold SS.all;rw [aU];exact cP (gV _ _) (Nat.le_of_eq List.length_range)
def SS.runP (p:PPr):SS->List Int->SS×List PEv
 |s, []=>(s, [])
 |s,k::r=>if s.all p= [] then (s, []) else ((SS.runP p (s.stepP p k).1 r).1,(s.stepP p k).2.1::(SS.runP p (s.stepP p k).1 r).2)
theorem Hz (p:PPr)(s:SS)(k:Int)(r:List Int):SS.runP p s (k::r)=if s.all p= [] then (s, []) else ((SS.runP p (s.stepP p k).1 r).1,(s.stepP p k).2.1::(SS.runP p (s.stepP p k).1 r).2):=by rw [SS.runP]
theorem It (h:x∈s.all p): ∃ n:Nat,x=n/\n<s.ths.length/\s.can p n=true:=by
 unfold SS.all at h;obtain ⟨n,a,rfl⟩:=bU.1 h;obtain ⟨c,b⟩:=fH.1 a;exact ⟨n,rfl,jC.1 c,b⟩
theorem Tb (h:s.all p≠ [])(h8:s.ths.length<=8): ∃ n:Nat,n<s.ths.length/\s.can p n=true/\(s.all p).getD (SS.ix k (s.all p).length) 0=n/\s.stepP p k=((s.step p n).1.pg,(s.step p n).2,0):=by
 have e:=Ej p s;obtain ⟨_,_,a⟩:=ix_ok (k:=k) (iK.2 h) (by omega);obtain ⟨n,c,d,b⟩:=It (aB a);refine ⟨n,d,b,by rw [Wl a,c],?_⟩;unfold SS.stepP SS.doP;rw [if_neg h,Wl a,c,if_neg (by omega),if_neg h,show ((n:Int)).toNat=n from rfl,b];rfl
theorem R7 (x:EvC):(evC x).length=9:=rfl
theorem evC_one (x:EvC):(evC x).all (·.oneCell')=true:=rfl
def E3 (a:Option Addr)(c:Nat)(L:List EvC):List HP:= [rsH evC 9 47 a c L,stars (L.map fun x=>stars (evL x))]
structure Goes (q:List HP) (pp:Nat) (g:FC) (N:Nat) (U:StC) (picks:List Int) (i:Nat) (U':StC) (L:List EvC):Prop where
 h:Hd q pp g (N+i) U'
 e:L.map EvC.e++(SS.runP g.er.pr U'.er (picks.drop i)).2=(SS.runP g.er.pr U.er picks).2
 s:(SS.runP g.er.pr U'.er (picks.drop i)).1=(SS.runP g.er.pr U.er picks).1
 l:L.length<=i
theorem Goes.next {σ2:StC}{L:List EvC}{x:EvC}(h:Goes q pp g N U picks i σ1 L)(hi:i<picks.length)(hn:σ1.er.all g.er.pr≠ [])(e:SS.stepP g.er.pr σ1.er picks[i]=(σ2.er,x.e,0))(hT:Kn q fun M=>TodoAt M σ2.ths):Goes q pp g N U picks (i+1) σ2 (L++ [x]):=by
 have c:picks.drop i=picks[i]::picks.drop (i+1):=aJ hi;have b:=h.e;have a:=h.s;rw [c,Hz] at b a;rw [if_neg hn,e] at b a;refine ⟨?_,?_,a,by rw [aG];have:=h.l;simp;omega⟩
 . have:=Hd.step (k:=picks[i]) h.h (by rw [e]) hT;rwa [eL] at this
 rw [aM,aA];exact b
theorem Goes.stop {L:List EvC}(h:Goes q pp g N U picks i σ1 L)(hi:i<picks.length)(hn:σ1.er.all g.er.pr= []):σ1.er=(SS.runP g.er.pr U.er picks).1/\L.map EvC.e=(SS.runP g.er.pr U.er picks).2:=by
 have c:picks.drop i=picks[i]::picks.drop (i+1):=aJ hi;have b:=h.e;have a:=h.s;rw [c,Hz] at b a;rw [if_pos hn] at b a;exact ⟨a,by rw [<-b,cA]⟩
theorem Goes.done {L:List EvC}(h:Goes q pp g N U picks i σ1 L)(hi:i=picks.length):σ1.er=(SS.runP g.er.pr U.er picks).1/\L.map EvC.e=(SS.runP g.er.pr U.er picks).2:=by
 subst hi;have b:=h.e;have a:=h.s;rw [dP] at b a;exact ⟨a,by rw [<-b];simp [SS.runP]⟩
theorem Cy:(prog.info? 47).map (fun i=>(i.zero,i.size,i.bytes))=some (some (.agg #[I64 0,I64 0,.bool false,I64 0,.slice none 0 0,.bool false,I64 0,I64 0,.slice none 0 0]),9,104):=by kernel_rfl
section
variable {p:Nat}{ev:EvC}
theorem SDo2_ok (E:List HP)(hH:Hd q pp g N U)(hN:N<=899):CallF prog G 30 [.pointer (some ⟨p,0,none⟩),I64 z] (stP p pp U::(Zr U++(E++(q++F)))) (Ret fun v q'=> ∃ (x:EvC) (U':StC) (e:Int),v= .tuple [.agg (evC x).toArray,I64 e].toArray/\q'=stP p pp U'::(Zr U'++(evL x++(E++(q++F))))/\(Kn q fun M=>TodoAt M U'.ths)/\SS.doP g.er.pr U.er z=(U'.er,x.e,e)):=
 dF (pre':=(stP p pp U::(Zr U++q))++(E++F)) (dD _ (by show Le _ ((Zr U++q)++(E++F));rw [aA];exact dH _ (Vw E q F))) (Mh (E++F) (SDo_ok hH hN)) (by
  rintro _ _ ⟨_,⟨v,rfl,x,U',e,rfl,rfl,b,a⟩,rfl⟩;exact ⟨_,⟨_,rfl,x,U',e,rfl,rfl,b,a⟩,dD _ (by show Le ((Zr U'++(evL x++q))++(E++F)) _;rw [aA,aA];exact dH _ (dH _ (Vw q E F)))⟩)
theorem Lj (hH:Hd q pp g N U)(hN:N<=899)(hk: -9223372036854775808<=k/\k<=9223372036854775807):CallF prog G 19 [.pointer (some ⟨p,0,none⟩),I64 k] (stP p pp U::(Zr U++q)) (Ret fun v q'=> ∃ (x:EvC) (U':StC) (e:Int),v= .tuple [.agg (evC x).toArray,I64 e].toArray/\q'=stP p pp U'::(Zr U'++(evL x++q))/\(Kn q fun M=>TodoAt M U'.ths)/\SS.stepP g.er.pr U.er k=(U'.er,x.e,e)):=by
 refine aC func19 ntmps19 rfl fun F cs=> ?_;have hF:=hH.F;have j:=hH.T;have h:=hF.ok;have a:U.er.ths.length=U.ths.length:=eP U;have h8:=h.t.2;rw [a] at h8;have b:=Ej g.er.pr U.er;rw [a] at b;change X _ _ _ _ _ _ _ _ (stP p pp U::lsH I64 2 U.ca U.cc U.cells::yH U.sp U.sy::rsH trC 5 116 U.ha U.hc U.ths::stars (U.ths.map trH)::(q++F));refine xo 2 ?_;refine bW zeroValue47 fun y=> ?_
 refine oo 6 ?_;refine aO call49 (Q7 (p:=p) (pp:=pp) clA) ?_;refine Zt (bV rfl) ?_;refine rn [1,1009] ?_;obtain ⟨L,m⟩:=kL (U.er.all g.er.pr);rw [<-m] at b;refine xo 5 ?_;refine Zb call40 leA (On (p:=p) (pp:=pp) (U:=U) (q:=pto y AU::(q++F)) h (by omega) (j.le leA)) ?_;rintro _ _ ⟨a1,z,rfl,rfl⟩;rw [<-m];refine ox 9 ?_;refine xp 15 ?_ ?_<;>intro h2
 . have f:=aK (show L.length=0 by omega);refine rn [4,0,2] ?_;refine bY (Zi acC 3 140 _) (bY (Zi snC 3 50 _) ?_);refine Zq (stP p pp U::(Zr U++(evL Aj++q))) func19 (N1 results19) ⟨_,rfl,Aj,U,150,rfl,rfl,j,by unfold SS.stepP;rw [if_pos (by rw [<-m];exact f)]⟩ (by unfold Zr evL;exact leA)
 have d:0<L.length:=(by omega);have f: ¬U.er.all g.er.pr= []:=(fun k=>by rw [<-m] at k;rw [k] at d;exact aR d (by decide));obtain ⟨a0,s,i⟩:=ix_ok (k:=k) d (by omega);refine Uw (l:=L) (by omega) fun gl n=> ?_;have o: ∀ r,Sees (lsH I64 3 a1 z L::r) (some ⟨gl,0,none⟩) (L.map I64):=fun r=>by rw [<-n];exact bR r
 refine xo 16 ?_;refine bA 28 (I64 (SS.ix k L.length:Int)) rfl (by unfold SS.ix;rw [Int.toNat_of_nonneg s.1]) ?_;refine rf [3018,1] n ?_;refine ld ?_ (hc:=(((o _).le leA).at (by omega) i));refine Zb call30 (by unfold Zr;exact leA) (SDo2_ok (p:=p) (pp:=pp) (U:=U) (q:=q) (F:=F) (pto y AU::lsH I64 3 a1 z L:: []) hH hN) ?_;rintro _ _ ⟨x,c,e2,rfl,rfl,u,w⟩;simp only [Zr,evL,ca,na];refine rn [2,0,2] ?_;refine Zq (stP p pp c::(Zr c++(evL x++q))) func19 (N1 results19) ⟨_,rfl,x,c,e2,rfl,rfl,u,by unfold SS.stepP;rw [if_neg f,<-m,Wl i];exact w⟩ (by unfold Zr evL;exact leA)
theorem Zzi (E:List HP)(hH:Hd q pp g N U)(hN:N<=899)(hk: -9223372036854775808<=k/\k<=9223372036854775807):CallF prog G 19 [.pointer (some ⟨p,0,none⟩),I64 k] (stP p pp U::(Zr U++(E++(q++F)))) (Ret fun v q'=> ∃ (x:EvC) (U':StC) (e:Int),v= .tuple [.agg (evC x).toArray,I64 e].toArray/\q'=stP p pp U'::(Zr U'++(evL x++(E++(q++F))))/\(Kn q fun M=>TodoAt M U'.ths)/\SS.stepP g.er.pr U.er k=(U'.er,x.e,e)):=
 dF (pre':=(stP p pp U::(Zr U++q))++(E++F)) (dD _ (by show Le _ ((Zr U++q)++(E++F));rw [aA];exact dH _ (Vw E q F))) (Mh (E++F) (Lj hH hN hk)) (by
  rintro _ _ ⟨_,⟨v,rfl,x,U',e,rfl,rfl,b,a⟩,rfl⟩;exact ⟨_,⟨_,rfl,x,U',e,rfl,rfl,b,a⟩,dD _ (by show Le ((Zr U'++(evL x++q))++(E++F)) _;rw [aA,aA];exact dH _ (dH _ (Vw q E F)))⟩)
variable {pa:Option Addr}{pc:Nat}
theorem SRun_ok (hH:Hd q pp g N U)(hN:N+picks.length<=899)(hs:Sees q pa (picks.map I64))(hk: ∀ k∈picks, -9223372036854775808<=k/\k<=9223372036854775807):CallF prog G 16 [.pointer (some ⟨p,0,none⟩),.slice pa picks.length pc] (stP p pp U::(Zr U++q)) (Ret fun v q'=> ∃ (U':StC) (L:List EvC) (a':Option Addr) (c':Nat),v= .tuple [.slice a' L.length c',.agg (otC (U'.er.outc g.er.pr)).toArray].toArray/\q'=stP p pp U'::(Zr U'++(E3 a' c' L++q))/\Hd q pp g (N+picks.length) U'/\U'.er=(SS.runP g.er.pr U.er picks).1/\L.map EvC.e=(SS.runP g.er.pr U.er picks).2/\L.length<=picks.length):=by
 refine aC func16 ntmps16 rfl fun F cs=> ?_;change X _ _ _ _ _ _ _ _ (stP p pp U::lsH I64 2 U.ca U.cc U.cells::yH U.sp U.sy::rsH trC 5 116 U.ha U.hc U.ths::stars (U.ths.map trH)::(q++F));refine xo 3 ?_;refine bW zeroValue41 fun n1=> ?_
 refine ox 13 ?_;refine aY (cG (fun (s:Nat×StC×List EvC×Option Addr×Nat)=>s.1<=picks.length/\Goes q pp g N U picks s.1 s.2.1 s.2.2.1) (fun s=> [(0,.pointer (some ⟨p,0,none⟩)),(5,pt n1),(6,.slice s.2.2.2.1 s.2.2.1.length s.2.2.2.2),(11,.slice pa picks.length pc),(12,I64 picks.length),(13,I64 (s.1:Int))]) (fun s=>stP p pp s.2.1::lsH I64 2 s.2.1.ca s.2.1.cc s.2.1.cells::yH s.2.1.sp s.2.1.sy::rsH trC 5 116 s.2.1.ha s.2.1.hc s.2.1.ths::stars (s.2.1.ths.map trH)::pto n1 AF::rsH evC 9 47 s.2.2.2.1 s.2.2.2.2 s.2.2.1::stars (s.2.2.1.map fun x=>stars (evL x))::(q++F)) (fun s=>picks.length - s.1) (fun s c0 ih=> ?_) (0,U, [],none,0) ⟨bB _,⟨hH,rfl,rfl,aL _⟩⟩) Zu (aS (Zi evC 9 47 _) (aS (W6 _) leA));try dsimp only at c0 ih|-
 obtain ⟨hi,j⟩:=c0;obtain ⟨i,σ1,L,ea,z⟩:=s;dsimp only at*;refine xx 5 ?_;refine xp 14 ?_ ?_<;>intro h0
 . have w:i<picks.length:=(by omega);refine Yd (hs.le leA) (by rw [aU];omega) fun b1 o1 a0=> ?_;have b0:=hs;rw [a0] at b0;refine rg [6,3011,1,0,6] a0 b0 ?_;refine Zb call19 (by unfold Zr;exact leA) (Zzi (p:=p) (pp:=pp) (U:=σ1) (g:=g) (N:=N+i) (q:=q) (F:=F) (pto n1 AF::rsH evC 9 47 ea z L::stars (L.map fun x=>stars (evL x)):: []) j.h (by omega) (hk _ (aB w))) ?_;rintro _ _ ⟨x,c,e2,rfl,rfl,d0,n⟩;simp only [Zr,evL,ca,na];refine oo 3 ?_;refine bW zeroValue47 fun n2=> ?_
   refine rn [0,8] ?_;have i0:=j.h.F.ok.t.2;by_cases hal:σ1.er.all g.er.pr= []
   . have d:=n;unfold SS.stepP at d;rw [if_pos hal] at d;obtain ⟨g0,y⟩:=kJ d;obtain ⟨k0,rfl⟩:=kJ y;obtain ⟨r,o⟩:=j.stop w hal;refine X.kt 24 ?_;have a:=Hd.step j.h (by rw [n]) d0;refine xo 6 ?_;refine Zb call22 (by unfold Zr;exact leA) (Nh (p:=p) (pp:=pp) (U:=c) (g:=g) (N:=N+i+1) (q:=pto n1 AF::rsH evC 9 47 ea z L::stars (L.map fun x=>stars (evL x))::(q++F)) a.F.ok (by omega) (a.T.le leA)) ?_;rintro _ _ ⟨rfl,rfl⟩;simp only [Zr,ca,na];refine rn [1,0,1] ?_;refine Zq (stP p pp c::(Zr c++(E3 ea z L++q))) func16 (Ea results16 (eB rfl (eE rfl (LV.agg isAgg41 sizeOf41 Qu rfl) eI))) ⟨_,rfl,c,L,ea,z,rfl,rfl,a.mono (by omega),by rw [<-g0];exact r,o,by have:=j.l;omega⟩ (by unfold Zr E3;exact leA)
   obtain ⟨_,_,_,_,d⟩:=Tb (k:=picks[i]) hal i0;have e0:=n;rw [d] at e0;obtain ⟨_,y⟩:=kJ e0;obtain ⟨_,rfl⟩:=kJ y;have f0:=j.next w hal n d0;have j0:=j.l;refine rn [1024,4,0] ?_;refine bQ (Yz (u:=x) evC underlying37 Cy rfl rfl R7 rfl) ?_;rintro _ _ ⟨g3,rfl,rfl⟩;refine bQ (Z9 (f:=evC) (l:=L) (m:= [x]) underlying37 Cy rfl rfl R7 rfl rfl Zk ((bE _).le leA) evC_one (by simp;omega) (by simp;omega)) ?_;rintro _ _ ⟨a3,c3,rfl,rfl⟩;refine ox 7 ?_;refine bY (q':=stars ((L++ [x]).map fun x=>stars (evL x))::_) (aS (b:=stars (L.map fun x=>stars (evL x))::rsH acC 3 140 x.aa x.ac x.e.acc::rsH snC 3 50 x.na x.nc x.e.syn::_) (bM Zk (bM Zk Zk)) (aS (dD _ (Z5 (evL x) _)) (by rw [aM];exact Le.stars_snoc _ _ _))) ?_;refine cQ 11 (AI pa picks pc) rfl (by rw [a0]) ?_;refine aY (ih (i+1,c,L++ [x],a3,c3) ⟨by dsimp only;omega,f0⟩ (by dsimp only;omega)) Zu leA
 obtain ⟨r,o⟩:=j.done (show i=picks.length by omega);have a:=j.h;refine xo 6 ?_;refine Zb call22 (by unfold Zr;exact leA) (Nh (p:=p) (pp:=pp) (U:=σ1) (g:=g) (N:=N+i) (q:=pto n1 AF::rsH evC 9 47 ea z L::stars (L.map fun x=>stars (evL x))::(q++F)) a.F.ok (by omega) (a.T.le leA)) ?_;rintro _ _ ⟨rfl,rfl⟩;simp only [Zr,ca,na];refine rn [1,0,1] ?_;refine Zq (stP p pp σ1::(Zr σ1++(E3 ea z L++q))) func16 (Ea results16 (eB rfl (eE rfl (LV.agg isAgg41 sizeOf41 Qu rfl) eI))) ⟨_,rfl,σ1,L,ea,z,rfl,rfl,a.mono (by omega),r,o,by have:=j.l;omega⟩ (by unfold Zr E3;exact leA)
end
def Tk.w (t:Tk):Int×Bs×Int:=(t.k,bs t.t,t.n)
theorem Tk.of_w {t:Tk}{n:Int}{w:Bs}(h:t.w=(k,w,n)):t=⟨k,ba w,n,t.ln,t.cl⟩:=by
 obtain ⟨a,b,c,d,e⟩:=t;simp only [Tk.w,jK] at h;obtain ⟨rfl,f,rfl⟩:=h;rw [<-f,ba_bs]
theorem Ht {p:UInt8->Bool}{c:UInt8}(hc:p c=false): ∀ (a r:Bs),((a++ [c])++r).takeWhile p=(a++ [c]).takeWhile p
 | [],r=>by simp [List.takeWhile,hc]
 |x::a,r=>by
  have:=Ht hc a r;simp only [cM,iJ] at this|-;split
  . rw [this]
  rfl
theorem oneW_app {a r:Bs}(h:a≠ []):M0 ((a++ [32])++r)=M0 (a++ [32]):=by
 have f:Q2 ((a++ [32])++r)=Q2 (a++ [32]):=by unfold Q2;rw [Ht (by decide)]
 have i:=Mq (a++ [32]);have d: ∀ n,n<=(a++ [32]).length->((a++ [32])++r).take n=(a++ [32]).take n:=fun n g=>List.take_append_of_le_length g
 have l:2<=(a++ [32]).length:=by
  cases a with
  |nil=>exact aR rfl h
  |cons x b=>simp
 have c: ∀ s∈signsS,(s==((a++ [32])++r).take s.length)=(s==(a++ [32]).take s.length):=fun s c=>by
  have:s.length<=2:=by
   have: ∀ s∈signsS,s.length<=2:=by decide
   exact this s c
  rw [d _ (by omega)]
 have j:signsS.find? (fun s=>s==((a++ [32])++r).take s.length)=signsS.find? (fun s=>s==(a++ [32]).take s.length):=by
  generalize signsS=L at c|-
  induction L with
  |nil=>rfl
  |cons s L ih=>
   simp only [List.find?_cons];rw [c s (bI ..),ih fun x e=>c x (bZ _ e)]
 have k:((a++ [32])++r).getD 0 0=(a++ [32]).getD 0 0:=by
  cases a with
  |nil=>exact aR rfl h
  |cons x b=>rfl
 unfold M0;rw [f,d _ i,k,j]
theorem oneW_len {l w:Bs}{n:Int}(h:M0 l=some (k,w,n)):1<=w.length/\w.length<=l.length/\w=l.take w.length:=by
 unfold M0 at h;dsimp only at h;have d:=Mq l
 have b:0<Q2 l->1<=(l.take (Q2 l)).length/\(l.take (Q2 l)).length<=l.length/\l.take (Q2 l)=l.take (l.take (Q2 l)).length:=fun i=>by
  rw [bH,eQ d];exact ⟨i,d,rfl⟩
 split at h
 . rename_i a;split at h
   . cases h;exact b a.1
   cases h
 split at h
 . rename_i a;cases h;exact b a.1
 split at h
 . cases h
 split at h
 . rename_i a;cases h;exact b a
 split at h
 . rename_i s c
   cases h
   have a:=List.find?_some c;have g:=iO c;have e:w=l.take w.length:=by simpa using a
   have f:1<=w.length:=by
    have: ∀ s∈signsS,1<=s.length:=by decide
    exact this _ g
   refine ⟨f,?_,e⟩;have:=bK List.length e;rw [bH] at this;omega
 cases h
def Lx (l:Bs)(D:List (Int×Bs×Int)):Prop:= ∀ f cl,l.length<f-> ∃ ts,Ju f l 1 cl=some ts/\ts.map Tk.w=D
def wdS:Nat->Bs->Option (List (Int×Bs×Int))
 |0,_=>none
 |_+1, []=>some []
 |f+1,c::r=>
  if c=32 then wdS f r
  else if c=10\/c=9\/c=13\/c=35 then none
  else match M0 (c::r) with
   |none=>none
   |some (k,w,n)=>(wdS f ((c::r).drop w.length)).map ((k,w,n):: ·)
theorem Lx.app {r:Bs}{D:List (Int×Bs×Int)}(H:Lx r D): ∀ (f:Nat) (a:Bs) (E:List (Int×Bs×Int)),wdS f (a++ [32])=some E->Lx ((a++ [32])++r) (E++D)
 |0,_,_,h=>by cases h
 |f+1, [],E,h=>fun g m i=>by
  obtain ⟨g,rfl⟩: ∃ t,g=t+1:=⟨g - 1,by simp at i;omega⟩
  cases f with
  |zero=>cases h
  |succ f=>
   have:E= []:=by
    have l:wdS (f+1+1) ([]++ [32])=some []:=rfl;rw [l] at h;cases h;rfl
   subst this;exact H g (m+1) (by simp at i;omega)
 |f+1,c::a,E,h=>fun g m i=>by
  obtain ⟨g,rfl⟩: ∃ t,g=t+1:=⟨g - 1,by simp at i;omega⟩;have y:a.length+2+r.length<g+1:=by simpa [eL,jZ,Nat.add_left_comm] using i
  simp only [cM,wdS] at h;simp only [cM,Ju];split at h
  . rename_i q;subst q;rw [if_neg (by decide),if_pos (by decide)];exact Lx.app H f a E h g (m+1) (by simp;omega)
  rename_i q;split at h
  . cases h
  rename_i o;rw [if_neg (fun e=>o (.inl e)),if_neg (by rintro (e|e|e);exact q e;exact o (.inr (.inl e));exact o (.inr (.inr (.inl e)))),if_neg (fun e=>o (.inr (.inr (.inr e))))];have v:=oneW_app (a:=c::a) (r:=r) (by simp);simp only [cM] at v;rw [v];split at h
  . cases h
  rename_i k w n u;rw [u];dsimp only;obtain ⟨w1,x,z⟩:=oneW_len u
  obtain ⟨d,j,rfl⟩: ∃ d,wdS f ((c::(a++ [32])).drop w.length)=some d/\E=(k,w,n)::d:=by
   cases hx:wdS f ((c::(a++ [32])).drop w.length) with
   |none=>rw [hx] at h;cases h
   |some d=>rw [hx] at h;cases h;exact ⟨d,rfl,rfl⟩
  by_cases hlen:w.length<=a.length+1
  . have p:(c::(a++ [32])).drop w.length=(c::a).drop w.length++ [32]:=by
     rw [<-cM,eV (by simpa using hlen)]
    have b:(c::(a++ [32]++r)).drop w.length=(c::a).drop w.length++ [32]++r:=by
     rw [<-cM,<-cM,eV (by simp;omega),eV (by simpa using hlen)]
    rw [p] at j;obtain ⟨ts,l,s⟩:=Lx.app H f _ d j g (m+w.length) (by simp;omega);rw [b,l];exact ⟨_,rfl,by rw [bP,s];simp [Tk.w,V3]⟩
  have p:(c::(a++ [32])).drop w.length= []:=cO (by simp;omega)
  have b:(c::(a++ [32]++r)).drop w.length=r:=by
   have e:w.length=(c::(a++ [32])).length:=by simp at x|-;omega
   rw [<-cM,eV (by omega),p];rfl
  rw [p] at j
  have:d= []:=by
   cases f with
   |zero=>cases j
   |succ f=>cases j;rfl
  subst this;obtain ⟨ts,l,s⟩:=H g (m+w.length) (by omega);rw [b,l];exact ⟨_,rfl,by rw [bP,s];simp [Tk.w,V3]⟩
def pcB (v:UInt8)(i:Nat)(k:Nat):Bs:=
 if k=0 then [v,32,61,32,v,32,42,32,50,32,43,32,49,59,32]
 else if k=1 then [108,101,116,32,108,97+UInt8.ofNat i,32,61,32,v,59,32]
 else if k=2 then [105,102,32,v,32,60,32,53,32,123,32,v,32,61,32,v,32,43,32,51,59,32,125,32]
 else [112,114,105,110,116,32,v,59,32]
def Vk (v:UInt8):Nat->List Nat->Bs
 |_, []=> []
 |i,k::r=>pcB v i k++Vk v (i+1) r
theorem D1 (v:UInt8)(k:Nat): ∀ (l:List Nat) (i:Nat),Vk v i (l++ [k])=Vk v i l++pcB v (i+l.length) k
 | [],i=>by simp [Vk]
 |x::l,i=>by
  simp only [cM,Vk,D1 v k l (i+1),aA,bG];rw [show i+1+l.length=i+(l.length+1) by omega]
abbrev Wd:=Int×Bs×Int
variable {D:List Wd}
def pcW (v:UInt8)(i:Nat)(k:Nat):List Wd:=
 if k=0 then [(1, [v],0),(4, [61],0),(1, [v],0),(4, [42],0),(2, [50],2),(4, [43],0),(2, [49],1),(4, [59],0)]
 else if k=1 then [(3, [108,101,116],0),(1, [108,97+UInt8.ofNat i],0),(4, [61],0),(1, [v],0),(4, [59],0)]
 else if k=2 then [(3, [105,102],0),(1, [v],0),(4, [60],0),(2, [53],5),(4, [123],0),(1, [v],0),(4, [61],0),(1, [v],0),(4, [43],0),(2, [51],3),(4, [59],0),(4, [125],0)]
 else [(3, [112,114,105,110,116],0),(1, [v],0),(4, [59],0)]
def H1 (v:UInt8):Nat->List Nat->List Wd
 |_, []=> []
 |i,k::r=>pcW v i k++H1 v (i+1) r
def hdB:Bs:= [118,97,114,32,120,32,61,32,49,59,32,118,97,114,32,121,32,61,32,50,59,32,116,104,114,101,97,100,32,109,97,105,110,32,123,32,115,112,97,119,110,32,116,59,32]
def mdB:Bs:= [125,32,116,104,114,101,97,100,32,116,32,123,32]
def hdW:List Wd:= [(3, [118,97,114],0),(1, [120],0),(4, [61],0),(2, [49],1),(4, [59],0),(3, [118,97,114],0),(1, [121],0),(4, [61],0),(2, [50],2),(4, [59],0),(3, [116,104,114,101,97,100],0),(1, [109,97,105,110],0),(4, [123],0),(3, [115,112,97,119,110],0),(1, [116],0),(4, [59],0)]
def mdW:List Wd:= [(4, [125],0),(3, [116,104,114,101,97,100],0),(1, [116],0),(4, [123],0)]
def Qw (a b:List Nat):Bs:=hdB++(Vk 120 0 a++(mdB++(Vk 121 0 b++ [125])))
def pcOk:Bool:= [120,121].all fun v=>(List.range 6).all fun i=>(List.range 4).all fun k=>wdS 40 (pcB v i k)==some (pcW v i k)
theorem pcOk_ok:pcOk=true:=by decide+kernel
theorem pcB_end (v:UInt8)(i k:Nat): ∃ a,pcB v i k=a++ [32]:=by
 unfold pcB;split
 . exact ⟨[v,32,61,32,v,32,42,32,50,32,43,32,49,59],rfl⟩
 split
 . exact ⟨[108,101,116,32,108,97+UInt8.ofNat i,32,61,32,v,59],rfl⟩
 split
 . exact ⟨[105,102,32,v,32,60,32,53,32,123,32,v,32,61,32,v,32,43,32,51,59,32,125],rfl⟩
 exact ⟨[112,114,105,110,116,32,v,59],rfl⟩
theorem Lx.pc {k:Nat}{r:Bs}(hv:v=120\/v=121)(hi:i<6)(hk:k<4)(H:Lx r D):Lx (pcB v i k++r) (pcW v i k++D):=by
 have h:=pcOk_ok;unfold pcOk at h;rw [cC] at h;have d:=h v (by rcases hv with rfl|rfl<;>decide);rw [cC] at d;have c:=d i (jC.2 hi);rw [cC] at c;have b:=dC.1 (c k (jC.2 hk));obtain ⟨a,e⟩:=pcB_end v i k;rw [e] at b|-;exact Lx.app H 40 a _ b
theorem Lx.body (hv:v=120\/v=121){r:Bs}(H:Lx r D): ∀ (l:List Nat) (i:Nat),i+l.length<=6->(∀ k∈l,k<4)->Lx (Vk v i l++r) (H1 v i l++D)
 | [],_,_,_=>H
 |k::l,i,hi,hk=>by
  simp only [bG] at hi;simp only [Vk,H1,aA];exact Lx.pc hv (by omega) (hk k (bI ..)) (Lx.body hv H l (i+1) (by omega) fun x a=>hk x (bZ _ a))
theorem Zzf (ha:a.length<=6)(hb:b.length<=6)(hka: ∀ k∈a,k<4)(hkb: ∀ k∈b,k<4):Lx (Qw a b) (hdW++(H1 120 0 a++(mdW++(H1 121 0 b++ [(4, [125],0)])))):=by
 have i:Lx [125] [(4, [125],0)]:=fun f j h=>by
  obtain ⟨g,rfl⟩: ∃ g,f=g+2:=⟨f - 2,by simp at h;omega⟩;exact ⟨[⟨4,ba [125],0,1,j⟩],rfl,rfl⟩
 have e:=Lx.body (.inr rfl) i b 0 (by omega) hkb;have d:Lx (mdB++_) (mdW++_):=Lx.app e 30 [125,32,116,104,114,101,97,100,32,116,32,123] mdW (by decide+kernel);have c:=Lx.body (.inl rfl) d a 0 (by omega) hka;exact Lx.app c 60 [118,97,114,32,120,32,61,32,49,59,32,118,97,114,32,121,32,61,32,50,59,32,116,104,114,101,97,100,32,109,97,105,110,32,123,32,115,112,97,119,110,32,116,59] hdW (by decide+kernel)
theorem Y0 {n:Int}{w:Bs}(h:ts.map Tk.w=(k,w,n)::D): ∃ ln cl r,ts=⟨k,ba w,n,ln,cl⟩::r/\r.map Tk.w=D:=by
 cases ts with
 |nil=>cases h
 |cons t r=>
  simp only [bP,gP] at h;exact ⟨t.ln,t.cl,r,by rw [<-Tk.of_w h.1],h.2⟩
abbrev nmE (v:UInt8):PEx:= .mk 2 0 (ba [v]) 0 false 0 []
abbrev nuE (n:Int):PEx:= .mk 1 n em 0 false 0 []
abbrev opE (o:Int)(a b:PEx):PEx:= .mk 6 0 em 0 false o [a,b]
inductive Raw (v:UInt8) (i:Nat):Nat->PStm->Prop
 |dbl (ln cl):Raw v i 0 (.mk 2 ln cl (ba [v]) em (opE 7 (opE 9 (nmE v) (nuE 2)) (nuE 1)) .z [] [] 0 0 0 false)
 |lt (ln cl):Raw v i 1 (.mk 1 ln cl (ba [108,97+UInt8.ofNat i]) em (nmE v) .z [] [] 0 0 0 false)
 |cond (ln cl a b):Raw v i 2 (.mk 4 ln cl em em (opE 5 (nmE v) (nuE 5)) .z [.mk 2 a b (ba [v]) em (opE 7 (nmE v) (nuE 3)) .z [] [] 0 0 0 false] [] 0 0 0 false)
 |prt (ln cl):Raw v i 3 (.mk 15 ln cl em em (nmE v) .z [] [] 0 0 0 false)
inductive RawL (v:UInt8):Nat->List Nat->List PStm->Prop
 |nil (i:Nat):RawL v i [] []
 |cons {i k:Nat}{s:PStm}{l:List Nat}{L:List PStm} (h:Raw v i k s) (t:RawL v (i+1) l L):RawL v i (k::l) (s::L)
abbrev elB:Bs:= [101,108,115,101]
def NoEl (D:List Wd):Prop:= ∀ k n E,D≠(k,elB,n)::E
theorem NoEl.isW {D:List Wd}(hD:NoEl D){r:List Tk}(h:r.map Tk.w=D):isW elB r=false:=by
 cases r with
 |nil=>rfl
 |cons t r=>
  subst h;show (bs t.t==elB && decide (3<=t.k))=false
  have: ¬bs t.t=elB:=fun e=>hD t.k t.n (r.map Tk.w) (by rw [bP,<-e];rfl)
  rw [dB.2 this];rfl
theorem NoEl.body (hv:v=120\/v=121)(i:Nat)(l:List Nat)(D:List Wd):NoEl (H1 v i l++((4, [125],0)::D)):=fun k n E e=>by
 cases l with
 |nil=>cases e
 |cons x l=>
  simp only [H1,aA] at e;unfold pcW at e;split at e
  . rcases hv with rfl|rfl<;>cases e
  split at e
  . cases e
  split at e
  . cases e
  cases e
theorem stmt_pc {k g:Nat}(hv:v=120\/v=121)(hi:i<6)(hk:k<4)(hD:NoEl D)(h:ts.map Tk.w=pcW v i k++D):isW [125] ts=false/\ ∃ s r,U8 (g+40) ts=some (s,r)/\Raw v i k s/\r.map Tk.w=D:=by
 have b0:k=0\/k=1\/k=2\/k=3:=by omega
 rcases b0 with rfl|rfl|rfl|rfl
 iterate 3
  focus
   obtain ⟨b,c,t1,rfl,u⟩:=Y0 h;obtain ⟨l2,c2,t2,rfl,p⟩:=Y0 u;obtain ⟨l3,c3,t3,rfl,o⟩:=Y0 p;obtain ⟨l4,c4,t4,rfl,y4⟩:=Y0 o;obtain ⟨l5,c5,t5,rfl,n⟩:=Y0 y4
  rotate_left
 . obtain ⟨b,c,t1,rfl,u⟩:=Y0 h;obtain ⟨l2,c2,t2,rfl,p⟩:=Y0 u;obtain ⟨l3,c3,t3,rfl,o⟩:=Y0 p;rcases hv with rfl|rfl<;>exact ⟨by kernel_rfl,_,t3,by kernel_rfl,.prt b c,o⟩
 . obtain ⟨e,f,t6,rfl,m⟩:=Y0 n;obtain ⟨l7,c7,t7,rfl,l⟩:=Y0 m;obtain ⟨l8,c8,t8,rfl,j⟩:=Y0 l;rcases hv with rfl|rfl<;>exact ⟨by kernel_rfl,_,t8,by kernel_rfl,.dbl b c,j⟩
 . have c0:i=0\/i=1\/i=2\/i=3\/i=4\/i=5:=by omega
   rcases hv with rfl|rfl<;>rcases c0 with rfl|rfl|rfl|rfl|rfl|rfl<;>exact ⟨by kernel_rfl,_,t5,by kernel_rfl,.lt b c,n⟩
 obtain ⟨e,f,t6,rfl,m⟩:=Y0 n;obtain ⟨l7,c7,t7,rfl,l⟩:=Y0 m;obtain ⟨l8,c8,t8,rfl,j⟩:=Y0 l;obtain ⟨l9,c9,t9,rfl,y9⟩:=Y0 j;obtain ⟨a0,f0,h0,rfl,t⟩:=Y0 y9;obtain ⟨y,e0,g0,rfl,q⟩:=Y0 t;obtain ⟨x,d0,a,rfl,d⟩:=Y0 q;have he:=hD.isW d
 have z: ∀ v,v=120\/v=121->U8 (g+40) (⟨3,ba [105,102],0,b,c⟩::⟨1,ba [v],0,l2,c2⟩::⟨4,ba [60],0,l3,c3⟩::⟨2,ba [53],5,l4,c4⟩::⟨4,ba [123],0,l5,c5⟩::⟨1,ba [v],0,e,f⟩::⟨4,ba [61],0,l7,c7⟩::⟨1,ba [v],0,l8,c8⟩::⟨4,ba [43],0,l9,c9⟩::⟨2,ba [51],3,a0,f0⟩::⟨4,ba [59],0,y,e0⟩::⟨4,ba [125],0,x,d0⟩::a)=if (4:Nat)=4/\isW elB a=true then bnd (Ke (g+39) a.tail) fun b2 r=>some (.mk 4 b c em em (opE 5 (nmE v) (nuE 5)) .z [.mk 2 e f (ba [v]) em (opE 7 (nmE v) (nuE 3)) .z [] [] 0 0 0 false] b2 0 0 0 false,r) else some (.mk 4 b c em em (opE 5 (nmE v) (nuE 5)) .z [.mk 2 e f (ba [v]) em (opE 7 (nmE v) (nuE 3)) .z [] [] 0 0 0 false] [] 0 0 0 false,a):=by
  rintro v (rfl|rfl)<;>kernel_rfl
 exact ⟨by rcases hv with rfl|rfl<;>kernel_rfl,_,a,(z v hv).trans (if_neg fun h=>by rw [he] at h;exact aR h.2 (by decide)),.cond b c e f,d⟩
theorem D0 (h:ts.map Tk.w=(4, [125],0)::D):isW [125] ts=true/\tkW [125] ts=some ts.tail/\W2 [125] ts=some ((),ts.tail)/\ts.tail.map Tk.w=D:=by
 obtain ⟨c,d,b,rfl,a⟩:=Y0 h;exact ⟨by kernel_rfl,by kernel_rfl,by kernel_rfl,a⟩
theorem Mo {v:UInt8}(hv:v=120\/v=121){D:List Wd}: ∀ (l:List Nat) (i g:Nat) (ts:List Tk),i+l.length<=6->(∀ k∈l,k<4)->ts.map Tk.w=H1 v i l++((4, [125],0)::D)-> ∃ L r,We (g+l.length+41) ts=some (L,r)/\RawL v i l L/\r.map Tk.w=(4, [125],0)::D
 | [],i,g,ts,_,_,h=>by
  refine ⟨[],ts,?_,.nil i,h⟩;show We (g+40+1) ts=_
  rw [We,if_pos (D0 h).1]
 |k::l,i,g,ts,hi,hk,h=>by
  simp only [bG] at hi;simp only [H1,aA] at h;obtain ⟨n,s,r,a,m,j⟩:=stmt_pc (g:=g+l.length+1) hv (by omega) (hk k (bI ..)) (NoEl.body hv (i+1) l D) h;obtain ⟨L,b,f,e,d⟩:=Mo hv l (i+1) g r (by omega) (fun x c=>hk x (bZ _ c)) j;refine ⟨s::L,b,?_,.cons m e,d⟩;show We (g+l.length+41+1) ts=_
  rw [We,if_neg (by rw [n];decide)];have a:U8 (g+l.length+41) ts=some (s,r):=by rw [<-a]
  rw [a];simp only [bnd];rw [f]
theorem T2 (v:UInt8): ∀ (l:List Nat) (i:Nat),l.length<=(H1 v i l).length
 | [],_=>aL _
 |k::l,i=>by
  have:=T2 v l (i+1);have a:1<=(pcW v i k).length:=by unfold pcW;(repeat' split)<;>simp
  simp only [H1,aG,bG];omega
theorem Xy (v:UInt8)(i k:Nat):(pcB v i k).length<=24:=by unfold pcB;(repeat' split)<;>simp
theorem Q9 (v:UInt8): ∀ (l:List Nat) (i:Nat),(Vk v i l).length<=24*l.length
 | [],_=>aL _
 |k::l,i=>by
  have:=Q9 v l (i+1);have:=Xy v i k;simp only [Vk,aG,bG];omega
abbrev spS (ln cl:Int):PStm:= .mk 13 ln cl (ba [116]) em .z .z [] [] 0 0 0 false
abbrev mnB:ByteArray:=ba [109,97,105,110]
theorem Js {g f:Nat}{r:List Tk}{d:PDec}{l:List PDec}(h0:ts≠ [])(h1:Ui g ts=some (d,r))(h2:Vh g f r=some l):Vh g (f+1) ts=some (d::l):=by
 rw [Vh,if_neg h0,h1];simp only [bnd];rw [h2];rfl
theorem Pe (ha:a.length<=6)(hb:b.length<=6)(hka: ∀ k∈a,k<4)(hkb: ∀ k∈b,k<4): ∃ (ds:List PDec) (A B:List PStm) (l1 c1 l2 c2 l3 c3 l4 c4 l5 c5:Int),ds= [⟨1,l1,c1,ba [120],1, []⟩,⟨1,l2,c2,ba [121],2, []⟩,⟨6,l3,c3,mnB,0,spS l4 c4::A⟩,⟨6,l5,c5,ba [116],0,B⟩]/\RawL 120 0 a A/\RawL 121 0 b B/\ ∃ ts,Ju ((Qw a b).length+1) (Qw a b) 1 1=some ts/\Vh (10*ts.length+20) (ts.length+1) ts=some ds:=by
 obtain ⟨ts,h1,h⟩:=Zzf ha hb hka hkb _ 1 (gC _);have i:=bK List.length h;have l0:=T2 120 a 0;have k0:=T2 121 b 0;simp only [aU,aG,bG,dN,hdW,mdW] at i;obtain ⟨u,hu⟩: ∃ u,10*ts.length+20=u+200:=⟨10*ts.length+20 - 200,by omega⟩;obtain ⟨w,hw⟩: ∃ w,ts.length+1=w+5:=⟨ts.length+1 - 5,by omega⟩;clear i l0 k0;obtain ⟨l1,c1,t1,e1,y1⟩:=Y0 h;obtain ⟨l2,c2,t2,rfl,y2⟩:=Y0 y1;obtain ⟨l3,c3,t3,rfl,y3⟩:=Y0 y2;obtain ⟨l4,c4,t4,rfl,y4⟩:=Y0 y3;obtain ⟨l5,c5,t5,rfl,y5⟩:=Y0 y4;obtain ⟨l6,c6,t6,e6,y6⟩:=Y0 y5;obtain ⟨l7,c7,t7,rfl,y7⟩:=Y0 y6;obtain ⟨l8,c8,t8,rfl,y8⟩:=Y0 y7;obtain ⟨l9,c9,t9,rfl,y9⟩:=Y0 y8;obtain ⟨a1,f1,q,rfl,f0⟩:=Y0 y9;obtain ⟨d,g,x0,t,e0⟩:=Y0 f0;obtain ⟨j0,q0,w0,rfl,d0⟩:=Y0 e0;obtain ⟨i0,p0,m,rfl,c0⟩:=Y0 d0;obtain ⟨n,o,v0,m0,b0⟩:=Y0 c0;obtain ⟨z0,d1,u0,rfl,a0⟩:=Y0 b0;obtain ⟨y0,b1,p,rfl,z⟩:=Y0 a0;obtain ⟨A,r,g1,g2,g3⟩:=Mo (.inl rfl) a 0 (u+157 - a.length) p (by omega) hka z;obtain ⟨_,_,k3,k4⟩:=D0 g3;obtain ⟨c,f,t0,s,y⟩:=Y0 k4;obtain ⟨h0,o0,r0,rfl,x⟩:=Y0 y;obtain ⟨g0,n0,j,rfl,v⟩:=Y0 x;obtain ⟨B,r2,g4,g5,g6⟩:=Mo (.inr rfl) b 0 (u+158 - b.length) j (by omega) hkb v;obtain ⟨_,_,m3,m4⟩:=D0 g6;have m5:r2.tail= []:=List.map_eq_nil_iff.1 m4;refine ⟨_,A,B,l1,c1,l6,c6,d,g,n,o,c,f,rfl,g2,g5,ts,h1,?_⟩;rw [hu,hw];rw [show u+157 - a.length+a.length+41=u+198 by omega] at g1;rw [show u+158 - b.length+b.length+41=u+199 by omega] at g4;have s0:Vh (u+200) (w+1) r2.tail=some []:=by rw [m5,Vh,if_pos rfl]
 have s1:Ui (u+200) r.tail=some (⟨6,c,f,ba [116],0,B⟩,r2.tail):=by
  rw [s];have e:Ui (u+200) (⟨3,ba [116,104,114,101,97,100],0,c,f⟩::⟨1,ba [116],0,h0,o0⟩::⟨4,ba [123],0,g0,n0⟩::j)=bnd (bnd (We (u+199) j) fun l r=>bnd (W2 [125] r) fun _ r=>some (l,r)) fun b r=>some (⟨6,c,f,ba [116],0,b⟩,r):=by kernel_rfl
  rw [e,g4];simp only [bnd];rw [m3]
 have s2:Ui (u+200) q=some (⟨6,d,g,mnB,0,spS n o::A⟩,r.tail):=by
  rw [t];have e:Ui (u+200) (⟨3,ba [116,104,114,101,97,100],0,d,g⟩::⟨1,mnB,0,j0,q0⟩::⟨4,ba [123],0,i0,p0⟩::m)=bnd (bnd (We (u+199) m) fun l r=>bnd (W2 [125] r) fun _ r=>some (l,r)) fun b r=>some (⟨6,d,g,mnB,0,b⟩,r):=by kernel_rfl
  have e2:We (u+199) m=bnd (We (u+198) p) fun l r=>some (spS n o::l,r):=by rw [m0];kernel_rfl
  rw [e,e2,g1];simp only [bnd];rw [k3]
 have s3:Ui (u+200) t5=some (⟨1,l6,c6,ba [121],2, []⟩,q):=by rw [e6];kernel_rfl
 have s4:Ui (u+200) ts=some (⟨1,l1,c1,ba [120],1, []⟩,t5):=by rw [e1];kernel_rfl
 exact Js (by rw [e1];exact gZ _ _) s4 (Js (by rw [e6];exact gZ _ _) s3 (Js (by rw [t];exact gZ _ _) s2 (Js (by rw [s];exact gZ _ _) s1 s0)))
theorem Raw.deep {k:Nat}{s:PStm}(h:Raw v i k s):s.deep 1=false:=by cases h<;>rfl
theorem RawL.deep {l:List Nat}(h:RawL v i l L):Yq L 1=false:=by
 induction h with
 |nil i=>rfl
 |cons h t ih=>show (_||_)=false;rw [h.deep,ih];rfl
theorem Raw.may {k:Nat}{s:PStm}(hv:v=120\/v=121)(hi:i<6)(h:Raw v i k s):s.may 1=true:=by
 have a:i=0\/i=1\/i=2\/i=3\/i=4\/i=5:=by omega
 cases h<;>rcases hv with rfl|rfl<;>rcases a with rfl|rfl|rfl|rfl|rfl|rfl<;>(change _=_;kernel_rfl)
theorem RawL.mays (hv:v=120\/v=121){l:List Nat}(h:RawL v i l L)(hi:i+l.length<=6):PStm.mays L 1=true:=by
 induction h with
 |nil i=>rfl
 |cons h t ih=> 
  simp only [bG] at hi;show (_ && _)=true;rw [h.may hv (by omega),ih (by omega)];rfl
def Mc:List Nm:= [⟨ba [120],1,0⟩,⟨ba [121],1,1⟩,⟨mnB,6,0⟩,⟨ba [116],6,1⟩]
def LocN (i:Nat)(L:List Nm):Prop:= ∀ x∈L,∃ j,j<i/\bs x.t= [108,97+UInt8.ofNat j]
theorem Fy {s:ByteArray}{B:List Nm}: ∀ (L:List Nm),(∀ x∈L,bs x.t≠bs s)-> ∀ n,n<=L.length->Qd (B++L) s (B.length+n)=Qd (B++L) s B.length
 |_,_,0,_=>rfl
 |L,h,n+1,hn=>by
  have a:=Fy (B:=B) L h n (by omega);show Qd (B++L) s (B.length+n+1)=_
  rw [Qd,if_neg,a];rw [bD,fJ,cY (by omega),show B.length+n - B.length=n by omega,aD (show n<L.length by omega)];simp only [gJ,jO,dC];exact h _ (aB _)
theorem Xo {L:List Nm}{s:ByteArray}(hn:f.names=Mc++L)(h: ∀ x∈L,bs x.t≠bs s):f.at s=Qd (Mc++L) s 4:=by
 unfold Fnd.at;rw [hn,aG];exact Fy L h _ (aL _)
def slotV (v:UInt8):Int:=if v=120 then 0 else 1
theorem wants_v {L:List Nm}(hv:v=120\/v=121)(hn:f.names=Mc++L)(hL:LocN i L):f.wants (ba [v]) 1 100=(f,1,slotV v):=by
 have b:f.at (ba [v])=if v=120 then 1 else 2:=by
  rw [Xo hn fun x a e=>by obtain ⟨j,_,c⟩:=hL x a;rw [c] at e;cases e];rcases hv with rfl|rfl<;>(change _=_;kernel_rfl)
 unfold Fnd.wants;rw [b,hn];rcases hv with rfl|rfl<;>(change _=_;kernel_rfl)
theorem wants_t (hn:f.names=Mc):f.wants (ba [116]) 6 6=(f,6,1):=by
 unfold Fnd.wants Fnd.at;rw [hn];kernel_rfl
theorem at_new {L:List Nm}(hi:i<6)(hn:f.names=Mc++L)(hL:LocN i L):f.at (ba [108,97+UInt8.ofNat i])=0:=by
 rw [Xo hn fun x b e=>by
  obtain ⟨j,c,g⟩:=hL x b;rw [g] at e;have d: ∀ i,i<6-> ∀ j,j<i->([108,97+UInt8.ofNat j]:Bs)≠bs (ba [108,97+UInt8.ofNat i]):=by decide
  exact d i hi j c e]
 have a:i=0\/i=1\/i=2\/i=3\/i=4\/i=5:=by omega
 rcases a with rfl|rfl|rfl|rfl|rfl|rfl<;>(change _=_;kernel_rfl)
abbrev nmR (v:UInt8):PEx:= .mk 2 0 (ba [v]) (slotV v) false 0 []
inductive Res (v:UInt8):Nat->PStm->Prop
 |dbl (ln cl nm wt ix id ot):Res v 0 (.mk 2 ln cl nm wt (opE 7 (opE 9 (nmR v) (nuE 2)) (nuE 1)) ix [] [] id (slotV v) ot false)
 |lt (ln cl nm wt ix id sl ot):Res v 1 (.mk 1 ln cl nm wt (nmR v) ix [] [] id sl ot true)
 |cond (ln cl a b nm wt ix id sl ot lo m2 w2 i2 d2 o2):Res v 2 (.mk 4 ln cl nm wt (opE 5 (nmR v) (nuE 5)) ix [.mk 2 a b m2 w2 (opE 7 (nmR v) (nuE 3)) i2 [] [] d2 (slotV v) o2 false] [] id sl ot lo)
 |prt (ln cl nm wt ix id sl ot lo):Res v 3 (.mk 15 ln cl nm wt (nmR v) ix [] [] id sl ot lo)
inductive ResL (v:UInt8):List Nat->List PStm->Prop
 |nil:ResL v [] []
 |cons {k:Nat}{s:PStm}{l:List Nat}{L:List PStm} (h:Res v k s) (t:ResL v l L):ResL v (k::l) (s::L)
structure FAt (N:Nat) (f:Fnd) (i:Nat):Prop where
 hN:N<=400
 fl:f.flaw=0
 nm: ∃ L,f.names=Mc++L/\LocN i L
 lo:f.locals<=i
 st:f.stm<=N+2*i
def FSame (f g:Fnd):Prop:= ∃ n s k m,g= { f with names:=n,stm:=s,locals:=k,most:=m }
theorem FSame.trans {g h:Fnd}(a:FSame f g)(b:FSame g h):FSame f h:=by
 obtain ⟨n,s,k,m,rfl⟩:=a;obtain ⟨d,c,i,e,rfl⟩:=b;exact ⟨d,c,i,e,rfl⟩
theorem stmt_eq {g g2 g3:Fnd}{ln cl id sl' ot':Int}{e ix e' ix':PEx}{body els b' l':List PStm}{lo':Bool}(hs: ¬512<=f.stm)(h1:Fnd.expr { f with stm:=f.stm+1 } ix=({ f with stm:=f.stm+1 },ix'))(h2:Fnd.expr { f with stm:=f.stm+1 } e=({ f with stm:=f.stm+1 },e'))(h3:Fnd.own { f with stm:=f.stm+1 } k nm wt sl ot lo=(g,sl',ot',lo'))(h4:Fnd.blk g body=(g2,b'))(h5:Fnd.blk { g2 with names:=g.names,locals:=g.locals } els=(g3,l')):f.stmt (.mk k ln cl nm wt e ix body els id sl ot lo)=({ g3 with names:=g.names,locals:=g.locals },.mk k ln cl nm wt e' ix' b' l' f.stm sl' ot' lo'):=by
 simp only [Fnd.stmt,if_neg hs,h1,h2,h3,h4,h5]
theorem Nk (f:Fnd):Fnd.expr f .z=(f,.z):=rfl
theorem own_z (h:k=4\/k=15):Fnd.own f k nm wt sl ot lo=(f,sl,ot,lo):=by rcases h with rfl|rfl<;>rfl
theorem Raw.found {k:Nat}{s:PStm}(hv:v=120\/v=121)(hi:i<6)(hf:FAt N f i)(h:Raw v i k s):Res v k (f.stmt s).2/\FAt N (f.stmt s).1 (i+1)/\FSame f (f.stmt s).1:=by
 obtain ⟨u,r,⟨L,q,h3⟩,h4,h5⟩:=hf;have t: ¬512<=f.stm:=by omega
 have a0: ¬512<=f.stm+1:=by omega
 have hw: ∀ s,Fnd.wants { f with stm:=s } (ba [v]) 1 100=({ f with stm:=s },1,slotV v):=fun s=>wants_v (L:=L) hv q h3
 have l:LocN (i+1) L:=fun x p=>by obtain ⟨j,a,b⟩:=h3 x p;exact ⟨j,by omega,b⟩
 have c: ∀ s,Fnd.expr { f with stm:=s } (nmE v)=({ f with stm:=s },nmR v):=fun s=>by
  show (_,PEx.mk 2 0 (ba [v]) (Fnd.wants { f with stm:=s } (ba [v]) 1 100).2.2 ((Fnd.wants { f with stm:=s } (ba [v]) 1 100).2.1==100) 0 _)=_
  rw [hw];rfl
 have d: ∀ s o a b y w,Fnd.expr { f with stm:=s } a=({ f with stm:=s },y)->Fnd.expr { f with stm:=s } b=({ f with stm:=s },w)->Fnd.expr { f with stm:=s } (opE o a b)=({ f with stm:=s },opE o y w):=fun s o a b y w ha hb=>by
  have e:Fnd.exprs { f with stm:=s } [a,b]=({ f with stm:=s }, [y,w]):=by simp only [Fnd.exprs,ha,hb]
  show ((Fnd.exprs { f with stm:=s } [a,b]).1,PEx.mk 6 0 em 0 false o (Fnd.exprs { f with stm:=s } [a,b]).2)=_
  rw [e]
 have g: ∀ s n,Fnd.expr { f with stm:=s } (nuE n)=({ f with stm:=s },nuE n):=fun _ _=>rfl
 have m: ∀ s,Fnd.own { f with stm:=s } 2 (ba [v]) em 0 0 false=({ f with stm:=s },slotV v,0,false):=fun s=>by
  show Fnd.own2 (Fnd.wants { f with stm:=s } (ba [v]) 1 100).1 2 (ba [v]) em (Fnd.wants { f with stm:=s } (ba [v]) 1 100).2.2 0 ((Fnd.wants { f with stm:=s } (ba [v]) 1 100).2.1==100)=_
  rw [hw];rfl
 cases h with
 |dbl ln cl=>
  have e:=stmt_eq (ln:=ln) (cl:=cl) (id:=0) t (Nk _) (d _ 7 _ _ _ _ (d _ 9 _ _ _ _ (c _) (g _ 2)) (g _ 1)) (m _) (body:= []) rfl (els:= []) rfl;rw [e];exact ⟨.dbl ..,⟨u,r,⟨L,q,l⟩,by show f.locals<=_;omega,by show f.stm+1<=_;omega⟩,⟨_,_,_,_,rfl⟩⟩
 |lt ln cl=>
  have ha: ∀ s,Fnd.at { f with stm:=s } (ba [108,97+UInt8.ofNat i])=0:=fun s=>at_new (f:= { f with stm:=s }) hi q h3
  have ho:Fnd.own { f with stm:=f.stm+1 } 1 (ba [108,97+UInt8.ofNat i]) em 0 0 false=({ f with stm:=f.stm+1,names:=f.names++ [⟨ba [108,97+UInt8.ofNat i],100,f.locals⟩],locals:=f.locals+1,most:=max f.most (f.locals+1) },f.locals,0,true):=by
   have hl: ¬ (32:Int)<=f.locals:=by omega
   have e1:Fnd.loc1 { f with stm:=f.stm+1 } (ba [108,97+UInt8.ofNat i])= { f with stm:=f.stm+1 } :=by unfold Fnd.loc1;rw [ha,if_neg (by decide)]
   have e2:Fnd.loc2 { f with stm:=f.stm+1 } = { f with stm:=f.stm+1 } :=by unfold Fnd.loc2;exact if_neg hl
   show (((Fnd.loc1 { f with stm:=f.stm+1 } (ba [108,97+UInt8.ofNat i])).loc2).loc3 _,((Fnd.loc1 { f with stm:=f.stm+1 } (ba [108,97+UInt8.ofNat i])).loc2).locals,(0:Int),true)=_
   rw [e1,e2];rfl
  have e:=stmt_eq (ln:=ln) (cl:=cl) (id:=0) t (Nk _) (c _) ho (body:= []) rfl (els:= []) rfl;rw [e];refine ⟨.lt ..,⟨u,r,⟨L++ [⟨ba [108,97+UInt8.ofNat i],100,f.locals⟩],by show f.names++_=_;rw [q,aA],fun x p=> ?_⟩,by show f.locals+1<=_;omega,by show f.stm+1<=_;omega⟩,⟨_,_,_,_,rfl⟩⟩;rcases aQ.1 p with p|p
  . exact l x p
  rw [aZ.1 p];exact ⟨i,by omega,rfl⟩
 |cond ln cl a b=>
  have e1:=stmt_eq (f:= { f with stm:=f.stm+1 }) (ln:=a) (cl:=b) (id:=0) a0 (Nk _) (d _ 7 _ _ _ _ (c _) (g _ 3)) (m _) (body:= []) rfl (els:= []) rfl
  have e2:Fnd.blk { f with stm:=f.stm+1 } [.mk 2 a b (ba [v]) em (opE 7 (nmE v) (nuE 3)) .z [] [] 0 0 0 false]=({ f with stm:=f.stm+1+1 }, [.mk 2 a b (ba [v]) em (opE 7 (nmR v) (nuE 3)) .z [] [] (f.stm+1) (slotV v) 0 false]):=by
   simp only [Fnd.blk,if_pos r,e1]
  have e:=stmt_eq (ln:=ln) (cl:=cl) (id:=0) (nm:=em) (wt:=em) t (Nk _) (d _ 5 _ _ _ _ (c _) (g _ 5)) (own_z (k:=4) (sl:=0) (ot:=0) (lo:=false) (.inl rfl)) e2 (els:= []) rfl;rw [e];exact ⟨.cond ..,⟨u,r,⟨L,q,l⟩,by show f.locals<=_;omega,by show f.stm+1+1<=_;omega⟩,⟨_,_,_,_,rfl⟩⟩
 |prt ln cl=>
  have e:=stmt_eq (ln:=ln) (cl:=cl) (id:=0) (nm:=em) (wt:=em) t (Nk _) (c _) (own_z (k:=15) (sl:=0) (ot:=0) (lo:=false) (.inr rfl)) (body:= []) rfl (els:= []) rfl;rw [e];exact ⟨.prt ..,⟨u,r,⟨L,q,l⟩,by show f.locals<=_;omega,by show f.stm+1<=_;omega⟩,⟨_,_,_,_,rfl⟩⟩
theorem RawL.found (hv:v=120\/v=121){l:List Nat}(h:RawL v i l L): ∀ {f:Fnd},i+l.length<=6->FAt N f i->ResL v l (f.blk L).2/\FAt N (f.blk L).1 (i+l.length)/\FSame f (f.blk L).1:=by
 induction h with
 |nil i=>exact fun _ a=>⟨.nil,a,⟨_,_,_,_,rfl⟩⟩
 | @cons i k s l L h t ih=>
  intro f b a;simp only [bG] at b;obtain ⟨m,j,g⟩:=h.found hv (by omega) a;obtain ⟨e,d,c⟩:=ih (f:=(f.stmt s).1) (by omega) j;simp only [Fnd.blk,if_pos a.fl];exact ⟨.cons m e,by rw [bG,show i+(l.length+1)=i+1+l.length by omega];exact d,g.trans c⟩
theorem Ct (hn:f.names=Mc)(hs:f.stm=0)(ln cl:Int):f.stmt (spS ln cl)=({ f with stm:=1 },.mk 13 ln cl (ba [116]) em .z .z [] [] 0 1 0 false):=by
 have a:Fnd.wants { f with stm:=f.stm+1 } (ba [116]) 6 6=({ f with stm:=f.stm+1 },6,1):=wants_t hn
 have b:Fnd.own { f with stm:=f.stm+1 } 13 (ba [116]) em 0 0 false=({ f with stm:=f.stm+1 },1,0,false):=by
  show Fnd.own2 (Fnd.wants { f with stm:=f.stm+1 } (ba [116]) 6 6).1 13 (ba [116]) em (Fnd.wants { f with stm:=f.stm+1 } (ba [116]) 6 6).2.2 0 ((Fnd.wants { f with stm:=f.stm+1 } (ba [116]) 6 6).2.1==100)=_
  rw [a];rfl
 have e:=stmt_eq (ln:=ln) (cl:=cl) (id:=0) (by omega) (Nk _) (Nk _) b (body:= []) rfl (els:= []) rfl;rw [spS,e,hs];rfl
structure IsAlone (F:Fnd) (a b:List Nat):Prop where
 p: ∃ A B ln cl k0 k1,F.pr=⟨[1,2], [], [],0,0,0, [(k0,PStm.mk 13 ln cl (ba [116]) em .z .z [] [] 0 1 0 false::A),(k1,B)]⟩/\ResL 120 a A/\ResL 121 b B
theorem Ib (ha:a.length<=6)(hb:b.length<=6)(hka: ∀ k∈a,k<4)(hkb: ∀ k∈b,k<4): ∃ F,Jj (Qw a b)=some F/\IsAlone F a b:=by
 obtain ⟨ds,A,B,t,c1,r,c2,q,c3,g,i,p,y,rfl,hA,hB,ts,h1,h2⟩:=Pe ha hb hka hkb
 have hl: ¬65536<(Qw a b).length:=by
  have:=Q9 120 a 0;have:=Q9 121 b 0;simp only [Qw,hdB,mdB,aG,bG,dN];omega
 have hd:([⟨1,t,c1,ba [120],1, []⟩,⟨1,r,c2,ba [121],2, []⟩,⟨6,q,c3,mnB,0,spS g i::A⟩,⟨6,p,y,ba [116],0,B⟩]:List PDec).any (fun d=>Yq d.body 1)=false:=by
  have e1:Yq (spS g i::A) 1=false:=by show (_||_)=false;rw [hA.deep];rfl
  simp only [iD,List.any_nil,e1,hB.deep];rfl
 have hp:Qz (Qw a b)=some [⟨1,t,c1,ba [120],1, []⟩,⟨1,r,c2,ba [121],2, []⟩,⟨6,q,c3,mnB,0,spS g i::A⟩,⟨6,p,y,ba [116],0,B⟩]:=by
  unfold Qz;rw [if_neg hl,h1];dsimp only;rw [h2];dsimp only;rw [hd];rfl
 have d0:PStm.mays (spS g i::A) 1=true:=by show (_ && _)=true;rw [hA.mays (.inl rfl) (by omega)];kernel_rfl
 have c0:=hB.mays (.inr rfl) (by omega)
 have i0:([⟨1,t,c1,ba [120],1, []⟩,⟨1,r,c2,ba [121],2, []⟩,⟨6,q,c3,mnB,0,spS g i::A⟩,⟨6,p,y,ba [116],0,B⟩]:List PDec).any PDec.bad=false:=by
  simp only [iD,List.any_nil,PDec.bad,d0,c0];kernel_rfl
 have u:Fnd.decls .z [⟨1,t,c1,ba [120],1, []⟩,⟨1,r,c2,ba [121],2, []⟩,⟨6,q,c3,mnB,0,spS g i::A⟩,⟨6,p,y,ba [116],0,B⟩]=⟨[1,2], [],0,0, [], [⟨mnB,0, []⟩,⟨ba [116],0, []⟩],0,0, [ba [120],ba [121]], [], [], [], [],Mc,0,0,0,0⟩:=by kernel_rfl
 generalize hg:(⟨[1,2], [],0,0, [], [⟨mnB,0, []⟩,⟨ba [116],0, []⟩],0,0, [ba [120],ba [121]], [], [], [], [],Mc,0,0,0,0⟩:Fnd)=f0 at u;have m:f0.at Um=3:=by rw [<-hg];kernel_rfl
 have e0:((f0.names.map (·.k)).getD (f0.at Um - 1) 0)=6:=by rw [m,<-hg];rfl
 have j:f0.flaw=0:=by rw [<-hg]
 have g0:(([⟨1,t,c1,ba [120],1, []⟩,⟨1,r,c2,ba [121],2, []⟩,⟨6,q,c3,mnB,0,spS g i::A⟩,⟨6,p,y,ba [116],0,B⟩]:List PDec).filter fun d=>d.k==6).map (·.body)= [spS g i::A,B]:=by kernel_rfl
 have a0:=Ct (f:= { f0 with most:=0 }) (by rw [<-hg]) (by rw [<-hg]) g i;obtain ⟨a1,a2,n1,s1,k1,m1,e1⟩:=hA.found (N:=1) (.inl rfl) (f:= { { f0 with most:=0 } with stm:=1 }) (by omega) ⟨by decide,j,⟨[],by show f0.names=_;rw [<-hg];rfl,fun x hx=>by cases hx⟩,by show f0.locals<=_;rw [<-hg];decide,by show (1:Int)<=_;omega⟩
 have w:Fnd.block { f0 with most:=0 } (spS g i::A)=({ f0 with stm:=s1,most:=m1 },.mk 13 g i (ba [116]) em .z .z [] [] 0 1 0 false::(Fnd.blk { { f0 with most:=0 } with stm:=1 } A).2):=by
  unfold Fnd.block;simp only [Fnd.blk,if_pos (show ({ f0 with most:=0 } :Fnd).flaw=0 from j),a0,e1]
 generalize (Fnd.blk { { f0 with most:=0 } with stm:=1 } A).2=A' at a1 w;have j0:s1<=13:=by have:=a2.st;rw [e1] at this;dsimp only at this;omega
 obtain ⟨e,c⟩: ∃ e:Fnd,e= { { f0 with stm:=s1,most:=m1 } with ths:=f0.ths.set 0 ⟨mnB,m1,.mk 13 g i (ba [116]) em .z .z [] [] 0 1 0 false::A'⟩ } :=⟨_,rfl⟩;obtain ⟨b1,b2,n2,o,k2,l,e2⟩:=hB.found (N:=13) (.inr rfl) (f:= { e with most:=0 }) (by omega) ⟨by decide,by rw [c];exact j,⟨[],by rw [c];show f0.names=_;rw [<-hg];rfl,fun x hx=>by cases hx⟩,by rw [c];show f0.locals<=_;rw [<-hg];decide,by rw [c];show s1<=_;omega⟩
 have v:Fnd.block { e with most:=0 } B=({ e with stm:=o,most:=l },(Fnd.blk { e with most:=0 } B).2):=by
  unfold Fnd.block;rw [e2]
 generalize (Fnd.blk { e with most:=0 } B).2=B' at b1 v
 have h0:Fnd.bodies f0 0 [spS g i::A,B]= { { e with stm:=o,most:=l } with ths:=e.ths.set 1 ⟨ba [116],l,B'⟩ } :=by
  have n:e.flaw=0:=by rw [c];exact j
  have e3:Fnd.bodies f0 0 [spS g i::A,B]=Fnd.bodies e 1 [B]:=by
   rw [Fnd.bodies,if_pos j];dsimp only;rw [w,c,<-hg];rfl
  rw [e3,Fnd.bodies,if_pos n];dsimp only;rw [v,c,<-hg];rfl
 refine ⟨{ { { e with stm:=o,most:=l } with ths:=e.ths.set 1 ⟨ba [116],l,B'⟩ } with main:=0 },?_,⟨A',B',g,i,m1,l,?_,a1,b1⟩⟩
 . unfold Jj;rw [hp];dsimp only;unfold N9;rw [i0,u];simp only [Bool.false_eq_true,if_false];rw [g0]
   have hm: ¬ (f0.flaw=0/\(f0.at Um=0\/((f0.names.map (·.k)).getD (f0.at Um - 1) 0)≠6)):=by
    rintro ⟨_,(h|h)⟩
    . rw [m] at h;exact aR h (by decide)
    exact h e0
   rw [if_neg hm,h0,m]
   have b0:((({ { e with stm:=o,most:=l } with ths:=e.ths.set 1 ⟨ba [116],l,B'⟩ } :Fnd).names.map (·.s)).getD (3 - 1) 0)=0:=by
    have:({ { e with stm:=o,most:=l } with ths:=e.ths.set 1 ⟨ba [116],l,B'⟩ } :Fnd).names=Mc:=by rw [c,<-hg]
    rw [this];rfl
   rw [b0];have n:({ { e with stm:=o,most:=l } with ths:=e.ths.set 1 ⟨ba [116],l,B'⟩ } :Fnd).flaw=0:=by rw [c];exact j
   rw [if_neg fun h=>h n]
 rw [c,<-hg];rfl
def E4 (k:Nat)(v:Int):Int:=if k=0 then v*2+1 else if k=2 then (if v<5 then v+3 else v) else v
def finS:List Nat->Int->Int
 | [],v=>v
 |k::l,v=>finS l (E4 k v)
inductive InS (v:UInt8):PStm->Prop
 |mk (a b m2 w2 i2 d2 o2):InS v (.mk 2 a b m2 w2 (opE 7 (nmR v) (nuE 3)) i2 [] [] d2 (slotV v) o2 false)
inductive Lf (v:UInt8):List PStm->Int->Int->Nat->Prop
 |nil (x:Int):Lf v [] x x 0
 |cons {k:Nat}{s:PStm}{r:List PStm}{x V:Int}{c:Nat} (h:Res v k s) (hk:k<4) (h0:0<=x/\x<=100000) (t:Lf v r (E4 k x) V c):Lf v (s::r) x V (c+2)
 |inn {s:PStm}{r:List PStm}{x V:Int}{c:Nat} (h:InS v s) (h0:0<=x/\x<=100000) (t:Lf v r (x+3) V c):Lf v (s::r) x V (c+1)
theorem effS_le {k:Nat}{B:Int}(h:0<=x/\x<=B)(hB:4<=B):0<=E4 k x/\E4 k x<=2*B+1:=by
 unfold E4;(repeat' split)<;>omega
theorem ResL.lf {l:List Nat}(h:ResL v l L): ∀ {x B:Int},(∀ k∈l,k<4)->0<=x/\x<=B->4<=B->(B+1)*2 ^ l.length<=100000->Lf v L x (finS l x) (2*l.length):=by
 induction h with
 |nil=>exact fun _ _ _ _=> .nil _
 | @cons k s l L h t ih=>
  intro x B c b i g
  have f:(1:Int)<=2 ^ l.length:=by
   have:1<=2 ^ l.length:=Nat.one_le_two_pow;exact_mod_cast this
  have e:(B+1)*2 ^ (l.length+1)=(2*B+1+1)*2 ^ l.length:=by
   rw [Int.pow_succ];generalize (2:Int) ^ l.length=z;have:(2*B+1+1)=(B+1)*2:=by omega
   rw [this,Int.mul_assoc,Int.mul_comm z 2]
  have a:=g;rw [bG,e] at a;have j:(2*B+1+1)*1<=(2*B+1+1)*2 ^ l.length:=Int.mul_le_mul_of_nonneg_left f (by omega);have:=ih (x:=E4 k x) (B:=2*B+1) (fun y d=>c y (bZ _ d)) (effS_le b i) (by omega) a;exact .cons h (c k (bI ..)) ⟨b.1,by omega⟩ this
def Zzu (v:UInt8)(t:PTr)(x V:Int)(c:Nat):Prop:=(t.st=4/\t.left= []\/t.st=1/\t.left≠ [])/\Lf v t.left x V c
inductive Al (p:PPr) (V W:Int):SS->Nat->Prop
 |one {s:SS}{x y:Int}{t:PTr}{A B:List PStm}{ln cl:Int}{nm wt:ByteArray}{e ix:PEx}{id ot:Int}{lo:Bool}{k1:Int}{n c d:Nat} (hc:s.cells= [x,y]) (ho:s.out=Bw) (ht:s.ths= [t]) (h1:t.st=1) (hl:t.left=PStm.mk 13 ln cl nm wt e ix [] [] id 1 ot lo::A) (hp:p.ths.getD 1 (0, [])=(k1,B)) (hA:Lf 120 A x V c) (hB:Lf 121 B y W d) (hn:c+d+1<=n):Al p V W s n
 |two {s:SS}{x y:Int}{t u:PTr}{n c d:Nat} (hc:s.cells= [x,y]) (ho:s.out=Bw) (ht:s.ths= [t,u]) (hA:Zzu 120 t x V c) (hB:Zzu 121 u y W d) (hn:c+d<=n):Al p V W s n
theorem Al.mono {m:Nat}(h:Al p V W s n)(l:n<=m):Al p V W s m:=by
 cases h with
 |one hc ho ht h1 hl hp hA hB hn=>exact .one hc ho ht h1 hl hp hA hB (by omega)
 |two hc ho ht hA hB hn=>exact .two hc ho ht hA hB (by omega)
theorem Lf.kind {c:Nat}(h:Lf v r x V c)(hr:r≠ []): ∃ s L,r=s::L/\(s.kd=1\/s.kd=2\/s.kd=4\/s.kd=15):=by
 cases h with
 |nil=>exact aR rfl hr
 |cons h _ _ t=>refine ⟨_,_,rfl,?_⟩;cases h<;>simp [PStm.kd]
 |inn h _ t=>refine ⟨_,_,rfl,?_⟩;cases h;simp [PStm.kd]
theorem can_of {x:PStm}(ho:s.out=Bw)(h1:(s.th n).st=1)(hl:(s.th n).left=x::L)(hk:x.kd=1\/x.kd=2\/x.kd=4\/x.kd=15\/x.kd=13):s.can p n=true:=by
 obtain ⟨k,f,i,nm,wt,e,g,c,d,h,b,a,loc⟩:=x;simp only [PStm.kd] at hk;unfold SS.can;dsimp only;rw [if_neg (by rw [ho,h1];decide)];have:(s.th n).next= .mk k f i nm wt e g c d h b a loc:=by unfold PTr.next;rw [hl];rfl
 rw [this];dsimp only;rw [if_neg (by rw [h1];decide),if_neg (by omega),if_neg (by omega),if_neg (by omega),if_neg (by omega)]
theorem all_ne (hn:n<s.ths.length)(h:s.can p n=true):s.all p≠ []:=fun e=>by
 have:(n:Int)∈s.all p:=bU.2 ⟨n,fH.2 ⟨jC.2 hn,h⟩,rfl⟩;rw [e] at this;cases this
theorem th0 {l:List PTr}(h:s.ths=t::l):s.th 0=t:=by unfold SS.th;rw [h];rfl
theorem th1 {u:PTr}{l:List PTr}(h:s.ths=t::u::l):s.th 1=u:=by unfold SS.th;rw [h];rfl
theorem Al.stop (h:Al p V W s n)(ha:s.all p= []):Al p V W s 0:=by
 cases h with
 |one hc ho ht h1 j hp f b hn=>
  have g:=th0 ht;exact aR ha (all_ne (n:=0) (by rw [ht];exact gE _) (can_of ho (by rw [g];exact h1) (by rw [g];exact j) (by simp [PStm.kd])))
 |two hc ho ht f b hn=>
  have g:=th0 ht;have q:=th1 ht
  have z: ∀ {v:UInt8} {i:Nat} {t:PTr} {x V:Int} {c:Nat},i<s.ths.length->s.th i=t->Zzu v t x V c->t.st=4/\t.left= []:=by
   rintro v i t x V c m e ⟨(h|h),j⟩
   . exact h
   obtain ⟨y,L,o,w⟩:=j.kind h.2;exact aR ha (all_ne m (can_of ho (by rw [e];exact h.1) (by rw [e];exact o) (by omega)))
  obtain ⟨u,l⟩:=z (i:=0) (by rw [ht];exact gE _) g f;obtain ⟨r,k⟩:=z (i:=1) (by rw [ht];exact gC _) q b;obtain ⟨_,f⟩:=f;obtain ⟨_,b⟩:=b;have d:=f;have a:=b;rw [l] at d;rw [k] at a
  cases d;cases a
  exact .two hc ho ht ⟨.inl ⟨u,l⟩,by rw [l];exact .nil _⟩ ⟨.inl ⟨r,k⟩,by rw [k];exact .nil _⟩ (aL 0)
theorem Lf.zero (h:Lf v r x V 0):r= []/\x=V:=by
 cases h;exact ⟨rfl,rfl⟩
theorem Al.zero (h:Al p V W s 0):s.cells= [V,W]/\(s.outc p).kind=2:=by
 cases h with
 |one _ _ _ _ _ _ _ _ hn=>omega
 |two hc ho ht hA hB hn=>
  rename_i c d;obtain rfl:c=0:=by omega
  obtain rfl:d=0:=by omega
  obtain ⟨u,t⟩:=hA;obtain ⟨q,o⟩:=hB;obtain ⟨r,rfl⟩:=t.zero;obtain ⟨m,rfl⟩:=o.zero;have g:=u.resolve_right fun a=>a.2 r
  have f:=q.resolve_right fun a=>a.2 m
  refine ⟨hc,?_⟩
  have e: ∀ (z:SS),z.ths=s.ths->z.all p= []:=fun z b=>by
   rw [ht] at b;have j:=th0 b;have i:=th1 b;have l:z.can p 0=false:=by unfold SS.can;dsimp only;rw [j,if_pos (.inr (.inr g.1))]
   have k:z.can p 1=false:=by unfold SS.can;dsimp only;rw [i,if_pos (.inr (.inr f.1))]
   unfold SS.all;rw [b];show ((List.range 2).filter fun n=>z.can p n).map _= []
   rw [show List.range 2= [0,1] from rfl];simp only [jQ,l,k,List.filter_nil];rfl
  unfold SS.outc;rw [if_neg (by rw [ho];decide)];unfold SS.stands;dsimp only;rw [if_neg (by rw [e { s with out:=⟨1,0,0,0⟩ } rfl];decide)];dsimp only;rw [ht];simp [g.1,f.1]
theorem L6 (h: -1000000<=x/\x<=1000000):val x:=by unfold val;omega
section
variable {cells loc:List Int}
theorem made_nm:(nmR v).made p cells loc=(cells.getD (slotV v).toNat 0,0, [(slotV v,false,cells.getD (slotV v).toNat 0)]):=by
 simp (config:= { decide:=true }) only [PEx.made,if_true,if_false]
theorem R3 (k:Int):(nuE k).made p cells loc=(k,0, []):=by
 simp (config:= { decide:=true }) only [PEx.made,if_true]
theorem R2 {o y:Int}{a b:PEx}{ax ay:List Ac}(ha:a.made p cells loc=(x,0,ax))(hb:b.made p cells loc=(y,0,ay))(ho:2<o):(opE o a b).made p cells loc=((Yi o x y).1,(Yi o x y).2,ax++ay):=by
 have d: ¬ ((o=1/\x≠0)\/(o=2/\x=0)):=by omega
 have c: ¬o<=2:=by omega
 simp (config:= { decide:=true }) only [PEx.made,Ym,ha,hb,if_false,List.getD_cons_zero,List.getD_cons_succ];rw [if_neg d,if_neg c]
theorem T0 {x:PStm}(h1:(s.th n).st=1)(hl:(s.th n).left=x::r)(hk:x.kd<=5\/x.kd=11\/x.kd=15):s.did p n=(s.put n { s.th n with left:=r }).data p n x (zEv n x.idn):=by
 have e:(s.th n).next=x:=by unfold PTr.next;rw [hl];rfl
 unfold SS.did;dsimp only;rw [if_neg (by rw [h1];decide),e,if_pos hk,hl];rfl
end
theorem did_lf {c:Nat}(hx:s.cells.getD (slotV v).toNat 0=x)(hn:n<s.ths.length)(h1:(s.th n).st=1)(hl:(s.th n).left≠ [])(h:Lf v (s.th n).left x V c): ∃ (L:List Int) (r:List PStm) (x':Int) (c':Nat),(s.did p n).2.2=0/\(s.did p n).1= { s with cells:=s.cells.set (slotV v).toNat x',ths:=s.ths.set n { s.th n with left:=r,loc:=L } } /\Lf v r x' V c'/\c'<c:=by
 have j:s.cells.set (slotV v).toNat x=s.cells:=by
  apply fW fun i=> ?_
  rw [List.getElem?_set];split
  . rename_i e;subst e;split
    . rename_i h;rw [<-hx,bD,aD h];rfl
    rename_i h;rw [cF (by omega)]
  rfl
 have f: ∀ t:PTr,(s.put n t).th n=t:=fun t=>Dd hn
 have d: ∀ t:PTr,(s.put n t).cells=s.cells:=fun _=>rfl
 have q: ∀ t u:PTr,(s.put n t).put n u=s.put n u:=fun t u=>by unfold SS.put;simp [fI]
 have g:(nmR v).made p s.cells (s.th n).loc=(x,0, [(slotV v,false,x)]):=by rw [made_nm,hx]
 generalize hL:(s.th n).left=l at h hl
 cases h with
 |nil=>exact aR rfl hl
 | @cons k y r x V c h hk h0 t=>
  cases h with
  |dbl ln cl nm wt ix id ot=>
   refine ⟨(s.th n).loc,r,x*2+1,c,?_⟩;have e1:Yi 9 x 2=(x*2,0):=by unfold Yi;simp (config:= { decide:=true }) only [if_false,if_true];rw [if_pos (L6 (by omega))]
   have e2:Yi 7 (x*2) 1=(x*2+1,0):=by unfold Yi;simp (config:= { decide:=true }) only [if_false,if_true];rw [if_pos (L6 (by omega))]
   have m:=R2 (p:=p) g (R3 2) (o:=9) (by decide);rw [e1] at m;have w:=R2 (p:=p) m (R3 1) (o:=7) (by decide);rw [e2] at w;rw [T0 h1 hL (.inl (by simp [PStm.kd]))];refine ⟨?_,?_,t,by omega⟩
   . simp (config:= { decide:=true }) only [SS.data,f,d,w,if_true,if_false]
   simp (config:= { decide:=true }) only [SS.data,f,d,w,if_true,if_false,SS.into];rfl
  |lt ln cl nm wt ix id sl ot=>
   refine ⟨(s.th n).loc.set sl.toNat x,r,x,c,?_⟩;rw [T0 h1 hL (.inl (by simp [PStm.kd])),j];refine ⟨?_,?_,t,by omega⟩
   . simp (config:= { decide:=true }) only [SS.data,f,d,g,if_true,if_false]
   simp (config:= { decide:=true }) only [SS.data,f,d,g,if_true,if_false,SS.into];rw [q];rfl
  |cond ln cl a b nm wt ix id sl ot lo w w2 i2 d2 o2=>
   have e1:Yi 5 x 5=(Ux (decide (x<5)),0):=by unfold Yi;simp (config:= { decide:=true }) only [if_false,if_true]
   have m:=R2 (p:=p) g (R3 5) (o:=5) (by decide);rw [e1] at m;by_cases h5:x<5
   . have z:E4 2 x=x+3:=by unfold E4;rw [if_neg (by decide),if_pos rfl,if_pos h5]
     rw [z] at t;refine ⟨(s.th n).loc,.mk 2 a b w w2 (opE 7 (nmR v) (nuE 3)) i2 [] [] d2 (slotV v) o2 false::r,x,c+1,?_⟩;rw [T0 h1 hL (.inl (by simp [PStm.kd])),j];refine ⟨?_,?_,.inn (.mk ..) h0 t,by omega⟩
     . simp (config:= { decide:=true }) only [SS.data,f,d,m,if_true,if_false]
     simp (config:= { decide:=true }) only [SS.data,f,d,m,h5,Ux,if_true,if_false];rw [q];rfl
   have z:E4 2 x=x:=by unfold E4;rw [if_neg (by decide),if_pos rfl,if_neg h5]
   rw [z] at t;refine ⟨(s.th n).loc,r,x,c,?_⟩;rw [T0 h1 hL (.inl (by simp [PStm.kd])),j];refine ⟨?_,?_,t,by omega⟩
   . simp (config:= { decide:=true }) only [SS.data,f,d,m,if_true,if_false]
   simp (config:= { decide:=true }) only [SS.data,f,d,m,h5,Ux,if_true,if_false];rw [q];rfl
  |prt ln cl nm wt ix id sl ot lo=>
   refine ⟨(s.th n).loc,r,x,c,?_⟩;rw [T0 h1 hL (.inr (.inr rfl)),j];refine ⟨?_,?_,t,by omega⟩
   . simp (config:= { decide:=true }) only [SS.data,f,d,g,if_true,if_false]
   simp (config:= { decide:=true }) only [SS.data,f,d,g,if_true,if_false];rfl
 | @inn y r x V c h h0 t=>
  obtain ⟨a,b,w,w2,i2,d2,o2⟩:=h;refine ⟨(s.th n).loc,r,x+3,c,?_⟩;have e2:Yi 7 x 3=(x+3,0):=by unfold Yi;simp (config:= { decide:=true }) only [if_false,if_true];rw [if_pos (L6 (by omega))]
  have m:=R2 (p:=p) g (R3 3) (o:=7) (by decide);rw [e2] at m;rw [T0 h1 hL (.inl (by simp [PStm.kd]))];refine ⟨?_,?_,t,by omega⟩
  . simp (config:= { decide:=true }) only [SS.data,f,d,m,if_true,if_false]
  simp (config:= { decide:=true }) only [SS.data,f,d,m,if_true,if_false,SS.into];rfl
theorem Fg {cs:List Int}(hn:n<s.ths.length):(({ s with cells:=cs,ths:=s.ths.set n t } :SS).ended n ev).1= { s with cells:=cs,ths:=s.ths.set n (if t.left= [] then { t with st:=4 } else t) } :=by
 have a:n<({ s with cells:=cs,ths:=s.ths.set n t } :SS).ths.length:=by show n<(s.ths.set n t).length;rw [bC];exact hn
 have e:({ s with cells:=cs,ths:=s.ths.set n t } :SS).th n=t:=by
  rw [Kg a];exact cN ..
 unfold SS.ended;rw [e];split
 . unfold SS.put;simp only [fI]
 rfl
theorem Lf.th {L:List Int}{c:Nat}(h1:t.st=1)(h:Lf v r x V c):Zzu v (if r= [] then { t with left:=r,loc:=L,st:=4 } else { t with left:=r,loc:=L }) x V c:=by
 by_cases hr:r= []
 . rw [if_pos hr];exact ⟨.inl ⟨rfl,hr⟩,h⟩
 rw [if_neg hr];exact ⟨.inr ⟨h1,hr⟩,h⟩
theorem Al.step (h:Al p V W s n)(hi:i<s.ths.length)(hc:s.can p i=true): ∃ m,m<n/\Al p V W (s.step p i).1.pg m:=by
 have hg:s.pg=s:=by
  have:s.out=Bw:=by cases h<;>assumption
  unfold SS.pg;rw [if_neg (by rw [this];decide),<-this]
 cases h with
 |one hc0 ho ht h1 hl hp hA hB hn=>
  rename_i x y t A B ln cl nm wt e ix id ot lo f c d;obtain rfl:i=0:=by rw [ht] at hi;exact Nat.lt_one_iff.1 hi
  have b:=th0 ht;have g:s.ths.length=1:=by rw [ht];rfl
  have hd:(s.did p 0).1= { s with ths:= [{ t with left:=A,sp:=t.sp++ [1] },Wc p 1] } /\(s.did p 0).2.2=0:=by
   have c0:(s.th 0).next= .mk 13 ln cl nm wt e ix [] [] id 1 ot lo:=by rw [b];unfold PTr.next;rw [hl];rfl
   have a0: ∀ u:PTr,(s.put 0 u).th 0=u:=fun u=>Dd hi
   have b0: ∀ u:PTr,(s.put 0 u).ths= [u]:=fun u=>by unfold SS.put;rw [ht];rfl
   unfold SS.did;dsimp only;rw [if_neg (by rw [b,h1];decide),c0,if_neg (by simp [PStm.kd])];simp (config:= { decide:=true }) only [SS.others,a0,b0,if_true,if_false,bJ];refine ⟨?_,trivial⟩;rw [b];unfold SS.put;rw [ht,hl];rfl
  obtain ⟨k,g2⟩:=Hq hg hc hd.2;rw [k,hd.1];have f0:Wc p 1=⟨1,if B= [] then 4 else 1,List.replicate f.toNat 0,B, []⟩:=by unfold Wc;rw [show (1:Int).toNat=1 from rfl,hp]
  have j:Zzu 121 (Wc p 1) y W d:=by
   rw [f0];by_cases hb:B= []
   . rw [if_pos hb];exact ⟨.inl ⟨rfl,hb⟩,hB⟩
   rw [if_neg hb];exact ⟨.inr ⟨rfl,hb⟩,hB⟩
  refine ⟨c+d,by omega,?_⟩;generalize (s.did p 0).2.1=ev;unfold SS.ended;have e3:({ s with ths:= [{ t with left:=A,sp:=t.sp++ [1] },Wc p 1] } :SS).th 0= { t with left:=A,sp:=t.sp++ [1] } :=rfl;rw [e3];split
  . rename_i ha;exact .two hc0 ho (t:= { { t with left:=A,sp:=t.sp++ [1] } with st:=4 }) rfl ⟨.inl ⟨rfl,ha⟩,hA⟩ j (aL _)
  rename_i ha;exact .two hc0 ho rfl ⟨.inr ⟨h1,ha⟩,hA⟩ j (aL _)
 |two hc0 ho ht hA hB hn=>
  rename_i x y t u c d;have b:=th0 ht;have l:=th1 ht;have g:s.ths.length=2:=by rw [ht];rfl
  -- a thread that can go on has something left
  have z: ∀ {v:UInt8} {t:PTr} {x V:Int} {c:Nat},s.th i=t->Zzu v t x V c->t.st=1/\t.left≠ []:=fun e h=>h.1.resolve_left fun a=>by
   unfold SS.can at hc;dsimp only at hc;rw [if_pos (.inr (.inr (by rw [e];exact a.1)))] at hc
   cases hc
  have d0:i=0\/i=1:=by omega
  rcases d0 with rfl|rfl
  . obtain ⟨o,b2⟩:=z b hA;obtain ⟨L,r,q,c',f,k2,w,k4⟩:=did_lf (p:=p) (v:=120) (x:=x) (by rw [hc0];rfl) hi (by rw [b];exact o) (by rw [b];exact b2) (by rw [b];exact hA.2);obtain ⟨k,g2⟩:=Hq hg hc f;rw [k,k2,Fg hi,b];refine ⟨c'+d,by omega,.two (x:=q) (y:=y) (by rw [hc0];rfl) ho (by rw [ht];rfl) (w.th o) hB (aL _)⟩
  obtain ⟨o,b2⟩:=z l hB;obtain ⟨L,r,q,c',f,k2,w,k4⟩:=did_lf (p:=p) (v:=121) (x:=y) (by rw [hc0];rfl) hi (by rw [l];exact o) (by rw [l];exact b2) (by rw [l];exact hB.2);obtain ⟨k,g2⟩:=Hq hg hc f;rw [k,k2,Fg hi,l];refine ⟨c+c',by omega,.two (x:=x) (y:=q) (by rw [hc0];rfl) ho (by rw [ht];rfl) hA (w.th o) (aL _)⟩
theorem Al.th8 (h:Al p V W s n):s.ths.length<=8:=by
 cases h with
 |one hc ho ht h1 hl hp hA hB hn=>rw [ht];simp
 |two hc ho ht hA hB hn=>rw [ht];simp
theorem Al.stepP (h:Al p V W s n)(k:Int):Al p V W (s.stepP p k).1 (n - 1):=by
 by_cases ha:s.all p= []
 . have e:(s.stepP p k).1=s:=by unfold SS.stepP;rw [if_pos ha]
   rw [e];exact (h.stop ha).mono (bB _)
 obtain ⟨i,d,c,g,b⟩:=Tb (k:=k) ha h.th8;rw [b];obtain ⟨m,f,a⟩:=h.step d c;exact a.mono (by omega)
theorem Al.runP : ∀ (l:List Int) {s:SS} {n:Nat},Al p V W s n->Al p V W (SS.runP p s l).1 n
 | [],_,_,h=>h
 |k::l,s,n,h=>by
  rw [Hz];split
  . exact h
  exact Al.runP l ((h.stepP k).mono (by omega))
def SS.stepN (p:PPr)(k:Int):Nat->SS->SS
 |0,s=>s
 |m+1,s=>(SS.stepP p (SS.stepN p k m s) k).1
theorem Al.stepN (h:Al p V W s n)(k:Int): ∀ m,Al p V W (SS.stepN p k m s) (n - m)
 |0=>h
 |m+1=>by
  have:=(Al.stepN h k m).stepP k;rwa [Nat.sub_sub] at this
theorem IsAlone.al {F:Fnd}(h:IsAlone F a b)(ha:a.length<=6)(hb:b.length<=6)(hka: ∀ k∈a,k<4)(hkb: ∀ k∈b,k<4):Al F.pr (finS a 1) (finS b 2) (Vs F.pr) 25:=by
 obtain ⟨A,B,j,n,m,c,e,g,f⟩:=h.p
 have d: ∀ {l:List Nat},l.length<=6->(2:Int) ^ l.length<=64:=fun {l} hl=>by
  have:2 ^ l.length<=2 ^ 6:=Nat.pow_le_pow_right (by decide) hl;exact_mod_cast this
 have pa:=d ha;have i:=d hb;rw [e];exact .one (x:=1) (y:=2) rfl rfl rfl rfl rfl (k1:=c) (B:=B) rfl (g.lf (x:=1) (B:=4) hka (by omega) (by omega) (by omega)) (f.lf (x:=2) (B:=4) hkb (by omega) (by omega) (by omega)) (by omega)
theorem lm_info5:(prog.info? 5).map (fun i=>(i.zero,i.size,i.bytes))=some (some (.int .u8 0),1,1):=by kernel_rfl
theorem Wf {P:Program}{p:PE}{d:Option Tmp}{ty:TypeId}{pos:String}{af:Array Edge}{gd:Option (Nat×Bool)}{x y:Operand}{t t':TypeId}{a b:ByteArray}(hx:evp p x=some (.string a))(hy:evp p y=some (.string b))(h:a.size+b.size<=9223372036854775807):Pu P p ⟨d,.binOp .add t x y t',ty,pos,af,gd⟩ (.string (a++b)):=fun f w c=>by
 have e: ¬ (((a.size+b.size:Nat):Int)>IntKind.i64.max):=by show ¬ (((a.size+b.size:Nat):Int)>9223372036854775807);omega
 simp only [execOp,Zh c hx,Zh c hy,eqGuard,Go.binOp,Op.stringOp,if_neg e];rfl
theorem Rs (a b:ByteArray):(a++b).size=a.size+b.size:=ByteArray.size_append
theorem lv_info9:(prog.info? 9).map (fun i=>(i.zero,i.size,i.bytes))=some (some (.string ⟨#[]⟩),1,16):=by kernel_rfl
theorem Iy (x y:Bs):ba x++ba y=ba (x++y):=by
 apply ByteArray.ext;rw [ByteArray.data_append];simp [ba]
def Qk (l:List Int):List Nat:=l.map fun k=>(k.tmod 4).toNat
theorem kinS_at (h:i<l.length):Qk (l.take (i+1))=Qk (l.take i)++ [(l[i].tmod 4).toNat]:=by
 unfold Qk;rw [aH h,aM];rfl
theorem R5 (h: ∀ k∈l,0<=k/\k<=255): ∀ k∈Qk l,k<4:=fun k b=>by
 obtain ⟨x,a,rfl⟩:=bU.1 b;have:=h x a;rw [Int.tmod_eq_emod_of_nonneg this.1];omega
theorem N6 (l:List Int):(Qk l).length=l.length:=by unfold Qk;rw [aU]
theorem pcs_at (hk:0<=k/\k<4)(hi:i<6)(hz:z=97+i)(h:k.toNat<4):([ba [c]++ba [32,61,32]++ba [c]++ba [32,42,32,50,32,43,32,49,59,32],ba [108,101,116,32,108]++Zzy [z]++ba [32,61,32]++ba [c]++ba [59,32],ba [105,102,32]++ba [c]++ba [32,60,32,53,32,123,32]++ba [c]++ba [32,61,32]++ba [c]++ba [32,43,32,51,59,32,125,32],ba [112,114,105,110,116,32]++ba [c]++ba [59,32]]:List ByteArray)[k.toNat]'h=ba (pcB c i k.toNat):=by
 have d:Zzy [z]=ba [97+UInt8.ofNat i]:=by
  subst hz;have b:i=0\/i=1\/i=2\/i=3\/i=4\/i=5:=by omega
  rcases b with rfl|rfl|rfl|rfl|rfl|rfl<;>rfl
 have a:k=0\/k=1\/k=2\/k=3:=by omega
 rw [d];simp only [Iy];rcases a with rfl|rfl|rfl|rfl<;>rfl
theorem pcB_at {s:Nat}(h:s<l.length):ba (Vk c 0 (Qk (l.take s)))++ba (pcB c s (l[s].tmod 4).toNat)=ba (Vk c 0 (Qk (l.take (s+1)))):=by
 rw [Iy,kinS_at h,D1,N6,bH,eQ (Nat.le_of_lt h),eC]
theorem K0 (l:Bs):(ba l).size=l.length:=by simp [ba,ByteArray.size]
theorem pcB_size {s k:Nat}(h:l.length<=6):(ba (Vk c 0 (Qk (l.take s)))).size+(ba (pcB c s k)).size<=9223372036854775807:=by
 have a:=Q9 c (Qk (l.take s)) 0;have b:=Xy c s k;rw [N6,bH] at a;rw [K0,K0];omega
section
variable {a:Option Addr}
theorem Ft (hs:Sees q a (l.map (Value.int .u8)))(hk: ∀ k∈l,0<=k/\k<=255)(hl:l.length<=6):CallF prog G 18 [.string (ba [c]),.slice a l.length n] (q) (Ret fun v q'=>v= .string (ba (Vk c 0 (Qk l)))/\q'=q):=by
 refine aC func18 ntmps18 rfl fun F z=> ?_;refine xx 14 ?_;refine aY (cG (fun (s:Nat)=>s<=l.length) (fun s=> [(0,.string (ba [c])),(1,.slice a l.length n),(5,.string (ba (Vk c 0 (Qk (l.take s))))),(6,I64 s)]) (fun s=>q++F) (fun s=>l.length - s) (fun s d j=> ?_) 0 (bB _)) Zu leA;try dsimp only at d j|-
 obtain w:=d;refine xx 8 ?_;refine xp 10 ?_ ?_<;>intro x
 . have b:s<l.length:=(by omega);have m:=hk _ (aB b);have o:0<=(l[s]).tmod 4/\(l[s]).tmod 4<4:=(by rw [Int.tmod_eq_emod_of_nonneg m.1];omega);have i:IntKind.u8.wrap (s:Int)=s:=(by rw [wu8];omega);have g:IntKind.u8.wrap (97+(s:Int))=97+s:=(by rw [wu8];omega);refine Yd hs (by rw [aU];omega) (fun b1 t r=> ?_) leA;subst r;have e:((l[s]).tmod 4).toNat<4:=(by omega);refine rn [4,0,1,2] ?_;refine Vz 2 rfl (Wf rfl rfl (cL rfl)) ?_;refine dd [3] ?_;refine Vz 4 rfl (Wf rfl rfl (cL rfl)) ?_;refine Vz 5 rfl (Wf rfl rfl (cL rfl)) ?_;refine dd [6,7,8,13,16] ?_;refine Vz 17 rfl (Wf rfl rfl (cL rfl)) ?_;refine Vz 18 rfl (Wf rfl rfl (cL rfl)) ?_;refine dd [19] ?_;refine Vz 20 rfl (Wf rfl rfl (cL rfl)) ?_;refine Vz 21 rfl (Wf rfl rfl (cL rfl)) ?_;refine dd [22] ?_;refine Vz 23 rfl (Wf rfl rfl (cL rfl)) ?_;refine Vz 24 rfl (Wf rfl rfl (cL rfl)) ?_;refine dd [25] ?_;refine Vz 26 rfl (Wf rfl rfl (cL rfl)) ?_;refine Vz 27 rfl (Wf rfl rfl (cL rfl)) ?_;refine rf [30,31,32,33,34,35] hs ?_;refine fC 9 rfl (U3 (u:=_) (Value.int .u8) underlying57 lm_info5 rfl rfl) ?_;rintro _ _ ⟨p,rfl,rfl⟩;refine ⟨hlA,?_⟩;refine Zzh 10 [_] underlying57 underlying5 underlying9 (bR _) ?_;refine Vz 11 rfl (Wf rfl rfl (cL rfl)) ?_;refine Vz 12 rfl (Wf rfl rfl (cL rfl)) ?_;refine Vz 14 rfl (Wf rfl rfl (cL rfl)) ?_;refine Vz 15 rfl (Wf rfl rfl (cL rfl)) ?_;refine fC 28 rfl (Yp Value.string [_,_,_,_] underlying25 lv_info9 rfl rfl rfl rfl rfl rfl (fun _=>rfl)) ?_;rintro _ _ ⟨y,rfl,rfl⟩;refine ⟨(hlA (h:=by repeat first|exact trivial|refine ⟨clA,?_⟩|refine ⟨(hs.le leA).at rfl b,?_⟩|refine ⟨((bR (f:=Value.int .u8) (a:=some ⟨p,0,none⟩) (l:= [_]) _).le leA).at rfl (gE 0),?_⟩)),?_⟩;refine dd [35] ?_;refine ldD 36 ?_ (hc:=((bR _).at rfl e));refine dS 49 (.string (ba (pcB c s ((l[s]).tmod 4).toNat))) rfl (bK Value.string (pcs_at o (by omega) (by rw [i,g]) e)) ?_;refine Vz 37 rfl (Wf rfl rfl (pcB_size hl)) ?_;refine rn [39,0,6] ?_;refine cQ 5 (.string (ba (Vk c 0 (Qk (l.take (s+1)))))) rfl (bK Value.string (pcB_at b)) ?_;refine aY (j (s+1) (by omega) (by omega)) Zu leA
 refine xx 7 ?_;refine Zq (q) func18 (Zn results18 rfl) ⟨_,rfl,by rw [show s=l.length from (by omega),cD],rfl⟩
end
end Go.Proofs.YtflkjkhijcdbaaaGreat
