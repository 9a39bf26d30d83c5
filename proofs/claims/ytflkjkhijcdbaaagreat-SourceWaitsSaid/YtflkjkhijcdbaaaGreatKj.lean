/- Contracts. -/
import Derived.Test.YtflkjkhijcdbaaaGreatKi
set_option maxHeartbeats 16000000
set_option maxRecDepth 100000
set_option linter.all false
namespace Go.Proofs.YtflkjkhijcdbaaaGreat
open Go Go.RowKit Wx Go.Proofs.Tryz
attribute [local irreducible] lsH rsH stars
section
variable {G:World}{q:List HP}{s:ByteArray}{picks:List Int}{pa:Option Addr}{pc:Nat}
theorem K8 (hs:Sees q pa (picks.map I64))(hk: ∀ k∈picks, -9223372036854775808<=k/\k<=9223372036854775807):CallF prog G 6 [.string s,.slice pa picks.length pc] (q) (Am q):=by
 refine aC func6 ntmps6 rfl fun F cs=> ?_;refine xo 7 ?_;refine Zx call13 (aD _) (E6 (s:=s)) ?_;rintro _ _ ⟨b,bb,rfl,rfl,hP⟩;rcases hP with hP|hP
 iterate 2
  focus
   refine oo 3 ?_;refine bE zeroValue29 fun n1=> ?_
   refine rn [0,6] ?_;refine Zi (bO rfl) ?_;refine oo 1 ?_
  rotate_left
 focus
  refine rn [2023,8] ?_
 rotate_left
 focus
  refine rn [1023,5] ?_;refine dH 27 rfl ?_ ?_<;>intro h0
  focus
   refine xo 3 ?_
  rotate_left
  focus
   replace h0:=sp h0;have s0:picks.length<=60:=(by omega);have hT:=He hP;have hM:=Ri (Mo hT).m;refine rn [4,0] ?_;refine Yi call15 (E8 (q:= [fcM b]) hT kB) ?_;refine kd1 fun p=> ?_
   refine rn [8,0] ?_;refine Yi call23 (Lm (q:= [fcM b]) (g:=b) kB hM) ?_;rintro _ _ ⟨D0,rfl,rfl,l0,b0⟩ _ e_;simp only [ca,na] at e_;subst e_;have q0: ∀ r,Kn (docM D0::r) fun M=>DC.At M D0:=fun r=>fK;have v:SS.stood b.er.pr (Ai b):=Jl _ _;have j:((Ai b)).pg=Wj b.er.pr:=Gk _;have r0:(D0.cells.l.length:Int)=b.vars.l.length+Yl b.arrs.l:=(by rw [b0.cells,show ((Ai b)).cells=((Ai b)).pg.cells from rfl,j];exact (H6 hM).ok.c)
   refine bE zeroValue70 fun n2=> ?_
   refine rn [0,3,0,1,2,3] ?_;refine Zjm 38 ?_;refine rn [4,5] ?_;refine bW 40 (AU D0) rfl (rfl) ?_;refine V4 5 call24 ((by have h:=Rf (G:=G) (q:= [docM D0]) (p:=p) (N:=0) (Fn:=b.er) (D:=D0) (S:=(Ai b)) (q0 _) b0 v (by rw [l0]) (by decide);rw [j] at h;exact h)) ?_;refine kc0 ?_;refine Vx 6 rfl (bO rfl) ?_;refine dd [7,8] ?_;refine Zjm 44 ?_;refine rn [10,12,13,14] ?_;refine Yx 10 call25 (C6 (g:=b) (bU (kB (q:= []) (f:=b)) leA) hM) ?_;refine rn [15,16,0,1051,8] ?_;refine aZ (cD (fun (s:Nat×DC×SS)=>s.1<=picks.length/\s.2.1.g=b/\s.2.1.Is s.2.2/\s.2.2.stood b.er.pr) (fun s=> [(1,.slice pa picks.length pc),(7,.pointer (some ⟨p,0,none⟩)),(9,pt n2),(10,I64 (s.1:Int))]) (fun s=>gH p b.er s.1 s.2.2.pg::docM s.2.1::pto n2 (.cells (Y3 s.2.1).toArray 70 (0,0))::(q++F)) (fun s=>picks.length - s.1) (fun s i0 ih=> ?_) (0,D0,(Ai b)) ⟨bC _,l0,b0,v⟩) Zg (by dsimp only;rw [j];exact leA);try dsimp only at i0 ih|-
   obtain ⟨t0,hg,hI,o0⟩:=i0;obtain ⟨i,D,S⟩:=s;dsimp only at*;refine xx 8 ?_;refine dH 55 rfl ?_ ?_<;>intro h1
   . replace h1:=sp h1;have a0:i<picks.length:=(by omega);subst hg;refine Lu fun w0 hF hG=> ?_;have k0:=hF.of_pg;have p0: ∀ r,Kn (docM D::r) fun M=>DC.At M D:=fun r=>fK;have g0:=hk _ (aA a0);have B:=Nu (p:=D.g.er.pr) (k:=picks[i]) k0.th8 o0
     refine Zs (hs.le leA) (by rw [aG];omega) fun b1 o1 c0=> ?_;have n:=hs;rw [c0] at n;refine rg [9,3060,1,0] c0 n ?_;refine Yi call19 (gStep_ok (p:=p) (F:=D.g.er) (N:=i) (s:=S.pg) (k:=picks[i]) (q:= []) (by omega) g0) ?_;rintro _ _ ⟨d,rfl,rfl,n0⟩ _ e_;simp only [ca,na] at e_;subst e_;simp only [evL,ca,na];rw [B.s];refine oo 3 ?_;refine bE zeroValue47 fun n3=> ?_
     refine rg [0,3,0,1,2,3,3069,4,5] c0 n ?_;refine Z7 (fl:= [⟨10,13,fun g=> pt g,fun g=>pto g Ad⟩,⟨11,14,fun g=> pt g,fun g=>pto g Ag⟩]) ?_;refine Ji 5 ⟨⟨_,rfl,rfl,rfl,rfl,rfl,rfl,fun q=>bA zeroValue70⟩,⟨_,rfl,rfl,rfl,rfl,rfl,rfl,fun q=>bA zeroValue47⟩,trivial⟩ call26 (aD _) (I3 (D:=D) (S0:=S) (N:=i) ((p0 _).le leA) hI k0 hM (by omega) g0) ?_ (hL:=(hlF (cH n a0)));rintro _ _ ⟨D2,u,rfl,rfl,z,j0,m0⟩;refine ⟨trivial,?_⟩;simp only [evL,ca,na];refine Vl 6 ⟨⟨_,rfl,rfl,rfl,rfl,rfl,rfl,fun q=>bA zeroValue70⟩,⟨_,rfl,rfl,rfl,rfl,rfl,rfl,fun q=>bA zeroValue47⟩,trivial⟩ (jM rfl) ?_;refine Vl 7 ⟨⟨_,rfl,rfl,rfl,rfl,rfl,rfl,fun q=>bA zeroValue70⟩,⟨_,rfl,rfl,rfl,rfl,rfl,rfl,fun q=>bA zeroValue47⟩,trivial⟩ (eB rfl rfl) ?_;refine Vl 8 ⟨⟨_,rfl,rfl,rfl,rfl,rfl,rfl,fun q=>bA zeroValue70⟩,⟨_,rfl,rfl,rfl,rfl,rfl,rfl,fun q=>bA zeroValue47⟩,trivial⟩ (eB rfl rfl) ?_;refine Vl 9 ⟨⟨_,rfl,rfl,rfl,rfl,rfl,rfl,fun q=>bA zeroValue70⟩,⟨_,rfl,rfl,rfl,rfl,rfl,rfl,fun q=>bA zeroValue47⟩,trivial⟩ (eB rfl rfl) ?_;refine Yn (e0:=⟨10,13,fun g=> pt g,fun g=>pto g Ad⟩) (hnd:=by simp) 10 ⟨⟨_,rfl,rfl,rfl,rfl,rfl,rfl,fun q=>bA zeroValue70⟩,⟨_,rfl,rfl,rfl,rfl,rfl,rfl,fun q=>bA zeroValue47⟩,trivial⟩ fun f0=> ?_;change XF _ _ _ _ _ _ _ [⟨11,14,fun g=> pt g,fun g=>pto g Ag⟩] _ _ _ ((13,.pointer (some ⟨f0,0,none⟩))::_) _ _ (pto f0 Ad::_);refine Yn (e0:=⟨11,14,fun g=> pt g,fun g=>pto g Ag⟩) (hnd:=by simp) 11 ⟨⟨_,rfl,rfl,rfl,rfl,rfl,rfl,fun q=>bA zeroValue47⟩,trivial⟩ fun d0=> ?_;change XF _ _ _ _ _ _ _ [] _ _ _ ((14,.pointer (some ⟨d0,0,none⟩))::_) _ _ (pto d0 Ag::_);refine dO ?_;refine rn [13,14,15,0,1] ?_;rcases hbb:(S.dstep D.g.er.pr picks[i]).2.2 with _|_
     focus
      refine cU 15 bF rfl (rfl) ?_;refine cU 12 (I64 150) rfl (by rw [B.f hbb]) ?_;refine rn [7,1081,1] ?_;refine Zi (bO rfl) ?_;refine rn [1,2084,5,1089] ?_
     rotate_left
     focus
      refine cU 15 bT rfl (rfl) ?_;refine cU 12 (I64 0) rfl (by rw [B.t hbb]) ?_;refine rn [7,1081,1] ?_;refine Zi (bO rfl) ?_;refine rn [1,1084,5] ?_
     all_goals
      refine rn [0,0] ?_;refine aM 90 (.agg (evC d).toArray) rfl (rfl) ?_;refine aM 91 (.agg (evC u).toArray) rfl (rfl) ?_;refine kI (fun w s=>(s.le (show Le _ (rsH acC 3 140 d.aa d.ac d.e.acc::_) from Zj)).rsLen) fun v0=> ?_;refine kI (fun w s=>(s.le (show Le _ (rsH snC 3 50 d.na d.nc d.e.syn::_) from Zj)).rsLen) fun u0=> ?_;refine aU call27 (Ja (x:=d) (y:=u) (by rw [n0,m0];exact B.e) ((aV (f:=acC) (sz:=3) (ty:=140) (a:=d.aa) (c:=d.ac) (l:=d.e.acc) _).le Zj) ((aV (f:=acC) (sz:=3) (ty:=140) (a:=u.aa) (c:=u.ac) (l:=u.e.acc) _).le Zj) ((aV (f:=snC) (sz:=3) (ty:=50) (a:=d.na) (c:=d.nc) (l:=d.e.syn) _).le Zj) ((aV (f:=snC) (sz:=3) (ty:=50) (a:=u.na) (c:=u.nc) (l:=u.e.syn) _).le Zj) ⟨by omega,by omega⟩) ?_;refine Zi (bO rfl) ?_;refine rn [2,1094,4,0,0,4,0] ?_;refine aM 97 (AU D2) rfl (rfl) ?_;refine Yi call24 (Rf (q:= [docM D2]) (p:=p) (N:=i+1) (Fn:=D.g.er) (D:=D2) (S:=(S.dstep D.g.er.pr picks[i]).1) fK j0 B.o (by rw [z]) (by omega)) ?_;refine kd0 ?_;refine Zi (bO rfl) ?_;refine rn [1,1099,8] ?_;refine aZ (ih (i+1,D2,(S.dstep D.g.er.pr picks[i]).1) ⟨a0,z,j0,B.o⟩ (by dsimp only;omega)) Zg leA
   refine xo 4 ?_
 all_goals
  refine Yi call14 (U1 (q:= [])) ?_;refine kd0 ?_;refine ox 2 ?_;refine Zq (q) func6 (Zh results6 rfl) ⟨_,rfl,rfl,rfl⟩
end
end Go.Proofs.YtflkjkhijcdbaaaGreat
