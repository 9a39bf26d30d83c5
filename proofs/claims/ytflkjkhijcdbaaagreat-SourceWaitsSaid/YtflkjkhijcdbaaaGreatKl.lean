/- Contracts. -/
import Derived.Test.YtflkjkhijcdbaaaGreatKk
set_option maxHeartbeats 16000000
set_option maxRecDepth 100000
set_option linter.all false
namespace Go.Proofs.YtflkjkhijcdbaaaGreat
open Go Go.RowKit Wx Go.Proofs.Tryz
attribute [local irreducible] lsH rsH stars
variable {L:List EvC}
section
variable {G:World}{q:List HP}{s:ByteArray}{picks:List Int}{pa:Option Addr}{pc:Nat}
theorem Zjv {w:World}{r:List HP}(s:St G w (stars (L.map fun x=>stars (evL x))::r))(i:Nat)(h:i<L.length):L[i].e.acc.length<=9223372036854775807/\L[i].e.syn.length<=9223372036854775807:=by
 have a:=(s.le (Le.focus (fun x=>stars (evL x)) h _)).le (Z3 (evL L[i]) _);have c:=St.rsLen a;have b:=St.rsLen (a.le (eM _ _));omega
theorem EvS.of {a:Option Addr}{c:Nat}(h1:Sees q a (L.flatMap evC))(h2: ∀ (i:Nat) (h:i<L.length) (f:EvC->Option Addr) (g:EvC->List Value),(∀ r,Sees (stars (evL L[i])::r) (f L[i]) (g L[i]))->Sees q (f L[i]) (g L[i]))(hl: ∀ i (h:i<L.length),L[i].e.acc.length<=9223372036854775807/\L[i].e.syn.length<=9223372036854775807):EvS q a L:=
 ⟨h1,fun i h=>h2 i h (fun x=>x.aa) (fun x=>x.e.acc.flatMap acC) fun r=>Sees.evA,fun i h=>h2 i h (fun x=>x.na) (fun x=>x.e.syn.flatMap snC) fun r=>Sees.evB,hl⟩
theorem Rx (hs:Sees q pa (picks.map I64))(hk: ∀ k∈picks, -9223372036854775808<=k/\k<=9223372036854775807):CallF prog G 8 [.string s,.slice pa picks.length pc] (q) (Am q):=by
 refine aC func8 ntmps8 rfl fun F cs=> ?_;refine xo 7 ?_;refine Zx call13 (aD _) (E6 (s:=s)) ?_;rintro _ _ ⟨b,bb,rfl,rfl,hP⟩;rcases hP with hP|hP
 iterate 2
  focus
   refine oo 3 ?_;refine bE zeroValue29 fun n1=> ?_
   refine rn [0,6] ?_;refine Zi (bO rfl) ?_;refine oo 1 ?_
  rotate_left
 . refine rn [2021,8] ?_;refine Yi call14 (U1 (q:= [])) ?_;refine kd0 ?_;refine ox 2 ?_;refine Zq (q) func8 (Zh results8 rfl) ⟨_,rfl,rfl,rfl⟩
 refine rn [1021,5] ?_;refine dH 25 rfl ?_ ?_<;>intro h0
 . refine xo 3 ?_;refine Yi call14 (U1 (q:= [])) ?_;refine kd0 ?_;refine ox 2 ?_;refine Zq (q) func8 (Zh results8 rfl) ⟨_,rfl,rfl,rfl⟩
 replace h0:=sp h0;have k0:picks.length<=60:=(by omega);have hT:=He hP;have hM:=Ri (Mo hT).m;refine rn [4,0] ?_;refine Yi call15 (E8 (q:= [fcM b]) hT kB) ?_;refine kd1 fun p=> ?_
 refine oo 10 ?_;refine Zx call16 Zj ((Zjj (p:=p) (N:=0) (F:=b.er) (s:=(BB b)) (picks:=picks) (by omega) (hs.le leA) hk:CallF prog G 16 _ (gH p b.er 0 (BB b)::_) _)) ?_;rintro _ _ ⟨L1,a1,c1,rfl,rfl,v,j0⟩;simp only [Ta,ca,na];have n:((Ai b)).pg=(BB b):=Gk _;have a0:((Ai b)).fine b.er 0:=(H6 hM).stands;have e:((Ai b)).stood b.er.pr:=Jl _ _;obtain ⟨u,t⟩:=S4 hM picks a0 e;rw [n] at u t;rw [t] at v;rw [u];refine oo 3 ?_;refine bE zeroValue41 fun n2=> ?_
 refine rn [1,0,3,0] ?_;refine Yi call23 (Lm (q:= [fcM b]) (g:=b) kB hM) ?_;rintro _ _ ⟨D0,rfl,rfl,f0,e0⟩ _ e_;simp only [ca,na] at e_;subst e_;refine oo 1 ?_;refine Zx call32 (aD _) (dRun_ok (D:=D0) (S0:=(Ai b)) (N:=0) (g0:=b) (picks:=picks) (bU (fK (q:= []) (D:=D0)) leA) e0 f0 a0 e hM (by omega) (hs.le leA) hk) ?_;rintro _ _ ⟨j,L2,a2,a3,c2,n2,c3,rfl,rfl,r,z,d0,i0,d⟩;simp only [Ta,ca,na];have o:otC (((Wc b.er.pr (Ai b) picks).1).pg.outc b.er.pr)=otC j.out:=(by rw [z.out];exact bL otC d.symm);refine oo 4 ?_;refine bE zeroValue70 fun n3=> ?_
 refine rn [0,8,2048,2] ?_;refine kI (fun w s=>Zjv (L:=L1) (s.le (show Le _ (stars (AJ L1)::_) from Zj))) fun c0=> ?_;refine kI (fun w s=>Zjv (L:=L2) (s.le (show Le _ (stars (AJ L2)::_) from Zj))) fun b0=> ?_;refine aU call33 (Cg (x:=L1) (y:=L2) (by rw [v,d0]) (EvS.of (c:=c1) ((aV (f:=evC) (sz:=9) (ty:=47) (a:=a1) (c:=c1) (l:=L1) _).le Zj) (fun i h f g hh=>(Sees.star h hh _).le (show Le _ (stars (AJ L1)::_) from Zj)) c0) (EvS.of (c:=c2) ((aV (f:=evC) (sz:=9) (ty:=47) (a:=a2) (c:=c2) (l:=L2) _).le Zj) (fun i h f g hh=>(Sees.star h hh _).le (show Le _ (stars (AJ L2)::_) from Zj)) b0) (by omega)) ?_;refine rn [2,0,1,0] ?_;refine aM 56 (.agg (otC j.out).toArray) rfl (rfl) ?_;refine aM 54 (.agg (otC j.out).toArray) rfl (by rw [o];rfl) ?_;refine Zi (Pu.eqlA rfl rfl (by kernel_rfl) (EqV.struct underlying41 (by kernel_rfl) (by kernel_rfl) ⟨_,_,_,_,rfl,rfl,isAgg38,(gR underlying38 _ _),⟨_,_,_,_,rfl,rfl,isAgg39,(gR underlying39 _ _),⟨_,_,_,_,rfl,rfl,isAgg3,(gR underlying3 _ _),⟨_,_,_,_,rfl,rfl,isAgg3,(gR underlying3 _ _),rfl,rfl⟩,rfl⟩,rfl⟩,rfl⟩)) ?_;refine rn [2,2059,1,0] ?_;refine aM 61 (AU j) rfl (rfl) ?_;refine Yi call24 (Rf (q:= [docM j]) (p:=p) (N:=0+picks.length) (Fn:=b.er) (D:=j) (S:=(Wc b.er.pr (Ai b) picks).1) fK z d (by rw [r]) (by omega)) ?_;refine kd0 ?_;refine oo 2 ?_;refine Yi call14 (U1 (q:= [])) ?_;refine kd0 ?_;refine ox 3 ?_;refine Zq (q) func8 (Zh results8 rfl) ⟨_,rfl,rfl,rfl⟩
end
end Go.Proofs.YtflkjkhijcdbaaaGreat
