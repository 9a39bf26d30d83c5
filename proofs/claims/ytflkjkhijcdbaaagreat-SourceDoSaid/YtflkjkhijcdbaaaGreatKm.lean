/- Contracts. -/
import Derived.Test.YtflkjkhijcdbaaaGreatKi
set_option maxHeartbeats 16000000
set_option maxRecDepth 100000
set_option linter.all false
namespace Go.Proofs.YtflkjkhijcdbaaaGreat
open Go Go.RowKit Wx Go.Proofs.Tryz
attribute [local irreducible] lsH rsH stars
variable {p:PPr}{S:SS}{z:Int}
def SS.want (p:PPr)(S:SS)(z:Int):Int:=if z<0\/(S.ths.length:Int)<=z then 2 else if S.all p= [] then 150 else if S.can p z.toNat=false then 151 else 0
theorem want2 (h:z<0\/(S.ths.length:Int)<=z):2=S.want p z:=by unfold SS.want;rw [if_pos h]
theorem want150 (h: ¬ (z<0\/(S.ths.length:Int)<=z))(h2:S.all p= []):150=S.want p z:=by unfold SS.want;rw [if_neg h,if_pos h2]
theorem want151 (h: ¬ (z<0\/(S.ths.length:Int)<=z))(h2: ¬S.all p= [])(h3:S.can p z.toNat=false):151=S.want p z:=by unfold SS.want;rw [if_neg h,if_neg h2,if_pos h3]
theorem want0 (h: ¬ (z<0\/(S.ths.length:Int)<=z))(h2: ¬S.all p= [])(h3: ¬S.can p z.toNat=false):0=S.want p z:=by unfold SS.want;rw [if_neg h,if_neg h2,if_neg h3]
theorem do_no (h:S.want p z≠0):SS.doP p S.pg z=(S.pg,zE0,S.want p z):=by
 unfold SS.doP;unfold SS.want at h|-;rw [Tu,P6];show (if z<0\/(S.ths.length:Int)<=z then _ else _)=_
 by_cases h1:z<0\/(S.ths.length:Int)<=z
 . rw [if_pos h1,if_pos h1]
 rw [if_neg h1] at h;rw [if_neg h1,if_neg h1];by_cases h2:S.all p= []
 . rw [if_pos h2,if_pos h2]
 rw [if_neg h2] at h;rw [if_neg h2,if_neg h2];by_cases h3:S.can p z.toNat=false
 . rw [if_pos h3,if_pos h3]
 rw [if_neg h3] at h;exact bD rfl h
theorem do_yes (h:S.want p z=0): ∃ n:Nat,z=n/\n<S.ths.length/\S.can p n=true/\SS.doP p S.pg z=((S.step p n).1.pg,(S.step p n).2,0):=by
 unfold SS.want at h;by_cases h1:z<0\/(S.ths.length:Int)<=z
 . rw [if_pos h1] at h;cases h
 rw [if_neg h1] at h;by_cases h2:S.all p= []
 . rw [if_pos h2] at h;cases h
 rw [if_neg h2] at h;by_cases h3:S.can p z.toNat=false
 . rw [if_pos h3] at h;cases h
 have a:S.can p z.toNat=true:=by simpa using h3
 refine ⟨z.toNat,by omega,by omega,a,?_⟩;obtain ⟨c,b⟩:=Ff a;unfold SS.doP;rw [Tu,P6];show (if z<0\/(S.ths.length:Int)<=z then _ else _)=_
 rw [if_neg h1,if_neg h2,if_neg h3,c,b]
section
variable {G:World}{q:List HP}{s:ByteArray}{picks:List Int}{pa:Option Addr}{pc:Nat}
theorem Sl (hs:Sees q pa (picks.map I64))(hk: ∀ k∈picks, -9223372036854775808<=k/\k<=9223372036854775807):CallF prog G 7 [.string s,.slice pa picks.length pc] (q) (Am q):=by
 refine aC func7 ntmps7 rfl fun F cs=> ?_;refine xo 7 ?_;refine Zx call13 (aD _) (E6 (s:=s)) ?_;rintro _ _ ⟨j,bb,rfl,rfl,hP⟩;rcases hP with hP|hP
 iterate 2
  focus
   refine oo 3 ?_;refine bE zeroValue29 fun n1=> ?_
   refine rn [0,6] ?_;refine Zi (bO rfl) ?_;refine oo 1 ?_
  rotate_left
 . refine rn [2024,8] ?_;refine Yi call14 (U1 (q:= [])) ?_;refine kd0 ?_;refine ox 2 ?_;refine Zq (q) func7 (Zh results7 rfl) ⟨_,rfl,rfl,rfl⟩
 refine rn [1024,5] ?_;refine dH 28 rfl ?_ ?_<;>intro h0
 . refine xo 3 ?_;refine Yi call14 (U1 (q:= [])) ?_;refine kd0 ?_;refine ox 2 ?_;refine Zq (q) func7 (Zh results7 rfl) ⟨_,rfl,rfl,rfl⟩
 replace h0:=sp h0;have a1:picks.length<=60:=(by omega);have hT:=He hP;have hM:=Ri (Mo hT).m;refine rn [4,0] ?_;refine Yi call15 (E8 (q:= [fcM j]) hT kB) ?_;refine kd1 fun p=> ?_
 refine rn [8,0] ?_;refine Yi call23 (Lm (q:= [fcM j]) (g:=j) kB hM) ?_;rintro _ _ ⟨D0,rfl,rfl,w0,v0⟩ _ v;simp only [ca,na] at v;subst v;have f0:SS.stood j.er.pr (Ai j):=Jl _ _;have j0:((Ai j)).pg=Wj j.er.pr:=Gk _;refine bE zeroValue70 fun n2=> ?_
 refine rn [0,7] ?_;refine aZ (cD (fun (s:Nat×DC×SS)=>s.1<=picks.length/\s.2.1.g=j/\s.2.1.Is s.2.2/\s.2.2.stood j.er.pr) (fun s=> [(1,.slice pa picks.length pc),(7,.pointer (some ⟨p,0,none⟩)),(8,I64 0),(9,pt n2),(10,I64 (s.1:Int))]) (fun s=>gH p j.er s.1 s.2.2.pg::docM s.2.1::pto n2 (.cells (Y3 s.2.1).toArray 70 (0,0))::(q++F)) (fun s=>picks.length - s.1) (fun s l0 ih=> ?_) (0,D0,(Ai j)) ⟨bC _,w0,v0,f0⟩) Zg (by dsimp only;rw [j0];exact leA);try dsimp only at l0 ih|-
 obtain ⟨c1,hg,hI,g0⟩:=l0;obtain ⟨i,D,S⟩:=s;dsimp only at*;refine xo 8 ?_;refine XO.part 41 rfl ?_ ?_<;>intro h1
 . replace h1:=sp h1;have c0:i<picks.length:=(by omega);subst hg;have d0: ∀ r,Kn (docM D::r) fun M=>DC.At M D:=fun r=>fK;have r0:=hk _ (aA c0)
   refine Kw (hs.le leA) (by rw [aG];omega) fun b1 o1 n0=> ?_;have i0:=hs;rw [n0] at i0;refine rg [4,2044,8,3047,1,0,7] n0 i0 ?_;refine Lu fun d1 hF hG=> ?_;have e0:=hF.of_pg;obtain ⟨z,hz⟩:=lA picks[i];rw [<-hz] at r0|-;have y0:=hI.len;have x0:=e0.th8;have k0:SS.ok D.g.er i S:=e0.ok;have z0:=Ky D.g.er.pr S;refine jI (fun (x:Int)=> [(1,.slice pa picks.length pc),(7,.pointer (some ⟨p,0,none⟩)),(8,I64 0),(9,pt n2),(10,I64 i),(11,I64 z),(12,I64 x)]) (fun x=>gH p D.g.er i S.pg::docM D::pto n2 (Ay D)::(q++F)) (fun x=>x=S.want D.g.er.pr z) (fun x a0=> ?_) fun K=> ?_
   . rcases bH (x=0) with t|t
     . obtain ⟨n,o0,q0,s0,d⟩:=do_yes (p:=D.g.er.pr) (S:=S) (z:=z) (by rw [<-a0];exact t);refine xo 4 ?_;refine Yi call30 (gDo_ok (p:=p) (F:=D.g.er) (N:=i) (s:=S.pg) (z:=z) (q:= []) (by omega)) ?_;rintro _ _ ⟨b,rfl,rfl,h⟩ _ v;simp only [ca,na] at v;subst v;simp only [evL,ca,na];have b0:(SS.doP D.g.er.pr S.pg z).2.2=x:=(by rw [d];exact t.symm);rw [show (SS.doP D.g.er.pr S.pg z).1=(S.step D.g.er.pr n).1.pg from (by rw [d])];rw [d] at h;refine oo 3 ?_;refine bE zeroValue47 fun n3=> ?_
       refine rn [0,9] ?_;refine Q4 80 ?_ rfl (by rw [b0];exact bne_self_eq_false _);refine oo 3 ?_;refine Q4 83 ?_ rfl (by rw [t];rfl);refine ox 15 ?_;refine gI 91 ?_ rfl (by rw [t];rfl);refine rn [3,0,1] ?_;refine aM 93 (AU D) rfl (rfl) ?_;refine aM 94 (Al n) rfl (by rw [o0]) ?_;refine Zx call31 (aD _) (dDo_ok (D:=D) (S0:=S) (N:=i) (n:=n) ((d0 _).le leA) hI e0 hM (by omega) q0 s0) ?_;rintro _ _ ⟨D2,o,rfl,rfl,u,m0,p0⟩;simp only [evL,ca,na];refine oo 3 ?_;refine bE zeroValue70 fun n4=> ?_
       refine bE zeroValue47 fun n5=> ?_
       refine rn [0,0,4,0,0] ?_;refine kI (fun w s=>(s.le (show Le _ (rsH acC 3 140 b.aa b.ac b.e.acc::_) from Zj)).rsLen) fun u0=> ?_;refine kI (fun w s=>(s.le (show Le _ (rsH snC 3 50 b.na b.nc b.e.syn::_) from Zj)).rsLen) fun t0=> ?_;refine aM 98 (.agg (evC b).toArray) rfl (rfl) ?_;refine aM 99 (.agg (evC o).toArray) rfl (rfl) ?_;refine aU call27 (Ja (x:=b) (y:=o) (by rw [h,p0]) ((aV (f:=acC) (sz:=3) (ty:=140) (a:=b.aa) (c:=b.ac) (l:=b.e.acc) _).le Zj) ((aV (f:=acC) (sz:=3) (ty:=140) (a:=o.aa) (c:=o.ac) (l:=o.e.acc) _).le Zj) ((aV (f:=snC) (sz:=3) (ty:=50) (a:=b.na) (c:=b.nc) (l:=b.e.syn) _).le Zj) ((aV (f:=snC) (sz:=3) (ty:=50) (a:=o.na) (c:=o.nc) (l:=o.e.syn) _).le Zj) ⟨by omega,by omega⟩) ?_;refine Zi (bO rfl) ?_;refine rn [1,1101,3,0,0,4,0] ?_;refine aM 104 (AU D2) rfl (rfl) ?_;refine Yi call24 (Rf (q:= [docM D2]) (p:=p) (N:=i+1) (Fn:=D.g.er) (D:=D2) (S:=(S.step D.g.er.pr n).1) fK m0 Tn (by rw [u]) (by omega)) ?_;refine kd0 ?_;refine Zi (bO rfl) ?_;refine rn [1,1106,8] ?_;refine aZ (ih (i+1,D2,(S.step D.g.er.pr n).1) ⟨c0,u,m0,Tn⟩ (by dsimp only;omega)) Zg leA
     have d:SS.doP D.g.er.pr S.pg z=(S.pg,zE0,x):=(by rw [a0];exact do_no (by rw [<-a0];exact t));refine xo 4 ?_;refine Yi call30 (gDo_ok (p:=p) (F:=D.g.er) (N:=i) (s:=S.pg) (z:=z) (q:= []) (by omega)) ?_;rintro _ _ ⟨b,rfl,rfl,h⟩ _ v;simp only [ca,na] at v;subst v;simp only [evL,ca,na];have b0:(SS.doP D.g.er.pr S.pg z).2.2=x:=(by rw [d]);rw [show (SS.doP D.g.er.pr S.pg z).1=S.pg from (by rw [d])];rw [d] at h;refine oo 3 ?_;refine bE zeroValue47 fun n3=> ?_
     refine rn [0,9] ?_;refine Q4 80 ?_ rfl (by rw [b0];exact bne_self_eq_false _);refine oo 3 ?_;refine kA 83 ?_ rfl (by simpa [gL] using t);refine rn [0,1] ?_;refine kI (fun w s=>(s.le (show Le _ (rsH acC 3 140 b.aa b.ac b.e.acc::_) from Zj)).rsLen) fun u0=> ?_;refine kI (fun w s=>(s.le (show Le _ (rsH snC 3 50 b.na b.nc b.e.syn::_) from Zj)).rsLen) fun t0=> ?_;refine aM 84 (.agg (evC b).toArray) rfl (rfl) ?_;refine aM 85 (.agg (evC (evZ 0 0)).toArray) rfl (rfl) ?_;refine aU call27 (Ja (x:=b) (y:=evZ 0 0) h ((aV (f:=acC) (sz:=3) (ty:=140) (a:=b.aa) (c:=b.ac) (l:=b.e.acc) _).le Zj) (fun _ _ _ _ _ k=>by cases k) ((aV (f:=snC) (sz:=3) (ty:=50) (a:=b.na) (c:=b.nc) (l:=b.e.syn) _).le Zj) (fun _ _ _ _ _ k=>by cases k) ⟨by omega,by omega⟩) ?_;refine Zi (bO rfl) ?_;refine rn [3,1089,8] ?_;refine Ux 91 ?_ rfl (by simpa using t);refine rn [5,0] ?_;refine aM 104 (AU D) rfl (rfl) ?_;refine Yi call24 (Rf (q:= [docM D]) (p:=p) (N:=i+1) (Fn:=D.g.er) (D:=D) (S:=S) fK hI g0 rfl (by omega)) ?_;refine kd0 ?_;refine Zi (bO rfl) ?_;refine rn [1,1106,8] ?_;refine aZ (ih (i+1,D,S) ⟨c0,rfl,hI,g0⟩ (by dsimp only;omega)) Zg leA
   refine xo 6 ?_;refine Zd [54,12,11,1,7,8,9,10] ?_;apply Zb 6 60 54 rfl
   . intro g1 M1;have h1:=sp g1;refine rn [2,0,3] ?_;exact Zz M1 ⟨orF g1,Zw⟩
   . intro g1 M1;have h1:=sp g1;refine oo 6 ?_;exact Zz M1 ⟨orT g1,Zw⟩
   refine ox 2 ?_;refine xp 51 ?_ ?_<;>intro h1
   . refine xx 5 ?_;exact aZ (K _ (want2 (by omega))) Zg leA
   refine rn [3,0] ?_;refine aM 62 (AU D) rfl (rfl) ?_;refine Zx call28 (aD _) (Fq (D:=D) (S0:=S) (N:=i) ((d0 _).le leA) hI k0) ?_;rintro _ _ ⟨a3,c3,rfl,rfl⟩;refine ox 4 ?_;refine xp 61 ?_ ?_<;>intro h2
   . refine xx 5 ?_;exact aZ (K _ (want150 (by omega) (aP (by omega)))) Zg leA
   refine rn [3,0,1] ?_;refine aM 67 (AU D) rfl (rfl) ?_;refine aM 68 (I64 z.toNat) rfl (by rw [iY (by omega)]) ?_;refine aU call29 (Zjx (D:=D) (S0:=S) (N:=i) (n:=z.toNat) ((d0 _).le leA) hI k0 (by omega)) ?_;refine Zi (bO rfl) ?_;refine ox 2 ?_;refine xp 66 ?_ ?_<;>intro h3
   . refine xx 5 ?_;exact aZ (K _ (want151 (by omega) (fun k=>by rw [k] at h2;simp at h2) (by simpa using h3))) Zg leA
   refine xx 3 ?_;exact aZ (K _ (want0 (by omega) (fun k=>by rw [k] at h2;simp at h2) (by simpa using h3))) Zg leA
 replace h1:=sp h1;refine rn [11,2109] ?_;refine Yi call14 (U1 (q:= [])) ?_;refine kd0 ?_;refine ox 3 ?_;refine Zq (q) func7 (Zh results7 rfl) ⟨_,rfl,rfl,rfl⟩
end
end Go.Proofs.YtflkjkhijcdbaaaGreat
