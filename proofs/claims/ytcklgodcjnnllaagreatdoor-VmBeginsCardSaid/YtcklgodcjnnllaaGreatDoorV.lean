/- What functions of package vm, of its references and of its laws do: contracts of calls, proved by walking their code. -/
import Derived.Test.YtcklgodcjnnllaaGreatDoorU
import Derived.KernelRfl
set_option maxRecDepth 100000
set_option linter.unusedVariables false
set_option linter.unusedSimpArgs false
namespace Go.Proofs.YtcklgodcjnnllaaGreatDoor
open Go Go.RowKit Wx
attribute [local irreducible] Wx.lsH Wx.rsH Wx.lsM Wx.rsM Wx.stars

section
variable {G : World} {q pre : List HP} {a b A : Option Addr} {c d C p p0 p1 p2 i : Nat} {lo hi n cd dep : Int} {fv : Value} {x y : Ins} {t : Cod} {m : Mdl} {at_ : Int}
variable {l cells loc : List Int} {idx arr z k u pc code : Int} {x1 x2 x3 x4 x5 x6 old : Value} {pm cc lc n1 n2 : Nat} {la cda : Option Addr}
set_option maxHeartbeats 4000000 in
theorem plain_ok (hS : StepQ m x loc l cells) (hx : x.c = 1 ∨ x.c = 3 ∨ x.c = 6 ∨ x.c = 19 ∨ x.c = 20 ∨ x.c = 21) : CallF Tryz.prog G 68 [.pointer (some ⟨p, 0, none⟩), .agg (insC x).toArray] (pto p (.cells [.slice a (l).length c, .pointer (some ⟨pm, 0, none⟩), x2, .int .i64 (pc), .slice la (loc).length lc, x5, .slice cda cells.length cc].toArray 106 (0, 0)) :: lsH I64 2 a c (l) :: lsH I64 2 la lc (loc) :: q) (Ret fun v q' => ∃ a' c', q' = pto p (.cells [.slice a' ((plainS x pc loc l).2.2).length c', .pointer (some ⟨pm, 0, none⟩), x2, .int .i64 ((plainS x pc loc l).1), .slice la ((plainS x pc loc l).2.1).length lc, x5, .slice cda cells.length cc].toArray 106 (0, 0)) :: lsH I64 2 a' c' ((plainS x pc loc l).2.2) :: lsH I64 2 la lc ((plainS x pc loc l).2.1) :: q) := by
 refine CallF.of Tryz.func68 Tryz.ntmps68 rfl (fun F cs => ?_)
 have hdep := hS.dep; have hlen := hS.len
 rcases hx with hx | hx | hx | hx | hx | hx
 · skip
   have hdx := hdep; rw [hx] at hdx; replace hdx : (0 : Int) ≤ l.length := hdx
   refine xo 2 ?_
   refine XO.bx fun n1 => ?_
   refine oo 4 ?_
   refine ld ?_
   refine ox 7 ?_
   refine X.kt 6 ?_
   refine xx 1 ?_
   refine drw ?_
   refine dd [0, 1, 2, 3] ?_
   refine ldD 4 ?_
   refine XD.cF 5 Tryz.call66 (push_ok (l := l) (z := x.n) (by omega)) ?_
   rintro _ _ ⟨a2, c2, rfl⟩ _ e_; simp only [ca, na] at e_; subst e_
   refine ⟨trivial, ?_⟩
   refine XD.nil ?_
   refine xx 1 ?_
   have hPS : plainS x pc loc l = (pc, loc, l ++ [x.n]) := by unfold plainS; rw [if_pos hx]
   refine X.fallL (pto p (.cells [.slice a2 (l ++ [x.n]).length c2, .pointer (some ⟨pm, 0, none⟩), x2, .int .i64 (pc), .slice la (loc).length lc, x5, .slice cda cells.length cc].toArray 106 (0, 0)) :: lsH I64 2 a2 c2 (l ++ [x.n]) :: lsH I64 2 la lc (loc) :: q) Tryz.func68 (res0 Tryz.results68) ⟨_, rfl, a2, c2, by rw [hPS]⟩
 · skip
   have hdx := hdep; rw [hx] at hdx; replace hdx : (0 : Int) ≤ l.length := hdx
   have hv := hS.loc (by omega); have hlt : x.a.toNat < loc.length := (by omega)
   refine X.lsadr (l := loc) (by omega) (fun gl e_ => ?_); subst e_
   refine xo 2 ?_
   refine XO.bx fun n2 => ?_
   refine oo 4 ?_
   refine ld ?_
   refine ox 7 ?_
   refine X.kf 6 ?_
   refine xx 6 ?_
   refine X.kt 14 ?_
   refine xx 1 ?_
   refine drw ?_
   refine dd [0, 1, 2, 3, 4, 5, 6] ?_
   refine ldD 7 ?_
   refine dd [8] ?_
   refine ldD 9 ?_
   refine dd [10] ?_
   refine ldD 11 ?_ (hc := (Cl.e1 (Sees.lsH _) fndA hlt (by omega)))
   refine XD.cF 12 Tryz.call66 (push_ok (l := l) (z := loc[x.a.toNat]) (by omega)) ?_
   rintro _ _ ⟨a2, c2, rfl⟩ _ e_; simp only [ca, na] at e_; subst e_
   refine ⟨(hlA (h := by repeat first | exact trivial | refine ⟨clA, ?_⟩ | refine ⟨Cl.e1 (Sees.lsH _) fndA hlt (by omega), ?_⟩)), ?_⟩
   refine XD.nil ?_
   refine xx 1 ?_
   refine X.sb [] ?_
   have hPS : plainS x pc loc l = (pc, loc, l ++ [loc[x.a.toNat]]) := by unfold plainS; rw [if_neg (by omega), if_pos hx, getD_lt hlt]
   refine X.fallL (pto p (.cells [.slice a2 (l ++ [loc[x.a.toNat]]).length c2, .pointer (some ⟨pm, 0, none⟩), x2, .int .i64 (pc), .slice (some ⟨gl, 0, none⟩) (loc).length lc, x5, .slice cda cells.length cc].toArray 106 (0, 0)) :: lsH I64 2 a2 c2 (l ++ [loc[x.a.toNat]]) :: lsH I64 2 (some ⟨gl, 0, none⟩) lc (loc) :: q) Tryz.func68 (res0 Tryz.results68) ⟨_, rfl, a2, c2, by rw [hPS]⟩
 · skip
   have hdx := hdep; rw [hx] at hdx; replace hdx : (1 : Int) ≤ l.length := hdx
   have hv := hS.loc (by omega); have hlt : x.a.toNat < loc.length := (by omega)
   refine X.lsadr (l := loc) (by omega) (fun gl e_ => ?_); subst e_
   refine xo 2 ?_
   refine XO.bx fun n3 => ?_
   refine oo 4 ?_
   refine ld ?_
   refine ox 7 ?_
   refine X.kf 6 ?_
   refine xx 6 ?_
   refine X.kf 14 ?_
   refine xx 6 ?_
   refine X.kt 29 ?_
   refine xx 1 ?_
   refine drw ?_
   refine dd [0, 1, 2, 3] ?_
   refine ldD 4 ?_
   refine dd [5] ?_
   refine ldD 6 ?_
   refine dd [7, 8, 9] ?_
   refine XD.cF 10 Tryz.call65 (pop_ok (l := l) (by omega)) ?_
   rintro _ _ ⟨rfl, rfl⟩ _ e_; simp only [ca, na] at e_; subst e_
   refine ⟨hlA, ?_⟩
   refine dd [11] ?_
   refine XD.ef0 12 rfl (Ef.setL (l := loc) (n := x.a.toNat) (u := lastS l) rfl rfl Tryz.sizeOf2 (by omega) hlt rfl rfl fndA) ?_
   rintro _ _ ⟨rfl, rfl⟩
   refine ⟨trivial, ?_⟩
   refine XD.nil ?_
   refine xx 1 ?_
   refine X.sb [] ?_
   have hPS : plainS x pc loc l = (pc, loc.set x.a.toNat (lastS l), l.take (l.length - 1)) := by unfold plainS; rw [if_neg (by omega), if_neg (by omega), if_pos hx]
   refine X.fallL (pto p (.cells [.slice a (l.take (l.length - 1)).length c, .pointer (some ⟨pm, 0, none⟩), x2, .int .i64 (pc), .slice (some ⟨gl, 0, none⟩) loc.length lc, x5, .slice cda cells.length cc].toArray 106 (0, 0)) :: lsH I64 2 a c (l.take (l.length - 1)) :: lsH I64 2 (some ⟨gl, 0, none⟩) lc (loc.set x.a.toNat (lastS l)) :: q) Tryz.func68 (res0 Tryz.results68) ⟨_, rfl, a, c, by rw [hPS]; simp only [List.length_set]⟩
 · skip
   have hdx := hdep; rw [hx] at hdx; replace hdx : (0 : Int) ≤ l.length := hdx
   refine xo 2 ?_
   refine XO.bx fun n4 => ?_
   refine oo 4 ?_
   refine ld ?_
   refine ox 7 ?_
   refine X.kf 6 ?_
   refine xx 6 ?_
   refine X.kf 14 ?_
   refine xx 6 ?_
   refine X.kf 29 ?_
   refine xx 6 ?_
   refine X.kt 43 ?_
   refine xo 4 ?_
   refine ld ?_
   refine oo 3 ?_
   refine st ?_
   refine ox 2 ?_
   refine X.sb [] ?_
   have hPS : plainS x pc loc l = (x.a, loc, l) := by unfold plainS; rw [if_neg (by omega), if_neg (by omega), if_neg (by omega), if_pos hx]
   refine X.fallL (pto p (.cells [.slice a (l).length c, .pointer (some ⟨pm, 0, none⟩), x2, .int .i64 (x.a), .slice la (loc).length lc, x5, .slice cda cells.length cc].toArray 106 (0, 0)) :: lsH I64 2 a c (l) :: lsH I64 2 la lc (loc) :: q) Tryz.func68 (res0 Tryz.results68) ⟨_, rfl, a, c, by rw [hPS]⟩
 · skip
   have hdx := hdep; rw [hx] at hdx; replace hdx : (1 : Int) ≤ l.length := hdx
   refine xo 2 ?_
   refine XO.bx fun n5 => ?_
   refine oo 4 ?_
   refine ld ?_
   refine ox 7 ?_
   refine X.kf 6 ?_
   refine xx 6 ?_
   refine X.kf 14 ?_
   refine xx 6 ?_
   refine X.kf 29 ?_
   refine xx 6 ?_
   refine X.kf 43 ?_
   refine xx 6 ?_
   refine X.sb [51, 5, 3, 0] ?_
   refine X.kt 51 ?_
   refine xo 6 ?_
   refine XO.cF Tryz.call65 (pop_ok (l := l) (by omega)) ?_
   rintro _ _ ⟨rfl, rfl⟩ _ e_; simp only [ca, na] at e_; subst e_
   refine ox 2 ?_
   refine X.part 57 rfl (fun h1 => ?_) (fun h1 => ?_)
   · skip
     replace h1 := sp h1
     refine xo 4 ?_
     refine ld ?_
     refine oo 3 ?_
     refine st ?_
     refine ox 2 ?_
     have hPS : plainS x pc loc l = (x.a, loc, l.take (l.length - 1)) := by unfold plainS; rw [if_neg (by omega), if_neg (by omega), if_neg (by omega), if_neg (by omega), if_pos hx]; rw [if_pos h1]
     refine X.fallL (pto p (.cells [.slice a (l.take (l.length - 1)).length c, .pointer (some ⟨pm, 0, none⟩), x2, .int .i64 (x.a), .slice la (loc).length lc, x5, .slice cda cells.length cc].toArray 106 (0, 0)) :: lsH I64 2 a c (l.take (l.length - 1)) :: lsH I64 2 la lc (loc) :: q) Tryz.func68 (res0 Tryz.results68) ⟨_, rfl, a, c, by rw [hPS]⟩
   · skip
     replace h1 := sp h1
     refine xx 3 ?_
     have hPS : plainS x pc loc l = (pc, loc, l.take (l.length - 1)) := by unfold plainS; rw [if_neg (by omega), if_neg (by omega), if_neg (by omega), if_neg (by omega), if_pos hx]; rw [if_neg h1]
     refine X.fallL (pto p (.cells [.slice a (l.take (l.length - 1)).length c, .pointer (some ⟨pm, 0, none⟩), x2, .int .i64 (pc), .slice la (loc).length lc, x5, .slice cda cells.length cc].toArray 106 (0, 0)) :: lsH I64 2 a c (l.take (l.length - 1)) :: lsH I64 2 la lc (loc) :: q) Tryz.func68 (res0 Tryz.results68) ⟨_, rfl, a, c, by rw [hPS]⟩
 · skip
   have hdx := hdep; rw [hx] at hdx; replace hdx : (1 : Int) ≤ l.length := hdx
   refine xo 2 ?_
   refine XO.bx fun n6 => ?_
   refine oo 4 ?_
   refine ld ?_
   refine ox 7 ?_
   refine X.kf 6 ?_
   refine xx 6 ?_
   refine X.kf 14 ?_
   refine xx 6 ?_
   refine X.kf 29 ?_
   refine xx 6 ?_
   refine X.kf 43 ?_
   refine xx 6 ?_
   refine X.sb [51, 5, 3, 0] ?_
   refine X.kf 51 ?_
   refine xx 6 ?_
   refine X.kt 64 ?_
   refine xo 6 ?_
   refine XO.cF Tryz.call65 (pop_ok (l := l) (by omega)) ?_
   rintro _ _ ⟨rfl, rfl⟩ _ e_; simp only [ca, na] at e_; subst e_
   refine ox 2 ?_
   refine X.part 70 rfl (fun h1 => ?_) (fun h1 => ?_)
   · skip
     replace h1 := sp h1
     refine xo 4 ?_
     refine ld ?_
     refine oo 3 ?_
     refine st ?_
     refine ox 2 ?_
     have hPS : plainS x pc loc l = (x.a, loc, l.take (l.length - 1)) := by unfold plainS; rw [if_neg (by omega), if_neg (by omega), if_neg (by omega), if_neg (by omega), if_neg (by omega), if_pos hx]; rw [if_pos h1]
     refine X.fallL (pto p (.cells [.slice a (l.take (l.length - 1)).length c, .pointer (some ⟨pm, 0, none⟩), x2, .int .i64 (x.a), .slice la (loc).length lc, x5, .slice cda cells.length cc].toArray 106 (0, 0)) :: lsH I64 2 a c (l.take (l.length - 1)) :: lsH I64 2 la lc (loc) :: q) Tryz.func68 (res0 Tryz.results68) ⟨_, rfl, a, c, by rw [hPS]⟩
   · skip
     replace h1 := sp h1
     refine xx 3 ?_
     have hPS : plainS x pc loc l = (pc, loc, l.take (l.length - 1)) := by unfold plainS; rw [if_neg (by omega), if_neg (by omega), if_neg (by omega), if_neg (by omega), if_neg (by omega), if_pos hx]; rw [if_neg (fun k => k h1)]
     refine X.fallL (pto p (.cells [.slice a (l.take (l.length - 1)).length c, .pointer (some ⟨pm, 0, none⟩), x2, .int .i64 (pc), .slice la (loc).length lc, x5, .slice cda cells.length cc].toArray 106 (0, 0)) :: lsH I64 2 a c (l.take (l.length - 1)) :: lsH I64 2 la lc (loc) :: q) Tryz.func68 (res0 Tryz.results68) ⟨_, rfl, a, c, by rw [hPS]⟩
end
end Go.Proofs.YtcklgodcjnnllaaGreatDoor

