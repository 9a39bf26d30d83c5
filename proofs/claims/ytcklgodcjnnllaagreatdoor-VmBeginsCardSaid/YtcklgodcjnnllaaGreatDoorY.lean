/- What functions of package vm, of its references and of its laws do: contracts of calls, proved by walking their code. -/
import Derived.Test.YtcklgodcjnnllaaGreatDoorX
import Derived.KernelRfl
set_option maxRecDepth 100000
set_option linter.unusedVariables false
set_option linter.unusedSimpArgs false
namespace Go.Proofs.YtcklgodcjnnllaaGreatDoor
open Go Go.RowKit Wx
attribute [local irreducible] Wx.lsH Wx.rsH Wx.lsM Wx.rsM Wx.stars

section
variable {G : World} {q pre : List HP} {a b A : Option Addr} {c d C p p0 p1 p2 i : Nat} {lo hi n cd dep : Int} {fv : Value} {x y : Ins} {t : Cod} {m : Mdl} {at_ : Int}
variable {l cells loc : List Int} {idx arr z k u pc code : Int} {x1 x2 x3 x4 x5 x6 old : Value} {pm cc lc n1 n2 : Nat} {la cda : Option Addr}
set_option maxHeartbeats 16000000 in
theorem do_ok (hm : CellsAt q pm 0 (mdlC m)) (hq : MdlQ q m) (hc : Sees q cda (cells.map I64)) (hS : StepQ m x loc l cells) (hpc : 0 ≤ pc ∧ pc ≤ 65536) : CallF Tryz.prog G 41 [.pointer (some ⟨p, 0, none⟩), .agg (insC x).toArray] (pto p (.cells [.slice a (l).length c, .pointer (some ⟨pm, 0, none⟩), x2, .int .i64 (pc), .slice la (loc).length lc, x5, .slice cda cells.length cc].toArray 106 (0, 0)) :: lsH I64 2 a c (l) :: lsH I64 2 la lc (loc) :: q) (Ret fun v q' => ((doS m x pc loc l cells).2.kind = 7 ∧ v = .agg (didC (doS m x pc loc l cells).2).toArray ∧ q' = q) ∨ ((doS m x pc loc l cells).2.kind ≠ 7 ∧ v = .agg (didC (doS m x pc loc l cells).2).toArray ∧ ∃ a' c', q' = pto p (.cells [.slice a' ((doS m x pc loc l cells).1.2.2).length c', .pointer (some ⟨pm, 0, none⟩), x2, .int .i64 ((doS m x pc loc l cells).1.1), .slice la ((doS m x pc loc l cells).1.2.1).length lc, x5, .slice cda cells.length cc].toArray 106 (0, 0)) :: lsH I64 2 a' c' ((doS m x pc loc l cells).1.2.2) :: lsH I64 2 la lc ((doS m x pc loc l cells).1.2.1) :: q)) := by
 refine CallF.of Tryz.func41 Tryz.ntmps41 rfl (fun F cs => ?_)
 have hdep := hS.dep; have hlen := hS.len; have hxc := hS.ins.1
 refine xo 2 ?_
 refine XO.bx fun n1 => ?_
 refine XO.al Tryz.zeroValue74 fun n2 => ?_
 refine oo 4 ?_
 refine XO.dfr ?_
 have hpan : ∀ (p_ : PE) (qq : List HP) (k : Int) (y0 y1 y2 y3 y4 y5 y6 y7 y8 y9 : Value), lkp p_ 4 = some (.pointer (some ⟨n2, 0, none⟩)) → doS m x pc loc l cells = ((pc, loc, l), dTrap k) → Le qq (pto n2 (.cells [y0, y1, y2, y3, y4, y5, y6, y7, y8, y9].toArray 74 (0, 0)) :: (q ++ F)) → FQ Tryz.prog G 41 cs (Ret fun v q' => ((doS m x pc loc l cells).2.kind = 7 ∧ v = .agg (didC (doS m x pc loc l cells).2).toArray ∧ q' = q) ∨ ((doS m x pc loc l cells).2.kind ≠ 7 ∧ v = .agg (didC (doS m x pc loc l cells).2).toArray ∧ ∃ a' c', q' = pto p (.cells [.slice a' ((doS m x pc loc l cells).1.2.2).length c', .pointer (some ⟨pm, 0, none⟩), x2, .int .i64 ((doS m x pc loc l cells).1.1), .slice la ((doS m x pc loc l cells).1.2.1).length lc, x5, .slice cda cells.length cc].toArray 106 (0, 0)) :: lsH I64 2 a' c' ((doS m x pc loc l cells).1.2.2) :: lsH I64 2 la lc ((doS m x pc loc l cells).1.2.1) :: q)) F (.panic [trapE k]) p_ [Wx.dfr 63 [.pointer (some ⟨n2, 0, none⟩)]] cs qq :=
   fun p_ qq k y0 y1 y2 y3 y4 y5 y6 y7 y8 y9 h4 hn hle => ⟨rfl, Lv.catches Tryz.call63 Tryz.func41 (do1_catches (n2 := n2) (k := k) (y0 := y0) (y1 := y1) (y2 := y2) (y3 := y3) (y4 := y4) (y5 := y5) (y6 := y6) (y7 := y7) (y8 := y8) (y9 := y9)) hle rfl (Lv.ret (q' := q) Tryz.func41 (resC1 Tryz.results41 (ResOk.cell h4 (LV.agg Tryz.isAgg74 Tryz.sizeOf74 hasA rfl) ResOk.nil)) ⟨_, rfl, .inl ⟨by rw [hn], by rw [hn]; rfl, rfl⟩⟩ leA)⟩
 have hcase : x.c = 34 ∨ x.c = 8 ∨ x.c = 9 ∨ x.c = 22 ∨ (10 ≤ x.c ∧ x.c ≤ 18) ∨ x.c = 2 ∨ x.c = 5 ∨ x.c = 4 ∨ x.c = 7 ∨ x.c = 23 ∨ x.c = 33 ∨ x.c = 29 ∨ x.c = 24 ∨ x.c = 25 ∨ x.c = 26 ∨ x.c = 27 ∨ x.c = 28 ∨ x.c = 30 ∨ x.c = 31 ∨ x.c = 32 ∨ (x.c = 1 ∨ x.c = 3 ∨ x.c = 6 ∨ x.c = 19 ∨ x.c = 20 ∨ x.c = 21) := by omega
 rcases hcase with hx | hx | hx | hx | hx | hx | hx | hx | hx | hx | hx | hx | hx | hx | hx | hx | hx | hx | hx | hx | hx
 · skip
   refine oo 5 ?_
   refine ld ?_
   refine ox 2 ?_
   refine X.kt 11 ?_
   refine xo 4 ?_
   refine stA ?_
   refine ox 1 ?_
   have hD : doS m x pc loc l cells = ((pc, loc, l), dVal 4 0) := by unfold doS; rw [if_pos hx]
   exact X.ret ⟨rfl, Lv.quiet Tryz.call63 Tryz.func41 (do1_quiet (n2 := n2)) (Lv.ret (q' := pto p (.cells [.slice a (l).length c, .pointer (some ⟨pm, 0, none⟩), x2, .int .i64 (pc), .slice la (loc).length lc, x5, .slice cda cells.length cc].toArray 106 (0, 0)) :: lsH I64 2 a c (l) :: lsH I64 2 la lc (loc) :: q) Tryz.func41 (resC1 Tryz.results41 (ResOk.cell rfl (LV.agg Tryz.isAgg74 Tryz.sizeOf74 hasA rfl) ResOk.nil)) ⟨_, rfl, .inr ⟨by rw [hD]; exact (by decide : (4 : Int) ≠ 7), by rw [hD]; rfl, a, c, by rw [hD]⟩⟩ leA)⟩
 · skip
   obtain ⟨hmk0, nf, hmk, hcall⟩ := (maker_at (G := G) hxc).resolve_right (fun h => h.1 (by omega))
   have hun : isUn x.c := by omega
   have hdx : (1 : Int) ≤ l.length := by have h := hdep; rw [hx] at h; exact h
   refine oo 5 ?_
   refine ld ?_
   refine ox 2 ?_
   refine X.kf 11 ?_
   refine xo 8 ?_
   refine ld ?_
   refine oo 4 ?_
   refine st ?_
   refine ox 3 ?_
   refine X.draw [(4, .pointer (some ⟨n2, 0, none⟩))] Tryz.mixed (by kernel_rfl) (by kernel_rfl) rfl ?_
   refine dd [1] ?_
   refine ldD 2 ?_
   refine XD.cRL 0 Tryz.call64 (makers_ok) ?_
   refine XD.pu 3 rfl (Pu.indexA rfl rfl Tryz.underlying139 Tryz.sizeOf138 Tryz.isAgg138 (by omega) (by omega) hmk) ?_
   refine dd [4] ?_
   refine XD.nil ?_
   refine xo 3 ?_
   refine XO.pu (Pu.neqFNil rfl Tryz.underlying138) ?_
   refine oo 7 ?_
   refine XO.cF Tryz.call65 (pop_ok (l := l) (by omega)) ?_
   rintro _ _ ⟨rfl, rfl⟩ _ e_; simp only [ca, na] at e_; subst e_
   refine oo 7 ?_
   refine ld ?_
   refine oo 2 ?_
   refine XO.kf 35 ?_
   refine ox 13 ?_
   refine X.sb [7, 6, 5, 4, 3, 0] ?_
   refine X.draw [(4, .pointer (some ⟨n2, 0, none⟩))] Tryz.mixed (by kernel_rfl) (by kernel_rfl) rfl ?_
   refine dd [0, 1, 2, 3, 4, 5] ?_
   refine XD.cVP 6 (Le.refl _) (hcall _ 0 (lastS l) (by unfold val; omega) (vals_getD hS.vl _)) ?_ ?_ ⟨rfl, trivial⟩
   · rintro _ _ ⟨h0, rfl, rfl⟩
     exact hpan _ _ _ _ _ _ _ _ _ _ _ _ _ rfl (by unfold doS; rw [if_neg (by omega), if_pos hmk0]; simp only [if_pos hun]; exact if_pos h0) leA
   rintro _ _ ⟨hv, rfl, rfl⟩
   refine ⟨trivial, ?_⟩
   refine XD.cF 7 Tryz.call66 (push_ok (l := l.take (l.length - 1)) (z := (mkS x.c 0 (lastS l)).1) (by rw [List.length_take]; omega)) ?_
   rintro _ _ ⟨a2, c2, rfl⟩ _ e_; simp only [ca, na] at e_; subst e_
   refine ⟨trivial, ?_⟩
   refine XD.nil ?_
   refine xo 3 ?_
   refine stA ?_
   refine ox 1 ?_
   have hD : doS m x pc loc l cells = (((pc + 1), loc, l.take (l.length - 1) ++ [(mkS x.c 0 (lastS l)).1]), dPlain) := by unfold doS; rw [if_neg (by omega), if_pos hmk0]; simp only [if_pos hun]; exact if_neg (fun h => h hv)
   exact X.ret ⟨rfl, Lv.quiet Tryz.call63 Tryz.func41 (do1_quiet (n2 := n2)) (Lv.ret (q' := pto p (.cells [.slice a2 (l.take (l.length - 1) ++ [(mkS x.c 0 (lastS l)).1]).length c2, .pointer (some ⟨pm, 0, none⟩), x2, .int .i64 ((pc + 1)), .slice la (loc).length lc, x5, .slice cda cells.length cc].toArray 106 (0, 0)) :: lsH I64 2 a2 c2 (l.take (l.length - 1) ++ [(mkS x.c 0 (lastS l)).1]) :: lsH I64 2 la lc (loc) :: q) Tryz.func41 (resC1 Tryz.results41 (ResOk.cell rfl (LV.agg Tryz.isAgg74 Tryz.sizeOf74 hasA rfl) ResOk.nil)) ⟨_, rfl, .inr ⟨by rw [hD]; exact (by decide : (1 : Int) ≠ 7), by rw [hD]; rfl, a2, c2, by rw [hD]⟩⟩ leA)⟩
 · skip
   obtain ⟨hmk0, nf, hmk, hcall⟩ := (maker_at (G := G) hxc).resolve_right (fun h => h.1 (by omega))
   have hun : isUn x.c := by omega
   have hdx : (1 : Int) ≤ l.length := by have h := hdep; rw [hx] at h; exact h
   refine oo 5 ?_
   refine ld ?_
   refine ox 2 ?_
   refine X.kf 11 ?_
   refine xo 8 ?_
   refine ld ?_
   refine oo 4 ?_
   refine st ?_
   refine ox 3 ?_
   refine X.draw [(4, .pointer (some ⟨n2, 0, none⟩))] Tryz.mixed (by kernel_rfl) (by kernel_rfl) rfl ?_
   refine dd [1] ?_
   refine ldD 2 ?_
   refine XD.cRL 0 Tryz.call64 (makers_ok) ?_
   refine XD.pu 3 rfl (Pu.indexA rfl rfl Tryz.underlying139 Tryz.sizeOf138 Tryz.isAgg138 (by omega) (by omega) hmk) ?_
   refine dd [4] ?_
   refine XD.nil ?_
   refine xo 3 ?_
   refine XO.pu (Pu.neqFNil rfl Tryz.underlying138) ?_
   refine oo 7 ?_
   refine XO.cF Tryz.call65 (pop_ok (l := l) (by omega)) ?_
   rintro _ _ ⟨rfl, rfl⟩ _ e_; simp only [ca, na] at e_; subst e_
   refine oo 7 ?_
   refine ld ?_
   refine oo 2 ?_
   refine XO.kt 35 ?_
   refine oo 1 ?_
   refine ld ?_
   refine oo 3 ?_
   refine XO.kf 40 ?_
   refine ox 8 ?_
   refine X.sb [7, 6, 5, 4, 3, 0] ?_
   refine X.draw [(4, .pointer (some ⟨n2, 0, none⟩))] Tryz.mixed (by kernel_rfl) (by kernel_rfl) rfl ?_
   refine dd [0, 1, 2, 3, 4, 5] ?_
   refine XD.cVP 6 (Le.refl _) (hcall _ 0 (lastS l) (by unfold val; omega) (vals_getD hS.vl _)) ?_ ?_ ⟨rfl, trivial⟩
   · rintro _ _ ⟨h0, rfl, rfl⟩
     exact hpan _ _ _ _ _ _ _ _ _ _ _ _ _ rfl (by unfold doS; rw [if_neg (by omega), if_pos hmk0]; simp only [if_pos hun]; exact if_pos h0) leA
   rintro _ _ ⟨hv, rfl, rfl⟩
   refine ⟨trivial, ?_⟩
   refine XD.cF 7 Tryz.call66 (push_ok (l := l.take (l.length - 1)) (z := (mkS x.c 0 (lastS l)).1) (by rw [List.length_take]; omega)) ?_
   rintro _ _ ⟨a2, c2, rfl⟩ _ e_; simp only [ca, na] at e_; subst e_
   refine ⟨trivial, ?_⟩
   refine XD.nil ?_
   refine xo 3 ?_
   refine stA ?_
   refine ox 1 ?_
   have hD : doS m x pc loc l cells = (((pc + 1), loc, l.take (l.length - 1) ++ [(mkS x.c 0 (lastS l)).1]), dPlain) := by unfold doS; rw [if_neg (by omega), if_pos hmk0]; simp only [if_pos hun]; exact if_neg (fun h => h hv)
   exact X.ret ⟨rfl, Lv.quiet Tryz.call63 Tryz.func41 (do1_quiet (n2 := n2)) (Lv.ret (q' := pto p (.cells [.slice a2 (l.take (l.length - 1) ++ [(mkS x.c 0 (lastS l)).1]).length c2, .pointer (some ⟨pm, 0, none⟩), x2, .int .i64 ((pc + 1)), .slice la (loc).length lc, x5, .slice cda cells.length cc].toArray 106 (0, 0)) :: lsH I64 2 a2 c2 (l.take (l.length - 1) ++ [(mkS x.c 0 (lastS l)).1]) :: lsH I64 2 la lc (loc) :: q) Tryz.func41 (resC1 Tryz.results41 (ResOk.cell rfl (LV.agg Tryz.isAgg74 Tryz.sizeOf74 hasA rfl) ResOk.nil)) ⟨_, rfl, .inr ⟨by rw [hD]; exact (by decide : (1 : Int) ≠ 7), by rw [hD]; rfl, a2, c2, by rw [hD]⟩⟩ leA)⟩
 · skip
   obtain ⟨hmk0, nf, hmk, hcall⟩ := (maker_at (G := G) hxc).resolve_right (fun h => h.1 (by omega))
   have hun : isUn x.c := by omega
   have hdx : (1 : Int) ≤ l.length := by have h := hdep; rw [hx] at h; exact h
   refine oo 5 ?_
   refine ld ?_
   refine ox 2 ?_
   refine X.kf 11 ?_
   refine xo 8 ?_
   refine ld ?_
   refine oo 4 ?_
   refine st ?_
   refine ox 3 ?_
   refine X.draw [(4, .pointer (some ⟨n2, 0, none⟩))] Tryz.mixed (by kernel_rfl) (by kernel_rfl) rfl ?_
   refine dd [1] ?_
   refine ldD 2 ?_
   refine XD.cRL 0 Tryz.call64 (makers_ok) ?_
   refine XD.pu 3 rfl (Pu.indexA rfl rfl Tryz.underlying139 Tryz.sizeOf138 Tryz.isAgg138 (by omega) (by omega) hmk) ?_
   refine dd [4] ?_
   refine XD.nil ?_
   refine xo 3 ?_
   refine XO.pu (Pu.neqFNil rfl Tryz.underlying138) ?_
   refine oo 7 ?_
   refine XO.cF Tryz.call65 (pop_ok (l := l) (by omega)) ?_
   rintro _ _ ⟨rfl, rfl⟩ _ e_; simp only [ca, na] at e_; subst e_
   refine oo 7 ?_
   refine ld ?_
   refine oo 2 ?_
   refine XO.kt 35 ?_
   refine oo 1 ?_
   refine ld ?_
   refine oo 3 ?_
   refine XO.kt 40 ?_
   refine oo 1 ?_
   refine ld ?_
   refine ox 3 ?_
   refine X.sb [44, 7, 6, 5, 4, 3, 0] ?_
   refine X.kf 44 ?_
   refine xx 3 ?_
   refine X.draw [(4, .pointer (some ⟨n2, 0, none⟩))] Tryz.mixed (by kernel_rfl) (by kernel_rfl) rfl ?_
   refine dd [0, 1, 2, 3, 4, 5] ?_
   refine XD.cVP 6 (Le.refl _) (hcall _ 0 (lastS l) (by unfold val; omega) (vals_getD hS.vl _)) ?_ ?_ ⟨rfl, trivial⟩
   · rintro _ _ ⟨h0, rfl, rfl⟩
     exact hpan _ _ _ _ _ _ _ _ _ _ _ _ _ rfl (by unfold doS; rw [if_neg (by omega), if_pos hmk0]; simp only [if_pos hun]; exact if_pos h0) leA
   rintro _ _ ⟨hv, rfl, rfl⟩
   refine ⟨trivial, ?_⟩
   refine XD.cF 7 Tryz.call66 (push_ok (l := l.take (l.length - 1)) (z := (mkS x.c 0 (lastS l)).1) (by rw [List.length_take]; omega)) ?_
   rintro _ _ ⟨a2, c2, rfl⟩ _ e_; simp only [ca, na] at e_; subst e_
   refine ⟨trivial, ?_⟩
   refine XD.nil ?_
   refine xo 3 ?_
   refine stA ?_
   refine ox 1 ?_
   have hD : doS m x pc loc l cells = (((pc + 1), loc, l.take (l.length - 1) ++ [(mkS x.c 0 (lastS l)).1]), dPlain) := by unfold doS; rw [if_neg (by omega), if_pos hmk0]; simp only [if_pos hun]; exact if_neg (fun h => h hv)
   exact X.ret ⟨rfl, Lv.quiet Tryz.call63 Tryz.func41 (do1_quiet (n2 := n2)) (Lv.ret (q' := pto p (.cells [.slice a2 (l.take (l.length - 1) ++ [(mkS x.c 0 (lastS l)).1]).length c2, .pointer (some ⟨pm, 0, none⟩), x2, .int .i64 ((pc + 1)), .slice la (loc).length lc, x5, .slice cda cells.length cc].toArray 106 (0, 0)) :: lsH I64 2 a2 c2 (l.take (l.length - 1) ++ [(mkS x.c 0 (lastS l)).1]) :: lsH I64 2 la lc (loc) :: q) Tryz.func41 (resC1 Tryz.results41 (ResOk.cell rfl (LV.agg Tryz.isAgg74 Tryz.sizeOf74 hasA rfl) ResOk.nil)) ⟨_, rfl, .inr ⟨by rw [hD]; exact (by decide : (1 : Int) ≠ 7), by rw [hD]; rfl, a2, c2, by rw [hD]⟩⟩ leA)⟩
 · skip
   obtain ⟨hmk0, nf, hmk, hcall⟩ := (maker_at (G := G) hxc).resolve_right (fun h => h.1 (by omega))
   have hun : ¬ isUn x.c := by omega
   have hdx : (2 : Int) ≤ l.length := by have h := hdep; unfold effS at h; rw [if_neg (by omega), if_neg (by omega), if_pos (by omega)] at h; exact h
   refine oo 5 ?_
   refine ld ?_
   refine ox 2 ?_
   refine X.kf 11 ?_
   refine xo 8 ?_
   refine ld ?_
   refine oo 4 ?_
   refine st ?_
   refine ox 3 ?_
   refine X.draw [(4, .pointer (some ⟨n2, 0, none⟩))] Tryz.mixed (by kernel_rfl) (by kernel_rfl) rfl ?_
   refine dd [1] ?_
   refine ldD 2 ?_
   refine XD.cRL 0 Tryz.call64 (makers_ok) ?_
   refine XD.pu 3 rfl (Pu.indexA rfl rfl Tryz.underlying139 Tryz.sizeOf138 Tryz.isAgg138 (by omega) (by omega) hmk) ?_
   refine dd [4] ?_
   refine XD.nil ?_
   refine xo 3 ?_
   refine XO.pu (Pu.neqFNil rfl Tryz.underlying138) ?_
   refine oo 7 ?_
   refine XO.cF Tryz.call65 (pop_ok (l := l) (by omega)) ?_
   rintro _ _ ⟨rfl, rfl⟩ _ e_; simp only [ca, na] at e_; subst e_
   refine oo 7 ?_
   refine ld ?_
   refine oo 2 ?_
   refine XO.kt 35 ?_
   refine oo 1 ?_
   refine ld ?_
   refine oo 3 ?_
   refine XO.kt 40 ?_
   refine oo 1 ?_
   refine ld ?_
   refine ox 3 ?_
   refine X.sb [44, 7, 6, 5, 4, 3, 0] ?_
   refine X.kt 44 ?_
   refine xo 5 ?_
   refine XO.cF Tryz.call65 (pop_ok (l := l.take (l.length - 1)) (by rw [List.length_take]; omega)) ?_
   rintro _ _ ⟨rfl, rfl⟩ _ e_; simp only [ca, na] at e_; subst e_
   rw [take_take_pred]
   refine XO.know 48 (.int .i64 (aheadS l)) rfl (congrArg (Value.int .i64) (last_take_pred (by omega))) ?_
   refine ox 3 ?_
   refine X.draw [(4, .pointer (some ⟨n2, 0, none⟩))] Tryz.mixed (by kernel_rfl) (by kernel_rfl) rfl ?_
   refine dd [0, 1, 2, 3, 4, 5] ?_
   refine XD.cVP 6 (Le.refl _) (hcall _ (aheadS l) (lastS l) (vals_getD hS.vl _) (vals_getD hS.vl _)) ?_ ?_ ⟨rfl, trivial⟩
   · rintro _ _ ⟨h0, rfl, rfl⟩
     exact hpan _ _ _ _ _ _ _ _ _ _ _ _ _ rfl (by unfold doS; rw [if_neg (by omega), if_pos hmk0]; simp only [if_neg hun]; exact if_pos h0) leA
   rintro _ _ ⟨hv, rfl, rfl⟩
   refine ⟨trivial, ?_⟩
   refine XD.cF 7 Tryz.call66 (push_ok (l := l.take (l.length - 2)) (z := (mkS x.c (aheadS l) (lastS l)).1) (by rw [List.length_take]; omega)) ?_
   rintro _ _ ⟨a2, c2, rfl⟩ _ e_; simp only [ca, na] at e_; subst e_
   refine ⟨trivial, ?_⟩
   refine XD.nil ?_
   refine xo 3 ?_
   refine stA ?_
   refine ox 1 ?_
   have hD : doS m x pc loc l cells = (((pc + 1), loc, l.take (l.length - 2) ++ [(mkS x.c (aheadS l) (lastS l)).1]), dPlain) := by unfold doS; rw [if_neg (by omega), if_pos hmk0]; simp only [if_neg hun]; exact if_neg (fun h => h hv)
   exact X.ret ⟨rfl, Lv.quiet Tryz.call63 Tryz.func41 (do1_quiet (n2 := n2)) (Lv.ret (q' := pto p (.cells [.slice a2 (l.take (l.length - 2) ++ [(mkS x.c (aheadS l) (lastS l)).1]).length c2, .pointer (some ⟨pm, 0, none⟩), x2, .int .i64 ((pc + 1)), .slice la (loc).length lc, x5, .slice cda cells.length cc].toArray 106 (0, 0)) :: lsH I64 2 a2 c2 (l.take (l.length - 2) ++ [(mkS x.c (aheadS l) (lastS l)).1]) :: lsH I64 2 la lc (loc) :: q) Tryz.func41 (resC1 Tryz.results41 (ResOk.cell rfl (LV.agg Tryz.isAgg74 Tryz.sizeOf74 hasA rfl) ResOk.nil)) ⟨_, rfl, .inr ⟨by rw [hD]; exact (by decide : (1 : Int) ≠ 7), by rw [hD]; rfl, a2, c2, by rw [hD]⟩⟩ leA)⟩
 · skip
   have hmk := ((maker_at (G := G) hxc).resolve_left (fun h => absurd h.1 (by omega))).2
   have hcls : x.c = 2 ∨ x.c = 5 ∨ x.c = 4 ∨ x.c = 7 := by omega
   refine oo 5 ?_
   refine ld ?_
   refine ox 2 ?_
   refine X.kf 11 ?_
   refine xo 8 ?_
   refine ld ?_
   refine oo 4 ?_
   refine st ?_
   refine ox 3 ?_
   refine X.draw [(4, .pointer (some ⟨n2, 0, none⟩))] Tryz.mixed (by kernel_rfl) (by kernel_rfl) rfl ?_
   refine dd [1] ?_
   refine ldD 2 ?_
   refine XD.cRL 0 Tryz.call64 (makers_ok) ?_
   refine XD.pu 3 rfl (Pu.indexA rfl rfl Tryz.underlying139 Tryz.sizeOf138 Tryz.isAgg138 (by omega) (by omega) hmk) ?_
   refine dd [4] ?_
   refine XD.nil ?_
   refine xo 3 ?_
   refine XO.pu (Pu.neqFNil0 rfl Tryz.underlying138) ?_
   refine oo 7 ?_
   refine ld ?_
   refine ox 8 ?_
   refine X.sb [60, 59, 4, 3, 0] ?_
   refine X.kt 60 ?_
   refine xo 6 ?_
   refine ldA ?_
   refine XO.cP Tryz.call67 (Le.pick fndA fndA) (access_ok (m := m) (x := x) (loc := loc) (l := l) (cells := cells) (hm.le leA) (hq.le leA) (hc.le leA) hS hcls) ?_ ?_
   · rintro _ _ ⟨h0, rfl, rfl⟩
     exact hpan _ _ _ _ _ _ _ _ _ _ _ _ _ rfl (by unfold doS; rw [if_neg (by omega), if_neg (by omega), if_pos hcls, h0]) leA
   rintro _ _ ⟨y, l2, hac, rfl, a2, c2, rfl⟩
   refine oo 1 ?_
   refine stA ?_
   refine ox 1 ?_
   have hD : doS m x pc loc l cells = (((pc + 1), loc, l2), dAcc y.1 y.2.1 y.2.2) := by unfold doS; rw [if_neg (by omega), if_neg (by omega), if_pos hcls, hac]
   exact X.ret ⟨rfl, Lv.quiet Tryz.call63 Tryz.func41 (do1_quiet (n2 := n2)) (Lv.ret (q' := pto p (.cells [.slice a2 (l2).length c2, .pointer (some ⟨pm, 0, none⟩), x2, .int .i64 ((pc + 1)), .slice la (loc).length lc, x5, .slice cda cells.length cc].toArray 106 (0, 0)) :: lsH I64 2 a2 c2 (l2) :: lsH I64 2 la lc (loc) :: q) Tryz.func41 (resC1 Tryz.results41 (ResOk.cell rfl (LV.agg Tryz.isAgg74 Tryz.sizeOf74 hasA rfl) ResOk.nil)) ⟨_, rfl, .inr ⟨by rw [hD]; exact (by decide : (2 : Int) ≠ 7), by rw [hD]; rfl, a2, c2, by rw [hD]⟩⟩ leA)⟩
 · skip
   have hmk := ((maker_at (G := G) hxc).resolve_left (fun h => absurd h.1 (by omega))).2
   have hcls : x.c = 2 ∨ x.c = 5 ∨ x.c = 4 ∨ x.c = 7 := by omega
   have hdx : (1 : Int) ≤ l.length := by have h := hdep; rw [hx] at h; exact h
   refine oo 5 ?_
   refine ld ?_
   refine ox 2 ?_
   refine X.kf 11 ?_
   refine xo 8 ?_
   refine ld ?_
   refine oo 4 ?_
   refine st ?_
   refine ox 3 ?_
   refine X.draw [(4, .pointer (some ⟨n2, 0, none⟩))] Tryz.mixed (by kernel_rfl) (by kernel_rfl) rfl ?_
   refine dd [1] ?_
   refine ldD 2 ?_
   refine XD.cRL 0 Tryz.call64 (makers_ok) ?_
   refine XD.pu 3 rfl (Pu.indexA rfl rfl Tryz.underlying139 Tryz.sizeOf138 Tryz.isAgg138 (by omega) (by omega) hmk) ?_
   refine dd [4] ?_
   refine XD.nil ?_
   refine xo 3 ?_
   refine XO.pu (Pu.neqFNil0 rfl Tryz.underlying138) ?_
   refine oo 7 ?_
   refine ld ?_
   refine ox 8 ?_
   refine X.sb [60, 59, 4, 3, 0] ?_
   refine X.kf 60 ?_
   refine xx 6 ?_
   refine X.kt 60 ?_
   refine xo 6 ?_
   refine ldA ?_
   refine XO.cP Tryz.call67 (Le.pick fndA fndA) (access_ok (m := m) (x := x) (loc := loc) (l := l) (cells := cells) (hm.le leA) (hq.le leA) (hc.le leA) hS hcls) ?_ ?_
   · rintro _ _ ⟨h0, rfl, rfl⟩
     exact hpan _ _ _ _ _ _ _ _ _ _ _ _ _ rfl (by unfold doS; rw [if_neg (by omega), if_neg (by omega), if_pos hcls, h0]) leA
   rintro _ _ ⟨y, l2, hac, rfl, a2, c2, rfl⟩
   refine oo 1 ?_
   refine stA ?_
   refine ox 1 ?_
   have hD : doS m x pc loc l cells = (((pc + 1), loc, l2), dAcc y.1 y.2.1 y.2.2) := by unfold doS; rw [if_neg (by omega), if_neg (by omega), if_pos hcls, hac]
   exact X.ret ⟨rfl, Lv.quiet Tryz.call63 Tryz.func41 (do1_quiet (n2 := n2)) (Lv.ret (q' := pto p (.cells [.slice a2 (l2).length c2, .pointer (some ⟨pm, 0, none⟩), x2, .int .i64 ((pc + 1)), .slice la (loc).length lc, x5, .slice cda cells.length cc].toArray 106 (0, 0)) :: lsH I64 2 a2 c2 (l2) :: lsH I64 2 la lc (loc) :: q) Tryz.func41 (resC1 Tryz.results41 (ResOk.cell rfl (LV.agg Tryz.isAgg74 Tryz.sizeOf74 hasA rfl) ResOk.nil)) ⟨_, rfl, .inr ⟨by rw [hD]; exact (by decide : (2 : Int) ≠ 7), by rw [hD]; rfl, a2, c2, by rw [hD]⟩⟩ leA)⟩
 · skip
   have hmk := ((maker_at (G := G) hxc).resolve_left (fun h => absurd h.1 (by omega))).2
   have hcls : x.c = 2 ∨ x.c = 5 ∨ x.c = 4 ∨ x.c = 7 := by omega
   have hdx : (1 : Int) ≤ l.length := by have h := hdep; rw [hx] at h; exact h
   refine oo 5 ?_
   refine ld ?_
   refine ox 2 ?_
   refine X.kf 11 ?_
   refine xo 8 ?_
   refine ld ?_
   refine oo 4 ?_
   refine st ?_
   refine ox 3 ?_
   refine X.draw [(4, .pointer (some ⟨n2, 0, none⟩))] Tryz.mixed (by kernel_rfl) (by kernel_rfl) rfl ?_
   refine dd [1] ?_
   refine ldD 2 ?_
   refine XD.cRL 0 Tryz.call64 (makers_ok) ?_
   refine XD.pu 3 rfl (Pu.indexA rfl rfl Tryz.underlying139 Tryz.sizeOf138 Tryz.isAgg138 (by omega) (by omega) hmk) ?_
   refine dd [4] ?_
   refine XD.nil ?_
   refine xo 3 ?_
   refine XO.pu (Pu.neqFNil0 rfl Tryz.underlying138) ?_
   refine oo 7 ?_
   refine ld ?_
   refine ox 8 ?_
   refine X.sb [60, 59, 4, 3, 0] ?_
   refine X.kf 60 ?_
   refine xx 6 ?_
   refine X.kf 60 ?_
   refine xx 6 ?_
   refine X.kt 60 ?_
   refine xo 6 ?_
   refine ldA ?_
   refine XO.cP Tryz.call67 (Le.pick fndA fndA) (access_ok (m := m) (x := x) (loc := loc) (l := l) (cells := cells) (hm.le leA) (hq.le leA) (hc.le leA) hS hcls) ?_ ?_
   · rintro _ _ ⟨h0, rfl, rfl⟩
     exact hpan _ _ _ _ _ _ _ _ _ _ _ _ _ rfl (by unfold doS; rw [if_neg (by omega), if_neg (by omega), if_pos hcls, h0]) leA
   rintro _ _ ⟨y, l2, hac, rfl, a2, c2, rfl⟩
   refine oo 1 ?_
   refine stA ?_
   refine ox 1 ?_
   have hD : doS m x pc loc l cells = (((pc + 1), loc, l2), dAcc y.1 y.2.1 y.2.2) := by unfold doS; rw [if_neg (by omega), if_neg (by omega), if_pos hcls, hac]
   exact X.ret ⟨rfl, Lv.quiet Tryz.call63 Tryz.func41 (do1_quiet (n2 := n2)) (Lv.ret (q' := pto p (.cells [.slice a2 (l2).length c2, .pointer (some ⟨pm, 0, none⟩), x2, .int .i64 ((pc + 1)), .slice la (loc).length lc, x5, .slice cda cells.length cc].toArray 106 (0, 0)) :: lsH I64 2 a2 c2 (l2) :: lsH I64 2 la lc (loc) :: q) Tryz.func41 (resC1 Tryz.results41 (ResOk.cell rfl (LV.agg Tryz.isAgg74 Tryz.sizeOf74 hasA rfl) ResOk.nil)) ⟨_, rfl, .inr ⟨by rw [hD]; exact (by decide : (2 : Int) ≠ 7), by rw [hD]; rfl, a2, c2, by rw [hD]⟩⟩ leA)⟩
 · skip
   have hmk := ((maker_at (G := G) hxc).resolve_left (fun h => absurd h.1 (by omega))).2
   have hcls : x.c = 2 ∨ x.c = 5 ∨ x.c = 4 ∨ x.c = 7 := by omega
   have hdx : (2 : Int) ≤ l.length := by have h := hdep; rw [hx] at h; exact h
   refine oo 5 ?_
   refine ld ?_
   refine ox 2 ?_
   refine X.kf 11 ?_
   refine xo 8 ?_
   refine ld ?_
   refine oo 4 ?_
   refine st ?_
   refine ox 3 ?_
   refine X.draw [(4, .pointer (some ⟨n2, 0, none⟩))] Tryz.mixed (by kernel_rfl) (by kernel_rfl) rfl ?_
   refine dd [1] ?_
   refine ldD 2 ?_
   refine XD.cRL 0 Tryz.call64 (makers_ok) ?_
   refine XD.pu 3 rfl (Pu.indexA rfl rfl Tryz.underlying139 Tryz.sizeOf138 Tryz.isAgg138 (by omega) (by omega) hmk) ?_
   refine dd [4] ?_
   refine XD.nil ?_
   refine xo 3 ?_
   refine XO.pu (Pu.neqFNil0 rfl Tryz.underlying138) ?_
   refine oo 7 ?_
   refine ld ?_
   refine ox 8 ?_
   refine X.sb [60, 59, 4, 3, 0] ?_
   refine X.kf 60 ?_
   refine xx 6 ?_
   refine X.kf 60 ?_
   refine xx 6 ?_
   refine X.kf 60 ?_
   refine xx 5 ?_
   refine X.kt 60 ?_
   refine xo 4 ?_
   refine ldA ?_
   refine XO.cP Tryz.call67 (Le.pick fndA fndA) (access_ok (m := m) (x := x) (loc := loc) (l := l) (cells := cells) (hm.le leA) (hq.le leA) (hc.le leA) hS hcls) ?_ ?_
   · rintro _ _ ⟨h0, rfl, rfl⟩
     exact hpan _ _ _ _ _ _ _ _ _ _ _ _ _ rfl (by unfold doS; rw [if_neg (by omega), if_neg (by omega), if_pos hcls, h0]) leA
   rintro _ _ ⟨y, l2, hac, rfl, a2, c2, rfl⟩
   refine oo 1 ?_
   refine stA ?_
   refine ox 1 ?_
   have hD : doS m x pc loc l cells = (((pc + 1), loc, l2), dAcc y.1 y.2.1 y.2.2) := by unfold doS; rw [if_neg (by omega), if_neg (by omega), if_pos hcls, hac]
   exact X.ret ⟨rfl, Lv.quiet Tryz.call63 Tryz.func41 (do1_quiet (n2 := n2)) (Lv.ret (q' := pto p (.cells [.slice a2 (l2).length c2, .pointer (some ⟨pm, 0, none⟩), x2, .int .i64 ((pc + 1)), .slice la (loc).length lc, x5, .slice cda cells.length cc].toArray 106 (0, 0)) :: lsH I64 2 a2 c2 (l2) :: lsH I64 2 la lc (loc) :: q) Tryz.func41 (resC1 Tryz.results41 (ResOk.cell rfl (LV.agg Tryz.isAgg74 Tryz.sizeOf74 hasA rfl) ResOk.nil)) ⟨_, rfl, .inr ⟨by rw [hD]; exact (by decide : (2 : Int) ≠ 7), by rw [hD]; rfl, a2, c2, by rw [hD]⟩⟩ leA)⟩
 · skip
   have hmk := ((maker_at (G := G) hxc).resolve_left (fun h => absurd h.1 (by omega))).2
   refine oo 5 ?_
   refine ld ?_
   refine ox 2 ?_
   refine X.kf 11 ?_
   refine xo 8 ?_
   refine ld ?_
   refine oo 4 ?_
   refine st ?_
   refine ox 3 ?_
   refine X.draw [(4, .pointer (some ⟨n2, 0, none⟩))] Tryz.mixed (by kernel_rfl) (by kernel_rfl) rfl ?_
   refine dd [1] ?_
   refine ldD 2 ?_
   refine XD.cRL 0 Tryz.call64 (makers_ok) ?_
   refine XD.pu 3 rfl (Pu.indexA rfl rfl Tryz.underlying139 Tryz.sizeOf138 Tryz.isAgg138 (by omega) (by omega) hmk) ?_
   refine dd [4] ?_
   refine XD.nil ?_
   refine xo 3 ?_
   refine XO.pu (Pu.neqFNil0 rfl Tryz.underlying138) ?_
   refine oo 7 ?_
   refine ld ?_
   refine ox 8 ?_
   refine X.sb [60, 59, 4, 3, 0] ?_
   refine X.kf 60 ?_
   refine xx 6 ?_
   refine X.kf 60 ?_
   refine xx 6 ?_
   refine X.kf 60 ?_
   refine xx 5 ?_
   refine X.kf 60 ?_
   refine xx 6 ?_
   refine X.kt 69 ?_
   refine xo 4 ?_
   refine ld ?_
   refine oo 1 ?_
   refine stA ?_
   refine ox 1 ?_
   have hD : doS m x pc loc l cells = (((pc + 1), loc, l), dVal 3 x.a) := by unfold doS; rw [if_neg (by omega), if_neg (by omega), if_neg (by omega), if_pos hx]
   exact X.ret ⟨rfl, Lv.quiet Tryz.call63 Tryz.func41 (do1_quiet (n2 := n2)) (Lv.ret (q' := pto p (.cells [.slice a (l).length c, .pointer (some ⟨pm, 0, none⟩), x2, .int .i64 ((pc + 1)), .slice la (loc).length lc, x5, .slice cda cells.length cc].toArray 106 (0, 0)) :: lsH I64 2 a c (l) :: lsH I64 2 la lc (loc) :: q) Tryz.func41 (resC1 Tryz.results41 (ResOk.cell rfl (LV.agg Tryz.isAgg74 Tryz.sizeOf74 hasA rfl) ResOk.nil)) ⟨_, rfl, .inr ⟨by rw [hD]; exact (by decide : (3 : Int) ≠ 7), by rw [hD]; rfl, a, c, by rw [hD]⟩⟩ leA)⟩
 · skip
   have hmk := ((maker_at (G := G) hxc).resolve_left (fun h => absurd h.1 (by omega))).2
   have hdx : (1 : Int) ≤ l.length := by have h := hdep; rw [hx] at h; exact h
   refine oo 5 ?_
   refine ld ?_
   refine ox 2 ?_
   refine X.kf 11 ?_
   refine xo 8 ?_
   refine ld ?_
   refine oo 4 ?_
   refine st ?_
   refine ox 3 ?_
   refine X.draw [(4, .pointer (some ⟨n2, 0, none⟩))] Tryz.mixed (by kernel_rfl) (by kernel_rfl) rfl ?_
   refine dd [1] ?_
   refine ldD 2 ?_
   refine XD.cRL 0 Tryz.call64 (makers_ok) ?_
   refine XD.pu 3 rfl (Pu.indexA rfl rfl Tryz.underlying139 Tryz.sizeOf138 Tryz.isAgg138 (by omega) (by omega) hmk) ?_
   refine dd [4] ?_
   refine XD.nil ?_
   refine xo 3 ?_
   refine XO.pu (Pu.neqFNil0 rfl Tryz.underlying138) ?_
   refine oo 7 ?_
   refine ld ?_
   refine ox 8 ?_
   refine X.sb [60, 59, 4, 3, 0] ?_
   refine X.kf 60 ?_
   refine xx 6 ?_
   refine X.kf 60 ?_
   refine xx 6 ?_
   refine X.kf 60 ?_
   refine xx 5 ?_
   refine X.kf 60 ?_
   refine xx 6 ?_
   refine X.kf 69 ?_
   refine xx 6 ?_
   refine X.kt 74 ?_
   refine xo 6 ?_
   refine XO.cF Tryz.call65 (pop_ok (l := l) (by omega)) ?_
   rintro _ _ ⟨rfl, rfl⟩ _ e_; simp only [ca, na] at e_; subst e_
   refine oo 1 ?_
   refine stA ?_
   refine ox 1 ?_
   refine X.sb [4, 3, 0] ?_
   have hD : doS m x pc loc l cells = (((pc + 1), loc, l.take (l.length - 1)), dVal 6 (lastS l)) := by unfold doS; rw [if_neg (by omega), if_neg (by omega), if_neg (by omega), if_neg (by omega), if_pos hx]
   exact X.ret ⟨rfl, Lv.quiet Tryz.call63 Tryz.func41 (do1_quiet (n2 := n2)) (Lv.ret (q' := pto p (.cells [.slice a (l.take (l.length - 1)).length c, .pointer (some ⟨pm, 0, none⟩), x2, .int .i64 ((pc + 1)), .slice la (loc).length lc, x5, .slice cda cells.length cc].toArray 106 (0, 0)) :: lsH I64 2 a c (l.take (l.length - 1)) :: lsH I64 2 la lc (loc) :: q) Tryz.func41 (resC1 Tryz.results41 (ResOk.cell rfl (LV.agg Tryz.isAgg74 Tryz.sizeOf74 hasA rfl) ResOk.nil)) ⟨_, rfl, .inr ⟨by rw [hD]; exact (by decide : (6 : Int) ≠ 7), by rw [hD]; rfl, a, c, by rw [hD]⟩⟩ leA)⟩
 · skip
   have hmk := ((maker_at (G := G) hxc).resolve_left (fun h => absurd h.1 (by omega))).2
   have hdx : (1 : Int) ≤ l.length := by have h := hdep; rw [hx] at h; exact h
   refine oo 5 ?_
   refine ld ?_
   refine ox 2 ?_
   refine X.kf 11 ?_
   refine xo 8 ?_
   refine ld ?_
   refine oo 4 ?_
   refine st ?_
   refine ox 3 ?_
   refine X.draw [(4, .pointer (some ⟨n2, 0, none⟩))] Tryz.mixed (by kernel_rfl) (by kernel_rfl) rfl ?_
   refine dd [1] ?_
   refine ldD 2 ?_
   refine XD.cRL 0 Tryz.call64 (makers_ok) ?_
   refine XD.pu 3 rfl (Pu.indexA rfl rfl Tryz.underlying139 Tryz.sizeOf138 Tryz.isAgg138 (by omega) (by omega) hmk) ?_
   refine dd [4] ?_
   refine XD.nil ?_
   refine xo 3 ?_
   refine XO.pu (Pu.neqFNil0 rfl Tryz.underlying138) ?_
   refine oo 7 ?_
   refine ld ?_
   refine ox 8 ?_
   refine X.sb [60, 59, 4, 3, 0] ?_
   refine X.kf 60 ?_
   refine xx 6 ?_
   refine X.kf 60 ?_
   refine xx 6 ?_
   refine X.kf 60 ?_
   refine xx 5 ?_
   refine X.kf 60 ?_
   refine xx 6 ?_
   refine X.kf 69 ?_
   refine xx 6 ?_
   refine X.kf 74 ?_
   refine xx 6 ?_
   refine X.sb [81, 59, 4, 3, 0] ?_
   refine X.kt 81 ?_
   refine xx 2 ?_
   refine X.draw [(4, .pointer (some ⟨n2, 0, none⟩))] Tryz.mixed (by kernel_rfl) (by kernel_rfl) rfl ?_
   refine ldAD 0 ?_
   refine dd [1, 2, 3] ?_
   refine XD.cF 4 Tryz.call65 (pop_ok (l := l) (by omega)) ?_
   rintro _ _ ⟨rfl, rfl⟩ _ e_; simp only [ca, na] at e_; subst e_
   refine ⟨hlA, ?_⟩
   refine dd [5] ?_
   refine stAD 6 ?_
   refine XD.nil ?_
   have hD : doS m x pc loc l cells = (((pc + 1), loc, l.take (l.length - 1)), dSync x (lastS l)) := by unfold doS; rw [if_neg (by omega), if_neg (by omega), if_neg (by omega), if_neg (by omega), if_neg (by omega), if_pos hx]
   exact X.ret ⟨rfl, Lv.quiet Tryz.call63 Tryz.func41 (do1_quiet (n2 := n2)) (Lv.ret (q' := pto p (.cells [.slice a (l.take (l.length - 1)).length c, .pointer (some ⟨pm, 0, none⟩), x2, .int .i64 ((pc + 1)), .slice la (loc).length lc, x5, .slice cda cells.length cc].toArray 106 (0, 0)) :: lsH I64 2 a c (l.take (l.length - 1)) :: lsH I64 2 la lc (loc) :: q) Tryz.func41 (resC1 Tryz.results41 (ResOk.cell rfl (LV.agg Tryz.isAgg74 Tryz.sizeOf74 hasA rfl) ResOk.nil)) ⟨_, rfl, .inr ⟨by rw [hD]; exact (by decide : (5 : Int) ≠ 7), by rw [hD]; rfl, a, c, by rw [hD]⟩⟩ leA)⟩
 · skip
   have hmk := ((maker_at (G := G) hxc).resolve_left (fun h => absurd h.1 (by omega))).2
   refine oo 5 ?_
   refine ld ?_
   refine ox 2 ?_
   refine X.kf 11 ?_
   refine xo 8 ?_
   refine ld ?_
   refine oo 4 ?_
   refine st ?_
   refine ox 3 ?_
   refine X.draw [(4, .pointer (some ⟨n2, 0, none⟩))] Tryz.mixed (by kernel_rfl) (by kernel_rfl) rfl ?_
   refine dd [1] ?_
   refine ldD 2 ?_
   refine XD.cRL 0 Tryz.call64 (makers_ok) ?_
   refine XD.pu 3 rfl (Pu.indexA rfl rfl Tryz.underlying139 Tryz.sizeOf138 Tryz.isAgg138 (by omega) (by omega) hmk) ?_
   refine dd [4] ?_
   refine XD.nil ?_
   refine xo 3 ?_
   refine XO.pu (Pu.neqFNil0 rfl Tryz.underlying138) ?_
   refine oo 7 ?_
   refine ld ?_
   refine ox 8 ?_
   refine X.sb [60, 59, 4, 3, 0] ?_
   refine X.kf 60 ?_
   refine xx 6 ?_
   refine X.kf 60 ?_
   refine xx 6 ?_
   refine X.kf 60 ?_
   refine xx 5 ?_
   refine X.kf 60 ?_
   refine xx 6 ?_
   refine X.kf 69 ?_
   refine xx 6 ?_
   refine X.kf 74 ?_
   refine xx 6 ?_
   refine X.sb [81, 59, 4, 3, 0] ?_
   refine X.kf 81 ?_
   refine xx 7 ?_
   refine X.kt 89 ?_
   refine xo 5 ?_
   refine ldA ?_
   refine oo 1 ?_
   refine stA ?_
   refine ox 1 ?_
   have hD : doS m x pc loc l cells = (((pc + 1), loc, l), dSync x 0) := by unfold doS; rw [if_neg (by omega), if_neg (by omega), if_neg (by omega), if_neg (by omega), if_neg (by omega), if_neg (by omega), if_pos (by omega)]
   exact X.ret ⟨rfl, Lv.quiet Tryz.call63 Tryz.func41 (do1_quiet (n2 := n2)) (Lv.ret (q' := pto p (.cells [.slice a (l).length c, .pointer (some ⟨pm, 0, none⟩), x2, .int .i64 ((pc + 1)), .slice la (loc).length lc, x5, .slice cda cells.length cc].toArray 106 (0, 0)) :: lsH I64 2 a c (l) :: lsH I64 2 la lc (loc) :: q) Tryz.func41 (resC1 Tryz.results41 (ResOk.cell rfl (LV.agg Tryz.isAgg74 Tryz.sizeOf74 hasA rfl) ResOk.nil)) ⟨_, rfl, .inr ⟨by rw [hD]; exact (by decide : (5 : Int) ≠ 7), by rw [hD]; rfl, a, c, by rw [hD]⟩⟩ leA)⟩
 · skip
   have hmk := ((maker_at (G := G) hxc).resolve_left (fun h => absurd h.1 (by omega))).2
   refine oo 5 ?_
   refine ld ?_
   refine ox 2 ?_
   refine X.kf 11 ?_
   refine xo 8 ?_
   refine ld ?_
   refine oo 4 ?_
   refine st ?_
   refine ox 3 ?_
   refine X.draw [(4, .pointer (some ⟨n2, 0, none⟩))] Tryz.mixed (by kernel_rfl) (by kernel_rfl) rfl ?_
   refine dd [1] ?_
   refine ldD 2 ?_
   refine XD.cRL 0 Tryz.call64 (makers_ok) ?_
   refine XD.pu 3 rfl (Pu.indexA rfl rfl Tryz.underlying139 Tryz.sizeOf138 Tryz.isAgg138 (by omega) (by omega) hmk) ?_
   refine dd [4] ?_
   refine XD.nil ?_
   refine xo 3 ?_
   refine XO.pu (Pu.neqFNil0 rfl Tryz.underlying138) ?_
   refine oo 7 ?_
   refine ld ?_
   refine ox 8 ?_
   refine X.sb [60, 59, 4, 3, 0] ?_
   refine X.kf 60 ?_
   refine xx 6 ?_
   refine X.kf 60 ?_
   refine xx 6 ?_
   refine X.kf 60 ?_
   refine xx 5 ?_
   refine X.kf 60 ?_
   refine xx 6 ?_
   refine X.kf 69 ?_
   refine xx 6 ?_
   refine X.kf 74 ?_
   refine xx 6 ?_
   refine X.sb [81, 59, 4, 3, 0] ?_
   refine X.kf 81 ?_
   refine xx 7 ?_
   refine X.kf 89 ?_
   refine xx 6 ?_
   refine X.kt 89 ?_
   refine xo 5 ?_
   refine ldA ?_
   refine oo 1 ?_
   refine stA ?_
   refine ox 1 ?_
   have hD : doS m x pc loc l cells = (((pc + 1), loc, l), dSync x 0) := by unfold doS; rw [if_neg (by omega), if_neg (by omega), if_neg (by omega), if_neg (by omega), if_neg (by omega), if_neg (by omega), if_pos (by omega)]
   exact X.ret ⟨rfl, Lv.quiet Tryz.call63 Tryz.func41 (do1_quiet (n2 := n2)) (Lv.ret (q' := pto p (.cells [.slice a (l).length c, .pointer (some ⟨pm, 0, none⟩), x2, .int .i64 ((pc + 1)), .slice la (loc).length lc, x5, .slice cda cells.length cc].toArray 106 (0, 0)) :: lsH I64 2 a c (l) :: lsH I64 2 la lc (loc) :: q) Tryz.func41 (resC1 Tryz.results41 (ResOk.cell rfl (LV.agg Tryz.isAgg74 Tryz.sizeOf74 hasA rfl) ResOk.nil)) ⟨_, rfl, .inr ⟨by rw [hD]; exact (by decide : (5 : Int) ≠ 7), by rw [hD]; rfl, a, c, by rw [hD]⟩⟩ leA)⟩
 · skip
   have hmk := ((maker_at (G := G) hxc).resolve_left (fun h => absurd h.1 (by omega))).2
   refine oo 5 ?_
   refine ld ?_
   refine ox 2 ?_
   refine X.kf 11 ?_
   refine xo 8 ?_
   refine ld ?_
   refine oo 4 ?_
   refine st ?_
   refine ox 3 ?_
   refine X.draw [(4, .pointer (some ⟨n2, 0, none⟩))] Tryz.mixed (by kernel_rfl) (by kernel_rfl) rfl ?_
   refine dd [1] ?_
   refine ldD 2 ?_
   refine XD.cRL 0 Tryz.call64 (makers_ok) ?_
   refine XD.pu 3 rfl (Pu.indexA rfl rfl Tryz.underlying139 Tryz.sizeOf138 Tryz.isAgg138 (by omega) (by omega) hmk) ?_
   refine dd [4] ?_
   refine XD.nil ?_
   refine xo 3 ?_
   refine XO.pu (Pu.neqFNil0 rfl Tryz.underlying138) ?_
   refine oo 7 ?_
   refine ld ?_
   refine ox 8 ?_
   refine X.sb [60, 59, 4, 3, 0] ?_
   refine X.kf 60 ?_
   refine xx 6 ?_
   refine X.kf 60 ?_
   refine xx 6 ?_
   refine X.kf 60 ?_
   refine xx 5 ?_
   refine X.kf 60 ?_
   refine xx 6 ?_
   refine X.kf 69 ?_
   refine xx 6 ?_
   refine X.kf 74 ?_
   refine xx 6 ?_
   refine X.sb [81, 59, 4, 3, 0] ?_
   refine X.kf 81 ?_
   refine xx 7 ?_
   refine X.kf 89 ?_
   refine xx 6 ?_
   refine X.kf 89 ?_
   refine xx 6 ?_
   refine X.kt 89 ?_
   refine xo 5 ?_
   refine ldA ?_
   refine oo 1 ?_
   refine stA ?_
   refine ox 1 ?_
   have hD : doS m x pc loc l cells = (((pc + 1), loc, l), dSync x 0) := by unfold doS; rw [if_neg (by omega), if_neg (by omega), if_neg (by omega), if_neg (by omega), if_neg (by omega), if_neg (by omega), if_pos (by omega)]
   exact X.ret ⟨rfl, Lv.quiet Tryz.call63 Tryz.func41 (do1_quiet (n2 := n2)) (Lv.ret (q' := pto p (.cells [.slice a (l).length c, .pointer (some ⟨pm, 0, none⟩), x2, .int .i64 ((pc + 1)), .slice la (loc).length lc, x5, .slice cda cells.length cc].toArray 106 (0, 0)) :: lsH I64 2 a c (l) :: lsH I64 2 la lc (loc) :: q) Tryz.func41 (resC1 Tryz.results41 (ResOk.cell rfl (LV.agg Tryz.isAgg74 Tryz.sizeOf74 hasA rfl) ResOk.nil)) ⟨_, rfl, .inr ⟨by rw [hD]; exact (by decide : (5 : Int) ≠ 7), by rw [hD]; rfl, a, c, by rw [hD]⟩⟩ leA)⟩
 · skip
   have hmk := ((maker_at (G := G) hxc).resolve_left (fun h => absurd h.1 (by omega))).2
   refine oo 5 ?_
   refine ld ?_
   refine ox 2 ?_
   refine X.kf 11 ?_
   refine xo 8 ?_
   refine ld ?_
   refine oo 4 ?_
   refine st ?_
   refine ox 3 ?_
   refine X.draw [(4, .pointer (some ⟨n2, 0, none⟩))] Tryz.mixed (by kernel_rfl) (by kernel_rfl) rfl ?_
   refine dd [1] ?_
   refine ldD 2 ?_
   refine XD.cRL 0 Tryz.call64 (makers_ok) ?_
   refine XD.pu 3 rfl (Pu.indexA rfl rfl Tryz.underlying139 Tryz.sizeOf138 Tryz.isAgg138 (by omega) (by omega) hmk) ?_
   refine dd [4] ?_
   refine XD.nil ?_
   refine xo 3 ?_
   refine XO.pu (Pu.neqFNil0 rfl Tryz.underlying138) ?_
   refine oo 7 ?_
   refine ld ?_
   refine ox 8 ?_
   refine X.sb [60, 59, 4, 3, 0] ?_
   refine X.kf 60 ?_
   refine xx 6 ?_
   refine X.kf 60 ?_
   refine xx 6 ?_
   refine X.kf 60 ?_
   refine xx 5 ?_
   refine X.kf 60 ?_
   refine xx 6 ?_
   refine X.kf 69 ?_
   refine xx 6 ?_
   refine X.kf 74 ?_
   refine xx 6 ?_
   refine X.sb [81, 59, 4, 3, 0] ?_
   refine X.kf 81 ?_
   refine xx 7 ?_
   refine X.kf 89 ?_
   refine xx 6 ?_
   refine X.kf 89 ?_
   refine xx 6 ?_
   refine X.kf 89 ?_
   refine xx 6 ?_
   refine X.kt 89 ?_
   refine xo 5 ?_
   refine ldA ?_
   refine oo 1 ?_
   refine stA ?_
   refine ox 1 ?_
   have hD : doS m x pc loc l cells = (((pc + 1), loc, l), dSync x 0) := by unfold doS; rw [if_neg (by omega), if_neg (by omega), if_neg (by omega), if_neg (by omega), if_neg (by omega), if_neg (by omega), if_pos (by omega)]
   exact X.ret ⟨rfl, Lv.quiet Tryz.call63 Tryz.func41 (do1_quiet (n2 := n2)) (Lv.ret (q' := pto p (.cells [.slice a (l).length c, .pointer (some ⟨pm, 0, none⟩), x2, .int .i64 ((pc + 1)), .slice la (loc).length lc, x5, .slice cda cells.length cc].toArray 106 (0, 0)) :: lsH I64 2 a c (l) :: lsH I64 2 la lc (loc) :: q) Tryz.func41 (resC1 Tryz.results41 (ResOk.cell rfl (LV.agg Tryz.isAgg74 Tryz.sizeOf74 hasA rfl) ResOk.nil)) ⟨_, rfl, .inr ⟨by rw [hD]; exact (by decide : (5 : Int) ≠ 7), by rw [hD]; rfl, a, c, by rw [hD]⟩⟩ leA)⟩
 · skip
   have hmk := ((maker_at (G := G) hxc).resolve_left (fun h => absurd h.1 (by omega))).2
   refine oo 5 ?_
   refine ld ?_
   refine ox 2 ?_
   refine X.kf 11 ?_
   refine xo 8 ?_
   refine ld ?_
   refine oo 4 ?_
   refine st ?_
   refine ox 3 ?_
   refine X.draw [(4, .pointer (some ⟨n2, 0, none⟩))] Tryz.mixed (by kernel_rfl) (by kernel_rfl) rfl ?_
   refine dd [1] ?_
   refine ldD 2 ?_
   refine XD.cRL 0 Tryz.call64 (makers_ok) ?_
   refine XD.pu 3 rfl (Pu.indexA rfl rfl Tryz.underlying139 Tryz.sizeOf138 Tryz.isAgg138 (by omega) (by omega) hmk) ?_
   refine dd [4] ?_
   refine XD.nil ?_
   refine xo 3 ?_
   refine XO.pu (Pu.neqFNil0 rfl Tryz.underlying138) ?_
   refine oo 7 ?_
   refine ld ?_
   refine ox 8 ?_
   refine X.sb [60, 59, 4, 3, 0] ?_
   refine X.kf 60 ?_
   refine xx 6 ?_
   refine X.kf 60 ?_
   refine xx 6 ?_
   refine X.kf 60 ?_
   refine xx 5 ?_
   refine X.kf 60 ?_
   refine xx 6 ?_
   refine X.kf 69 ?_
   refine xx 6 ?_
   refine X.kf 74 ?_
   refine xx 6 ?_
   refine X.sb [81, 59, 4, 3, 0] ?_
   refine X.kf 81 ?_
   refine xx 7 ?_
   refine X.kf 89 ?_
   refine xx 6 ?_
   refine X.kf 89 ?_
   refine xx 6 ?_
   refine X.kf 89 ?_
   refine xx 6 ?_
   refine X.kf 89 ?_
   refine xx 6 ?_
   refine X.kt 89 ?_
   refine xo 5 ?_
   refine ldA ?_
   refine oo 1 ?_
   refine stA ?_
   refine ox 1 ?_
   refine X.sb [4, 3, 0] ?_
   have hD : doS m x pc loc l cells = (((pc + 1), loc, l), dSync x 0) := by unfold doS; rw [if_neg (by omega), if_neg (by omega), if_neg (by omega), if_neg (by omega), if_neg (by omega), if_neg (by omega), if_pos (by omega)]
   exact X.ret ⟨rfl, Lv.quiet Tryz.call63 Tryz.func41 (do1_quiet (n2 := n2)) (Lv.ret (q' := pto p (.cells [.slice a (l).length c, .pointer (some ⟨pm, 0, none⟩), x2, .int .i64 ((pc + 1)), .slice la (loc).length lc, x5, .slice cda cells.length cc].toArray 106 (0, 0)) :: lsH I64 2 a c (l) :: lsH I64 2 la lc (loc) :: q) Tryz.func41 (resC1 Tryz.results41 (ResOk.cell rfl (LV.agg Tryz.isAgg74 Tryz.sizeOf74 hasA rfl) ResOk.nil)) ⟨_, rfl, .inr ⟨by rw [hD]; exact (by decide : (5 : Int) ≠ 7), by rw [hD]; rfl, a, c, by rw [hD]⟩⟩ leA)⟩
 · skip
   have hmk := ((maker_at (G := G) hxc).resolve_left (fun h => absurd h.1 (by omega))).2
   refine oo 5 ?_
   refine ld ?_
   refine ox 2 ?_
   refine X.kf 11 ?_
   refine xo 8 ?_
   refine ld ?_
   refine oo 4 ?_
   refine st ?_
   refine ox 3 ?_
   refine X.draw [(4, .pointer (some ⟨n2, 0, none⟩))] Tryz.mixed (by kernel_rfl) (by kernel_rfl) rfl ?_
   refine dd [1] ?_
   refine ldD 2 ?_
   refine XD.cRL 0 Tryz.call64 (makers_ok) ?_
   refine XD.pu 3 rfl (Pu.indexA rfl rfl Tryz.underlying139 Tryz.sizeOf138 Tryz.isAgg138 (by omega) (by omega) hmk) ?_
   refine dd [4] ?_
   refine XD.nil ?_
   refine xo 3 ?_
   refine XO.pu (Pu.neqFNil0 rfl Tryz.underlying138) ?_
   refine oo 7 ?_
   refine ld ?_
   refine ox 8 ?_
   refine X.sb [60, 59, 4, 3, 0] ?_
   refine X.kf 60 ?_
   refine xx 6 ?_
   refine X.kf 60 ?_
   refine xx 6 ?_
   refine X.kf 60 ?_
   refine xx 5 ?_
   refine X.kf 60 ?_
   refine xx 6 ?_
   refine X.kf 69 ?_
   refine xx 6 ?_
   refine X.kf 74 ?_
   refine xx 6 ?_
   refine X.sb [81, 59, 4, 3, 0] ?_
   refine X.kf 81 ?_
   refine xx 7 ?_
   refine X.kf 89 ?_
   refine xx 6 ?_
   refine X.kf 89 ?_
   refine xx 6 ?_
   refine X.kf 89 ?_
   refine xx 6 ?_
   refine X.kf 89 ?_
   refine xx 6 ?_
   refine X.kf 89 ?_
   refine xx 6 ?_
   refine X.sb [89, 59, 4, 3, 0] ?_
   refine X.kt 89 ?_
   refine xo 5 ?_
   refine ldA ?_
   refine oo 1 ?_
   refine stA ?_
   refine ox 1 ?_
   have hD : doS m x pc loc l cells = (((pc + 1), loc, l), dSync x 0) := by unfold doS; rw [if_neg (by omega), if_neg (by omega), if_neg (by omega), if_neg (by omega), if_neg (by omega), if_neg (by omega), if_pos (by omega)]
   exact X.ret ⟨rfl, Lv.quiet Tryz.call63 Tryz.func41 (do1_quiet (n2 := n2)) (Lv.ret (q' := pto p (.cells [.slice a (l).length c, .pointer (some ⟨pm, 0, none⟩), x2, .int .i64 ((pc + 1)), .slice la (loc).length lc, x5, .slice cda cells.length cc].toArray 106 (0, 0)) :: lsH I64 2 a c (l) :: lsH I64 2 la lc (loc) :: q) Tryz.func41 (resC1 Tryz.results41 (ResOk.cell rfl (LV.agg Tryz.isAgg74 Tryz.sizeOf74 hasA rfl) ResOk.nil)) ⟨_, rfl, .inr ⟨by rw [hD]; exact (by decide : (5 : Int) ≠ 7), by rw [hD]; rfl, a, c, by rw [hD]⟩⟩ leA)⟩
 · skip
   have hmk := ((maker_at (G := G) hxc).resolve_left (fun h => absurd h.1 (by omega))).2
   refine oo 5 ?_
   refine ld ?_
   refine ox 2 ?_
   refine X.kf 11 ?_
   refine xo 8 ?_
   refine ld ?_
   refine oo 4 ?_
   refine st ?_
   refine ox 3 ?_
   refine X.draw [(4, .pointer (some ⟨n2, 0, none⟩))] Tryz.mixed (by kernel_rfl) (by kernel_rfl) rfl ?_
   refine dd [1] ?_
   refine ldD 2 ?_
   refine XD.cRL 0 Tryz.call64 (makers_ok) ?_
   refine XD.pu 3 rfl (Pu.indexA rfl rfl Tryz.underlying139 Tryz.sizeOf138 Tryz.isAgg138 (by omega) (by omega) hmk) ?_
   refine dd [4] ?_
   refine XD.nil ?_
   refine xo 3 ?_
   refine XO.pu (Pu.neqFNil0 rfl Tryz.underlying138) ?_
   refine oo 7 ?_
   refine ld ?_
   refine ox 8 ?_
   refine X.sb [60, 59, 4, 3, 0] ?_
   refine X.kf 60 ?_
   refine xx 6 ?_
   refine X.kf 60 ?_
   refine xx 6 ?_
   refine X.kf 60 ?_
   refine xx 5 ?_
   refine X.kf 60 ?_
   refine xx 6 ?_
   refine X.kf 69 ?_
   refine xx 6 ?_
   refine X.kf 74 ?_
   refine xx 6 ?_
   refine X.sb [81, 59, 4, 3, 0] ?_
   refine X.kf 81 ?_
   refine xx 7 ?_
   refine X.kf 89 ?_
   refine xx 6 ?_
   refine X.kf 89 ?_
   refine xx 6 ?_
   refine X.kf 89 ?_
   refine xx 6 ?_
   refine X.kf 89 ?_
   refine xx 6 ?_
   refine X.kf 89 ?_
   refine xx 6 ?_
   refine X.sb [89, 59, 4, 3, 0] ?_
   refine X.kf 89 ?_
   refine xx 6 ?_
   refine X.kt 89 ?_
   refine xo 5 ?_
   refine ldA ?_
   refine oo 1 ?_
   refine stA ?_
   refine ox 1 ?_
   have hD : doS m x pc loc l cells = (((pc + 1), loc, l), dSync x 0) := by unfold doS; rw [if_neg (by omega), if_neg (by omega), if_neg (by omega), if_neg (by omega), if_neg (by omega), if_neg (by omega), if_pos (by omega)]
   exact X.ret ⟨rfl, Lv.quiet Tryz.call63 Tryz.func41 (do1_quiet (n2 := n2)) (Lv.ret (q' := pto p (.cells [.slice a (l).length c, .pointer (some ⟨pm, 0, none⟩), x2, .int .i64 ((pc + 1)), .slice la (loc).length lc, x5, .slice cda cells.length cc].toArray 106 (0, 0)) :: lsH I64 2 a c (l) :: lsH I64 2 la lc (loc) :: q) Tryz.func41 (resC1 Tryz.results41 (ResOk.cell rfl (LV.agg Tryz.isAgg74 Tryz.sizeOf74 hasA rfl) ResOk.nil)) ⟨_, rfl, .inr ⟨by rw [hD]; exact (by decide : (5 : Int) ≠ 7), by rw [hD]; rfl, a, c, by rw [hD]⟩⟩ leA)⟩
 · skip
   have hmk := ((maker_at (G := G) hxc).resolve_left (fun h => absurd h.1 (by omega))).2
   refine oo 5 ?_
   refine ld ?_
   refine ox 2 ?_
   refine X.kf 11 ?_
   refine xo 8 ?_
   refine ld ?_
   refine oo 4 ?_
   refine st ?_
   refine ox 3 ?_
   refine X.draw [(4, .pointer (some ⟨n2, 0, none⟩))] Tryz.mixed (by kernel_rfl) (by kernel_rfl) rfl ?_
   refine dd [1] ?_
   refine ldD 2 ?_
   refine XD.cRL 0 Tryz.call64 (makers_ok) ?_
   refine XD.pu 3 rfl (Pu.indexA rfl rfl Tryz.underlying139 Tryz.sizeOf138 Tryz.isAgg138 (by omega) (by omega) hmk) ?_
   refine dd [4] ?_
   refine XD.nil ?_
   refine xo 3 ?_
   refine XO.pu (Pu.neqFNil0 rfl Tryz.underlying138) ?_
   refine oo 7 ?_
   refine ld ?_
   refine ox 8 ?_
   refine X.sb [60, 59, 4, 3, 0] ?_
   refine X.kf 60 ?_
   refine xx 6 ?_
   refine X.kf 60 ?_
   refine xx 6 ?_
   refine X.kf 60 ?_
   refine xx 5 ?_
   refine X.kf 60 ?_
   refine xx 6 ?_
   refine X.kf 69 ?_
   refine xx 6 ?_
   refine X.kf 74 ?_
   refine xx 6 ?_
   refine X.sb [81, 59, 4, 3, 0] ?_
   refine X.kf 81 ?_
   refine xx 7 ?_
   refine X.kf 89 ?_
   refine xx 6 ?_
   refine X.kf 89 ?_
   refine xx 6 ?_
   refine X.kf 89 ?_
   refine xx 6 ?_
   refine X.kf 89 ?_
   refine xx 6 ?_
   refine X.kf 89 ?_
   refine xx 6 ?_
   refine X.sb [89, 59, 4, 3, 0] ?_
   refine X.kf 89 ?_
   refine xx 6 ?_
   refine X.kf 89 ?_
   refine xx 5 ?_
   refine X.kt 89 ?_
   refine xo 3 ?_
   refine ldA ?_
   refine oo 1 ?_
   refine stA ?_
   refine ox 1 ?_
   have hD : doS m x pc loc l cells = (((pc + 1), loc, l), dSync x 0) := by unfold doS; rw [if_neg (by omega), if_neg (by omega), if_neg (by omega), if_neg (by omega), if_neg (by omega), if_neg (by omega), if_pos (by omega)]
   exact X.ret ⟨rfl, Lv.quiet Tryz.call63 Tryz.func41 (do1_quiet (n2 := n2)) (Lv.ret (q' := pto p (.cells [.slice a (l).length c, .pointer (some ⟨pm, 0, none⟩), x2, .int .i64 ((pc + 1)), .slice la (loc).length lc, x5, .slice cda cells.length cc].toArray 106 (0, 0)) :: lsH I64 2 a c (l) :: lsH I64 2 la lc (loc) :: q) Tryz.func41 (resC1 Tryz.results41 (ResOk.cell rfl (LV.agg Tryz.isAgg74 Tryz.sizeOf74 hasA rfl) ResOk.nil)) ⟨_, rfl, .inr ⟨by rw [hD]; exact (by decide : (5 : Int) ≠ 7), by rw [hD]; rfl, a, c, by rw [hD]⟩⟩ leA)⟩
 · skip
   have hmk := ((maker_at (G := G) hxc).resolve_left (fun h => absurd h.1 (by omega))).2
   have hcls := hx
   refine oo 5 ?_
   refine ld ?_
   refine ox 2 ?_
   refine X.kf 11 ?_
   refine xo 8 ?_
   refine ld ?_
   refine oo 4 ?_
   refine st ?_
   refine ox 3 ?_
   refine X.draw [(4, .pointer (some ⟨n2, 0, none⟩))] Tryz.mixed (by kernel_rfl) (by kernel_rfl) rfl ?_
   refine dd [1] ?_
   refine ldD 2 ?_
   refine XD.cRL 0 Tryz.call64 (makers_ok) ?_
   refine XD.pu 3 rfl (Pu.indexA rfl rfl Tryz.underlying139 Tryz.sizeOf138 Tryz.isAgg138 (by omega) (by omega) hmk) ?_
   refine dd [4] ?_
   refine XD.nil ?_
   refine xo 3 ?_
   refine XO.pu (Pu.neqFNil0 rfl Tryz.underlying138) ?_
   refine oo 7 ?_
   refine ld ?_
   refine ox 8 ?_
   refine X.sb [60, 59, 4, 3, 0] ?_
   refine X.kf 60 ?_
   refine xx 6 ?_
   refine X.kf 60 ?_
   refine xx 6 ?_
   refine X.kf 60 ?_
   refine xx 5 ?_
   refine X.kf 60 ?_
   refine xx 6 ?_
   refine X.kf 69 ?_
   refine xx 6 ?_
   refine X.kf 74 ?_
   refine xx 6 ?_
   refine X.sb [81, 59, 4, 3, 0] ?_
   refine X.kf 81 ?_
   refine xx 7 ?_
   refine X.kf 89 ?_
   refine xx 6 ?_
   refine X.kf 89 ?_
   refine xx 6 ?_
   refine X.kf 89 ?_
   refine xx 6 ?_
   refine X.kf 89 ?_
   refine xx 6 ?_
   refine X.kf 89 ?_
   refine xx 6 ?_
   refine X.sb [89, 59, 4, 3, 0] ?_
   refine X.kf 89 ?_
   refine xx 6 ?_
   refine X.kf 89 ?_
   refine xx 5 ?_
   refine X.kf 89 ?_
   refine xo 6 ?_
   refine ldA ?_
   refine XO.cX Tryz.call68 (Le.pick fndA (Le.pick fndA fndA)) (plain_ok (m := m) (x := x) (loc := loc) (l := l) (cells := cells) hS hcls) ?_
   rintro _ _ ⟨a2, c2, rfl⟩
   refine oo 4 ?_
   refine stA ?_
   refine ox 1 ?_
   have hD : doS m x pc loc l cells = (((plainS x (pc + 1) loc l).1, (plainS x (pc + 1) loc l).2.1, (plainS x (pc + 1) loc l).2.2), dPlain) := by unfold doS; rw [if_neg (by omega), if_neg (by omega), if_neg (by omega), if_neg (by omega), if_neg (by omega), if_neg (by omega), if_neg (by omega)]
   exact X.ret ⟨rfl, Lv.quiet Tryz.call63 Tryz.func41 (do1_quiet (n2 := n2)) (Lv.ret (q' := pto p (.cells [.slice a2 ((plainS x (pc + 1) loc l).2.2).length c2, .pointer (some ⟨pm, 0, none⟩), x2, .int .i64 ((plainS x (pc + 1) loc l).1), .slice la ((plainS x (pc + 1) loc l).2.1).length lc, x5, .slice cda cells.length cc].toArray 106 (0, 0)) :: lsH I64 2 a2 c2 ((plainS x (pc + 1) loc l).2.2) :: lsH I64 2 la lc ((plainS x (pc + 1) loc l).2.1) :: q) Tryz.func41 (resC1 Tryz.results41 (ResOk.cell rfl (LV.agg Tryz.isAgg74 Tryz.sizeOf74 hasA rfl) ResOk.nil)) ⟨_, rfl, .inr ⟨by rw [hD]; exact (by decide : (1 : Int) ≠ 7), by rw [hD]; rfl, a2, c2, by rw [hD]⟩⟩ leA)⟩
end
end Go.Proofs.YtcklgodcjnnllaaGreatDoor

