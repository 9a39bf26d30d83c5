/- What functions of package vm, of its references and of its laws do: contracts of calls, proved by walking their code. -/
import Derived.Test.YtcklgodcjnnllaaGreatDoorRb
import Derived.Test.YtcklgodcjnnllaaGreatDoorZ
import Derived.KernelRfl
set_option maxRecDepth 100000
set_option linter.unusedVariables false
set_option linter.unusedSimpArgs false
namespace Go.Proofs.YtcklgodcjnnllaaGreatDoor
open Go Go.RowKit Wx
attribute [local irreducible] Wx.lsH Wx.rsH Wx.lsM Wx.rsM Wx.stars

theorem Sees.takeL {α : Type} {g : α → Value} {q : List HP} {a : Option Addr} {l : List α} (h : Sees q a (l.map g)) (n : Nat) : Sees q a ((l.take n).map g) := fun G w s i u hu => h G w s i u (by
  rw [List.map_take, List.getElem?_take] at hu
  split at hu
  · exact hu
  · cases hu)
/-- The frame's lists are those that came in, or are told by W. -/
structure FrmW (W : HP) (f : Frm) (la sa : Option Addr) (loc stk : List Int) : Prop where
  l : (la = f.la ∧ loc = f.loc) ∨ Sees [W] la (loc.map I64)
  s : (sa = f.sa ∧ stk = f.stk) ∨ Sees [W] sa (stk.map I64)
theorem Le.cons_nil (W : HP) (q : List HP) : Le (W :: q) [W] := by
  exact fun M h p => (leA : Le (W :: q) [W]) M h p
theorem FrmW.locS {W : HP} {f : Frm} {la sa : Option Addr} {loc stk : List Int} {q : List HP} (h : FrmW W f la sa loc stk) (hq : Sees q f.la (f.loc.map I64)) : Sees (W :: q) la (loc.map I64) := by
  rcases h.l with ⟨rfl, rfl⟩ | h
  · exact hq.there
  · exact h.le (Le.cons_nil W q)
theorem FrmW.stkS {W : HP} {f : Frm} {la sa : Option Addr} {loc stk : List Int} {q : List HP} (h : FrmW W f la sa loc stk) (hq : Sees q f.sa (f.stk.map I64)) : Sees (W :: q) sa (stk.map I64) := by
  rcases h.s with ⟨rfl, rfl⟩ | h
  · exact hq.there
  · exact h.le (Le.cons_nil W q)
section
variable {G : World} {q pre : List HP} {a b A : Option Addr} {c d C p p0 p1 p2 i : Nat} {lo hi n cd dep : Int} {fv : Value} {x y : Ins} {t : Cod} {m : Mdl} {at_ : Int}
variable {l cells loc : List Int} {idx arr z k u pc code : Int} {x1 x2 x3 x4 x5 x6 old : Value} {pm cc lc n1 n2 : Nat} {la cda : Option Addr}
variable {f : Frm} {last : Int} {kk : Nat}
set_option maxHeartbeats 4000000 in
theorem RTwo_ok (ho : 10 ≤ code ∧ code ≤ 18) (hu : val u) (hz : val z) : CallF Tryz.prog G 48 [.int .i64 code, .int .i64 u, .int .i64 z] (q) (Ret fun v q' => v = .tuple [.int .i64 (twoS (code - 7) u z).1, .int .i64 (twoS (code - 7) u z).2].toArray ∧ q' = q) := by
  refine CallF.of Tryz.func48 Tryz.ntmps48 rfl (fun F cs => ?_)
  refine xo 13 ?_
  refine XO.ef (Ef.buildSlice (ps := [(0, .tmp 13), (1, .tmp 15)]) (len := 2) (us := [.agg (exN u).toArray, .agg (exN z).toArray]) (cells := [u, z].flatMap exN) Tryz.underlying147 Tryz.info149 rfl rfl rfl (by kernel_rfl) rfl) ?_
  rintro _ _ ⟨g1, rfl, rfl⟩
  refine oo 1 ?_
  refine XO.ef (Ef.alloc Tryz.zeroValue149) ?_
  rintro _ _ ⟨n1, rfl, rfl⟩
  refine XO.ef0 (Ef.stA Tryz.sizeOf149) ?_
  rintro _ _ ⟨rfl, rfl⟩
  refine oo 4 ?_
  refine XO.ldA Tryz.isAgg149 Tryz.sizeOf149 ?_
  refine XO.cX Tryz.call69 (Le.refl _) (exB_ok (op := code - 7) (u := u) (z := z) (g := g1) ((Sees.slH _).le fndA) (by omega) hu hz) ?_
  rintro _ _ ⟨a3, c3, rfl, rfl⟩
  refine XO.ef (Ef.alloc Tryz.zeroValue152) ?_
  rintro _ _ ⟨n2, rfl, rfl⟩
  refine XO.ef0 (Ef.stA Tryz.sizeOf152) ?_
  rintro _ _ ⟨rfl, rfl⟩
  refine ox 2 ?_
  refine X.draw [] Tryz.mixed (by kernel_rfl) (by kernel_rfl) rfl ?_
  refine dd [0] ?_
  refine XD.ld 1 Tryz.isAgg2 ?_
  refine dd [2] ?_
  refine XD.ld 3 Tryz.isAgg3 ?_
  refine dd [4, 5] ?_
  refine XD.nil ?_
  refine X.retL (q) Tryz.func48 (res2 Tryz.results48 rfl rfl) ⟨_, rfl, rfl, rfl⟩
theorem take_ok (hf : FrmQ q f) (hk : kk ≤ f.stk.length) (hcap : f.stk.length ≤ f.sc) (hL : f.stk.length ≤ 1000000) : CallF Tryz.prog G 46 [.agg (frmC f).toArray, .int .i64 (kk : Int)] (q) (Ret fun v q' => ∃ a' c', v = .slice a' (f.stk.take (f.stk.length - kk)).length c' ∧ q' = lsH I64 2 a' c' (f.stk.take (f.stk.length - kk)) :: q) := by
  refine CallF.of Tryz.func46 Tryz.ntmps46 rfl (fun F cs => ?_)
  refine xo 2 ?_
  refine XO.ef (Ef.box rfl) ?_
  rintro _ _ ⟨n1, rfl, rfl⟩
  refine oo 5 ?_
  refine XO.ld Tryz.isAgg22 ?_
  refine oo 1 ?_
  refine XO.ld Tryz.isAgg22 ?_
  refine oo 4 ?_
  refine XO.know 12 (.slice f.sa (f.stk.take (f.stk.length - kk)).length f.sc) rfl (by rw [List.length_take]; congr 1; omega) ?_
  refine XO.le (q' := lsH I64 2 none 0 [] :: _) (Le.lsH_nil _ _ _) ?_
  refine XO.ef (Ef.appA (f := I64) (l := []) (m := f.stk.take (f.stk.length - kk)) Tryz.underlying22 Tryz.info2 rfl rfl rfl fndA ((Sees.takeL hf.s _).le leA) (fun _ => rfl) (by simp; omega) (by simp; omega)) ?_
  rintro _ _ ⟨a2, c2, rfl, rfl⟩
  refine ox 2 ?_
  refine X.retL (lsH I64 2 a2 c2 (f.stk.take (f.stk.length - kk)) :: q) Tryz.func46 (res1 Tryz.results46 rfl) ⟨_, rfl, a2, c2, rfl, rfl⟩
theorem put_ok (hf : FrmQ q f) (hk : kk ≤ f.stk.length) (hcap : f.stk.length ≤ f.sc) (hL : f.stk.length ≤ 1000000) : CallF Tryz.prog G 43 [.agg (frmC f).toArray, .int .i64 (kk : Int), .int .i64 z] (q) (Ret fun v q' => ∃ a' c', v = .slice a' (f.stk.take (f.stk.length - kk) ++ [z]).length c' ∧ q' = lsH I64 2 a' c' (f.stk.take (f.stk.length - kk) ++ [z]) :: q) := by
  refine CallF.of Tryz.func43 Tryz.ntmps43 rfl (fun F cs => ?_)
  refine xo 2 ?_
  refine XO.ef (Ef.box rfl) ?_
  rintro _ _ ⟨n1, rfl, rfl⟩
  refine oo 4 ?_
  refine XO.ldA Tryz.isAgg28 Tryz.sizeOf28 ?_
  refine oo 1 ?_
  refine XO.cX Tryz.call46 (Le.refl _) (take_ok (kk := kk) (hf.le leA) hk hcap hL) ?_
  rintro _ _ ⟨a1, c1, rfl, rfl⟩
  refine oo 1 ?_
  refine XO.ef (Ef.litL I64 [z] Tryz.underlying22 Tryz.info2 rfl rfl rfl rfl rfl rfl (fun _ => rfl)) ?_
  rintro _ _ ⟨g1, rfl, rfl⟩
  refine XO.ef (Ef.appA (f := I64) (l := f.stk.take (f.stk.length - kk)) (m := [z]) Tryz.underlying22 Tryz.info2 rfl rfl rfl fndA ((Sees.lsH _).le fndA) (fun _ => rfl) (by simp; omega) (by simp; omega)) ?_
  rintro _ _ ⟨a2, c2, rfl, rfl⟩
  refine ox 2 ?_
  refine X.retL (lsH I64 2 a2 c2 (f.stk.take (f.stk.length - kk) ++ [z]) :: q) Tryz.func43 (res1 Tryz.results43 rfl) ⟨_, rfl, a2, c2, rfl, rfl⟩
theorem RTrap_ok  : CallF Tryz.prog G 45 [.agg (frmC f).toArray, .int .i64 k] (q) (Ret fun v q' => v = .tuple [.agg (frmC f).toArray, .agg (didC (dTrap k)).toArray].toArray ∧ q' = q) := by
  refine CallF.of Tryz.func45 Tryz.ntmps45 rfl (fun F cs => ?_)
  refine xo 2 ?_
  refine XO.ef (Ef.box rfl) ?_
  rintro _ _ ⟨n1, rfl, rfl⟩
  refine XO.ef (Ef.alloc Tryz.zeroValue28) ?_
  rintro _ _ ⟨n2, rfl, rfl⟩
  refine XO.ef (Ef.alloc Tryz.zeroValue74) ?_
  rintro _ _ ⟨n3, rfl, rfl⟩
  refine oo 3 ?_
  refine XO.ldA Tryz.isAgg28 Tryz.sizeOf28 ?_
  refine oo 2 ?_
  refine XO.ef0 (Ef.stA Tryz.sizeOf28) ?_
  rintro _ _ ⟨rfl, rfl⟩
  refine XO.ef0 (Ef.stA Tryz.sizeOf74) ?_
  rintro _ _ ⟨rfl, rfl⟩
  refine ox 1 ?_
  refine X.retL (q) Tryz.func45 (resC Tryz.results45 (ResOk.cell rfl (LV.agg Tryz.isAgg28 Tryz.sizeOf28 hasA rfl) (ResOk.cell rfl (LV.agg Tryz.isAgg74 Tryz.sizeOf74 hasA rfl) ResOk.nil))) ⟨_, rfl, rfl, rfl⟩
set_option maxHeartbeats 16000000 in
theorem flow_ok (hf : FrmQ q f) (hS : StepQ m x f.loc f.stk cells) (hcap : f.stk.length ≤ f.sc) (hx : 19 ≤ x.c ∧ x.c ≤ 34) : CallF Tryz.prog G 49 [.agg (mdlC m).toArray, .agg (frmC f).toArray, .agg (frmC ⟨f.code, f.pc + 1, f.loc, f.stk, f.la, f.lc, f.sa, f.sc⟩).toArray, .agg (insC x).toArray, .int .i64 (lastS f.stk)] (q) (Ret fun v q' => ∃ la lc sa sc W, v = .tuple [.agg (frmC ⟨f.code, (doS m x f.pc f.loc f.stk cells).1.1, (doS m x f.pc f.loc f.stk cells).1.2.1, (doS m x f.pc f.loc f.stk cells).1.2.2, la, lc, sa, sc⟩).toArray, .agg (didC (doS m x f.pc f.loc f.stk cells).2).toArray].toArray ∧ FrmW W f la sa (doS m x f.pc f.loc f.stk cells).1.2.1 (doS m x f.pc f.loc f.stk cells).1.2.2 ∧ q' = W :: q) := by
  refine CallF.of Tryz.func49 Tryz.ntmps49 rfl (fun F cs => ?_)
  have hdep := hS.dep; have hlen := hS.len
  have hcase : x.c = 19 ∨ x.c = 20 ∨ x.c = 21 ∨ x.c = 22 ∨ x.c = 23 ∨ x.c = 33 ∨ x.c = 34 ∨ x.c = 29 ∨ x.c = 24 ∨ x.c = 25 ∨ x.c = 26 ∨ x.c = 27 ∨ x.c = 28 ∨ x.c = 30 ∨ x.c = 31 ∨ x.c = 32 := by omega
  rcases hcase with hc | hc | hc | hc | hc | hc | hc | hc | hc | hc | hc | hc | hc | hc | hc | hc
  · skip
    refine xo 2 ?_
    refine XO.ef (Ef.box rfl) ?_
    rintro _ _ ⟨n1, rfl, rfl⟩
    refine XO.ef (Ef.box rfl) ?_
    rintro _ _ ⟨n2, rfl, rfl⟩
    refine XO.ef (Ef.box rfl) ?_
    rintro _ _ ⟨n3, rfl, rfl⟩
    refine XO.ef (Ef.box rfl) ?_
    rintro _ _ ⟨n4, rfl, rfl⟩
    refine XO.ef (Ef.alloc Tryz.zeroValue28) ?_
    rintro _ _ ⟨n5, rfl, rfl⟩
    refine XO.ef (Ef.alloc Tryz.zeroValue74) ?_
    rintro _ _ ⟨n6, rfl, rfl⟩
    refine ox 2 ?_
    refine X.draw [] Tryz.mixed (by kernel_rfl) (by kernel_rfl) rfl ?_
    refine dd [0] ?_
    refine XD.ld 1 Tryz.isAgg50 ?_
    refine dd [2] ?_
    refine XD.ld 3 Tryz.isAgg22 ?_
    refine dd [4, 5, 6] ?_
    refine XD.nil ?_
    refine xx 11 ?_
    refine X.know 20 (.bool true) rfl (congrArg Value.bool (by first | exact decide_eq_true (by omega) | exact decide_eq_false (by omega) | (rw [beq_iff_eq]; omega) | (rw [beq_eq_false_iff_ne]; omega) | (rw [bne_iff_ne]; omega) | (rw [bne_eq_false_iff_eq]; omega))) ?_
    refine xo 3 ?_
    refine XO.ld Tryz.isAgg3 ?_
    refine oo 1 ?_
    refine XO.ef0 (Ef.st Tryz.sizeOf3) ?_
    rintro _ _ ⟨rfl, rfl⟩
    refine oo 4 ?_
    refine XO.ldA Tryz.isAgg28 Tryz.sizeOf28 ?_
    refine oo 1 ?_
    refine XO.ef0 (Ef.stA Tryz.sizeOf28) ?_
    rintro _ _ ⟨rfl, rfl⟩
    refine XO.ef0 (Ef.stA Tryz.sizeOf74) ?_
    rintro _ _ ⟨rfl, rfl⟩
    refine ox 1 ?_
    refine X.sb [11, 10] ?_
    have hD : doS m x f.pc f.loc f.stk cells = ((x.a, f.loc, f.stk), dPlain) := by unfold doS; rw [if_neg (by omega), if_neg (by omega), if_neg (by omega), if_neg (by omega), if_neg (by omega), if_neg (by omega), if_neg (by omega)]; unfold plainS; rw [if_neg (by omega), if_neg (by omega), if_neg (by omega), if_pos hc]
    refine X.retL (stars [] :: q) Tryz.func49 (resC Tryz.results49 (ResOk.cell rfl (LV.agg Tryz.isAgg28 Tryz.sizeOf28 hasA rfl) (ResOk.cell rfl (LV.agg Tryz.isAgg74 Tryz.sizeOf74 hasA rfl) ResOk.nil))) ⟨_, rfl, f.la, f.lc, f.sa, f.sc, _, by rw [hD]; rfl, by rw [hD]; exact ⟨.inl ⟨rfl, rfl⟩, .inl ⟨rfl, rfl⟩⟩, rfl⟩ (Le.trans leA (Le.stars_nil _))
  · skip
    have hdx : (1 : Int) ≤ f.stk.length := by have h := hdep; rw [hc] at h; exact h
    refine xo 2 ?_
    refine XO.ef (Ef.box rfl) ?_
    rintro _ _ ⟨n7, rfl, rfl⟩
    refine XO.ef (Ef.box rfl) ?_
    rintro _ _ ⟨n8, rfl, rfl⟩
    refine XO.ef (Ef.box rfl) ?_
    rintro _ _ ⟨n9, rfl, rfl⟩
    refine XO.ef (Ef.box rfl) ?_
    rintro _ _ ⟨n10, rfl, rfl⟩
    refine XO.ef (Ef.alloc Tryz.zeroValue28) ?_
    rintro _ _ ⟨n11, rfl, rfl⟩
    refine XO.ef (Ef.alloc Tryz.zeroValue74) ?_
    rintro _ _ ⟨n12, rfl, rfl⟩
    refine ox 2 ?_
    refine X.draw [] Tryz.mixed (by kernel_rfl) (by kernel_rfl) rfl ?_
    refine dd [0] ?_
    refine XD.ld 1 Tryz.isAgg50 ?_
    refine dd [2] ?_
    refine XD.ld 3 Tryz.isAgg22 ?_
    refine dd [4, 5, 6] ?_
    refine XD.nil ?_
    refine xx 11 ?_
    refine X.know 20 (.bool false) rfl (congrArg Value.bool (by first | exact decide_eq_true (by omega) | exact decide_eq_false (by omega) | (rw [beq_iff_eq]; omega) | (rw [beq_eq_false_iff_ne]; omega) | (rw [bne_iff_ne]; omega) | (rw [bne_eq_false_iff_eq]; omega))) ?_
    refine xx 7 ?_
    refine X.sb [25, 19, 13, 12, 11, 10, 8, 7, 6, 4] ?_
    refine X.know 25 (.bool true) rfl (congrArg Value.bool (by first | exact decide_eq_true (by omega) | exact decide_eq_false (by omega) | (rw [beq_iff_eq]; omega) | (rw [beq_eq_false_iff_ne]; omega) | (rw [bne_iff_ne]; omega) | (rw [bne_eq_false_iff_eq]; omega))) ?_
    refine xo 6 ?_
    refine XO.ld Tryz.isAgg22 ?_
    refine oo 3 ?_
    refine XO.know 32 (.slice f.sa (f.stk.take (f.stk.length - 1)).length f.sc) rfl (by rw [List.length_take]; congr 1; omega) ?_
    refine XO.le (q' := lsH I64 2 none 0 [] :: _) (Le.lsH_nil _ _ _) ?_
    refine XO.ef (Ef.appA (f := I64) (l := []) (m := f.stk.take (f.stk.length - 1)) Tryz.underlying22 Tryz.info2 rfl rfl rfl fndA ((Sees.takeL hf.s _).le leA) (fun _ => rfl) (by simp; omega) (by simp; omega)) ?_
    rintro _ _ ⟨a1, c1, rfl, rfl⟩
    rw [List.nil_append]
    refine oo 1 ?_
    refine XO.ef0 (Ef.st Tryz.sizeOf22) ?_
    rintro _ _ ⟨rfl, rfl⟩
    refine ox 9 ?_
    refine X.know 39 (.bool (decide (lastS f.stk = 0))) rfl (congrArg Value.bool (by rw [Bool.eq_iff_iff]; simp [hc])) ?_
    refine X.part 39 rfl (fun hl => ?_) (fun hl => ?_)
    · skip
      replace hl := sp hl
      refine xo 3 ?_
      refine XO.ld Tryz.isAgg3 ?_
      refine oo 1 ?_
      refine XO.ef0 (Ef.st Tryz.sizeOf3) ?_
      rintro _ _ ⟨rfl, rfl⟩
      refine oo 4 ?_
      refine XO.ldA Tryz.isAgg28 Tryz.sizeOf28 ?_
      refine oo 1 ?_
      refine XO.ef0 (Ef.stA Tryz.sizeOf28) ?_
      rintro _ _ ⟨rfl, rfl⟩
      refine XO.ef0 (Ef.stA Tryz.sizeOf74) ?_
      rintro _ _ ⟨rfl, rfl⟩
      refine ox 1 ?_
      refine X.sb [11, 10] ?_
      have hD : doS m x f.pc f.loc f.stk cells = ((x.a, f.loc, f.stk.take (f.stk.length - 1)), dPlain) := by unfold doS; rw [if_neg (by omega), if_neg (by omega), if_neg (by omega), if_neg (by omega), if_neg (by omega), if_neg (by omega), if_neg (by omega)]; unfold plainS; rw [if_neg (by omega), if_neg (by omega), if_neg (by omega), if_neg (by omega), if_pos hc]; rw [if_pos hl]
      refine X.retL (lsH I64 2 a1 c1 (f.stk.take (f.stk.length - 1)) :: q) Tryz.func49 (resC Tryz.results49 (ResOk.cell rfl (LV.agg Tryz.isAgg28 Tryz.sizeOf28 hasA rfl) (ResOk.cell rfl (LV.agg Tryz.isAgg74 Tryz.sizeOf74 hasA rfl) ResOk.nil))) ⟨_, rfl, f.la, f.lc, a1, c1, _, by rw [hD]; rfl, by rw [hD]; exact ⟨.inl ⟨rfl, rfl⟩, .inr (Sees.lsH [])⟩, rfl⟩
    · skip
      replace hl := sp hl
      refine xo 5 ?_
      refine XO.ldA Tryz.isAgg28 Tryz.sizeOf28 ?_
      refine oo 1 ?_
      refine XO.ef0 (Ef.stA Tryz.sizeOf28) ?_
      rintro _ _ ⟨rfl, rfl⟩
      refine XO.ef0 (Ef.stA Tryz.sizeOf74) ?_
      rintro _ _ ⟨rfl, rfl⟩
      refine ox 1 ?_
      refine X.sb [11, 10] ?_
      have hD : doS m x f.pc f.loc f.stk cells = (((f.pc + 1), f.loc, f.stk.take (f.stk.length - 1)), dPlain) := by unfold doS; rw [if_neg (by omega), if_neg (by omega), if_neg (by omega), if_neg (by omega), if_neg (by omega), if_neg (by omega), if_neg (by omega)]; unfold plainS; rw [if_neg (by omega), if_neg (by omega), if_neg (by omega), if_neg (by omega), if_pos hc]; rw [if_neg hl]
      refine X.retL (lsH I64 2 a1 c1 (f.stk.take (f.stk.length - 1)) :: q) Tryz.func49 (resC Tryz.results49 (ResOk.cell rfl (LV.agg Tryz.isAgg28 Tryz.sizeOf28 hasA rfl) (ResOk.cell rfl (LV.agg Tryz.isAgg74 Tryz.sizeOf74 hasA rfl) ResOk.nil))) ⟨_, rfl, f.la, f.lc, a1, c1, _, by rw [hD]; rfl, by rw [hD]; exact ⟨.inl ⟨rfl, rfl⟩, .inr (Sees.lsH [])⟩, rfl⟩
  · skip
    have hdx : (1 : Int) ≤ f.stk.length := by have h := hdep; rw [hc] at h; exact h
    refine xo 2 ?_
    refine XO.ef (Ef.box rfl) ?_
    rintro _ _ ⟨n13, rfl, rfl⟩
    refine XO.ef (Ef.box rfl) ?_
    rintro _ _ ⟨n14, rfl, rfl⟩
    refine XO.ef (Ef.box rfl) ?_
    rintro _ _ ⟨n15, rfl, rfl⟩
    refine XO.ef (Ef.box rfl) ?_
    rintro _ _ ⟨n16, rfl, rfl⟩
    refine XO.ef (Ef.alloc Tryz.zeroValue28) ?_
    rintro _ _ ⟨n17, rfl, rfl⟩
    refine XO.ef (Ef.alloc Tryz.zeroValue74) ?_
    rintro _ _ ⟨n18, rfl, rfl⟩
    refine ox 2 ?_
    refine X.draw [] Tryz.mixed (by kernel_rfl) (by kernel_rfl) rfl ?_
    refine dd [0] ?_
    refine XD.ld 1 Tryz.isAgg50 ?_
    refine dd [2] ?_
    refine XD.ld 3 Tryz.isAgg22 ?_
    refine dd [4, 5, 6] ?_
    refine XD.nil ?_
    refine xx 11 ?_
    refine X.know 20 (.bool false) rfl (congrArg Value.bool (by first | exact decide_eq_true (by omega) | exact decide_eq_false (by omega) | (rw [beq_iff_eq]; omega) | (rw [beq_eq_false_iff_ne]; omega) | (rw [bne_iff_ne]; omega) | (rw [bne_eq_false_iff_eq]; omega))) ?_
    refine xx 7 ?_
    refine X.sb [25, 19, 13, 12, 11, 10, 8, 7, 6, 4] ?_
    refine X.know 25 (.bool false) rfl (congrArg Value.bool (by first | exact decide_eq_true (by omega) | exact decide_eq_false (by omega) | (rw [beq_iff_eq]; omega) | (rw [beq_eq_false_iff_ne]; omega) | (rw [bne_iff_ne]; omega) | (rw [bne_eq_false_iff_eq]; omega))) ?_
    refine xx 5 ?_
    refine X.know 25 (.bool true) rfl (congrArg Value.bool (by first | exact decide_eq_true (by omega) | exact decide_eq_false (by omega) | (rw [beq_iff_eq]; omega) | (rw [beq_eq_false_iff_ne]; omega) | (rw [bne_iff_ne]; omega) | (rw [bne_eq_false_iff_eq]; omega))) ?_
    refine xo 4 ?_
    refine XO.ld Tryz.isAgg22 ?_
    refine oo 3 ?_
    refine XO.know 32 (.slice f.sa (f.stk.take (f.stk.length - 1)).length f.sc) rfl (by rw [List.length_take]; congr 1; omega) ?_
    refine XO.le (q' := lsH I64 2 none 0 [] :: _) (Le.lsH_nil _ _ _) ?_
    refine XO.ef (Ef.appA (f := I64) (l := []) (m := f.stk.take (f.stk.length - 1)) Tryz.underlying22 Tryz.info2 rfl rfl rfl fndA ((Sees.takeL hf.s _).le leA) (fun _ => rfl) (by simp; omega) (by simp; omega)) ?_
    rintro _ _ ⟨a1, c1, rfl, rfl⟩
    rw [List.nil_append]
    refine oo 1 ?_
    refine XO.ef0 (Ef.st Tryz.sizeOf22) ?_
    rintro _ _ ⟨rfl, rfl⟩
    refine ox 9 ?_
    refine X.sb [39, 11, 10, 8, 7] ?_
    refine X.know 39 (.bool (decide (lastS f.stk ≠ 0))) rfl (congrArg Value.bool (by rw [Bool.eq_iff_iff]; simp [hc])) ?_
    refine X.part 39 rfl (fun hl => ?_) (fun hl => ?_)
    · skip
      replace hl := sp hl
      refine xo 3 ?_
      refine XO.ld Tryz.isAgg3 ?_
      refine oo 1 ?_
      refine XO.ef0 (Ef.st Tryz.sizeOf3) ?_
      rintro _ _ ⟨rfl, rfl⟩
      refine oo 4 ?_
      refine XO.ldA Tryz.isAgg28 Tryz.sizeOf28 ?_
      refine oo 1 ?_
      refine XO.ef0 (Ef.stA Tryz.sizeOf28) ?_
      rintro _ _ ⟨rfl, rfl⟩
      refine XO.ef0 (Ef.stA Tryz.sizeOf74) ?_
      rintro _ _ ⟨rfl, rfl⟩
      refine ox 1 ?_
      have hD : doS m x f.pc f.loc f.stk cells = ((x.a, f.loc, f.stk.take (f.stk.length - 1)), dPlain) := by unfold doS; rw [if_neg (by omega), if_neg (by omega), if_neg (by omega), if_neg (by omega), if_neg (by omega), if_neg (by omega), if_neg (by omega)]; unfold plainS; rw [if_neg (by omega), if_neg (by omega), if_neg (by omega), if_neg (by omega), if_neg (by omega), if_pos hc]; rw [if_pos hl]
      refine X.retL (lsH I64 2 a1 c1 (f.stk.take (f.stk.length - 1)) :: q) Tryz.func49 (resC Tryz.results49 (ResOk.cell rfl (LV.agg Tryz.isAgg28 Tryz.sizeOf28 hasA rfl) (ResOk.cell rfl (LV.agg Tryz.isAgg74 Tryz.sizeOf74 hasA rfl) ResOk.nil))) ⟨_, rfl, f.la, f.lc, a1, c1, _, by rw [hD]; rfl, by rw [hD]; exact ⟨.inl ⟨rfl, rfl⟩, .inr (Sees.lsH [])⟩, rfl⟩
    · skip
      replace hl := sp hl
      refine xo 5 ?_
      refine XO.ldA Tryz.isAgg28 Tryz.sizeOf28 ?_
      refine oo 1 ?_
      refine XO.ef0 (Ef.stA Tryz.sizeOf28) ?_
      rintro _ _ ⟨rfl, rfl⟩
      refine XO.ef0 (Ef.stA Tryz.sizeOf74) ?_
      rintro _ _ ⟨rfl, rfl⟩
      refine ox 1 ?_
      have hD : doS m x f.pc f.loc f.stk cells = (((f.pc + 1), f.loc, f.stk.take (f.stk.length - 1)), dPlain) := by unfold doS; rw [if_neg (by omega), if_neg (by omega), if_neg (by omega), if_neg (by omega), if_neg (by omega), if_neg (by omega), if_neg (by omega)]; unfold plainS; rw [if_neg (by omega), if_neg (by omega), if_neg (by omega), if_neg (by omega), if_neg (by omega), if_pos hc]; rw [if_neg hl]
      refine X.retL (lsH I64 2 a1 c1 (f.stk.take (f.stk.length - 1)) :: q) Tryz.func49 (resC Tryz.results49 (ResOk.cell rfl (LV.agg Tryz.isAgg28 Tryz.sizeOf28 hasA rfl) (ResOk.cell rfl (LV.agg Tryz.isAgg74 Tryz.sizeOf74 hasA rfl) ResOk.nil))) ⟨_, rfl, f.la, f.lc, a1, c1, _, by rw [hD]; rfl, by rw [hD]; exact ⟨.inl ⟨rfl, rfl⟩, .inr (Sees.lsH [])⟩, rfl⟩
  · skip
    have hdx : (1 : Int) ≤ f.stk.length := by have h := hdep; rw [hc] at h; exact h
    refine xo 2 ?_
    refine XO.ef (Ef.box rfl) ?_
    rintro _ _ ⟨n19, rfl, rfl⟩
    refine XO.ef (Ef.box rfl) ?_
    rintro _ _ ⟨n20, rfl, rfl⟩
    refine XO.ef (Ef.box rfl) ?_
    rintro _ _ ⟨n21, rfl, rfl⟩
    refine XO.ef (Ef.box rfl) ?_
    rintro _ _ ⟨n22, rfl, rfl⟩
    refine XO.ef (Ef.alloc Tryz.zeroValue28) ?_
    rintro _ _ ⟨n23, rfl, rfl⟩
    refine XO.ef (Ef.alloc Tryz.zeroValue74) ?_
    rintro _ _ ⟨n24, rfl, rfl⟩
    refine ox 2 ?_
    refine X.draw [] Tryz.mixed (by kernel_rfl) (by kernel_rfl) rfl ?_
    refine dd [0] ?_
    refine XD.ld 1 Tryz.isAgg50 ?_
    refine dd [2] ?_
    refine XD.ld 3 Tryz.isAgg22 ?_
    refine dd [4, 5, 6] ?_
    refine XD.nil ?_
    refine xx 11 ?_
    refine X.know 20 (.bool false) rfl (congrArg Value.bool (by first | exact decide_eq_true (by omega) | exact decide_eq_false (by omega) | (rw [beq_iff_eq]; omega) | (rw [beq_eq_false_iff_ne]; omega) | (rw [bne_iff_ne]; omega) | (rw [bne_eq_false_iff_eq]; omega))) ?_
    refine xx 7 ?_
    refine X.sb [25, 19, 13, 12, 11, 10, 8, 7, 6, 4] ?_
    refine X.know 25 (.bool false) rfl (congrArg Value.bool (by first | exact decide_eq_true (by omega) | exact decide_eq_false (by omega) | (rw [beq_iff_eq]; omega) | (rw [beq_eq_false_iff_ne]; omega) | (rw [bne_iff_ne]; omega) | (rw [bne_eq_false_iff_eq]; omega))) ?_
    refine xx 5 ?_
    refine X.know 25 (.bool false) rfl (congrArg Value.bool (by first | exact decide_eq_true (by omega) | exact decide_eq_false (by omega) | (rw [beq_iff_eq]; omega) | (rw [beq_eq_false_iff_ne]; omega) | (rw [bne_iff_ne]; omega) | (rw [bne_eq_false_iff_eq]; omega))) ?_
    refine xx 6 ?_
    refine X.know 43 (.bool true) rfl (congrArg Value.bool (by first | exact decide_eq_true (by omega) | exact decide_eq_false (by omega) | (rw [beq_iff_eq]; omega) | (rw [beq_eq_false_iff_ne]; omega) | (rw [bne_iff_ne]; omega) | (rw [bne_eq_false_iff_eq]; omega))) ?_
    refine xo 3 ?_
    refine XO.ld Tryz.isAgg22 ?_
    refine oo 3 ?_
    refine XO.know 49 (.slice f.sa (f.stk.take (f.stk.length - 1)).length f.sc) rfl (by rw [List.length_take]; congr 1; omega) ?_
    refine XO.le (q' := lsH I64 2 none 0 [] :: _) (Le.lsH_nil _ _ _) ?_
    refine XO.ef (Ef.appA (f := I64) (l := []) (m := f.stk.take (f.stk.length - 1)) Tryz.underlying22 Tryz.info2 rfl rfl rfl fndA ((Sees.takeL hf.s _).le leA) (fun _ => rfl) (by simp; omega) (by simp; omega)) ?_
    rintro _ _ ⟨a1, c1, rfl, rfl⟩
    rw [List.nil_append]
    refine oo 2 ?_
    refine XO.cR Tryz.call47 (truth09_ok) ?_
    refine XO.know 53 (.int .i64 (truthS (decide (lastS f.stk ≠ 0)))) rfl (congrArg (fun b => Value.int .i64 (truthS b)) (by rw [Bool.eq_iff_iff]; simp)) ?_
    refine XO.ef (Ef.litL I64 [truthS (decide (lastS f.stk ≠ 0))] Tryz.underlying22 Tryz.info2 rfl rfl rfl rfl rfl rfl (fun _ => rfl)) ?_
    rintro _ _ ⟨g1, rfl, rfl⟩
    refine XO.ef (Ef.appA (f := I64) (l := f.stk.take (f.stk.length - 1)) (m := [truthS (decide (lastS f.stk ≠ 0))]) Tryz.underlying22 Tryz.info2 rfl rfl rfl fndA ((Sees.lsH _).le fndA) (fun _ => rfl) (by simp; omega) (by simp; omega)) ?_
    rintro _ _ ⟨a2, c2, rfl, rfl⟩
    refine oo 1 ?_
    refine XO.ef0 (Ef.st Tryz.sizeOf22) ?_
    rintro _ _ ⟨rfl, rfl⟩
    refine oo 4 ?_
    refine XO.ldA Tryz.isAgg28 Tryz.sizeOf28 ?_
    refine oo 1 ?_
    refine XO.ef0 (Ef.stA Tryz.sizeOf28) ?_
    rintro _ _ ⟨rfl, rfl⟩
    refine XO.ef0 (Ef.stA Tryz.sizeOf74) ?_
    rintro _ _ ⟨rfl, rfl⟩
    refine ox 1 ?_
    refine X.sb [11, 10] ?_
    have hD : doS m x f.pc f.loc f.stk cells = ((f.pc + 1, f.loc, f.stk.take (f.stk.length - 1) ++ [truthS (decide (lastS f.stk ≠ 0))]), dPlain) := by unfold doS; rw [if_neg (by omega), if_pos (by omega)]; simp only [show isUn x.c from by omega, if_true]; rw [hc]; rfl
    refine X.retL (lsH I64 2 a2 c2 (f.stk.take (f.stk.length - 1) ++ [truthS (decide (lastS f.stk ≠ 0))]) :: q) Tryz.func49 (resC Tryz.results49 (ResOk.cell rfl (LV.agg Tryz.isAgg28 Tryz.sizeOf28 hasA rfl) (ResOk.cell rfl (LV.agg Tryz.isAgg74 Tryz.sizeOf74 hasA rfl) ResOk.nil))) ⟨_, rfl, f.la, f.lc, a2, c2, _, by rw [hD]; rfl, by rw [hD]; exact ⟨.inl ⟨rfl, rfl⟩, .inr (Sees.lsH [])⟩, rfl⟩
  · skip
    refine xo 2 ?_
    refine XO.ef (Ef.box rfl) ?_
    rintro _ _ ⟨n25, rfl, rfl⟩
    refine XO.ef (Ef.box rfl) ?_
    rintro _ _ ⟨n26, rfl, rfl⟩
    refine XO.ef (Ef.box rfl) ?_
    rintro _ _ ⟨n27, rfl, rfl⟩
    refine XO.ef (Ef.box rfl) ?_
    rintro _ _ ⟨n28, rfl, rfl⟩
    refine XO.ef (Ef.alloc Tryz.zeroValue28) ?_
    rintro _ _ ⟨n29, rfl, rfl⟩
    refine XO.ef (Ef.alloc Tryz.zeroValue74) ?_
    rintro _ _ ⟨n30, rfl, rfl⟩
    refine ox 2 ?_
    refine X.draw [] Tryz.mixed (by kernel_rfl) (by kernel_rfl) rfl ?_
    refine dd [0] ?_
    refine XD.ld 1 Tryz.isAgg50 ?_
    refine dd [2] ?_
    refine XD.ld 3 Tryz.isAgg22 ?_
    refine dd [4, 5, 6] ?_
    refine XD.nil ?_
    refine xx 11 ?_
    refine X.know 20 (.bool false) rfl (congrArg Value.bool (by first | exact decide_eq_true (by omega) | exact decide_eq_false (by omega) | (rw [beq_iff_eq]; omega) | (rw [beq_eq_false_iff_ne]; omega) | (rw [bne_iff_ne]; omega) | (rw [bne_eq_false_iff_eq]; omega))) ?_
    refine xx 7 ?_
    refine X.sb [25, 19, 13, 12, 11, 10, 8, 7, 6, 4] ?_
    refine X.know 25 (.bool false) rfl (congrArg Value.bool (by first | exact decide_eq_true (by omega) | exact decide_eq_false (by omega) | (rw [beq_iff_eq]; omega) | (rw [beq_eq_false_iff_ne]; omega) | (rw [bne_iff_ne]; omega) | (rw [bne_eq_false_iff_eq]; omega))) ?_
    refine xx 5 ?_
    refine X.know 25 (.bool false) rfl (congrArg Value.bool (by first | exact decide_eq_true (by omega) | exact decide_eq_false (by omega) | (rw [beq_iff_eq]; omega) | (rw [beq_eq_false_iff_ne]; omega) | (rw [bne_iff_ne]; omega) | (rw [bne_eq_false_iff_eq]; omega))) ?_
    refine xx 6 ?_
    refine X.know 43 (.bool false) rfl (congrArg Value.bool (by first | exact decide_eq_true (by omega) | exact decide_eq_false (by omega) | (rw [beq_iff_eq]; omega) | (rw [beq_eq_false_iff_ne]; omega) | (rw [bne_iff_ne]; omega) | (rw [bne_eq_false_iff_eq]; omega))) ?_
    refine xx 6 ?_
    refine X.know 57 (.bool true) rfl (congrArg Value.bool (by first | exact decide_eq_true (by omega) | exact decide_eq_false (by omega) | (rw [beq_iff_eq]; omega) | (rw [beq_eq_false_iff_ne]; omega) | (rw [bne_iff_ne]; omega) | (rw [bne_eq_false_iff_eq]; omega))) ?_
    refine xx 2 ?_
    refine X.draw [] Tryz.mixed (by kernel_rfl) (by kernel_rfl) rfl ?_
    refine XD.loadA 0 rfl rfl Tryz.isAgg28 Tryz.sizeOf28 hasA (by rfl) ?_
    refine dd [1] ?_
    refine XD.ld 2 Tryz.isAgg3 ?_
    refine dd [3] ?_
    refine XD.ef0 4 rfl (Ef.stA Tryz.sizeOf28) ?_
    rintro _ _ ⟨rfl, rfl⟩
    refine ⟨hlA, ?_⟩
    refine XD.ef0 5 rfl (Ef.stA Tryz.sizeOf74) ?_
    rintro _ _ ⟨rfl, rfl⟩
    refine ⟨trivial, ?_⟩
    refine XD.nil ?_
    have hD : doS m x f.pc f.loc f.stk cells = ((f.pc + 1, f.loc, f.stk), dVal 3 x.a) := by unfold doS; rw [if_neg (by omega), if_neg (by omega), if_neg (by omega), if_pos hc]
    refine X.retL (stars [] :: q) Tryz.func49 (resC Tryz.results49 (ResOk.cell rfl (LV.agg Tryz.isAgg28 Tryz.sizeOf28 hasA rfl) (ResOk.cell rfl (LV.agg Tryz.isAgg74 Tryz.sizeOf74 hasA rfl) ResOk.nil))) ⟨_, rfl, f.la, f.lc, f.sa, f.sc, _, by rw [hD]; rfl, by rw [hD]; exact ⟨.inl ⟨rfl, rfl⟩, .inl ⟨rfl, rfl⟩⟩, rfl⟩ (Le.trans leA (Le.stars_nil _))
  · skip
    have hdx : (1 : Int) ≤ f.stk.length := by have h := hdep; rw [hc] at h; exact h
    refine xo 2 ?_
    refine XO.ef (Ef.box rfl) ?_
    rintro _ _ ⟨n31, rfl, rfl⟩
    refine XO.ef (Ef.box rfl) ?_
    rintro _ _ ⟨n32, rfl, rfl⟩
    refine XO.ef (Ef.box rfl) ?_
    rintro _ _ ⟨n33, rfl, rfl⟩
    refine XO.ef (Ef.box rfl) ?_
    rintro _ _ ⟨n34, rfl, rfl⟩
    refine XO.ef (Ef.alloc Tryz.zeroValue28) ?_
    rintro _ _ ⟨n35, rfl, rfl⟩
    refine XO.ef (Ef.alloc Tryz.zeroValue74) ?_
    rintro _ _ ⟨n36, rfl, rfl⟩
    refine ox 2 ?_
    refine X.draw [] Tryz.mixed (by kernel_rfl) (by kernel_rfl) rfl ?_
    refine dd [0] ?_
    refine XD.ld 1 Tryz.isAgg50 ?_
    refine dd [2] ?_
    refine XD.ld 3 Tryz.isAgg22 ?_
    refine dd [4, 5, 6] ?_
    refine XD.nil ?_
    refine xx 11 ?_
    refine X.know 20 (.bool false) rfl (congrArg Value.bool (by first | exact decide_eq_true (by omega) | exact decide_eq_false (by omega) | (rw [beq_iff_eq]; omega) | (rw [beq_eq_false_iff_ne]; omega) | (rw [bne_iff_ne]; omega) | (rw [bne_eq_false_iff_eq]; omega))) ?_
    refine xx 7 ?_
    refine X.sb [25, 19, 13, 12, 11, 10, 8, 7, 6, 4] ?_
    refine X.know 25 (.bool false) rfl (congrArg Value.bool (by first | exact decide_eq_true (by omega) | exact decide_eq_false (by omega) | (rw [beq_iff_eq]; omega) | (rw [beq_eq_false_iff_ne]; omega) | (rw [bne_iff_ne]; omega) | (rw [bne_eq_false_iff_eq]; omega))) ?_
    refine xx 5 ?_
    refine X.know 25 (.bool false) rfl (congrArg Value.bool (by first | exact decide_eq_true (by omega) | exact decide_eq_false (by omega) | (rw [beq_iff_eq]; omega) | (rw [beq_eq_false_iff_ne]; omega) | (rw [bne_iff_ne]; omega) | (rw [bne_eq_false_iff_eq]; omega))) ?_
    refine xx 6 ?_
    refine X.know 43 (.bool false) rfl (congrArg Value.bool (by first | exact decide_eq_true (by omega) | exact decide_eq_false (by omega) | (rw [beq_iff_eq]; omega) | (rw [beq_eq_false_iff_ne]; omega) | (rw [bne_iff_ne]; omega) | (rw [bne_eq_false_iff_eq]; omega))) ?_
    refine xx 6 ?_
    refine X.know 57 (.bool false) rfl (congrArg Value.bool (by first | exact decide_eq_true (by omega) | exact decide_eq_false (by omega) | (rw [beq_iff_eq]; omega) | (rw [beq_eq_false_iff_ne]; omega) | (rw [bne_iff_ne]; omega) | (rw [bne_eq_false_iff_eq]; omega))) ?_
    refine xx 6 ?_
    refine X.know 63 (.bool true) rfl (congrArg Value.bool (by first | exact decide_eq_true (by omega) | exact decide_eq_false (by omega) | (rw [beq_iff_eq]; omega) | (rw [beq_eq_false_iff_ne]; omega) | (rw [bne_iff_ne]; omega) | (rw [bne_eq_false_iff_eq]; omega))) ?_
    refine xo 4 ?_
    refine XO.ld Tryz.isAgg22 ?_
    refine oo 3 ?_
    refine XO.know 69 (.slice f.sa (f.stk.take (f.stk.length - 1)).length f.sc) rfl (by rw [List.length_take]; congr 1; omega) ?_
    refine XO.le (q' := lsH I64 2 none 0 [] :: _) (Le.lsH_nil _ _ _) ?_
    refine XO.ef (Ef.appA (f := I64) (l := []) (m := f.stk.take (f.stk.length - 1)) Tryz.underlying22 Tryz.info2 rfl rfl rfl fndA ((Sees.takeL hf.s _).le leA) (fun _ => rfl) (by simp; omega) (by simp; omega)) ?_
    rintro _ _ ⟨a1, c1, rfl, rfl⟩
    rw [List.nil_append]
    refine oo 1 ?_
    refine XO.ef0 (Ef.st Tryz.sizeOf22) ?_
    rintro _ _ ⟨rfl, rfl⟩
    refine oo 3 ?_
    refine XO.ldA Tryz.isAgg28 Tryz.sizeOf28 ?_
    refine oo 2 ?_
    refine XO.ef0 (Ef.stA Tryz.sizeOf28) ?_
    rintro _ _ ⟨rfl, rfl⟩
    refine XO.ef0 (Ef.stA Tryz.sizeOf74) ?_
    rintro _ _ ⟨rfl, rfl⟩
    refine ox 1 ?_
    refine X.sb [11, 10, 7] ?_
    have hD : doS m x f.pc f.loc f.stk cells = ((f.pc + 1, f.loc, f.stk.take (f.stk.length - 1)), dVal 6 (lastS f.stk)) := by unfold doS; rw [if_neg (by omega), if_neg (by omega), if_neg (by omega), if_neg (by omega), if_pos hc]
    refine X.retL (lsH I64 2 a1 c1 (f.stk.take (f.stk.length - 1)) :: q) Tryz.func49 (resC Tryz.results49 (ResOk.cell rfl (LV.agg Tryz.isAgg28 Tryz.sizeOf28 hasA rfl) (ResOk.cell rfl (LV.agg Tryz.isAgg74 Tryz.sizeOf74 hasA rfl) ResOk.nil))) ⟨_, rfl, f.la, f.lc, a1, c1, _, by rw [hD]; rfl, by rw [hD]; exact ⟨.inl ⟨rfl, rfl⟩, .inr (Sees.lsH [])⟩, rfl⟩
  · skip
    refine xo 2 ?_
    refine XO.ef (Ef.box rfl) ?_
    rintro _ _ ⟨n37, rfl, rfl⟩
    refine XO.ef (Ef.box rfl) ?_
    rintro _ _ ⟨n38, rfl, rfl⟩
    refine XO.ef (Ef.box rfl) ?_
    rintro _ _ ⟨n39, rfl, rfl⟩
    refine XO.ef (Ef.box rfl) ?_
    rintro _ _ ⟨n40, rfl, rfl⟩
    refine XO.ef (Ef.alloc Tryz.zeroValue28) ?_
    rintro _ _ ⟨n41, rfl, rfl⟩
    refine XO.ef (Ef.alloc Tryz.zeroValue74) ?_
    rintro _ _ ⟨n42, rfl, rfl⟩
    refine ox 2 ?_
    refine X.draw [] Tryz.mixed (by kernel_rfl) (by kernel_rfl) rfl ?_
    refine dd [0] ?_
    refine XD.ld 1 Tryz.isAgg50 ?_
    refine dd [2] ?_
    refine XD.ld 3 Tryz.isAgg22 ?_
    refine dd [4, 5, 6] ?_
    refine XD.nil ?_
    refine xx 11 ?_
    refine X.know 20 (.bool false) rfl (congrArg Value.bool (by first | exact decide_eq_true (by omega) | exact decide_eq_false (by omega) | (rw [beq_iff_eq]; omega) | (rw [beq_eq_false_iff_ne]; omega) | (rw [bne_iff_ne]; omega) | (rw [bne_eq_false_iff_eq]; omega))) ?_
    refine xx 7 ?_
    refine X.sb [25, 19, 13, 12, 11, 10, 8, 7, 6, 4] ?_
    refine X.know 25 (.bool false) rfl (congrArg Value.bool (by first | exact decide_eq_true (by omega) | exact decide_eq_false (by omega) | (rw [beq_iff_eq]; omega) | (rw [beq_eq_false_iff_ne]; omega) | (rw [bne_iff_ne]; omega) | (rw [bne_eq_false_iff_eq]; omega))) ?_
    refine xx 5 ?_
    refine X.know 25 (.bool false) rfl (congrArg Value.bool (by first | exact decide_eq_true (by omega) | exact decide_eq_false (by omega) | (rw [beq_iff_eq]; omega) | (rw [beq_eq_false_iff_ne]; omega) | (rw [bne_iff_ne]; omega) | (rw [bne_eq_false_iff_eq]; omega))) ?_
    refine xx 6 ?_
    refine X.know 43 (.bool false) rfl (congrArg Value.bool (by first | exact decide_eq_true (by omega) | exact decide_eq_false (by omega) | (rw [beq_iff_eq]; omega) | (rw [beq_eq_false_iff_ne]; omega) | (rw [bne_iff_ne]; omega) | (rw [bne_eq_false_iff_eq]; omega))) ?_
    refine xx 6 ?_
    refine X.know 57 (.bool false) rfl (congrArg Value.bool (by first | exact decide_eq_true (by omega) | exact decide_eq_false (by omega) | (rw [beq_iff_eq]; omega) | (rw [beq_eq_false_iff_ne]; omega) | (rw [bne_iff_ne]; omega) | (rw [bne_eq_false_iff_eq]; omega))) ?_
    refine xx 6 ?_
    refine X.know 63 (.bool false) rfl (congrArg Value.bool (by first | exact decide_eq_true (by omega) | exact decide_eq_false (by omega) | (rw [beq_iff_eq]; omega) | (rw [beq_eq_false_iff_ne]; omega) | (rw [bne_iff_ne]; omega) | (rw [bne_eq_false_iff_eq]; omega))) ?_
    refine xx 6 ?_
    refine X.know 75 (.bool true) rfl (congrArg Value.bool (by first | exact decide_eq_true (by omega) | exact decide_eq_false (by omega) | (rw [beq_iff_eq]; omega) | (rw [beq_eq_false_iff_ne]; omega) | (rw [bne_iff_ne]; omega) | (rw [bne_eq_false_iff_eq]; omega))) ?_
    refine xo 3 ?_
    refine XO.ldA Tryz.isAgg28 Tryz.sizeOf28 ?_
    refine oo 1 ?_
    refine XO.ef0 (Ef.stA Tryz.sizeOf28) ?_
    rintro _ _ ⟨rfl, rfl⟩
    refine XO.ef0 (Ef.stA Tryz.sizeOf74) ?_
    rintro _ _ ⟨rfl, rfl⟩
    refine ox 1 ?_
    refine X.sb [11, 10, 7] ?_
    have hD : doS m x f.pc f.loc f.stk cells = ((f.pc, f.loc, f.stk), dVal 4 0) := by unfold doS; rw [if_pos hc]
    refine X.retL (stars [] :: q) Tryz.func49 (resC Tryz.results49 (ResOk.cell rfl (LV.agg Tryz.isAgg28 Tryz.sizeOf28 hasA rfl) (ResOk.cell rfl (LV.agg Tryz.isAgg74 Tryz.sizeOf74 hasA rfl) ResOk.nil))) ⟨_, rfl, f.la, f.lc, f.sa, f.sc, _, by rw [hD]; rfl, by rw [hD]; exact ⟨.inl ⟨rfl, rfl⟩, .inl ⟨rfl, rfl⟩⟩, rfl⟩ (Le.trans leA (Le.stars_nil _))
  · skip
    have hdx : (1 : Int) ≤ f.stk.length := by have h := hdep; rw [hc] at h; exact h
    refine xo 2 ?_
    refine XO.ef (Ef.box rfl) ?_
    rintro _ _ ⟨n43, rfl, rfl⟩
    refine XO.ef (Ef.box rfl) ?_
    rintro _ _ ⟨n44, rfl, rfl⟩
    refine XO.ef (Ef.box rfl) ?_
    rintro _ _ ⟨n45, rfl, rfl⟩
    refine XO.ef (Ef.box rfl) ?_
    rintro _ _ ⟨n46, rfl, rfl⟩
    refine XO.ef (Ef.alloc Tryz.zeroValue28) ?_
    rintro _ _ ⟨n47, rfl, rfl⟩
    refine XO.ef (Ef.alloc Tryz.zeroValue74) ?_
    rintro _ _ ⟨n48, rfl, rfl⟩
    refine ox 2 ?_
    refine X.draw [] Tryz.mixed (by kernel_rfl) (by kernel_rfl) rfl ?_
    refine dd [0] ?_
    refine XD.ld 1 Tryz.isAgg50 ?_
    refine dd [2] ?_
    refine XD.ld 3 Tryz.isAgg22 ?_
    refine dd [4, 5, 6] ?_
    refine XD.nil ?_
    refine xx 11 ?_
    refine X.know 20 (.bool false) rfl (congrArg Value.bool (by first | exact decide_eq_true (by omega) | exact decide_eq_false (by omega) | (rw [beq_iff_eq]; omega) | (rw [beq_eq_false_iff_ne]; omega) | (rw [bne_iff_ne]; omega) | (rw [bne_eq_false_iff_eq]; omega))) ?_
    refine xx 7 ?_
    refine X.sb [25, 19, 13, 12, 11, 10, 8, 7, 6, 4] ?_
    refine X.know 25 (.bool false) rfl (congrArg Value.bool (by first | exact decide_eq_true (by omega) | exact decide_eq_false (by omega) | (rw [beq_iff_eq]; omega) | (rw [beq_eq_false_iff_ne]; omega) | (rw [bne_iff_ne]; omega) | (rw [bne_eq_false_iff_eq]; omega))) ?_
    refine xx 5 ?_
    refine X.know 25 (.bool false) rfl (congrArg Value.bool (by first | exact decide_eq_true (by omega) | exact decide_eq_false (by omega) | (rw [beq_iff_eq]; omega) | (rw [beq_eq_false_iff_ne]; omega) | (rw [bne_iff_ne]; omega) | (rw [bne_eq_false_iff_eq]; omega))) ?_
    refine xx 6 ?_
    refine X.know 43 (.bool false) rfl (congrArg Value.bool (by first | exact decide_eq_true (by omega) | exact decide_eq_false (by omega) | (rw [beq_iff_eq]; omega) | (rw [beq_eq_false_iff_ne]; omega) | (rw [bne_iff_ne]; omega) | (rw [bne_eq_false_iff_eq]; omega))) ?_
    refine xx 6 ?_
    refine X.know 57 (.bool false) rfl (congrArg Value.bool (by first | exact decide_eq_true (by omega) | exact decide_eq_false (by omega) | (rw [beq_iff_eq]; omega) | (rw [beq_eq_false_iff_ne]; omega) | (rw [bne_iff_ne]; omega) | (rw [bne_eq_false_iff_eq]; omega))) ?_
    refine xx 6 ?_
    refine X.know 63 (.bool false) rfl (congrArg Value.bool (by first | exact decide_eq_true (by omega) | exact decide_eq_false (by omega) | (rw [beq_iff_eq]; omega) | (rw [beq_eq_false_iff_ne]; omega) | (rw [bne_iff_ne]; omega) | (rw [bne_eq_false_iff_eq]; omega))) ?_
    refine xx 6 ?_
    refine X.know 75 (.bool false) rfl (congrArg Value.bool (by first | exact decide_eq_true (by omega) | exact decide_eq_false (by omega) | (rw [beq_iff_eq]; omega) | (rw [beq_eq_false_iff_ne]; omega) | (rw [bne_iff_ne]; omega) | (rw [bne_eq_false_iff_eq]; omega))) ?_
    refine xx 6 ?_
    refine X.sb [79, 19, 13, 11, 10, 8, 7, 6, 4] ?_
    refine X.know 79 (.bool true) rfl (congrArg Value.bool (by first | exact decide_eq_true (by omega) | exact decide_eq_false (by omega) | (rw [beq_iff_eq]; omega) | (rw [beq_eq_false_iff_ne]; omega) | (rw [bne_iff_ne]; omega) | (rw [bne_eq_false_iff_eq]; omega))) ?_
    refine xo 4 ?_
    refine XO.ld Tryz.isAgg22 ?_
    refine oo 3 ?_
    refine XO.know 85 (.slice f.sa (f.stk.take (f.stk.length - 1)).length f.sc) rfl (by rw [List.length_take]; congr 1; omega) ?_
    refine XO.le (q' := lsH I64 2 none 0 [] :: _) (Le.lsH_nil _ _ _) ?_
    refine XO.ef (Ef.appA (f := I64) (l := []) (m := f.stk.take (f.stk.length - 1)) Tryz.underlying22 Tryz.info2 rfl rfl rfl fndA ((Sees.takeL hf.s _).le leA) (fun _ => rfl) (by simp; omega) (by simp; omega)) ?_
    rintro _ _ ⟨a1, c1, rfl, rfl⟩
    rw [List.nil_append]
    refine oo 1 ?_
    refine XO.ef0 (Ef.st Tryz.sizeOf22) ?_
    rintro _ _ ⟨rfl, rfl⟩
    refine ox 2 ?_
    refine X.draw [] Tryz.mixed (by kernel_rfl) (by kernel_rfl) rfl ?_
    refine XD.loadA 0 rfl rfl Tryz.isAgg28 Tryz.sizeOf28 hasA (by rfl) ?_
    refine XD.loadA 1 rfl rfl Tryz.isAgg52 Tryz.sizeOf52 hasA (by rfl) ?_
    refine dd [2, 3] ?_
    refine XD.ef0 4 rfl (Ef.stA Tryz.sizeOf28) ?_
    rintro _ _ ⟨rfl, rfl⟩
    refine ⟨hlA, ?_⟩
    refine XD.ef0 5 rfl (Ef.stA Tryz.sizeOf74) ?_
    rintro _ _ ⟨rfl, rfl⟩
    refine ⟨trivial, ?_⟩
    refine XD.nil ?_
    have hD : doS m x f.pc f.loc f.stk cells = ((f.pc + 1, f.loc, f.stk.take (f.stk.length - 1)), dSync x (lastS f.stk)) := by unfold doS; rw [if_neg (by omega), if_neg (by omega), if_neg (by omega), if_neg (by omega), if_neg (by omega), if_pos hc]
    refine X.retL (lsH I64 2 a1 c1 (f.stk.take (f.stk.length - 1)) :: q) Tryz.func49 (resC Tryz.results49 (ResOk.cell rfl (LV.agg Tryz.isAgg28 Tryz.sizeOf28 hasA rfl) (ResOk.cell rfl (LV.agg Tryz.isAgg74 Tryz.sizeOf74 hasA rfl) ResOk.nil))) ⟨_, rfl, f.la, f.lc, a1, c1, _, by rw [hD]; rfl, by rw [hD]; exact ⟨.inl ⟨rfl, rfl⟩, .inr (Sees.lsH [])⟩, rfl⟩
  · skip
    refine xo 2 ?_
    refine XO.ef (Ef.box rfl) ?_
    rintro _ _ ⟨n49, rfl, rfl⟩
    refine XO.ef (Ef.box rfl) ?_
    rintro _ _ ⟨n50, rfl, rfl⟩
    refine XO.ef (Ef.box rfl) ?_
    rintro _ _ ⟨n51, rfl, rfl⟩
    refine XO.ef (Ef.box rfl) ?_
    rintro _ _ ⟨n52, rfl, rfl⟩
    refine XO.ef (Ef.alloc Tryz.zeroValue28) ?_
    rintro _ _ ⟨n53, rfl, rfl⟩
    refine XO.ef (Ef.alloc Tryz.zeroValue74) ?_
    rintro _ _ ⟨n54, rfl, rfl⟩
    refine ox 2 ?_
    refine X.draw [] Tryz.mixed (by kernel_rfl) (by kernel_rfl) rfl ?_
    refine dd [0] ?_
    refine XD.ld 1 Tryz.isAgg50 ?_
    refine dd [2] ?_
    refine XD.ld 3 Tryz.isAgg22 ?_
    refine dd [4, 5, 6] ?_
    refine XD.nil ?_
    refine xx 11 ?_
    refine X.know 20 (.bool false) rfl (congrArg Value.bool (by first | exact decide_eq_true (by omega) | exact decide_eq_false (by omega) | (rw [beq_iff_eq]; omega) | (rw [beq_eq_false_iff_ne]; omega) | (rw [bne_iff_ne]; omega) | (rw [bne_eq_false_iff_eq]; omega))) ?_
    refine xx 7 ?_
    refine X.sb [25, 19, 13, 12, 11, 10, 8, 7, 6, 4] ?_
    refine X.know 25 (.bool false) rfl (congrArg Value.bool (by first | exact decide_eq_true (by omega) | exact decide_eq_false (by omega) | (rw [beq_iff_eq]; omega) | (rw [beq_eq_false_iff_ne]; omega) | (rw [bne_iff_ne]; omega) | (rw [bne_eq_false_iff_eq]; omega))) ?_
    refine xx 5 ?_
    refine X.know 25 (.bool false) rfl (congrArg Value.bool (by first | exact decide_eq_true (by omega) | exact decide_eq_false (by omega) | (rw [beq_iff_eq]; omega) | (rw [beq_eq_false_iff_ne]; omega) | (rw [bne_iff_ne]; omega) | (rw [bne_eq_false_iff_eq]; omega))) ?_
    refine xx 6 ?_
    refine X.know 43 (.bool false) rfl (congrArg Value.bool (by first | exact decide_eq_true (by omega) | exact decide_eq_false (by omega) | (rw [beq_iff_eq]; omega) | (rw [beq_eq_false_iff_ne]; omega) | (rw [bne_iff_ne]; omega) | (rw [bne_eq_false_iff_eq]; omega))) ?_
    refine xx 6 ?_
    refine X.know 57 (.bool false) rfl (congrArg Value.bool (by first | exact decide_eq_true (by omega) | exact decide_eq_false (by omega) | (rw [beq_iff_eq]; omega) | (rw [beq_eq_false_iff_ne]; omega) | (rw [bne_iff_ne]; omega) | (rw [bne_eq_false_iff_eq]; omega))) ?_
    refine xx 6 ?_
    refine X.know 63 (.bool false) rfl (congrArg Value.bool (by first | exact decide_eq_true (by omega) | exact decide_eq_false (by omega) | (rw [beq_iff_eq]; omega) | (rw [beq_eq_false_iff_ne]; omega) | (rw [bne_iff_ne]; omega) | (rw [bne_eq_false_iff_eq]; omega))) ?_
    refine xx 6 ?_
    refine X.know 75 (.bool false) rfl (congrArg Value.bool (by first | exact decide_eq_true (by omega) | exact decide_eq_false (by omega) | (rw [beq_iff_eq]; omega) | (rw [beq_eq_false_iff_ne]; omega) | (rw [bne_iff_ne]; omega) | (rw [bne_eq_false_iff_eq]; omega))) ?_
    refine xx 6 ?_
    refine X.sb [79, 19, 13, 11, 10, 8, 7, 6, 4] ?_
    refine X.know 79 (.bool false) rfl (congrArg Value.bool (by first | exact decide_eq_true (by omega) | exact decide_eq_false (by omega) | (rw [beq_iff_eq]; omega) | (rw [beq_eq_false_iff_ne]; omega) | (rw [bne_iff_ne]; omega) | (rw [bne_eq_false_iff_eq]; omega))) ?_
    refine xx 7 ?_
    refine X.know 92 (.bool true) rfl (congrArg Value.bool (by first | exact decide_eq_true (by omega) | exact decide_eq_false (by omega) | (rw [beq_iff_eq]; omega) | (rw [beq_eq_false_iff_ne]; omega) | (rw [bne_iff_ne]; omega) | (rw [bne_eq_false_iff_eq]; omega))) ?_
    refine xx 4 ?_
    refine X.draw [] Tryz.mixed (by kernel_rfl) (by kernel_rfl) rfl ?_
    refine XD.loadA 0 rfl rfl Tryz.isAgg28 Tryz.sizeOf28 hasA (by rfl) ?_
    refine XD.loadA 1 rfl rfl Tryz.isAgg52 Tryz.sizeOf52 hasA (by rfl) ?_
    refine dd [2] ?_
    refine XD.ef0 3 rfl (Ef.stA Tryz.sizeOf28) ?_
    rintro _ _ ⟨rfl, rfl⟩
    refine ⟨hlA, ?_⟩
    refine XD.ef0 4 rfl (Ef.stA Tryz.sizeOf74) ?_
    rintro _ _ ⟨rfl, rfl⟩
    refine ⟨trivial, ?_⟩
    refine XD.nil ?_
    have hD : doS m x f.pc f.loc f.stk cells = ((f.pc + 1, f.loc, f.stk), dSync x 0) := by unfold doS; rw [if_neg (by omega), if_neg (by omega), if_neg (by omega), if_neg (by omega), if_neg (by omega), if_neg (by omega), if_pos (by omega)]
    refine X.retL (stars [] :: q) Tryz.func49 (resC Tryz.results49 (ResOk.cell rfl (LV.agg Tryz.isAgg28 Tryz.sizeOf28 hasA rfl) (ResOk.cell rfl (LV.agg Tryz.isAgg74 Tryz.sizeOf74 hasA rfl) ResOk.nil))) ⟨_, rfl, f.la, f.lc, f.sa, f.sc, _, by rw [hD]; rfl, by rw [hD]; exact ⟨.inl ⟨rfl, rfl⟩, .inl ⟨rfl, rfl⟩⟩, rfl⟩ (Le.trans leA (Le.stars_nil _))
  · skip
    refine xo 2 ?_
    refine XO.ef (Ef.box rfl) ?_
    rintro _ _ ⟨n55, rfl, rfl⟩
    refine XO.ef (Ef.box rfl) ?_
    rintro _ _ ⟨n56, rfl, rfl⟩
    refine XO.ef (Ef.box rfl) ?_
    rintro _ _ ⟨n57, rfl, rfl⟩
    refine XO.ef (Ef.box rfl) ?_
    rintro _ _ ⟨n58, rfl, rfl⟩
    refine XO.ef (Ef.alloc Tryz.zeroValue28) ?_
    rintro _ _ ⟨n59, rfl, rfl⟩
    refine XO.ef (Ef.alloc Tryz.zeroValue74) ?_
    rintro _ _ ⟨n60, rfl, rfl⟩
    refine ox 2 ?_
    refine X.draw [] Tryz.mixed (by kernel_rfl) (by kernel_rfl) rfl ?_
    refine dd [0] ?_
    refine XD.ld 1 Tryz.isAgg50 ?_
    refine dd [2] ?_
    refine XD.ld 3 Tryz.isAgg22 ?_
    refine dd [4, 5, 6] ?_
    refine XD.nil ?_
    refine xx 11 ?_
    refine X.know 20 (.bool false) rfl (congrArg Value.bool (by first | exact decide_eq_true (by omega) | exact decide_eq_false (by omega) | (rw [beq_iff_eq]; omega) | (rw [beq_eq_false_iff_ne]; omega) | (rw [bne_iff_ne]; omega) | (rw [bne_eq_false_iff_eq]; omega))) ?_
    refine xx 7 ?_
    refine X.sb [25, 19, 13, 12, 11, 10, 8, 7, 6, 4] ?_
    refine X.know 25 (.bool false) rfl (congrArg Value.bool (by first | exact decide_eq_true (by omega) | exact decide_eq_false (by omega) | (rw [beq_iff_eq]; omega) | (rw [beq_eq_false_iff_ne]; omega) | (rw [bne_iff_ne]; omega) | (rw [bne_eq_false_iff_eq]; omega))) ?_
    refine xx 5 ?_
    refine X.know 25 (.bool false) rfl (congrArg Value.bool (by first | exact decide_eq_true (by omega) | exact decide_eq_false (by omega) | (rw [beq_iff_eq]; omega) | (rw [beq_eq_false_iff_ne]; omega) | (rw [bne_iff_ne]; omega) | (rw [bne_eq_false_iff_eq]; omega))) ?_
    refine xx 6 ?_
    refine X.know 43 (.bool false) rfl (congrArg Value.bool (by first | exact decide_eq_true (by omega) | exact decide_eq_false (by omega) | (rw [beq_iff_eq]; omega) | (rw [beq_eq_false_iff_ne]; omega) | (rw [bne_iff_ne]; omega) | (rw [bne_eq_false_iff_eq]; omega))) ?_
    refine xx 6 ?_
    refine X.know 57 (.bool false) rfl (congrArg Value.bool (by first | exact decide_eq_true (by omega) | exact decide_eq_false (by omega) | (rw [beq_iff_eq]; omega) | (rw [beq_eq_false_iff_ne]; omega) | (rw [bne_iff_ne]; omega) | (rw [bne_eq_false_iff_eq]; omega))) ?_
    refine xx 6 ?_
    refine X.know 63 (.bool false) rfl (congrArg Value.bool (by first | exact decide_eq_true (by omega) | exact decide_eq_false (by omega) | (rw [beq_iff_eq]; omega) | (rw [beq_eq_false_iff_ne]; omega) | (rw [bne_iff_ne]; omega) | (rw [bne_eq_false_iff_eq]; omega))) ?_
    refine xx 6 ?_
    refine X.know 75 (.bool false) rfl (congrArg Value.bool (by first | exact decide_eq_true (by omega) | exact decide_eq_false (by omega) | (rw [beq_iff_eq]; omega) | (rw [beq_eq_false_iff_ne]; omega) | (rw [bne_iff_ne]; omega) | (rw [bne_eq_false_iff_eq]; omega))) ?_
    refine xx 6 ?_
    refine X.sb [79, 19, 13, 11, 10, 8, 7, 6, 4] ?_
    refine X.know 79 (.bool false) rfl (congrArg Value.bool (by first | exact decide_eq_true (by omega) | exact decide_eq_false (by omega) | (rw [beq_iff_eq]; omega) | (rw [beq_eq_false_iff_ne]; omega) | (rw [bne_iff_ne]; omega) | (rw [bne_eq_false_iff_eq]; omega))) ?_
    refine xx 7 ?_
    refine X.know 92 (.bool false) rfl (congrArg Value.bool (by first | exact decide_eq_true (by omega) | exact decide_eq_false (by omega) | (rw [beq_iff_eq]; omega) | (rw [beq_eq_false_iff_ne]; omega) | (rw [bne_iff_ne]; omega) | (rw [bne_eq_false_iff_eq]; omega))) ?_
    refine xx 6 ?_
    refine X.know 92 (.bool true) rfl (congrArg Value.bool (by first | exact decide_eq_true (by omega) | exact decide_eq_false (by omega) | (rw [beq_iff_eq]; omega) | (rw [beq_eq_false_iff_ne]; omega) | (rw [bne_iff_ne]; omega) | (rw [bne_eq_false_iff_eq]; omega))) ?_
    refine xx 4 ?_
    refine X.draw [] Tryz.mixed (by kernel_rfl) (by kernel_rfl) rfl ?_
    refine XD.loadA 0 rfl rfl Tryz.isAgg28 Tryz.sizeOf28 hasA (by rfl) ?_
    refine XD.loadA 1 rfl rfl Tryz.isAgg52 Tryz.sizeOf52 hasA (by rfl) ?_
    refine dd [2] ?_
    refine XD.ef0 3 rfl (Ef.stA Tryz.sizeOf28) ?_
    rintro _ _ ⟨rfl, rfl⟩
    refine ⟨hlA, ?_⟩
    refine XD.ef0 4 rfl (Ef.stA Tryz.sizeOf74) ?_
    rintro _ _ ⟨rfl, rfl⟩
    refine ⟨trivial, ?_⟩
    refine XD.nil ?_
    have hD : doS m x f.pc f.loc f.stk cells = ((f.pc + 1, f.loc, f.stk), dSync x 0) := by unfold doS; rw [if_neg (by omega), if_neg (by omega), if_neg (by omega), if_neg (by omega), if_neg (by omega), if_neg (by omega), if_pos (by omega)]
    refine X.retL (stars [] :: q) Tryz.func49 (resC Tryz.results49 (ResOk.cell rfl (LV.agg Tryz.isAgg28 Tryz.sizeOf28 hasA rfl) (ResOk.cell rfl (LV.agg Tryz.isAgg74 Tryz.sizeOf74 hasA rfl) ResOk.nil))) ⟨_, rfl, f.la, f.lc, f.sa, f.sc, _, by rw [hD]; rfl, by rw [hD]; exact ⟨.inl ⟨rfl, rfl⟩, .inl ⟨rfl, rfl⟩⟩, rfl⟩ (Le.trans leA (Le.stars_nil _))
  · skip
    refine xo 2 ?_
    refine XO.ef (Ef.box rfl) ?_
    rintro _ _ ⟨n61, rfl, rfl⟩
    refine XO.ef (Ef.box rfl) ?_
    rintro _ _ ⟨n62, rfl, rfl⟩
    refine XO.ef (Ef.box rfl) ?_
    rintro _ _ ⟨n63, rfl, rfl⟩
    refine XO.ef (Ef.box rfl) ?_
    rintro _ _ ⟨n64, rfl, rfl⟩
    refine XO.ef (Ef.alloc Tryz.zeroValue28) ?_
    rintro _ _ ⟨n65, rfl, rfl⟩
    refine XO.ef (Ef.alloc Tryz.zeroValue74) ?_
    rintro _ _ ⟨n66, rfl, rfl⟩
    refine ox 2 ?_
    refine X.draw [] Tryz.mixed (by kernel_rfl) (by kernel_rfl) rfl ?_
    refine dd [0] ?_
    refine XD.ld 1 Tryz.isAgg50 ?_
    refine dd [2] ?_
    refine XD.ld 3 Tryz.isAgg22 ?_
    refine dd [4, 5, 6] ?_
    refine XD.nil ?_
    refine xx 11 ?_
    refine X.know 20 (.bool false) rfl (congrArg Value.bool (by first | exact decide_eq_true (by omega) | exact decide_eq_false (by omega) | (rw [beq_iff_eq]; omega) | (rw [beq_eq_false_iff_ne]; omega) | (rw [bne_iff_ne]; omega) | (rw [bne_eq_false_iff_eq]; omega))) ?_
    refine xx 7 ?_
    refine X.sb [25, 19, 13, 12, 11, 10, 8, 7, 6, 4] ?_
    refine X.know 25 (.bool false) rfl (congrArg Value.bool (by first | exact decide_eq_true (by omega) | exact decide_eq_false (by omega) | (rw [beq_iff_eq]; omega) | (rw [beq_eq_false_iff_ne]; omega) | (rw [bne_iff_ne]; omega) | (rw [bne_eq_false_iff_eq]; omega))) ?_
    refine xx 5 ?_
    refine X.know 25 (.bool false) rfl (congrArg Value.bool (by first | exact decide_eq_true (by omega) | exact decide_eq_false (by omega) | (rw [beq_iff_eq]; omega) | (rw [beq_eq_false_iff_ne]; omega) | (rw [bne_iff_ne]; omega) | (rw [bne_eq_false_iff_eq]; omega))) ?_
    refine xx 6 ?_
    refine X.know 43 (.bool false) rfl (congrArg Value.bool (by first | exact decide_eq_true (by omega) | exact decide_eq_false (by omega) | (rw [beq_iff_eq]; omega) | (rw [beq_eq_false_iff_ne]; omega) | (rw [bne_iff_ne]; omega) | (rw [bne_eq_false_iff_eq]; omega))) ?_
    refine xx 6 ?_
    refine X.know 57 (.bool false) rfl (congrArg Value.bool (by first | exact decide_eq_true (by omega) | exact decide_eq_false (by omega) | (rw [beq_iff_eq]; omega) | (rw [beq_eq_false_iff_ne]; omega) | (rw [bne_iff_ne]; omega) | (rw [bne_eq_false_iff_eq]; omega))) ?_
    refine xx 6 ?_
    refine X.know 63 (.bool false) rfl (congrArg Value.bool (by first | exact decide_eq_true (by omega) | exact decide_eq_false (by omega) | (rw [beq_iff_eq]; omega) | (rw [beq_eq_false_iff_ne]; omega) | (rw [bne_iff_ne]; omega) | (rw [bne_eq_false_iff_eq]; omega))) ?_
    refine xx 6 ?_
    refine X.know 75 (.bool false) rfl (congrArg Value.bool (by first | exact decide_eq_true (by omega) | exact decide_eq_false (by omega) | (rw [beq_iff_eq]; omega) | (rw [beq_eq_false_iff_ne]; omega) | (rw [bne_iff_ne]; omega) | (rw [bne_eq_false_iff_eq]; omega))) ?_
    refine xx 6 ?_
    refine X.sb [79, 19, 13, 11, 10, 8, 7, 6, 4] ?_
    refine X.know 79 (.bool false) rfl (congrArg Value.bool (by first | exact decide_eq_true (by omega) | exact decide_eq_false (by omega) | (rw [beq_iff_eq]; omega) | (rw [beq_eq_false_iff_ne]; omega) | (rw [bne_iff_ne]; omega) | (rw [bne_eq_false_iff_eq]; omega))) ?_
    refine xx 7 ?_
    refine X.know 92 (.bool false) rfl (congrArg Value.bool (by first | exact decide_eq_true (by omega) | exact decide_eq_false (by omega) | (rw [beq_iff_eq]; omega) | (rw [beq_eq_false_iff_ne]; omega) | (rw [bne_iff_ne]; omega) | (rw [bne_eq_false_iff_eq]; omega))) ?_
    refine xx 6 ?_
    refine X.know 92 (.bool false) rfl (congrArg Value.bool (by first | exact decide_eq_true (by omega) | exact decide_eq_false (by omega) | (rw [beq_iff_eq]; omega) | (rw [beq_eq_false_iff_ne]; omega) | (rw [bne_iff_ne]; omega) | (rw [bne_eq_false_iff_eq]; omega))) ?_
    refine xx 6 ?_
    refine X.know 92 (.bool true) rfl (congrArg Value.bool (by first | exact decide_eq_true (by omega) | exact decide_eq_false (by omega) | (rw [beq_iff_eq]; omega) | (rw [beq_eq_false_iff_ne]; omega) | (rw [bne_iff_ne]; omega) | (rw [bne_eq_false_iff_eq]; omega))) ?_
    refine xx 4 ?_
    refine X.draw [] Tryz.mixed (by kernel_rfl) (by kernel_rfl) rfl ?_
    refine XD.loadA 0 rfl rfl Tryz.isAgg28 Tryz.sizeOf28 hasA (by rfl) ?_
    refine XD.loadA 1 rfl rfl Tryz.isAgg52 Tryz.sizeOf52 hasA (by rfl) ?_
    refine dd [2] ?_
    refine XD.ef0 3 rfl (Ef.stA Tryz.sizeOf28) ?_
    rintro _ _ ⟨rfl, rfl⟩
    refine ⟨hlA, ?_⟩
    refine XD.ef0 4 rfl (Ef.stA Tryz.sizeOf74) ?_
    rintro _ _ ⟨rfl, rfl⟩
    refine ⟨trivial, ?_⟩
    refine XD.nil ?_
    have hD : doS m x f.pc f.loc f.stk cells = ((f.pc + 1, f.loc, f.stk), dSync x 0) := by unfold doS; rw [if_neg (by omega), if_neg (by omega), if_neg (by omega), if_neg (by omega), if_neg (by omega), if_neg (by omega), if_pos (by omega)]
    refine X.retL (stars [] :: q) Tryz.func49 (resC Tryz.results49 (ResOk.cell rfl (LV.agg Tryz.isAgg28 Tryz.sizeOf28 hasA rfl) (ResOk.cell rfl (LV.agg Tryz.isAgg74 Tryz.sizeOf74 hasA rfl) ResOk.nil))) ⟨_, rfl, f.la, f.lc, f.sa, f.sc, _, by rw [hD]; rfl, by rw [hD]; exact ⟨.inl ⟨rfl, rfl⟩, .inl ⟨rfl, rfl⟩⟩, rfl⟩ (Le.trans leA (Le.stars_nil _))
  · skip
    refine xo 2 ?_
    refine XO.ef (Ef.box rfl) ?_
    rintro _ _ ⟨n67, rfl, rfl⟩
    refine XO.ef (Ef.box rfl) ?_
    rintro _ _ ⟨n68, rfl, rfl⟩
    refine XO.ef (Ef.box rfl) ?_
    rintro _ _ ⟨n69, rfl, rfl⟩
    refine XO.ef (Ef.box rfl) ?_
    rintro _ _ ⟨n70, rfl, rfl⟩
    refine XO.ef (Ef.alloc Tryz.zeroValue28) ?_
    rintro _ _ ⟨n71, rfl, rfl⟩
    refine XO.ef (Ef.alloc Tryz.zeroValue74) ?_
    rintro _ _ ⟨n72, rfl, rfl⟩
    refine ox 2 ?_
    refine X.draw [] Tryz.mixed (by kernel_rfl) (by kernel_rfl) rfl ?_
    refine dd [0] ?_
    refine XD.ld 1 Tryz.isAgg50 ?_
    refine dd [2] ?_
    refine XD.ld 3 Tryz.isAgg22 ?_
    refine dd [4, 5, 6] ?_
    refine XD.nil ?_
    refine xx 11 ?_
    refine X.know 20 (.bool false) rfl (congrArg Value.bool (by first | exact decide_eq_true (by omega) | exact decide_eq_false (by omega) | (rw [beq_iff_eq]; omega) | (rw [beq_eq_false_iff_ne]; omega) | (rw [bne_iff_ne]; omega) | (rw [bne_eq_false_iff_eq]; omega))) ?_
    refine xx 7 ?_
    refine X.sb [25, 19, 13, 12, 11, 10, 8, 7, 6, 4] ?_
    refine X.know 25 (.bool false) rfl (congrArg Value.bool (by first | exact decide_eq_true (by omega) | exact decide_eq_false (by omega) | (rw [beq_iff_eq]; omega) | (rw [beq_eq_false_iff_ne]; omega) | (rw [bne_iff_ne]; omega) | (rw [bne_eq_false_iff_eq]; omega))) ?_
    refine xx 5 ?_
    refine X.know 25 (.bool false) rfl (congrArg Value.bool (by first | exact decide_eq_true (by omega) | exact decide_eq_false (by omega) | (rw [beq_iff_eq]; omega) | (rw [beq_eq_false_iff_ne]; omega) | (rw [bne_iff_ne]; omega) | (rw [bne_eq_false_iff_eq]; omega))) ?_
    refine xx 6 ?_
    refine X.know 43 (.bool false) rfl (congrArg Value.bool (by first | exact decide_eq_true (by omega) | exact decide_eq_false (by omega) | (rw [beq_iff_eq]; omega) | (rw [beq_eq_false_iff_ne]; omega) | (rw [bne_iff_ne]; omega) | (rw [bne_eq_false_iff_eq]; omega))) ?_
    refine xx 6 ?_
    refine X.know 57 (.bool false) rfl (congrArg Value.bool (by first | exact decide_eq_true (by omega) | exact decide_eq_false (by omega) | (rw [beq_iff_eq]; omega) | (rw [beq_eq_false_iff_ne]; omega) | (rw [bne_iff_ne]; omega) | (rw [bne_eq_false_iff_eq]; omega))) ?_
    refine xx 6 ?_
    refine X.know 63 (.bool false) rfl (congrArg Value.bool (by first | exact decide_eq_true (by omega) | exact decide_eq_false (by omega) | (rw [beq_iff_eq]; omega) | (rw [beq_eq_false_iff_ne]; omega) | (rw [bne_iff_ne]; omega) | (rw [bne_eq_false_iff_eq]; omega))) ?_
    refine xx 6 ?_
    refine X.know 75 (.bool false) rfl (congrArg Value.bool (by first | exact decide_eq_true (by omega) | exact decide_eq_false (by omega) | (rw [beq_iff_eq]; omega) | (rw [beq_eq_false_iff_ne]; omega) | (rw [bne_iff_ne]; omega) | (rw [bne_eq_false_iff_eq]; omega))) ?_
    refine xx 6 ?_
    refine X.sb [79, 19, 13, 11, 10, 8, 7, 6, 4] ?_
    refine X.know 79 (.bool false) rfl (congrArg Value.bool (by first | exact decide_eq_true (by omega) | exact decide_eq_false (by omega) | (rw [beq_iff_eq]; omega) | (rw [beq_eq_false_iff_ne]; omega) | (rw [bne_iff_ne]; omega) | (rw [bne_eq_false_iff_eq]; omega))) ?_
    refine xx 7 ?_
    refine X.know 92 (.bool false) rfl (congrArg Value.bool (by first | exact decide_eq_true (by omega) | exact decide_eq_false (by omega) | (rw [beq_iff_eq]; omega) | (rw [beq_eq_false_iff_ne]; omega) | (rw [bne_iff_ne]; omega) | (rw [bne_eq_false_iff_eq]; omega))) ?_
    refine xx 6 ?_
    refine X.know 92 (.bool false) rfl (congrArg Value.bool (by first | exact decide_eq_true (by omega) | exact decide_eq_false (by omega) | (rw [beq_iff_eq]; omega) | (rw [beq_eq_false_iff_ne]; omega) | (rw [bne_iff_ne]; omega) | (rw [bne_eq_false_iff_eq]; omega))) ?_
    refine xx 6 ?_
    refine X.know 92 (.bool false) rfl (congrArg Value.bool (by first | exact decide_eq_true (by omega) | exact decide_eq_false (by omega) | (rw [beq_iff_eq]; omega) | (rw [beq_eq_false_iff_ne]; omega) | (rw [bne_iff_ne]; omega) | (rw [bne_eq_false_iff_eq]; omega))) ?_
    refine xx 6 ?_
    refine X.know 92 (.bool true) rfl (congrArg Value.bool (by first | exact decide_eq_true (by omega) | exact decide_eq_false (by omega) | (rw [beq_iff_eq]; omega) | (rw [beq_eq_false_iff_ne]; omega) | (rw [bne_iff_ne]; omega) | (rw [bne_eq_false_iff_eq]; omega))) ?_
    refine xx 4 ?_
    refine X.draw [] Tryz.mixed (by kernel_rfl) (by kernel_rfl) rfl ?_
    refine XD.loadA 0 rfl rfl Tryz.isAgg28 Tryz.sizeOf28 hasA (by rfl) ?_
    refine XD.loadA 1 rfl rfl Tryz.isAgg52 Tryz.sizeOf52 hasA (by rfl) ?_
    refine dd [2] ?_
    refine XD.ef0 3 rfl (Ef.stA Tryz.sizeOf28) ?_
    rintro _ _ ⟨rfl, rfl⟩
    refine ⟨hlA, ?_⟩
    refine XD.ef0 4 rfl (Ef.stA Tryz.sizeOf74) ?_
    rintro _ _ ⟨rfl, rfl⟩
    refine ⟨trivial, ?_⟩
    refine XD.nil ?_
    have hD : doS m x f.pc f.loc f.stk cells = ((f.pc + 1, f.loc, f.stk), dSync x 0) := by unfold doS; rw [if_neg (by omega), if_neg (by omega), if_neg (by omega), if_neg (by omega), if_neg (by omega), if_neg (by omega), if_pos (by omega)]
    refine X.retL (stars [] :: q) Tryz.func49 (resC Tryz.results49 (ResOk.cell rfl (LV.agg Tryz.isAgg28 Tryz.sizeOf28 hasA rfl) (ResOk.cell rfl (LV.agg Tryz.isAgg74 Tryz.sizeOf74 hasA rfl) ResOk.nil))) ⟨_, rfl, f.la, f.lc, f.sa, f.sc, _, by rw [hD]; rfl, by rw [hD]; exact ⟨.inl ⟨rfl, rfl⟩, .inl ⟨rfl, rfl⟩⟩, rfl⟩ (Le.trans leA (Le.stars_nil _))
  · skip
    refine xo 2 ?_
    refine XO.ef (Ef.box rfl) ?_
    rintro _ _ ⟨n73, rfl, rfl⟩
    refine XO.ef (Ef.box rfl) ?_
    rintro _ _ ⟨n74, rfl, rfl⟩
    refine XO.ef (Ef.box rfl) ?_
    rintro _ _ ⟨n75, rfl, rfl⟩
    refine XO.ef (Ef.box rfl) ?_
    rintro _ _ ⟨n76, rfl, rfl⟩
    refine XO.ef (Ef.alloc Tryz.zeroValue28) ?_
    rintro _ _ ⟨n77, rfl, rfl⟩
    refine XO.ef (Ef.alloc Tryz.zeroValue74) ?_
    rintro _ _ ⟨n78, rfl, rfl⟩
    refine ox 2 ?_
    refine X.draw [] Tryz.mixed (by kernel_rfl) (by kernel_rfl) rfl ?_
    refine dd [0] ?_
    refine XD.ld 1 Tryz.isAgg50 ?_
    refine dd [2] ?_
    refine XD.ld 3 Tryz.isAgg22 ?_
    refine dd [4, 5, 6] ?_
    refine XD.nil ?_
    refine xx 11 ?_
    refine X.know 20 (.bool false) rfl (congrArg Value.bool (by first | exact decide_eq_true (by omega) | exact decide_eq_false (by omega) | (rw [beq_iff_eq]; omega) | (rw [beq_eq_false_iff_ne]; omega) | (rw [bne_iff_ne]; omega) | (rw [bne_eq_false_iff_eq]; omega))) ?_
    refine xx 7 ?_
    refine X.sb [25, 19, 13, 12, 11, 10, 8, 7, 6, 4] ?_
    refine X.know 25 (.bool false) rfl (congrArg Value.bool (by first | exact decide_eq_true (by omega) | exact decide_eq_false (by omega) | (rw [beq_iff_eq]; omega) | (rw [beq_eq_false_iff_ne]; omega) | (rw [bne_iff_ne]; omega) | (rw [bne_eq_false_iff_eq]; omega))) ?_
    refine xx 5 ?_
    refine X.know 25 (.bool false) rfl (congrArg Value.bool (by first | exact decide_eq_true (by omega) | exact decide_eq_false (by omega) | (rw [beq_iff_eq]; omega) | (rw [beq_eq_false_iff_ne]; omega) | (rw [bne_iff_ne]; omega) | (rw [bne_eq_false_iff_eq]; omega))) ?_
    refine xx 6 ?_
    refine X.know 43 (.bool false) rfl (congrArg Value.bool (by first | exact decide_eq_true (by omega) | exact decide_eq_false (by omega) | (rw [beq_iff_eq]; omega) | (rw [beq_eq_false_iff_ne]; omega) | (rw [bne_iff_ne]; omega) | (rw [bne_eq_false_iff_eq]; omega))) ?_
    refine xx 6 ?_
    refine X.know 57 (.bool false) rfl (congrArg Value.bool (by first | exact decide_eq_true (by omega) | exact decide_eq_false (by omega) | (rw [beq_iff_eq]; omega) | (rw [beq_eq_false_iff_ne]; omega) | (rw [bne_iff_ne]; omega) | (rw [bne_eq_false_iff_eq]; omega))) ?_
    refine xx 6 ?_
    refine X.know 63 (.bool false) rfl (congrArg Value.bool (by first | exact decide_eq_true (by omega) | exact decide_eq_false (by omega) | (rw [beq_iff_eq]; omega) | (rw [beq_eq_false_iff_ne]; omega) | (rw [bne_iff_ne]; omega) | (rw [bne_eq_false_iff_eq]; omega))) ?_
    refine xx 6 ?_
    refine X.know 75 (.bool false) rfl (congrArg Value.bool (by first | exact decide_eq_true (by omega) | exact decide_eq_false (by omega) | (rw [beq_iff_eq]; omega) | (rw [beq_eq_false_iff_ne]; omega) | (rw [bne_iff_ne]; omega) | (rw [bne_eq_false_iff_eq]; omega))) ?_
    refine xx 6 ?_
    refine X.sb [79, 19, 13, 11, 10, 8, 7, 6, 4] ?_
    refine X.know 79 (.bool false) rfl (congrArg Value.bool (by first | exact decide_eq_true (by omega) | exact decide_eq_false (by omega) | (rw [beq_iff_eq]; omega) | (rw [beq_eq_false_iff_ne]; omega) | (rw [bne_iff_ne]; omega) | (rw [bne_eq_false_iff_eq]; omega))) ?_
    refine xx 7 ?_
    refine X.know 92 (.bool false) rfl (congrArg Value.bool (by first | exact decide_eq_true (by omega) | exact decide_eq_false (by omega) | (rw [beq_iff_eq]; omega) | (rw [beq_eq_false_iff_ne]; omega) | (rw [bne_iff_ne]; omega) | (rw [bne_eq_false_iff_eq]; omega))) ?_
    refine xx 6 ?_
    refine X.know 92 (.bool false) rfl (congrArg Value.bool (by first | exact decide_eq_true (by omega) | exact decide_eq_false (by omega) | (rw [beq_iff_eq]; omega) | (rw [beq_eq_false_iff_ne]; omega) | (rw [bne_iff_ne]; omega) | (rw [bne_eq_false_iff_eq]; omega))) ?_
    refine xx 6 ?_
    refine X.know 92 (.bool false) rfl (congrArg Value.bool (by first | exact decide_eq_true (by omega) | exact decide_eq_false (by omega) | (rw [beq_iff_eq]; omega) | (rw [beq_eq_false_iff_ne]; omega) | (rw [bne_iff_ne]; omega) | (rw [bne_eq_false_iff_eq]; omega))) ?_
    refine xx 6 ?_
    refine X.know 92 (.bool false) rfl (congrArg Value.bool (by first | exact decide_eq_true (by omega) | exact decide_eq_false (by omega) | (rw [beq_iff_eq]; omega) | (rw [beq_eq_false_iff_ne]; omega) | (rw [bne_iff_ne]; omega) | (rw [bne_eq_false_iff_eq]; omega))) ?_
    refine xx 6 ?_
    refine X.know 92 (.bool true) rfl (congrArg Value.bool (by first | exact decide_eq_true (by omega) | exact decide_eq_false (by omega) | (rw [beq_iff_eq]; omega) | (rw [beq_eq_false_iff_ne]; omega) | (rw [bne_iff_ne]; omega) | (rw [bne_eq_false_iff_eq]; omega))) ?_
    refine xx 4 ?_
    refine X.draw [] Tryz.mixed (by kernel_rfl) (by kernel_rfl) rfl ?_
    refine XD.loadA 0 rfl rfl Tryz.isAgg28 Tryz.sizeOf28 hasA (by rfl) ?_
    refine XD.loadA 1 rfl rfl Tryz.isAgg52 Tryz.sizeOf52 hasA (by rfl) ?_
    refine dd [2] ?_
    refine XD.ef0 3 rfl (Ef.stA Tryz.sizeOf28) ?_
    rintro _ _ ⟨rfl, rfl⟩
    refine ⟨hlA, ?_⟩
    refine XD.ef0 4 rfl (Ef.stA Tryz.sizeOf74) ?_
    rintro _ _ ⟨rfl, rfl⟩
    refine ⟨trivial, ?_⟩
    refine XD.nil ?_
    have hD : doS m x f.pc f.loc f.stk cells = ((f.pc + 1, f.loc, f.stk), dSync x 0) := by unfold doS; rw [if_neg (by omega), if_neg (by omega), if_neg (by omega), if_neg (by omega), if_neg (by omega), if_neg (by omega), if_pos (by omega)]
    refine X.retL (stars [] :: q) Tryz.func49 (resC Tryz.results49 (ResOk.cell rfl (LV.agg Tryz.isAgg28 Tryz.sizeOf28 hasA rfl) (ResOk.cell rfl (LV.agg Tryz.isAgg74 Tryz.sizeOf74 hasA rfl) ResOk.nil))) ⟨_, rfl, f.la, f.lc, f.sa, f.sc, _, by rw [hD]; rfl, by rw [hD]; exact ⟨.inl ⟨rfl, rfl⟩, .inl ⟨rfl, rfl⟩⟩, rfl⟩ (Le.trans leA (Le.stars_nil _))
  · skip
    refine xo 2 ?_
    refine XO.ef (Ef.box rfl) ?_
    rintro _ _ ⟨n79, rfl, rfl⟩
    refine XO.ef (Ef.box rfl) ?_
    rintro _ _ ⟨n80, rfl, rfl⟩
    refine XO.ef (Ef.box rfl) ?_
    rintro _ _ ⟨n81, rfl, rfl⟩
    refine XO.ef (Ef.box rfl) ?_
    rintro _ _ ⟨n82, rfl, rfl⟩
    refine XO.ef (Ef.alloc Tryz.zeroValue28) ?_
    rintro _ _ ⟨n83, rfl, rfl⟩
    refine XO.ef (Ef.alloc Tryz.zeroValue74) ?_
    rintro _ _ ⟨n84, rfl, rfl⟩
    refine ox 2 ?_
    refine X.draw [] Tryz.mixed (by kernel_rfl) (by kernel_rfl) rfl ?_
    refine dd [0] ?_
    refine XD.ld 1 Tryz.isAgg50 ?_
    refine dd [2] ?_
    refine XD.ld 3 Tryz.isAgg22 ?_
    refine dd [4, 5, 6] ?_
    refine XD.nil ?_
    refine xx 11 ?_
    refine X.know 20 (.bool false) rfl (congrArg Value.bool (by first | exact decide_eq_true (by omega) | exact decide_eq_false (by omega) | (rw [beq_iff_eq]; omega) | (rw [beq_eq_false_iff_ne]; omega) | (rw [bne_iff_ne]; omega) | (rw [bne_eq_false_iff_eq]; omega))) ?_
    refine xx 7 ?_
    refine X.sb [25, 19, 13, 12, 11, 10, 8, 7, 6, 4] ?_
    refine X.know 25 (.bool false) rfl (congrArg Value.bool (by first | exact decide_eq_true (by omega) | exact decide_eq_false (by omega) | (rw [beq_iff_eq]; omega) | (rw [beq_eq_false_iff_ne]; omega) | (rw [bne_iff_ne]; omega) | (rw [bne_eq_false_iff_eq]; omega))) ?_
    refine xx 5 ?_
    refine X.know 25 (.bool false) rfl (congrArg Value.bool (by first | exact decide_eq_true (by omega) | exact decide_eq_false (by omega) | (rw [beq_iff_eq]; omega) | (rw [beq_eq_false_iff_ne]; omega) | (rw [bne_iff_ne]; omega) | (rw [bne_eq_false_iff_eq]; omega))) ?_
    refine xx 6 ?_
    refine X.know 43 (.bool false) rfl (congrArg Value.bool (by first | exact decide_eq_true (by omega) | exact decide_eq_false (by omega) | (rw [beq_iff_eq]; omega) | (rw [beq_eq_false_iff_ne]; omega) | (rw [bne_iff_ne]; omega) | (rw [bne_eq_false_iff_eq]; omega))) ?_
    refine xx 6 ?_
    refine X.know 57 (.bool false) rfl (congrArg Value.bool (by first | exact decide_eq_true (by omega) | exact decide_eq_false (by omega) | (rw [beq_iff_eq]; omega) | (rw [beq_eq_false_iff_ne]; omega) | (rw [bne_iff_ne]; omega) | (rw [bne_eq_false_iff_eq]; omega))) ?_
    refine xx 6 ?_
    refine X.know 63 (.bool false) rfl (congrArg Value.bool (by first | exact decide_eq_true (by omega) | exact decide_eq_false (by omega) | (rw [beq_iff_eq]; omega) | (rw [beq_eq_false_iff_ne]; omega) | (rw [bne_iff_ne]; omega) | (rw [bne_eq_false_iff_eq]; omega))) ?_
    refine xx 6 ?_
    refine X.know 75 (.bool false) rfl (congrArg Value.bool (by first | exact decide_eq_true (by omega) | exact decide_eq_false (by omega) | (rw [beq_iff_eq]; omega) | (rw [beq_eq_false_iff_ne]; omega) | (rw [bne_iff_ne]; omega) | (rw [bne_eq_false_iff_eq]; omega))) ?_
    refine xx 6 ?_
    refine X.sb [79, 19, 13, 11, 10, 8, 7, 6, 4] ?_
    refine X.know 79 (.bool false) rfl (congrArg Value.bool (by first | exact decide_eq_true (by omega) | exact decide_eq_false (by omega) | (rw [beq_iff_eq]; omega) | (rw [beq_eq_false_iff_ne]; omega) | (rw [bne_iff_ne]; omega) | (rw [bne_eq_false_iff_eq]; omega))) ?_
    refine xx 7 ?_
    refine X.know 92 (.bool false) rfl (congrArg Value.bool (by first | exact decide_eq_true (by omega) | exact decide_eq_false (by omega) | (rw [beq_iff_eq]; omega) | (rw [beq_eq_false_iff_ne]; omega) | (rw [bne_iff_ne]; omega) | (rw [bne_eq_false_iff_eq]; omega))) ?_
    refine xx 6 ?_
    refine X.know 92 (.bool false) rfl (congrArg Value.bool (by first | exact decide_eq_true (by omega) | exact decide_eq_false (by omega) | (rw [beq_iff_eq]; omega) | (rw [beq_eq_false_iff_ne]; omega) | (rw [bne_iff_ne]; omega) | (rw [bne_eq_false_iff_eq]; omega))) ?_
    refine xx 6 ?_
    refine X.know 92 (.bool false) rfl (congrArg Value.bool (by first | exact decide_eq_true (by omega) | exact decide_eq_false (by omega) | (rw [beq_iff_eq]; omega) | (rw [beq_eq_false_iff_ne]; omega) | (rw [bne_iff_ne]; omega) | (rw [bne_eq_false_iff_eq]; omega))) ?_
    refine xx 6 ?_
    refine X.know 92 (.bool false) rfl (congrArg Value.bool (by first | exact decide_eq_true (by omega) | exact decide_eq_false (by omega) | (rw [beq_iff_eq]; omega) | (rw [beq_eq_false_iff_ne]; omega) | (rw [bne_iff_ne]; omega) | (rw [bne_eq_false_iff_eq]; omega))) ?_
    refine xx 6 ?_
    refine X.know 92 (.bool false) rfl (congrArg Value.bool (by first | exact decide_eq_true (by omega) | exact decide_eq_false (by omega) | (rw [beq_iff_eq]; omega) | (rw [beq_eq_false_iff_ne]; omega) | (rw [bne_iff_ne]; omega) | (rw [bne_eq_false_iff_eq]; omega))) ?_
    refine xx 6 ?_
    refine X.sb [92, 19, 11, 10, 8, 7] ?_
    refine X.know 92 (.bool true) rfl (congrArg Value.bool (by first | exact decide_eq_true (by omega) | exact decide_eq_false (by omega) | (rw [beq_iff_eq]; omega) | (rw [beq_eq_false_iff_ne]; omega) | (rw [bne_iff_ne]; omega) | (rw [bne_eq_false_iff_eq]; omega))) ?_
    refine xx 4 ?_
    refine X.draw [] Tryz.mixed (by kernel_rfl) (by kernel_rfl) rfl ?_
    refine XD.loadA 0 rfl rfl Tryz.isAgg28 Tryz.sizeOf28 hasA (by rfl) ?_
    refine XD.loadA 1 rfl rfl Tryz.isAgg52 Tryz.sizeOf52 hasA (by rfl) ?_
    refine dd [2] ?_
    refine XD.ef0 3 rfl (Ef.stA Tryz.sizeOf28) ?_
    rintro _ _ ⟨rfl, rfl⟩
    refine ⟨hlA, ?_⟩
    refine XD.ef0 4 rfl (Ef.stA Tryz.sizeOf74) ?_
    rintro _ _ ⟨rfl, rfl⟩
    refine ⟨trivial, ?_⟩
    refine XD.nil ?_
    have hD : doS m x f.pc f.loc f.stk cells = ((f.pc + 1, f.loc, f.stk), dSync x 0) := by unfold doS; rw [if_neg (by omega), if_neg (by omega), if_neg (by omega), if_neg (by omega), if_neg (by omega), if_neg (by omega), if_pos (by omega)]
    refine X.retL (stars [] :: q) Tryz.func49 (resC Tryz.results49 (ResOk.cell rfl (LV.agg Tryz.isAgg28 Tryz.sizeOf28 hasA rfl) (ResOk.cell rfl (LV.agg Tryz.isAgg74 Tryz.sizeOf74 hasA rfl) ResOk.nil))) ⟨_, rfl, f.la, f.lc, f.sa, f.sc, _, by rw [hD]; rfl, by rw [hD]; exact ⟨.inl ⟨rfl, rfl⟩, .inl ⟨rfl, rfl⟩⟩, rfl⟩ (Le.trans leA (Le.stars_nil _))
  · skip
    refine xo 2 ?_
    refine XO.ef (Ef.box rfl) ?_
    rintro _ _ ⟨n85, rfl, rfl⟩
    refine XO.ef (Ef.box rfl) ?_
    rintro _ _ ⟨n86, rfl, rfl⟩
    refine XO.ef (Ef.box rfl) ?_
    rintro _ _ ⟨n87, rfl, rfl⟩
    refine XO.ef (Ef.box rfl) ?_
    rintro _ _ ⟨n88, rfl, rfl⟩
    refine XO.ef (Ef.alloc Tryz.zeroValue28) ?_
    rintro _ _ ⟨n89, rfl, rfl⟩
    refine XO.ef (Ef.alloc Tryz.zeroValue74) ?_
    rintro _ _ ⟨n90, rfl, rfl⟩
    refine ox 2 ?_
    refine X.draw [] Tryz.mixed (by kernel_rfl) (by kernel_rfl) rfl ?_
    refine dd [0] ?_
    refine XD.ld 1 Tryz.isAgg50 ?_
    refine dd [2] ?_
    refine XD.ld 3 Tryz.isAgg22 ?_
    refine dd [4, 5, 6] ?_
    refine XD.nil ?_
    refine xx 11 ?_
    refine X.know 20 (.bool false) rfl (congrArg Value.bool (by first | exact decide_eq_true (by omega) | exact decide_eq_false (by omega) | (rw [beq_iff_eq]; omega) | (rw [beq_eq_false_iff_ne]; omega) | (rw [bne_iff_ne]; omega) | (rw [bne_eq_false_iff_eq]; omega))) ?_
    refine xx 7 ?_
    refine X.sb [25, 19, 13, 12, 11, 10, 8, 7, 6, 4] ?_
    refine X.know 25 (.bool false) rfl (congrArg Value.bool (by first | exact decide_eq_true (by omega) | exact decide_eq_false (by omega) | (rw [beq_iff_eq]; omega) | (rw [beq_eq_false_iff_ne]; omega) | (rw [bne_iff_ne]; omega) | (rw [bne_eq_false_iff_eq]; omega))) ?_
    refine xx 5 ?_
    refine X.know 25 (.bool false) rfl (congrArg Value.bool (by first | exact decide_eq_true (by omega) | exact decide_eq_false (by omega) | (rw [beq_iff_eq]; omega) | (rw [beq_eq_false_iff_ne]; omega) | (rw [bne_iff_ne]; omega) | (rw [bne_eq_false_iff_eq]; omega))) ?_
    refine xx 6 ?_
    refine X.know 43 (.bool false) rfl (congrArg Value.bool (by first | exact decide_eq_true (by omega) | exact decide_eq_false (by omega) | (rw [beq_iff_eq]; omega) | (rw [beq_eq_false_iff_ne]; omega) | (rw [bne_iff_ne]; omega) | (rw [bne_eq_false_iff_eq]; omega))) ?_
    refine xx 6 ?_
    refine X.know 57 (.bool false) rfl (congrArg Value.bool (by first | exact decide_eq_true (by omega) | exact decide_eq_false (by omega) | (rw [beq_iff_eq]; omega) | (rw [beq_eq_false_iff_ne]; omega) | (rw [bne_iff_ne]; omega) | (rw [bne_eq_false_iff_eq]; omega))) ?_
    refine xx 6 ?_
    refine X.know 63 (.bool false) rfl (congrArg Value.bool (by first | exact decide_eq_true (by omega) | exact decide_eq_false (by omega) | (rw [beq_iff_eq]; omega) | (rw [beq_eq_false_iff_ne]; omega) | (rw [bne_iff_ne]; omega) | (rw [bne_eq_false_iff_eq]; omega))) ?_
    refine xx 6 ?_
    refine X.know 75 (.bool false) rfl (congrArg Value.bool (by first | exact decide_eq_true (by omega) | exact decide_eq_false (by omega) | (rw [beq_iff_eq]; omega) | (rw [beq_eq_false_iff_ne]; omega) | (rw [bne_iff_ne]; omega) | (rw [bne_eq_false_iff_eq]; omega))) ?_
    refine xx 6 ?_
    refine X.sb [79, 19, 13, 11, 10, 8, 7, 6, 4] ?_
    refine X.know 79 (.bool false) rfl (congrArg Value.bool (by first | exact decide_eq_true (by omega) | exact decide_eq_false (by omega) | (rw [beq_iff_eq]; omega) | (rw [beq_eq_false_iff_ne]; omega) | (rw [bne_iff_ne]; omega) | (rw [bne_eq_false_iff_eq]; omega))) ?_
    refine xx 7 ?_
    refine X.know 92 (.bool false) rfl (congrArg Value.bool (by first | exact decide_eq_true (by omega) | exact decide_eq_false (by omega) | (rw [beq_iff_eq]; omega) | (rw [beq_eq_false_iff_ne]; omega) | (rw [bne_iff_ne]; omega) | (rw [bne_eq_false_iff_eq]; omega))) ?_
    refine xx 6 ?_
    refine X.know 92 (.bool false) rfl (congrArg Value.bool (by first | exact decide_eq_true (by omega) | exact decide_eq_false (by omega) | (rw [beq_iff_eq]; omega) | (rw [beq_eq_false_iff_ne]; omega) | (rw [bne_iff_ne]; omega) | (rw [bne_eq_false_iff_eq]; omega))) ?_
    refine xx 6 ?_
    refine X.know 92 (.bool false) rfl (congrArg Value.bool (by first | exact decide_eq_true (by omega) | exact decide_eq_false (by omega) | (rw [beq_iff_eq]; omega) | (rw [beq_eq_false_iff_ne]; omega) | (rw [bne_iff_ne]; omega) | (rw [bne_eq_false_iff_eq]; omega))) ?_
    refine xx 6 ?_
    refine X.know 92 (.bool false) rfl (congrArg Value.bool (by first | exact decide_eq_true (by omega) | exact decide_eq_false (by omega) | (rw [beq_iff_eq]; omega) | (rw [beq_eq_false_iff_ne]; omega) | (rw [bne_iff_ne]; omega) | (rw [bne_eq_false_iff_eq]; omega))) ?_
    refine xx 6 ?_
    refine X.know 92 (.bool false) rfl (congrArg Value.bool (by first | exact decide_eq_true (by omega) | exact decide_eq_false (by omega) | (rw [beq_iff_eq]; omega) | (rw [beq_eq_false_iff_ne]; omega) | (rw [bne_iff_ne]; omega) | (rw [bne_eq_false_iff_eq]; omega))) ?_
    refine xx 6 ?_
    refine X.sb [92, 19, 11, 10, 8, 7] ?_
    refine X.know 92 (.bool false) rfl (congrArg Value.bool (by first | exact decide_eq_true (by omega) | exact decide_eq_false (by omega) | (rw [beq_iff_eq]; omega) | (rw [beq_eq_false_iff_ne]; omega) | (rw [bne_iff_ne]; omega) | (rw [bne_eq_false_iff_eq]; omega))) ?_
    refine xx 6 ?_
    refine X.know 92 (.bool true) rfl (congrArg Value.bool (by first | exact decide_eq_true (by omega) | exact decide_eq_false (by omega) | (rw [beq_iff_eq]; omega) | (rw [beq_eq_false_iff_ne]; omega) | (rw [bne_iff_ne]; omega) | (rw [bne_eq_false_iff_eq]; omega))) ?_
    refine xx 4 ?_
    refine X.draw [] Tryz.mixed (by kernel_rfl) (by kernel_rfl) rfl ?_
    refine XD.loadA 0 rfl rfl Tryz.isAgg28 Tryz.sizeOf28 hasA (by rfl) ?_
    refine XD.loadA 1 rfl rfl Tryz.isAgg52 Tryz.sizeOf52 hasA (by rfl) ?_
    refine dd [2] ?_
    refine XD.ef0 3 rfl (Ef.stA Tryz.sizeOf28) ?_
    rintro _ _ ⟨rfl, rfl⟩
    refine ⟨hlA, ?_⟩
    refine XD.ef0 4 rfl (Ef.stA Tryz.sizeOf74) ?_
    rintro _ _ ⟨rfl, rfl⟩
    refine ⟨trivial, ?_⟩
    refine XD.nil ?_
    have hD : doS m x f.pc f.loc f.stk cells = ((f.pc + 1, f.loc, f.stk), dSync x 0) := by unfold doS; rw [if_neg (by omega), if_neg (by omega), if_neg (by omega), if_neg (by omega), if_neg (by omega), if_neg (by omega), if_pos (by omega)]
    refine X.retL (stars [] :: q) Tryz.func49 (resC Tryz.results49 (ResOk.cell rfl (LV.agg Tryz.isAgg28 Tryz.sizeOf28 hasA rfl) (ResOk.cell rfl (LV.agg Tryz.isAgg74 Tryz.sizeOf74 hasA rfl) ResOk.nil))) ⟨_, rfl, f.la, f.lc, f.sa, f.sc, _, by rw [hD]; rfl, by rw [hD]; exact ⟨.inl ⟨rfl, rfl⟩, .inl ⟨rfl, rfl⟩⟩, rfl⟩ (Le.trans leA (Le.stars_nil _))
  · skip
    refine xo 2 ?_
    refine XO.ef (Ef.box rfl) ?_
    rintro _ _ ⟨n91, rfl, rfl⟩
    refine XO.ef (Ef.box rfl) ?_
    rintro _ _ ⟨n92, rfl, rfl⟩
    refine XO.ef (Ef.box rfl) ?_
    rintro _ _ ⟨n93, rfl, rfl⟩
    refine XO.ef (Ef.box rfl) ?_
    rintro _ _ ⟨n94, rfl, rfl⟩
    refine XO.ef (Ef.alloc Tryz.zeroValue28) ?_
    rintro _ _ ⟨n95, rfl, rfl⟩
    refine XO.ef (Ef.alloc Tryz.zeroValue74) ?_
    rintro _ _ ⟨n96, rfl, rfl⟩
    refine ox 2 ?_
    refine X.draw [] Tryz.mixed (by kernel_rfl) (by kernel_rfl) rfl ?_
    refine dd [0] ?_
    refine XD.ld 1 Tryz.isAgg50 ?_
    refine dd [2] ?_
    refine XD.ld 3 Tryz.isAgg22 ?_
    refine dd [4, 5, 6] ?_
    refine XD.nil ?_
    refine xx 11 ?_
    refine X.know 20 (.bool false) rfl (congrArg Value.bool (by first | exact decide_eq_true (by omega) | exact decide_eq_false (by omega) | (rw [beq_iff_eq]; omega) | (rw [beq_eq_false_iff_ne]; omega) | (rw [bne_iff_ne]; omega) | (rw [bne_eq_false_iff_eq]; omega))) ?_
    refine xx 7 ?_
    refine X.sb [25, 19, 13, 12, 11, 10, 8, 7, 6, 4] ?_
    refine X.know 25 (.bool false) rfl (congrArg Value.bool (by first | exact decide_eq_true (by omega) | exact decide_eq_false (by omega) | (rw [beq_iff_eq]; omega) | (rw [beq_eq_false_iff_ne]; omega) | (rw [bne_iff_ne]; omega) | (rw [bne_eq_false_iff_eq]; omega))) ?_
    refine xx 5 ?_
    refine X.know 25 (.bool false) rfl (congrArg Value.bool (by first | exact decide_eq_true (by omega) | exact decide_eq_false (by omega) | (rw [beq_iff_eq]; omega) | (rw [beq_eq_false_iff_ne]; omega) | (rw [bne_iff_ne]; omega) | (rw [bne_eq_false_iff_eq]; omega))) ?_
    refine xx 6 ?_
    refine X.know 43 (.bool false) rfl (congrArg Value.bool (by first | exact decide_eq_true (by omega) | exact decide_eq_false (by omega) | (rw [beq_iff_eq]; omega) | (rw [beq_eq_false_iff_ne]; omega) | (rw [bne_iff_ne]; omega) | (rw [bne_eq_false_iff_eq]; omega))) ?_
    refine xx 6 ?_
    refine X.know 57 (.bool false) rfl (congrArg Value.bool (by first | exact decide_eq_true (by omega) | exact decide_eq_false (by omega) | (rw [beq_iff_eq]; omega) | (rw [beq_eq_false_iff_ne]; omega) | (rw [bne_iff_ne]; omega) | (rw [bne_eq_false_iff_eq]; omega))) ?_
    refine xx 6 ?_
    refine X.know 63 (.bool false) rfl (congrArg Value.bool (by first | exact decide_eq_true (by omega) | exact decide_eq_false (by omega) | (rw [beq_iff_eq]; omega) | (rw [beq_eq_false_iff_ne]; omega) | (rw [bne_iff_ne]; omega) | (rw [bne_eq_false_iff_eq]; omega))) ?_
    refine xx 6 ?_
    refine X.know 75 (.bool false) rfl (congrArg Value.bool (by first | exact decide_eq_true (by omega) | exact decide_eq_false (by omega) | (rw [beq_iff_eq]; omega) | (rw [beq_eq_false_iff_ne]; omega) | (rw [bne_iff_ne]; omega) | (rw [bne_eq_false_iff_eq]; omega))) ?_
    refine xx 6 ?_
    refine X.sb [79, 19, 13, 11, 10, 8, 7, 6, 4] ?_
    refine X.know 79 (.bool false) rfl (congrArg Value.bool (by first | exact decide_eq_true (by omega) | exact decide_eq_false (by omega) | (rw [beq_iff_eq]; omega) | (rw [beq_eq_false_iff_ne]; omega) | (rw [bne_iff_ne]; omega) | (rw [bne_eq_false_iff_eq]; omega))) ?_
    refine xx 7 ?_
    refine X.know 92 (.bool false) rfl (congrArg Value.bool (by first | exact decide_eq_true (by omega) | exact decide_eq_false (by omega) | (rw [beq_iff_eq]; omega) | (rw [beq_eq_false_iff_ne]; omega) | (rw [bne_iff_ne]; omega) | (rw [bne_eq_false_iff_eq]; omega))) ?_
    refine xx 6 ?_
    refine X.know 92 (.bool false) rfl (congrArg Value.bool (by first | exact decide_eq_true (by omega) | exact decide_eq_false (by omega) | (rw [beq_iff_eq]; omega) | (rw [beq_eq_false_iff_ne]; omega) | (rw [bne_iff_ne]; omega) | (rw [bne_eq_false_iff_eq]; omega))) ?_
    refine xx 6 ?_
    refine X.know 92 (.bool false) rfl (congrArg Value.bool (by first | exact decide_eq_true (by omega) | exact decide_eq_false (by omega) | (rw [beq_iff_eq]; omega) | (rw [beq_eq_false_iff_ne]; omega) | (rw [bne_iff_ne]; omega) | (rw [bne_eq_false_iff_eq]; omega))) ?_
    refine xx 6 ?_
    refine X.know 92 (.bool false) rfl (congrArg Value.bool (by first | exact decide_eq_true (by omega) | exact decide_eq_false (by omega) | (rw [beq_iff_eq]; omega) | (rw [beq_eq_false_iff_ne]; omega) | (rw [bne_iff_ne]; omega) | (rw [bne_eq_false_iff_eq]; omega))) ?_
    refine xx 6 ?_
    refine X.know 92 (.bool false) rfl (congrArg Value.bool (by first | exact decide_eq_true (by omega) | exact decide_eq_false (by omega) | (rw [beq_iff_eq]; omega) | (rw [beq_eq_false_iff_ne]; omega) | (rw [bne_iff_ne]; omega) | (rw [bne_eq_false_iff_eq]; omega))) ?_
    refine xx 6 ?_
    refine X.sb [92, 19, 11, 10, 8, 7] ?_
    refine X.know 92 (.bool false) rfl (congrArg Value.bool (by first | exact decide_eq_true (by omega) | exact decide_eq_false (by omega) | (rw [beq_iff_eq]; omega) | (rw [beq_eq_false_iff_ne]; omega) | (rw [bne_iff_ne]; omega) | (rw [bne_eq_false_iff_eq]; omega))) ?_
    refine xx 6 ?_
    refine X.know 92 (.bool false) rfl (congrArg Value.bool (by first | exact decide_eq_true (by omega) | exact decide_eq_false (by omega) | (rw [beq_iff_eq]; omega) | (rw [beq_eq_false_iff_ne]; omega) | (rw [bne_iff_ne]; omega) | (rw [bne_eq_false_iff_eq]; omega))) ?_
    refine xx 5 ?_
    refine X.know 92 (.bool true) rfl (congrArg Value.bool (by first | exact decide_eq_true (by omega) | exact decide_eq_false (by omega) | (rw [beq_iff_eq]; omega) | (rw [beq_eq_false_iff_ne]; omega) | (rw [bne_iff_ne]; omega) | (rw [bne_eq_false_iff_eq]; omega))) ?_
    refine xx 2 ?_
    refine X.draw [] Tryz.mixed (by kernel_rfl) (by kernel_rfl) rfl ?_
    refine XD.loadA 0 rfl rfl Tryz.isAgg28 Tryz.sizeOf28 hasA (by rfl) ?_
    refine XD.loadA 1 rfl rfl Tryz.isAgg52 Tryz.sizeOf52 hasA (by rfl) ?_
    refine dd [2] ?_
    refine XD.ef0 3 rfl (Ef.stA Tryz.sizeOf28) ?_
    rintro _ _ ⟨rfl, rfl⟩
    refine ⟨hlA, ?_⟩
    refine XD.ef0 4 rfl (Ef.stA Tryz.sizeOf74) ?_
    rintro _ _ ⟨rfl, rfl⟩
    refine ⟨trivial, ?_⟩
    refine XD.nil ?_
    have hD : doS m x f.pc f.loc f.stk cells = ((f.pc + 1, f.loc, f.stk), dSync x 0) := by unfold doS; rw [if_neg (by omega), if_neg (by omega), if_neg (by omega), if_neg (by omega), if_neg (by omega), if_neg (by omega), if_pos (by omega)]
    refine X.retL (stars [] :: q) Tryz.func49 (resC Tryz.results49 (ResOk.cell rfl (LV.agg Tryz.isAgg28 Tryz.sizeOf28 hasA rfl) (ResOk.cell rfl (LV.agg Tryz.isAgg74 Tryz.sizeOf74 hasA rfl) ResOk.nil))) ⟨_, rfl, f.la, f.lc, f.sa, f.sc, _, by rw [hD]; rfl, by rw [hD]; exact ⟨.inl ⟨rfl, rfl⟩, .inl ⟨rfl, rfl⟩⟩, rfl⟩ (Le.trans leA (Le.stars_nil _))
end
end Go.Proofs.YtcklgodcjnnllaaGreatDoor

