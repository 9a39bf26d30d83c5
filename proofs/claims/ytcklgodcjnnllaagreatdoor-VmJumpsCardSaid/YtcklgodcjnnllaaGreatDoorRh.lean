/- What functions of package vm, of its references and of its laws do: contracts of calls, proved by walking their code. -/
import Derived.Test.YtcklgodcjnnllaaGreatDoorRf
import Derived.Test.YtcklgodcjnnllaaGreatDoorWe
import Derived.KernelRfl
set_option maxRecDepth 100000
set_option linter.unusedVariables false
set_option linter.unusedSimpArgs false
namespace Go.Proofs.YtcklgodcjnnllaaGreatDoor
open Go Go.RowKit Wx
attribute [local irreducible] Wx.lsH Wx.rsH Wx.lsM Wx.rsM Wx.stars

theorem Tryz.info50 : (Tryz.prog.info? 50).map (fun i => (i.zero, i.size, i.bytes)) = some (some (.int .i64 0), 1, 8) := by kernel_rfl
section
variable {G : World} {q pre : List HP} {a b A : Option Addr} {c d C p p0 p1 p2 i : Nat} {lo hi n cd dep : Int} {fv : Value} {x y : Ins} {t : Cod} {m : Mdl} {at_ : Int}
variable {l cells loc : List Int} {idx arr z k u pc code : Int} {x1 x2 x3 x4 x5 x6 old : Value} {pm cc lc n1 n2 : Nat} {la cda : Option Addr}
variable {f f2 : Frm} {tt kd : Int}
set_option maxHeartbeats 16000000 in
theorem vmJumps_ok (gc : GC q) (g : GE q) (ht : 0 ≤ tt ∧ tt < 256) (hkd : 0 ≤ kd ∧ kd < 256) : CallF Tryz.prog G 6 [.int .i64 z, .int .u8 tt, .int .u8 kd] (q) (Ret fun v q' => v = .bool true ∧ q' = q) := by
  refine CallF.of Tryz.func6 Tryz.ntmps6 rfl (fun F cs => ?_)
  refine xo 8 ?_
  refine XO.ef (Ef.litL I64 [z] Tryz.underlying22 Tryz.info2 rfl rfl rfl rfl rfl rfl (fun _ => rfl)) ?_
  rintro _ _ ⟨gz11, rfl, rfl⟩
  refine XO.cR Tryz.call13 (RValues_ok (l := [z]) ((Sees.lsH _).le fndA) (show 1 ≤ 9223372036854775807 by decide)) ?_
  refine XO.pu (Pu.not rfl) ?_
  refine ox 1 ?_
  refine X.part 13 rfl (fun h1 => ?_) (fun h1 => ?_)
  · skip
    replace h1 := sp h1
    refine xo 3 ?_
    refine XO.cR Tryz.call10 (known_ok (gc.le leA) (g.le leA)) ?_
    refine ox 2 ?_
    refine X.retL (q) Tryz.func6 (res1 Tryz.results6 rfl) ⟨_, rfl, rfl, rfl⟩
  · skip
    replace h1 := sp h1
    refine xo 4 ?_
    refine XO.ef (Ef.litL I64 [19, 20, 21] Tryz.underlying55 Tryz.info50 rfl rfl rfl rfl rfl rfl (fun _ => rfl)) ?_
    rintro _ _ ⟨gk, rfl, rfl⟩
    refine oo 1 ?_
    refine XO.pu (Pu.rem rfl rfl (by omega)) ?_
    refine XO.know 17 (.int .u8 (kd % 3)) rfl (congrArg (Value.int .u8) (Int.tmod_eq_emod_of_nonneg (by omega))) ?_
    refine oo 1 ?_
    refine XO.ld Tryz.isAgg50 ?_ (hc := (Cl.e1 (n := (kd % 3).toNat) (l := ([19, 20, 21] : List Int)) (Sees.lsH _) fndA (by simp; omega) (by omega)))
    obtain ⟨C, hC⟩ : ∃ C, ([19, 20, 21] : List Int)[(kd % 3).toNat]'(by simp; omega) = C := ⟨_, rfl⟩
    refine XO.know 19 (.int .i64 C) rfl (congrArg (Value.int .i64) hC) ?_
    refine oo 8 ?_
    refine XO.ef (Ef.litL I64 [0, 3, 5, 6] Tryz.underlying23 Tryz.info3 rfl rfl rfl rfl rfl rfl (fun _ => rfl)) ?_
    rintro _ _ ⟨gt, rfl, rfl⟩
    refine oo 1 ?_
    refine XO.pu (Pu.rem rfl rfl (by omega)) ?_
    refine XO.know 26 (.int .u8 (tt % 4)) rfl (congrArg (Value.int .u8) (Int.tmod_eq_emod_of_nonneg (by omega))) ?_
    refine oo 1 ?_
    refine XO.ld Tryz.isAgg3 ?_ (hc := (Cl.e1 (n := (tt % 4).toNat) (l := ([0, 3, 5, 6] : List Int)) (Sees.lsH _) fndA (by simp; omega) (by omega)))
    obtain ⟨A, hA⟩ : ∃ A, ([0, 3, 5, 6] : List Int)[(tt % 4).toNat]'(by simp; omega) = A := ⟨_, rfl⟩
    refine XO.know 28 (.int .i64 A) rfl (congrArg (Value.int .i64) hA) ?_
    refine oo 5 ?_
    refine XO.ef (Ef.buildSlice (us := ([⟨23, 0, 0, 0⟩, ⟨1, 0, 0, z⟩, ⟨C, A, 0, 0⟩, ⟨23, 1, 0, 0⟩, ⟨23, 2, 0, 0⟩, ⟨23, 3, 0, 0⟩, ⟨34, 0, 0, 0⟩] : List Ins).map fun x => .agg (insC x).toArray) (cells := ([⟨23, 0, 0, 0⟩, ⟨1, 0, 0, z⟩, ⟨C, A, 0, 0⟩, ⟨23, 1, 0, 0⟩, ⟨23, 2, 0, 0⟩, ⟨23, 3, 0, 0⟩, ⟨34, 0, 0, 0⟩] : List Ins).flatMap insC) Tryz.underlying44 Tryz.info52 rfl rfl rfl (by kernel_rfl) rfl) ?_
    rintro _ _ ⟨gl, rfl, rfl⟩
    refine oo 6 ?_
    refine XO.pu (Pu.rem rfl rfl (by omega)) ?_
    refine XO.know 36 (.int .u8 (kd % 3)) rfl (congrArg (Value.int .u8) (Int.tmod_eq_emod_of_nonneg (by omega))) ?_
    refine ox 2 ?_
    refine X.sb [37, 8, 6, 0, 2] ?_
    refine X.part 37 rfl (fun hc37 => ?_) (fun hc37 => ?_)
    · skip
      refine xo 5 ?_
      refine XO.le (q' := pto gl (.cells (([⟨23, 0, 0, 0⟩, ⟨1, 0, 0, z⟩, ⟨C, A, 0, 0⟩, ⟨23, 1, 0, 0⟩, ⟨23, 2, 0, 0⟩, ⟨23, 3, 0, 0⟩, ⟨34, 0, 0, 0⟩] : List Ins).flatMap insC).toArray 52 (0, 0)) :: _) (Le.trans fndA (Le.slH_pto _)) ?_
      refine XO.ef0 (Ef.stA Tryz.sizeOf52) ?_
      rintro _ _ ⟨rfl, rfl⟩
      refine XO.le (q' := slH (some ⟨gl, 0, none⟩) 7 52 4 7 (([⟨23, 0, 0, 0⟩, ⟨23, 9, 0, 0⟩, ⟨C, A, 0, 0⟩, ⟨23, 1, 0, 0⟩, ⟨23, 2, 0, 0⟩, ⟨23, 3, 0, 0⟩, ⟨34, 0, 0, 0⟩] : List Ins).flatMap insC) :: _) (Le.trans fndA (Le.pto_slH rfl (by decide) _)) ?_
      refine oo 4 ?_
      refine XO.ef (Ef.alloc Tryz.zeroValue28) ?_
      rintro _ _ ⟨n1, rfl, rfl⟩
      refine XO.ef0 (Ef.stA Tryz.sizeOf28) ?_
      rintro _ _ ⟨rfl, rfl⟩
      refine oo 5 ?_
      refine XO.pu (Pu.rem rfl rfl (by omega)) ?_
      refine XO.know 43 (.int .u8 (kd % 3)) rfl (congrArg (Value.int .u8) (Int.tmod_eq_emod_of_nonneg (by omega))) ?_
      refine ox 2 ?_
      refine X.part 44 rfl (fun hc44 => ?_) (fun hc44 => ?_)
      · skip
        refine xo 3 ?_
        refine XO.ef (Ef.litL I64 [z] Tryz.underlying22 Tryz.info2 rfl rfl rfl rfl rfl rfl (fun _ => rfl)) ?_
        rintro _ _ ⟨gz46, rfl, rfl⟩
        refine oo 1 ?_
        refine XO.ef0 (Ef.st Tryz.sizeOf22) ?_
        rintro _ _ ⟨rfl, rfl⟩
        refine ox 2 ?_
        refine X.draw [] Tryz.mixed (by kernel_rfl) (by kernel_rfl) rfl ?_
        refine dd [0] ?_
        refine XD.loadA 2 rfl rfl Tryz.isAgg28 Tryz.sizeOf28 hasA (by rfl) ?_
        refine XD.le (q' := rsH insC 4 52 (some ⟨gl, 0, none⟩) 7 ([⟨23, 0, 0, 0⟩, ⟨23, 9, 0, 0⟩, ⟨C, A, 0, 0⟩, ⟨23, 1, 0, 0⟩, ⟨23, 2, 0, 0⟩, ⟨23, 3, 0, 0⟩, ⟨34, 0, 0, 0⟩] : List Ins) :: _) (Le.trans fndA (Le.rs_of_sl insC 4 52 (some ⟨gl, 0, none⟩) 7 ([⟨23, 0, 0, 0⟩, ⟨23, 9, 0, 0⟩, ⟨C, A, 0, 0⟩, ⟨23, 1, 0, 0⟩, ⟨23, 2, 0, 0⟩, ⟨23, 3, 0, 0⟩, ⟨34, 0, 0, 0⟩] : List Ins) _)) ?_
        refine XD.cF 1 Tryz.call17 (code_ok (xs := ([⟨23, 0, 0, 0⟩, ⟨23, 9, 0, 0⟩, ⟨C, A, 0, 0⟩, ⟨23, 1, 0, 0⟩, ⟨23, 2, 0, 0⟩, ⟨23, 3, 0, 0⟩, ⟨34, 0, 0, 0⟩] : List Ins)) (a := some ⟨gl, 0, none⟩) (c := 7) (show 7 ≤ 1000 by decide)) ?_
        rintro _ _ ⟨ga0, gb0, rfl, rfl⟩ _ e_; simp only [ca, na] at e_; subst e_
        refine ⟨hlA, ?_⟩
        refine XD.cRL 3 Tryz.call11 (does_ok (m := (modk ([⟨23, 0, 0, 0⟩, ⟨23, 9, 0, 0⟩, ⟨C, A, 0, 0⟩, ⟨23, 1, 0, 0⟩, ⟨23, 2, 0, 0⟩, ⟨23, 3, 0, 0⟩, ⟨34, 0, 0, 0⟩] : List Ins) (some ⟨gl, 0, none⟩) 7 ga0 gb0)) (f := ⟨0, 2, [], [z], none, 0, some ⟨gz46, 0, none⟩, 1⟩) (cells := []) (cda := none) (cc := 0) (gc.le leA) (g.le leA) (modk_q (xs := ([⟨23, 0, 0, 0⟩, ⟨23, 9, 0, 0⟩, ⟨C, A, 0, 0⟩, ⟨23, 1, 0, 0⟩, ⟨23, 2, 0, 0⟩, ⟨23, 3, 0, 0⟩, ⟨34, 0, 0, 0⟩] : List Ins)) (a := some ⟨gl, 0, none⟩) (c := 7) (g0 := ga0) (g1 := gb0) ((Sees.rsH _).le fndA) (show 7 ≤ 1000 by decide) fndA fndA) ⟨Sees.nil _ _, (Sees.lsH _).le fndA, Nat.zero_le _, (show 1 ≤ 9223372036854775807 by decide)⟩ (Sees.nil _ _) (Nat.le_refl 1) ⟨Nat.zero_le _, (show 1 ≤ 40 by decide), Nat.zero_le _⟩) ?_
        refine dd [4] ?_
        refine XD.know 52 (.bool true) rfl knw ?_
        refine dd [5, 7] ?_
        refine XD.cF 6 Tryz.call17 (code_ok (xs := ([⟨23, 0, 0, 0⟩, ⟨23, 9, 0, 0⟩, ⟨C, A, 0, 0⟩, ⟨23, 1, 0, 0⟩, ⟨23, 2, 0, 0⟩, ⟨23, 3, 0, 0⟩, ⟨34, 0, 0, 0⟩] : List Ins)) (a := some ⟨gl, 0, none⟩) (c := 7) (show 7 ≤ 1000 by decide)) ?_
        rintro _ _ ⟨ga1, gb1, rfl, rfl⟩ _ e_; simp only [ca, na] at e_; subst e_
        refine ⟨trivial, ?_⟩
        refine XD.cRL 8 Tryz.call11 (does_ok (m := (modk ([⟨23, 0, 0, 0⟩, ⟨23, 9, 0, 0⟩, ⟨C, A, 0, 0⟩, ⟨23, 1, 0, 0⟩, ⟨23, 2, 0, 0⟩, ⟨23, 3, 0, 0⟩, ⟨34, 0, 0, 0⟩] : List Ins) (some ⟨gl, 0, none⟩) 7 ga1 gb1)) (f := ⟨0, 0, [], [], none, 0, none, 0⟩) (cells := []) (cda := none) (cc := 0) (gc.le leA) (g.le leA) (modk_q (xs := ([⟨23, 0, 0, 0⟩, ⟨23, 9, 0, 0⟩, ⟨C, A, 0, 0⟩, ⟨23, 1, 0, 0⟩, ⟨23, 2, 0, 0⟩, ⟨23, 3, 0, 0⟩, ⟨34, 0, 0, 0⟩] : List Ins)) (a := some ⟨gl, 0, none⟩) (c := 7) (g0 := ga1) (g1 := gb1) ((Sees.rsH _).le fndA) (show 7 ≤ 1000 by decide) fndA fndA) ⟨Sees.nil _ _, Sees.nil _ _, Nat.zero_le _, Nat.zero_le _⟩ (Sees.nil _ _) (Nat.le_refl 0) ⟨Nat.zero_le _, Nat.zero_le _, Nat.zero_le _⟩) ?_
        refine dd [9, 10] ?_
        refine XD.know 58 (.bool true) rfl knw ?_
        refine XD.cRL 11 Tryz.call10 (known_ok (gc.le leA) (g.le leA)) ?_
        refine dd [12, 13] ?_
        refine XD.nil ?_
        refine X.retL (q) Tryz.func6 (res1 Tryz.results6 rfl) ⟨_, rfl, rfl, rfl⟩
      · skip
        refine xx 3 ?_
        refine X.draw [] Tryz.mixed (by kernel_rfl) (by kernel_rfl) rfl ?_
        refine dd [0] ?_
        refine XD.loadA 2 rfl rfl Tryz.isAgg28 Tryz.sizeOf28 hasA (by rfl) ?_
        refine XD.le (q' := rsH insC 4 52 (some ⟨gl, 0, none⟩) 7 ([⟨23, 0, 0, 0⟩, ⟨23, 9, 0, 0⟩, ⟨C, A, 0, 0⟩, ⟨23, 1, 0, 0⟩, ⟨23, 2, 0, 0⟩, ⟨23, 3, 0, 0⟩, ⟨34, 0, 0, 0⟩] : List Ins) :: _) (Le.trans fndA (Le.rs_of_sl insC 4 52 (some ⟨gl, 0, none⟩) 7 ([⟨23, 0, 0, 0⟩, ⟨23, 9, 0, 0⟩, ⟨C, A, 0, 0⟩, ⟨23, 1, 0, 0⟩, ⟨23, 2, 0, 0⟩, ⟨23, 3, 0, 0⟩, ⟨34, 0, 0, 0⟩] : List Ins) _)) ?_
        refine XD.cF 1 Tryz.call17 (code_ok (xs := ([⟨23, 0, 0, 0⟩, ⟨23, 9, 0, 0⟩, ⟨C, A, 0, 0⟩, ⟨23, 1, 0, 0⟩, ⟨23, 2, 0, 0⟩, ⟨23, 3, 0, 0⟩, ⟨34, 0, 0, 0⟩] : List Ins)) (a := some ⟨gl, 0, none⟩) (c := 7) (show 7 ≤ 1000 by decide)) ?_
        rintro _ _ ⟨ga0, gb0, rfl, rfl⟩ _ e_; simp only [ca, na] at e_; subst e_
        refine ⟨hlA, ?_⟩
        refine XD.cRL 3 Tryz.call11 (does_ok (m := (modk ([⟨23, 0, 0, 0⟩, ⟨23, 9, 0, 0⟩, ⟨C, A, 0, 0⟩, ⟨23, 1, 0, 0⟩, ⟨23, 2, 0, 0⟩, ⟨23, 3, 0, 0⟩, ⟨34, 0, 0, 0⟩] : List Ins) (some ⟨gl, 0, none⟩) 7 ga0 gb0)) (f := ⟨0, 2, [], [], none, 0, none, 0⟩) (cells := []) (cda := none) (cc := 0) (gc.le leA) (g.le leA) (modk_q (xs := ([⟨23, 0, 0, 0⟩, ⟨23, 9, 0, 0⟩, ⟨C, A, 0, 0⟩, ⟨23, 1, 0, 0⟩, ⟨23, 2, 0, 0⟩, ⟨23, 3, 0, 0⟩, ⟨34, 0, 0, 0⟩] : List Ins)) (a := some ⟨gl, 0, none⟩) (c := 7) (g0 := ga0) (g1 := gb0) ((Sees.rsH _).le fndA) (show 7 ≤ 1000 by decide) fndA fndA) ⟨Sees.nil _ _, Sees.nil _ _, Nat.zero_le _, Nat.zero_le _⟩ (Sees.nil _ _) (Nat.le_refl 0) ⟨Nat.zero_le _, Nat.zero_le _, Nat.zero_le _⟩) ?_
        refine dd [4] ?_
        refine XD.know 52 (.bool true) rfl knw ?_
        refine dd [5, 7] ?_
        refine XD.cF 6 Tryz.call17 (code_ok (xs := ([⟨23, 0, 0, 0⟩, ⟨23, 9, 0, 0⟩, ⟨C, A, 0, 0⟩, ⟨23, 1, 0, 0⟩, ⟨23, 2, 0, 0⟩, ⟨23, 3, 0, 0⟩, ⟨34, 0, 0, 0⟩] : List Ins)) (a := some ⟨gl, 0, none⟩) (c := 7) (show 7 ≤ 1000 by decide)) ?_
        rintro _ _ ⟨ga1, gb1, rfl, rfl⟩ _ e_; simp only [ca, na] at e_; subst e_
        refine ⟨trivial, ?_⟩
        refine XD.cRL 8 Tryz.call11 (does_ok (m := (modk ([⟨23, 0, 0, 0⟩, ⟨23, 9, 0, 0⟩, ⟨C, A, 0, 0⟩, ⟨23, 1, 0, 0⟩, ⟨23, 2, 0, 0⟩, ⟨23, 3, 0, 0⟩, ⟨34, 0, 0, 0⟩] : List Ins) (some ⟨gl, 0, none⟩) 7 ga1 gb1)) (f := ⟨0, 0, [], [], none, 0, none, 0⟩) (cells := []) (cda := none) (cc := 0) (gc.le leA) (g.le leA) (modk_q (xs := ([⟨23, 0, 0, 0⟩, ⟨23, 9, 0, 0⟩, ⟨C, A, 0, 0⟩, ⟨23, 1, 0, 0⟩, ⟨23, 2, 0, 0⟩, ⟨23, 3, 0, 0⟩, ⟨34, 0, 0, 0⟩] : List Ins)) (a := some ⟨gl, 0, none⟩) (c := 7) (g0 := ga1) (g1 := gb1) ((Sees.rsH _).le fndA) (show 7 ≤ 1000 by decide) fndA fndA) ⟨Sees.nil _ _, Sees.nil _ _, Nat.zero_le _, Nat.zero_le _⟩ (Sees.nil _ _) (Nat.le_refl 0) ⟨Nat.zero_le _, Nat.zero_le _, Nat.zero_le _⟩) ?_
        refine dd [9, 10] ?_
        refine XD.know 58 (.bool true) rfl knw ?_
        refine XD.cRL 11 Tryz.call10 (known_ok (gc.le leA) (g.le leA)) ?_
        refine dd [12, 13] ?_
        refine XD.nil ?_
        refine X.retL (q) Tryz.func6 (res1 Tryz.results6 rfl) ⟨_, rfl, rfl, rfl⟩
    · skip
      refine xo 5 ?_
      refine XO.ef (Ef.alloc Tryz.zeroValue28) ?_
      rintro _ _ ⟨n2, rfl, rfl⟩
      refine XO.ef0 (Ef.stA Tryz.sizeOf28) ?_
      rintro _ _ ⟨rfl, rfl⟩
      refine oo 5 ?_
      refine XO.pu (Pu.rem rfl rfl (by omega)) ?_
      refine XO.know 43 (.int .u8 (kd % 3)) rfl (congrArg (Value.int .u8) (Int.tmod_eq_emod_of_nonneg (by omega))) ?_
      refine ox 2 ?_
      refine X.part 44 rfl (fun hc44 => ?_) (fun hc44 => ?_)
      · skip
        refine xo 3 ?_
        refine XO.ef (Ef.litL I64 [z] Tryz.underlying22 Tryz.info2 rfl rfl rfl rfl rfl rfl (fun _ => rfl)) ?_
        rintro _ _ ⟨gz46, rfl, rfl⟩
        refine oo 1 ?_
        refine XO.ef0 (Ef.st Tryz.sizeOf22) ?_
        rintro _ _ ⟨rfl, rfl⟩
        refine ox 2 ?_
        refine X.draw [] Tryz.mixed (by kernel_rfl) (by kernel_rfl) rfl ?_
        refine dd [0] ?_
        refine XD.loadA 2 rfl rfl Tryz.isAgg28 Tryz.sizeOf28 hasA (by rfl) ?_
        refine XD.le (q' := rsH insC 4 52 (some ⟨gl, 0, none⟩) 7 ([⟨23, 0, 0, 0⟩, ⟨1, 0, 0, z⟩, ⟨C, A, 0, 0⟩, ⟨23, 1, 0, 0⟩, ⟨23, 2, 0, 0⟩, ⟨23, 3, 0, 0⟩, ⟨34, 0, 0, 0⟩] : List Ins) :: _) (Le.trans fndA (Le.rs_of_sl insC 4 52 (some ⟨gl, 0, none⟩) 7 ([⟨23, 0, 0, 0⟩, ⟨1, 0, 0, z⟩, ⟨C, A, 0, 0⟩, ⟨23, 1, 0, 0⟩, ⟨23, 2, 0, 0⟩, ⟨23, 3, 0, 0⟩, ⟨34, 0, 0, 0⟩] : List Ins) _)) ?_
        refine XD.cF 1 Tryz.call17 (code_ok (xs := ([⟨23, 0, 0, 0⟩, ⟨1, 0, 0, z⟩, ⟨C, A, 0, 0⟩, ⟨23, 1, 0, 0⟩, ⟨23, 2, 0, 0⟩, ⟨23, 3, 0, 0⟩, ⟨34, 0, 0, 0⟩] : List Ins)) (a := some ⟨gl, 0, none⟩) (c := 7) (show 7 ≤ 1000 by decide)) ?_
        rintro _ _ ⟨ga0, gb0, rfl, rfl⟩ _ e_; simp only [ca, na] at e_; subst e_
        refine ⟨hlA, ?_⟩
        refine XD.cRL 3 Tryz.call11 (does_ok (m := (modk ([⟨23, 0, 0, 0⟩, ⟨1, 0, 0, z⟩, ⟨C, A, 0, 0⟩, ⟨23, 1, 0, 0⟩, ⟨23, 2, 0, 0⟩, ⟨23, 3, 0, 0⟩, ⟨34, 0, 0, 0⟩] : List Ins) (some ⟨gl, 0, none⟩) 7 ga0 gb0)) (f := ⟨0, 2, [], [z], none, 0, some ⟨gz46, 0, none⟩, 1⟩) (cells := []) (cda := none) (cc := 0) (gc.le leA) (g.le leA) (modk_q (xs := ([⟨23, 0, 0, 0⟩, ⟨1, 0, 0, z⟩, ⟨C, A, 0, 0⟩, ⟨23, 1, 0, 0⟩, ⟨23, 2, 0, 0⟩, ⟨23, 3, 0, 0⟩, ⟨34, 0, 0, 0⟩] : List Ins)) (a := some ⟨gl, 0, none⟩) (c := 7) (g0 := ga0) (g1 := gb0) ((Sees.rsH _).le fndA) (show 7 ≤ 1000 by decide) fndA fndA) ⟨Sees.nil _ _, (Sees.lsH _).le fndA, Nat.zero_le _, (show 1 ≤ 9223372036854775807 by decide)⟩ (Sees.nil _ _) (Nat.le_refl 1) ⟨Nat.zero_le _, (show 1 ≤ 40 by decide), Nat.zero_le _⟩) ?_
        refine dd [4] ?_
        refine XD.know 52 (.bool true) rfl knw ?_
        refine dd [5, 7] ?_
        refine XD.cF 6 Tryz.call17 (code_ok (xs := ([⟨23, 0, 0, 0⟩, ⟨1, 0, 0, z⟩, ⟨C, A, 0, 0⟩, ⟨23, 1, 0, 0⟩, ⟨23, 2, 0, 0⟩, ⟨23, 3, 0, 0⟩, ⟨34, 0, 0, 0⟩] : List Ins)) (a := some ⟨gl, 0, none⟩) (c := 7) (show 7 ≤ 1000 by decide)) ?_
        rintro _ _ ⟨ga1, gb1, rfl, rfl⟩ _ e_; simp only [ca, na] at e_; subst e_
        refine ⟨trivial, ?_⟩
        refine XD.cRL 8 Tryz.call11 (does_ok (m := (modk ([⟨23, 0, 0, 0⟩, ⟨1, 0, 0, z⟩, ⟨C, A, 0, 0⟩, ⟨23, 1, 0, 0⟩, ⟨23, 2, 0, 0⟩, ⟨23, 3, 0, 0⟩, ⟨34, 0, 0, 0⟩] : List Ins) (some ⟨gl, 0, none⟩) 7 ga1 gb1)) (f := ⟨0, 0, [], [], none, 0, none, 0⟩) (cells := []) (cda := none) (cc := 0) (gc.le leA) (g.le leA) (modk_q (xs := ([⟨23, 0, 0, 0⟩, ⟨1, 0, 0, z⟩, ⟨C, A, 0, 0⟩, ⟨23, 1, 0, 0⟩, ⟨23, 2, 0, 0⟩, ⟨23, 3, 0, 0⟩, ⟨34, 0, 0, 0⟩] : List Ins)) (a := some ⟨gl, 0, none⟩) (c := 7) (g0 := ga1) (g1 := gb1) ((Sees.rsH _).le fndA) (show 7 ≤ 1000 by decide) fndA fndA) ⟨Sees.nil _ _, Sees.nil _ _, Nat.zero_le _, Nat.zero_le _⟩ (Sees.nil _ _) (Nat.le_refl 0) ⟨Nat.zero_le _, Nat.zero_le _, Nat.zero_le _⟩) ?_
        refine dd [9, 10] ?_
        refine XD.know 58 (.bool true) rfl knw ?_
        refine XD.cRL 11 Tryz.call10 (known_ok (gc.le leA) (g.le leA)) ?_
        refine dd [12, 13] ?_
        refine XD.nil ?_
        refine X.retL (q) Tryz.func6 (res1 Tryz.results6 rfl) ⟨_, rfl, rfl, rfl⟩
      · skip
        refine xx 3 ?_
        refine X.draw [] Tryz.mixed (by kernel_rfl) (by kernel_rfl) rfl ?_
        refine dd [0] ?_
        refine XD.loadA 2 rfl rfl Tryz.isAgg28 Tryz.sizeOf28 hasA (by rfl) ?_
        refine XD.le (q' := rsH insC 4 52 (some ⟨gl, 0, none⟩) 7 ([⟨23, 0, 0, 0⟩, ⟨1, 0, 0, z⟩, ⟨C, A, 0, 0⟩, ⟨23, 1, 0, 0⟩, ⟨23, 2, 0, 0⟩, ⟨23, 3, 0, 0⟩, ⟨34, 0, 0, 0⟩] : List Ins) :: _) (Le.trans fndA (Le.rs_of_sl insC 4 52 (some ⟨gl, 0, none⟩) 7 ([⟨23, 0, 0, 0⟩, ⟨1, 0, 0, z⟩, ⟨C, A, 0, 0⟩, ⟨23, 1, 0, 0⟩, ⟨23, 2, 0, 0⟩, ⟨23, 3, 0, 0⟩, ⟨34, 0, 0, 0⟩] : List Ins) _)) ?_
        refine XD.cF 1 Tryz.call17 (code_ok (xs := ([⟨23, 0, 0, 0⟩, ⟨1, 0, 0, z⟩, ⟨C, A, 0, 0⟩, ⟨23, 1, 0, 0⟩, ⟨23, 2, 0, 0⟩, ⟨23, 3, 0, 0⟩, ⟨34, 0, 0, 0⟩] : List Ins)) (a := some ⟨gl, 0, none⟩) (c := 7) (show 7 ≤ 1000 by decide)) ?_
        rintro _ _ ⟨ga0, gb0, rfl, rfl⟩ _ e_; simp only [ca, na] at e_; subst e_
        refine ⟨hlA, ?_⟩
        refine XD.cRL 3 Tryz.call11 (does_ok (m := (modk ([⟨23, 0, 0, 0⟩, ⟨1, 0, 0, z⟩, ⟨C, A, 0, 0⟩, ⟨23, 1, 0, 0⟩, ⟨23, 2, 0, 0⟩, ⟨23, 3, 0, 0⟩, ⟨34, 0, 0, 0⟩] : List Ins) (some ⟨gl, 0, none⟩) 7 ga0 gb0)) (f := ⟨0, 2, [], [], none, 0, none, 0⟩) (cells := []) (cda := none) (cc := 0) (gc.le leA) (g.le leA) (modk_q (xs := ([⟨23, 0, 0, 0⟩, ⟨1, 0, 0, z⟩, ⟨C, A, 0, 0⟩, ⟨23, 1, 0, 0⟩, ⟨23, 2, 0, 0⟩, ⟨23, 3, 0, 0⟩, ⟨34, 0, 0, 0⟩] : List Ins)) (a := some ⟨gl, 0, none⟩) (c := 7) (g0 := ga0) (g1 := gb0) ((Sees.rsH _).le fndA) (show 7 ≤ 1000 by decide) fndA fndA) ⟨Sees.nil _ _, Sees.nil _ _, Nat.zero_le _, Nat.zero_le _⟩ (Sees.nil _ _) (Nat.le_refl 0) ⟨Nat.zero_le _, Nat.zero_le _, Nat.zero_le _⟩) ?_
        refine dd [4] ?_
        refine XD.know 52 (.bool true) rfl knw ?_
        refine dd [5, 7] ?_
        refine XD.cF 6 Tryz.call17 (code_ok (xs := ([⟨23, 0, 0, 0⟩, ⟨1, 0, 0, z⟩, ⟨C, A, 0, 0⟩, ⟨23, 1, 0, 0⟩, ⟨23, 2, 0, 0⟩, ⟨23, 3, 0, 0⟩, ⟨34, 0, 0, 0⟩] : List Ins)) (a := some ⟨gl, 0, none⟩) (c := 7) (show 7 ≤ 1000 by decide)) ?_
        rintro _ _ ⟨ga1, gb1, rfl, rfl⟩ _ e_; simp only [ca, na] at e_; subst e_
        refine ⟨trivial, ?_⟩
        refine XD.cRL 8 Tryz.call11 (does_ok (m := (modk ([⟨23, 0, 0, 0⟩, ⟨1, 0, 0, z⟩, ⟨C, A, 0, 0⟩, ⟨23, 1, 0, 0⟩, ⟨23, 2, 0, 0⟩, ⟨23, 3, 0, 0⟩, ⟨34, 0, 0, 0⟩] : List Ins) (some ⟨gl, 0, none⟩) 7 ga1 gb1)) (f := ⟨0, 0, [], [], none, 0, none, 0⟩) (cells := []) (cda := none) (cc := 0) (gc.le leA) (g.le leA) (modk_q (xs := ([⟨23, 0, 0, 0⟩, ⟨1, 0, 0, z⟩, ⟨C, A, 0, 0⟩, ⟨23, 1, 0, 0⟩, ⟨23, 2, 0, 0⟩, ⟨23, 3, 0, 0⟩, ⟨34, 0, 0, 0⟩] : List Ins)) (a := some ⟨gl, 0, none⟩) (c := 7) (g0 := ga1) (g1 := gb1) ((Sees.rsH _).le fndA) (show 7 ≤ 1000 by decide) fndA fndA) ⟨Sees.nil _ _, Sees.nil _ _, Nat.zero_le _, Nat.zero_le _⟩ (Sees.nil _ _) (Nat.le_refl 0) ⟨Nat.zero_le _, Nat.zero_le _, Nat.zero_le _⟩) ?_
        refine dd [9, 10] ?_
        refine XD.know 58 (.bool true) rfl knw ?_
        refine XD.cRL 11 Tryz.call10 (known_ok (gc.le leA) (g.le leA)) ?_
        refine dd [12, 13] ?_
        refine XD.nil ?_
        refine X.retL (q) Tryz.func6 (res1 Tryz.results6 rfl) ⟨_, rfl, rfl, rfl⟩
end
end Go.Proofs.YtcklgodcjnnllaaGreatDoor

