/- What functions of package vm, of its references and of its laws do: contracts of calls, proved by walking their code. -/
import Derived.Test.YtcklgodcjnnllaaGreatDoorV
import Derived.KernelRfl
set_option maxRecDepth 100000
set_option linter.unusedVariables false
set_option linter.unusedSimpArgs false
namespace Go.Proofs.YtcklgodcjnnllaaGreatDoor
open Go Go.RowKit Wx
attribute [local irreducible] Wx.lsH Wx.rsH Wx.lsM Wx.rsM Wx.stars

section
variable {G : World} {q pre : List HP} {a b A : Option Addr} {c d C p p0 p1 p2 i : Nat} {lo hi n cd dep : Int} {fv : Value} {x y : Ins} {t : Cod} {m : Mdl} {at_ : Int}
variable {l cells loc : List Int} {idx arr z k u pc code : Int} {x1 x2 x3 x4 x5 x6 old : Value} {pm cc lc n1 n2 : Nat} {la cda : Option Addr}
def mkL : List Value := [.nilFunc, .nilFunc, .nilFunc, .nilFunc, .nilFunc, .nilFunc, .nilFunc, .nilFunc, .func (.func 95) #[] #[], .func (.func 97) #[] #[], .func (.func 100) #[] #[], .func (.func 101) #[] #[], .func (.func 102) #[] #[], .func (.func 103) #[] #[], .func (.func 104) #[] #[], .func (.func 105) #[] #[], .func (.func 106) #[] #[], .func (.func 107) #[] #[], .func (.func 109) #[] #[], .nilFunc, .nilFunc, .nilFunc, .func (.func 99) #[] #[], .nilFunc, .nilFunc, .nilFunc, .nilFunc, .nilFunc, .nilFunc, .nilFunc, .nilFunc, .nilFunc, .nilFunc, .nilFunc, .nilFunc]
theorem maker_at {c : Int} (h : 1 ≤ c ∧ c ≤ 34) : (isMk c ∧ ∃ n, nth mkL c.toNat = some (.func (.func n) #[] #[]) ∧ ∀ (q : List HP) (u z : Int), val u → val z → CallV Tryz.prog G (.func (.func n) #[] #[]) [.int .i64 u, .int .i64 z] q (RP (fun v q' => (mkS c u z).2 = 0 ∧ v = .int .i64 (mkS c u z).1 ∧ q' = q) (fun ch q' => (mkS c u z).2 ≠ 0 ∧ ch = [trapE (mkS c u z).2] ∧ q' = q))) ∨ (¬ isMk c ∧ nth mkL c.toNat = some .nilFunc) := by
  have hc : c = 1 ∨ c = 2 ∨ c = 3 ∨ c = 4 ∨ c = 5 ∨ c = 6 ∨ c = 7 ∨ c = 8 ∨ c = 9 ∨ c = 10 ∨ c = 11 ∨ c = 12 ∨ c = 13 ∨ c = 14 ∨ c = 15 ∨ c = 16 ∨ c = 17 ∨ c = 18 ∨ c = 19 ∨ c = 20 ∨ c = 21 ∨ c = 22 ∨ c = 23 ∨ c = 24 ∨ c = 25 ∨ c = 26 ∨ c = 27 ∨ c = 28 ∨ c = 29 ∨ c = 30 ∨ c = 31 ∨ c = 32 ∨ c = 33 ∨ c = 34 := by omega
  rcases hc with rfl | rfl | rfl | rfl | rfl | rfl | rfl | rfl | rfl | rfl | rfl | rfl | rfl | rfl | rfl | rfl | rfl | rfl | rfl | rfl | rfl | rfl | rfl | rfl | rfl | rfl | rfl | rfl | rfl | rfl | rfl | rfl | rfl | rfl
  · exact .inr ⟨by decide, rfl⟩
  · exact .inr ⟨by decide, rfl⟩
  · exact .inr ⟨by decide, rfl⟩
  · exact .inr ⟨by decide, rfl⟩
  · exact .inr ⟨by decide, rfl⟩
  · exact .inr ⟨by decide, rfl⟩
  · exact .inr ⟨by decide, rfl⟩
  · exact .inl ⟨by decide, 95, rfl, fun q u z hu hz => CallV.c20 Tryz.call95 (maker8 hu hz)⟩
  · exact .inl ⟨by decide, 97, rfl, fun q u z hu hz => CallV.c20 Tryz.call97 (maker9 hu hz)⟩
  · exact .inl ⟨by decide, 100, rfl, fun q u z hu hz => CallV.c20 Tryz.call100 (maker10 hu hz)⟩
  · exact .inl ⟨by decide, 101, rfl, fun q u z hu hz => CallV.c20 Tryz.call101 (maker11 hu hz)⟩
  · exact .inl ⟨by decide, 102, rfl, fun q u z hu hz => CallV.c20 Tryz.call102 (maker12 hu hz)⟩
  · exact .inl ⟨by decide, 103, rfl, fun q u z hu hz => CallV.c20 Tryz.call103 (maker13 hu hz)⟩
  · exact .inl ⟨by decide, 104, rfl, fun q u z hu hz => CallV.c20 Tryz.call104 (maker14 hu hz)⟩
  · exact .inl ⟨by decide, 105, rfl, fun q u z hu hz => CallV.c20 Tryz.call105 (maker15 hu hz)⟩
  · exact .inl ⟨by decide, 106, rfl, fun q u z hu hz => CallV.c20 Tryz.call106 (maker16 hu hz)⟩
  · exact .inl ⟨by decide, 107, rfl, fun q u z hu hz => CallV.c20 Tryz.call107 (maker17 hu hz)⟩
  · exact .inl ⟨by decide, 109, rfl, fun q u z hu hz => CallV.c20 Tryz.call109 (maker18 hu hz)⟩
  · exact .inr ⟨by decide, rfl⟩
  · exact .inr ⟨by decide, rfl⟩
  · exact .inr ⟨by decide, rfl⟩
  · exact .inl ⟨by decide, 99, rfl, fun q u z hu hz => CallV.c20 Tryz.call99 (maker22 hu hz)⟩
  · exact .inr ⟨by decide, rfl⟩
  · exact .inr ⟨by decide, rfl⟩
  · exact .inr ⟨by decide, rfl⟩
  · exact .inr ⟨by decide, rfl⟩
  · exact .inr ⟨by decide, rfl⟩
  · exact .inr ⟨by decide, rfl⟩
  · exact .inr ⟨by decide, rfl⟩
  · exact .inr ⟨by decide, rfl⟩
  · exact .inr ⟨by decide, rfl⟩
  · exact .inr ⟨by decide, rfl⟩
  · exact .inr ⟨by decide, rfl⟩
  · exact .inr ⟨by decide, rfl⟩
theorem makers_ok  : CallF Tryz.prog G 64 [] (q) (Ret fun v q' => v = .agg mkL.toArray ∧ q' = q) := by
 refine CallF.of Tryz.func64 Tryz.ntmps64 rfl (fun F cs => ?_)
 refine xo 2 ?_
 refine XO.al Tryz.zeroValue139 fun n1 => ?_
 refine oo 3 ?_
 refine XO.pu (Pu.buildA (cells := mkL.toArray) Tryz.zeroValue139 Tryz.underlying139 Tryz.sizeOf138 rfl (by kernel_rfl)) ?_
 refine stA ?_
 refine ox 1 ?_
 refine X.retL (q) Tryz.func64 (resC1 Tryz.results64 (ResOk.cell rfl (LV.agg Tryz.isAgg139 Tryz.sizeOf139 hasA rfl) ResOk.nil)) ⟨_, rfl, rfl, rfl⟩
theorem do1_quiet  : Quiet Tryz.prog G 63 [.pointer (some ⟨n2, 0, none⟩)] := by
 refine Quiet.of Tryz.func63 Tryz.ntmps63 rfl (fun F c₀ cs₀ hr => ?_)
 refine xo 2 ?_
 refine XO.rcv hr ?_
 refine XO.pu (Pu.assertN rfl Tryz.underlying136 rfl Tryz.zeroValue136) ?_
 refine oo 3 ?_
 refine XO.al Tryz.zeroValue136 fun n11 => ?_
 refine stA ?_
 refine ox 6 ?_
 refine X.know 8 (.bool false) rfl rfl ?_
 refine xx 2 ?_
 exact X.fall ⟨rfl, rfl, .inl rfl, ⟨_, res0 Tryz.results63⟩, leA⟩
theorem do1_catches {y0 y1 y2 y3 y4 y5 y6 y7 y8 y9 : Value} : Catches Tryz.prog G 63 [.pointer (some ⟨n2, 0, none⟩)] (trapE k) [pto n2 (.cells [y0, y1, y2, y3, y4, y5, y6, y7, y8, y9].toArray 74 (0, 0))] [pto n2 (.cells (didC (dTrap k)).toArray 74 (0, 0))] := by
 refine Catches.of Tryz.func63 Tryz.ntmps63 rfl rfl (fun F c₀ cs₀ hr => ?_)
 refine xo 2 ?_
 refine XO.rcv hr ?_
 refine XO.pu (Pu.assertT rfl Tryz.underlying136 rfl) ?_
 refine oo 3 ?_
 refine XO.al Tryz.zeroValue136 fun n11 => ?_
 refine stA ?_
 refine ox 6 ?_
 refine X.know 8 (.bool true) rfl rfl ?_
 refine xo 3 ?_
 refine ld ?_
 refine oo 1 ?_
 refine stA ?_
 refine ox 1 ?_
 exact X.fall ⟨rfl, rfl, .inl rfl, ⟨_, res0 Tryz.results63⟩, leA⟩
end
end Go.Proofs.YtcklgodcjnnllaaGreatDoor

