/- Contracts of functions, proved by walking their code, and the logic that they need: what the last text reaches. -/
import Derived.Test.YtbeeplmgcdnadaaGreatDoorPn
import Derived.KernelRfl
set_option maxRecDepth 100000
set_option linter.unusedVariables false
set_option linter.unusedSimpArgs false
namespace Go.Proofs.YtbeeplmgcdnadaaGreatDoor
open Go Go.RowKit Wx
attribute [local irreducible] Wx.lsH Wx.rsH Wx.stars
section
variable {G : World} {q : List HP} {a b A : Option Addr} {c d : Nat} {cd : Int} {l : List Ins} {ln : List Int} {o : List Bool}
variable {nt : Nat} {nm : ByteArray} {lo : Int} {ia la wa : Option Addr} {ic lc wc : Nat} {I : List Ins} {L W : List Int}
variable {m m2 : Mdl} {x y : Cod} {j k : List Int}
variable {s : ByteArray}
set_option maxHeartbeats 4000000 in
theorem made_ok  : CallF Tryz.prog G 9 [.string s] (q) (Ret fun v q' => (v = .tuple [.agg (mdlC mdZ).toArray, .bool false].toArray ∧ q' = q) ∨ ∃ (m' : Mdl) (bb : Bool), MdB m' ∧ v = .tuple [.agg (mdlC m').toArray, .bool bb].toArray ∧ q' = mdM m' :: q) := by
 refine CallF.of Tryz.func9 Tryz.ntmps9 rfl (fun F cs => ?_)
 refine xo 2 ?_; refine XO.al Tryz.zeroValue26 fun n1 => ?_
 refine ox 9 ?_; refine X.part 10 rfl (fun h0 => ?_) (fun h0 => ?_)
 · replace h0 := sp h0
   refine xo 4 ?_; refine stA ?_; refine ox 2 ?_; refine X.retL (q) Tryz.func9 (resC Tryz.results9 (ResOk.cell rfl (LV.agg Tryz.isAgg26 Tryz.sizeOf26 hasA rfl) (ResOk.tmp rfl ResOk.nil))) ⟨_, rfl, .inl ⟨rfl, rfl⟩⟩
 replace h0 := sp h0
 refine xo 5 ?_; refine XO.cX Tryz.call31 (Le.refl _) (text_ok (s := s)) ?_
 rintro _ _ ⟨g, y, z, e, rfl, rfl, hF⟩
 refine oo 4 ?_; refine XO.al Tryz.zeroValue38 fun n2 => ?_
 refine XO.al Tryz.zeroValue87 fun n3 => ?_
 refine stA ?_; refine stA ?_; refine ox 8 ?_; refine X.sb [19, 4, 3, 2] ?_; refine X.part 19 rfl (fun h1 => ?_) (fun h1 => ?_)
 · replace h1 := sp h1
   refine xo 4 ?_; refine stA ?_; refine ox 2 ?_; refine X.retL (q) Tryz.func9 (resC Tryz.results9 (ResOk.cell rfl (LV.agg Tryz.isAgg26 Tryz.sizeOf26 hasA rfl) (ResOk.tmp rfl ResOk.nil))) ⟨_, rfl, .inl ⟨rfl, rfl⟩⟩
 replace h1 := sp h1
 refine xo 4 ?_; refine ldA ?_
 have he : e = 0 := (by omega)
 obtain ⟨hk, ⟨mn, hm1, hm2⟩⟩ : FCok g ∧ ∃ mn : Nat, g.main = (mn : Int) ∧ mn < g.ths.l.length := (by cases hx : textS (bs s) with | none => (rw [hx] at hF; exact absurd he hF) | some F => (rw [hx] at hF; have ho := FC.ok (g := g) (l := bs s) (by rw [hF.2]; exact hx); exact ⟨ho, ho.m⟩))
 refine XO.cX Tryz.call14 (Le.refl _) (module_ok (g := g) (mn := mn) knA hm1 hm2 hk.f hk.w hk.n hk.l) ?_
 rintro _ _ ⟨m', rfl, rfl, hM, hB⟩
 refine XO.al Tryz.zeroValue26 fun n4 => ?_
 refine stA ?_; refine ox 2 ?_; refine drw ?_; refine ldAD 0 ?_; refine dd [1] ?_; refine ldD 2 ?_; refine dd [3, 4] ?_; refine stAD 5 ?_; refine dd [6] ?_; refine XD.nil ?_; refine X.retL (mdM m' :: q) Tryz.func9 (resC Tryz.results9 (ResOk.cell rfl (LV.agg Tryz.isAgg26 Tryz.sizeOf26 hasA rfl) (ResOk.tmp rfl ResOk.nil))) ⟨_, rfl, .inr ⟨m', _, hB, rfl, rfl⟩⟩
set_option maxHeartbeats 4000000 in
theorem tightTwice_ok (gc : GC q) (g : GE q) (hq : MdlQ q m) : CallF Tryz.prog G 3 [.agg (mdlC m).toArray, .string s] (q) (Ret fun v q' => v = .bool true ∧ q' = q) := by
 refine CallF.of Tryz.func3 Tryz.ntmps3 rfl (fun F cs => ?_)
 refine xo 2 ?_; refine XO.bx fun n1 => ?_
 refine oo 5 ?_; refine ldA ?_; refine XO.cX Tryz.call7 (Le.refl _) (few_ok (hq.le leA)) ?_; rintro _ _ ⟨bb, rfl, rfl⟩
 cases bb
 · refine oo 1 ?_; refine XO.kf 9 ?_; refine oo 10 ?_; refine XO.cX Tryz.call9 (Le.refl _) (made_ok (s := s)) ?_
   rintro _ _ (⟨rfl, rfl⟩ | ⟨m', _ | _, hB, rfl, rfl⟩)
   · refine oo 3 ?_; refine XO.al Tryz.zeroValue26 fun n2 => ?_
     refine stA ?_; refine oo 5 ?_; refine XO.pu (Pu.not rfl) ?_; refine oo 1 ?_; refine XO.kt 21 ?_; refine oo 4 ?_; refine XO.cX Tryz.call10 (Le.refl _) (known19_ok (gc.le leA) (g.le leA)) ?_; rintro _ _ ⟨rfl, rfl⟩
     refine ox 3 ?_; refine X.sb [4] ?_; refine X.retL (q) Tryz.func3 (res1 Tryz.results3 rfl) ⟨_, rfl, rfl, rfl⟩
   · refine oo 3 ?_; refine XO.al Tryz.zeroValue26 fun n3 => ?_
     refine stA ?_; refine oo 5 ?_; refine XO.pu (Pu.not rfl) ?_; refine oo 1 ?_; refine XO.kt 21 ?_; refine oo 4 ?_; refine XO.cX Tryz.call10 (Le.refl _) (known19_ok (gc.le leA) (g.le leA)) ?_; rintro _ _ ⟨rfl, rfl⟩
     refine ox 3 ?_; refine X.sb [4] ?_; refine X.retL (q) Tryz.func3 (res1 Tryz.results3 rfl) ⟨_, rfl, rfl, rfl⟩
   refine oo 3 ?_; refine XO.al Tryz.zeroValue26 fun n4 => ?_
   refine stA ?_; refine oo 5 ?_; refine XO.pu (Pu.not rfl) ?_; refine oo 1 ?_; refine XO.kf 21 ?_; refine ldA ?_; refine XO.cX Tryz.call8 (Le.refl _) (twice_ok (m := m') (gc.le leA) (g.le leA) (Kn.mdl knA hB)) ?_
   rintro _ _ ⟨rfl, rfl⟩
   refine oo 2 ?_; refine XO.cX Tryz.call10 (Le.refl _) (known19_ok (gc.le leA) (g.le leA)) ?_; rintro _ _ ⟨rfl, rfl⟩
   refine ox 3 ?_; refine X.sb [4] ?_; refine X.retL (q) Tryz.func3 (res1 Tryz.results3 rfl) ⟨_, rfl, rfl, rfl⟩
 refine oo 1 ?_; refine XO.kt 9 ?_; refine ldA ?_; refine XO.cX Tryz.call8 (Le.refl _) (twice_ok (m := m) (gc.le leA) (g.le leA) (hq.le leA)) ?_
 rintro _ _ ⟨rfl, rfl⟩
 refine oo 8 ?_; refine XO.cX Tryz.call9 (Le.refl _) (made_ok (s := s)) ?_
 rintro _ _ (⟨rfl, rfl⟩ | ⟨m', _ | _, hB, rfl, rfl⟩)
 · refine oo 3 ?_; refine XO.al Tryz.zeroValue26 fun n5 => ?_
   refine stA ?_; refine oo 5 ?_; refine XO.pu (Pu.not rfl) ?_; refine oo 1 ?_; refine XO.kt 21 ?_; refine oo 4 ?_; refine XO.cX Tryz.call10 (Le.refl _) (known19_ok (gc.le leA) (g.le leA)) ?_; rintro _ _ ⟨rfl, rfl⟩
   refine ox 3 ?_; refine X.sb [4] ?_; refine X.retL (q) Tryz.func3 (res1 Tryz.results3 rfl) ⟨_, rfl, rfl, rfl⟩
 · refine oo 3 ?_; refine XO.al Tryz.zeroValue26 fun n6 => ?_
   refine stA ?_; refine oo 5 ?_; refine XO.pu (Pu.not rfl) ?_; refine oo 1 ?_; refine XO.kt 21 ?_; refine oo 4 ?_; refine XO.cX Tryz.call10 (Le.refl _) (known19_ok (gc.le leA) (g.le leA)) ?_; rintro _ _ ⟨rfl, rfl⟩
   refine ox 3 ?_; refine X.sb [4] ?_; refine X.retL (q) Tryz.func3 (res1 Tryz.results3 rfl) ⟨_, rfl, rfl, rfl⟩
 refine oo 3 ?_; refine XO.al Tryz.zeroValue26 fun n7 => ?_
 refine stA ?_; refine oo 5 ?_; refine XO.pu (Pu.not rfl) ?_; refine oo 1 ?_; refine XO.kf 21 ?_; refine ldA ?_; refine XO.cX Tryz.call8 (Le.refl _) (twice_ok (m := m') (gc.le leA) (g.le leA) (Kn.mdl knA hB)) ?_
 rintro _ _ ⟨rfl, rfl⟩
 refine oo 2 ?_; refine XO.cX Tryz.call10 (Le.refl _) (known19_ok (gc.le leA) (g.le leA)) ?_; rintro _ _ ⟨rfl, rfl⟩
 refine ox 3 ?_; refine X.sb [4] ?_; refine X.retL (q) Tryz.func3 (res1 Tryz.results3 rfl) ⟨_, rfl, rfl, rfl⟩
end
end Go.Proofs.YtbeeplmgcdnadaaGreatDoor
