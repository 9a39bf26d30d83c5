/- What functions of package vm, of its references and of its laws do: contracts of calls, proved by walking their code. -/
import Derived.Test.YtcklgodcjnnllaaGreatDoorRa
import Derived.Test.YtcklgodcjnnllaaGreatDoorWd
import Derived.KernelRfl
set_option maxRecDepth 100000
set_option linter.unusedVariables false
set_option linter.unusedSimpArgs false
namespace Go.Proofs.YtcklgodcjnnllaaGreatDoor
open Go Go.RowKit Wx
attribute [local irreducible] Wx.lsH Wx.rsH Wx.lsM Wx.rsM Wx.stars

theorem Tryz.info149 : (Tryz.prog.info? 149).map (fun i => (i.zero, i.size, i.bytes)) = some (some (.agg #[.int .i64 0, .int .i64 0, .string ⟨#[]⟩, .int .i64 0, .bool false, .int .i64 0, .slice none 0 0]), 7, 80) := by kernel_rfl
theorem Tryz.info71 : (Tryz.prog.info? 71).map (fun i => (i.zero, i.size, i.bytes)) = some (some (.agg #[.int .i64 0, .bool false, .int .i64 0]), 3, 24) := by kernel_rfl
def exN (n : Int) : List Value := [.int .i64 1, .int .i64 n, .string ⟨#[]⟩, .int .i64 0, .bool false, .int .i64 0, .slice none 0 0]
def exB (o : Int) (g : Nat) : List Value := [.int .i64 6, .int .i64 0, .string ⟨#[]⟩, .int .i64 0, .bool false, .int .i64 o, .slice (some ⟨g, 0, none⟩) 2 2]
def acc3 (x : Int × Bool × Int) : List Value := [.int .i64 x.1, .bool x.2.1, .int .i64 x.2.2]
section
variable {G : World} {q pre : List HP} {a b A : Option Addr} {c d C p p0 p1 p2 i : Nat} {lo hi n cd dep : Int} {fv : Value} {x y : Ins} {t : Cod} {m : Mdl} {at_ : Int}
variable {l cells loc : List Int} {idx arr z k u pc code : Int} {x1 x2 x3 x4 x5 x6 old : Value} {pm cc lc n1 n2 : Nat} {la cda : Option Addr}
variable {f : Frm} {op : Int} {bb : Bool} {g : Nat}
theorem truth05_ok  : CallF Tryz.prog G 113 [.bool bb] (q) (Ret fun v q' => v = .int .i64 (truthS bb) ∧ q' = q) := by
  refine CallF.of Tryz.func113 Tryz.ntmps113 rfl (fun F cs => ?_)
  refine xx 9 ?_
  refine X.part 3 rfl (fun h0 => ?_) (fun h0 => ?_)
  · skip
    refine xx 5 ?_
    refine X.retL (q) Tryz.func113 (res1 Tryz.results113 rfl) ⟨_, rfl, by rw [show bb = true by simpa using h0]; rfl, rfl⟩
  · skip
    refine xx 6 ?_
    refine X.retL (q) Tryz.func113 (res1 Tryz.results113 rfl) ⟨_, rfl, by rw [show bb = false by simpa using h0]; rfl, rfl⟩
theorem truth09_ok  : CallF Tryz.prog G 47 [.bool bb] (q) (Ret fun v q' => v = .int .i64 (truthS bb) ∧ q' = q) := by
  refine CallF.of Tryz.func47 Tryz.ntmps47 rfl (fun F cs => ?_)
  refine xx 9 ?_
  refine X.part 3 rfl (fun h0 => ?_) (fun h0 => ?_)
  · skip
    refine xx 5 ?_
    refine X.retL (q) Tryz.func47 (res1 Tryz.results47 rfl) ⟨_, rfl, by rw [show bb = true by simpa using h0]; rfl, rfl⟩
  · skip
    refine xx 6 ?_
    refine X.retL (q) Tryz.func47 (res1 Tryz.results47 rfl) ⟨_, rfl, by rw [show bb = false by simpa using h0]; rfl, rfl⟩
set_option maxHeartbeats 4000000 in
theorem two05_ok (ho : 3 ≤ op ∧ op ≤ 11) (hu : val u) (hz : val z) : CallF Tryz.prog G 112 [.int .i64 op, .int .i64 u, .int .i64 z] (q) (Ret fun v q' => v = .tuple [.int .i64 (twoS op u z).1, .int .i64 (twoS op u z).2].toArray ∧ q' = q) := by
  refine CallF.of Tryz.func112 Tryz.ntmps112 rfl (fun F cs => ?_)
  have hu2 := hu; have hz2 := hz; unfold val at hu2 hz2
  have hcase : op = 3 ∨ op = 4 ∨ op = 5 ∨ op = 6 ∨ op = 7 ∨ op = 8 ∨ op = 9 ∨ op = 10 ∨ op = 11 := by omega
  rcases hcase with rfl | rfl | rfl | rfl | rfl | rfl | rfl | rfl | rfl
  · skip
    refine xx 20 ?_
    refine X.know 10 (.bool true) rfl knw ?_
    refine xo 6 ?_
    refine XO.cR Tryz.call113 (truth05_ok) ?_
    refine ox 3 ?_
    refine X.retL (q) Tryz.func112 (res2 Tryz.results112 rfl rfl) ⟨_, rfl, by simp [twoS] <;> first | rfl | (congr 1; rw [Bool.eq_iff_iff]; simp), rfl⟩
  · skip
    refine xx 20 ?_
    refine X.know 10 (.bool false) rfl knw ?_
    refine xx 6 ?_
    refine X.know 16 (.bool true) rfl knw ?_
    refine xo 6 ?_
    refine XO.cR Tryz.call113 (truth05_ok) ?_
    refine ox 3 ?_
    refine X.retL (q) Tryz.func112 (res2 Tryz.results112 rfl rfl) ⟨_, rfl, by simp [twoS] <;> first | rfl | (congr 1; rw [Bool.eq_iff_iff]; simp), rfl⟩
  · skip
    refine xx 20 ?_
    refine X.know 10 (.bool false) rfl knw ?_
    refine xx 6 ?_
    refine X.know 16 (.bool false) rfl knw ?_
    refine xx 6 ?_
    refine X.know 22 (.bool true) rfl knw ?_
    refine xo 6 ?_
    refine XO.cR Tryz.call113 (truth05_ok) ?_
    refine ox 3 ?_
    refine X.sb [7, 6, 8] ?_
    refine X.retL (q) Tryz.func112 (res2 Tryz.results112 rfl rfl) ⟨_, rfl, by simp [twoS] <;> first | rfl | (congr 1; rw [Bool.eq_iff_iff]; simp), rfl⟩
  · skip
    refine xx 20 ?_
    refine X.know 10 (.bool false) rfl knw ?_
    refine xx 6 ?_
    refine X.know 16 (.bool false) rfl knw ?_
    refine xx 6 ?_
    refine X.know 22 (.bool false) rfl knw ?_
    refine xx 6 ?_
    refine X.know 28 (.bool true) rfl knw ?_
    refine xo 6 ?_
    refine XO.cR Tryz.call113 (truth05_ok) ?_
    refine ox 3 ?_
    refine X.sb [7, 6, 8] ?_
    refine X.retL (q) Tryz.func112 (res2 Tryz.results112 rfl rfl) ⟨_, rfl, by simp [twoS] <;> first | rfl | (congr 1; rw [Bool.eq_iff_iff]; simp), rfl⟩
  · skip
    refine xx 20 ?_
    refine X.know 10 (.bool false) rfl knw ?_
    refine xx 6 ?_
    refine X.know 16 (.bool false) rfl knw ?_
    refine xx 6 ?_
    refine X.know 22 (.bool false) rfl knw ?_
    refine xx 6 ?_
    refine X.know 28 (.bool false) rfl knw ?_
    refine xx 6 ?_
    refine X.sb [34, 9, 8, 7, 6, 1, 2] ?_
    refine X.know 34 (.bool true) rfl knw ?_
    refine xo 14 ?_
    refine XO.sb [65, 8, 7, 6] ?_
    apply XO.cutOr 3 68 65 rfl
    · skip
      intro g1 M1; have h1 := sp g1
      refine oo 3 ?_
      exact XO.fin M1 ⟨orF g1, subB⟩
    · skip
      intro g1 M1; have h1 := sp g1
      refine oo 3 ?_
      exact XO.fin M1 ⟨orT g1, subB⟩
    · skip
      refine ox 1 ?_
      refine X.part 68 rfl (fun h1 => ?_) (fun h1 => ?_)
      · skip
        replace h1 := sp h1
        refine xx 6 ?_
        refine X.retL (q) Tryz.func112 (res2 Tryz.results112 rfl rfl) ⟨_, rfl, by first | (simp [twoS, h1]; done) | (unfold twoS val; simp [h1]; omega) | (unfold twoS val; simp only [h1]; simp; grind), rfl⟩
      · skip
        replace h1 := sp h1
        refine xx 8 ?_
        refine X.retL (q) Tryz.func112 (res2 Tryz.results112 rfl rfl) ⟨_, rfl, by first | (simp [twoS, h1]; done) | (unfold twoS val; simp [h1]; omega) | (unfold twoS val; simp only [h1]; simp; grind), rfl⟩
  · skip
    refine xx 20 ?_
    refine X.know 10 (.bool false) rfl knw ?_
    refine xx 6 ?_
    refine X.know 16 (.bool false) rfl knw ?_
    refine xx 6 ?_
    refine X.know 22 (.bool false) rfl knw ?_
    refine xx 6 ?_
    refine X.know 28 (.bool false) rfl knw ?_
    refine xx 6 ?_
    refine X.sb [34, 9, 8, 7, 6, 1, 2] ?_
    refine X.know 34 (.bool false) rfl knw ?_
    refine xx 6 ?_
    refine X.know 39 (.bool true) rfl knw ?_
    refine xo 14 ?_
    refine XO.sb [65, 8, 7, 6] ?_
    apply XO.cutOr 3 68 65 rfl
    · skip
      intro g1 M1; have h1 := sp g1
      refine oo 3 ?_
      exact XO.fin M1 ⟨orF g1, subB⟩
    · skip
      intro g1 M1; have h1 := sp g1
      refine oo 3 ?_
      exact XO.fin M1 ⟨orT g1, subB⟩
    · skip
      refine ox 1 ?_
      refine X.part 68 rfl (fun h1 => ?_) (fun h1 => ?_)
      · skip
        replace h1 := sp h1
        refine xx 6 ?_
        refine X.retL (q) Tryz.func112 (res2 Tryz.results112 rfl rfl) ⟨_, rfl, by first | (simp [twoS, h1]; done) | (unfold twoS val; simp [h1]; omega) | (unfold twoS val; simp only [h1]; simp; grind), rfl⟩
      · skip
        replace h1 := sp h1
        refine xx 8 ?_
        refine X.retL (q) Tryz.func112 (res2 Tryz.results112 rfl rfl) ⟨_, rfl, by first | (simp [twoS, h1]; done) | (unfold twoS val; simp [h1]; omega) | (unfold twoS val; simp only [h1]; simp; grind), rfl⟩
  · skip
    have hm := val_mul hu hz
    refine xx 20 ?_
    refine X.know 10 (.bool false) rfl knw ?_
    refine xx 6 ?_
    refine X.know 16 (.bool false) rfl knw ?_
    refine xx 6 ?_
    refine X.know 22 (.bool false) rfl knw ?_
    refine xx 6 ?_
    refine X.know 28 (.bool false) rfl knw ?_
    refine xx 6 ?_
    refine X.sb [34, 9, 8, 7, 6, 1, 2] ?_
    refine X.know 34 (.bool false) rfl knw ?_
    refine xx 6 ?_
    refine X.know 39 (.bool false) rfl knw ?_
    refine xx 6 ?_
    refine X.know 44 (.bool true) rfl knw ?_
    refine xo 4 ?_
    refine XO.pu (Pu.mul rfl rfl (by omega) (by omega)) ?_
    refine oo 9 ?_
    refine XO.sb [65, 8, 7, 6] ?_
    apply XO.cutOr 3 68 65 rfl
    · skip
      intro g1 M1; have h1 := sp g1
      refine oo 3 ?_
      exact XO.fin M1 ⟨orF g1, subB⟩
    · skip
      intro g1 M1; have h1 := sp g1
      refine oo 3 ?_
      exact XO.fin M1 ⟨orT g1, subB⟩
    · skip
      refine ox 1 ?_
      refine X.part 68 rfl (fun h1 => ?_) (fun h1 => ?_)
      · skip
        replace h1 := sp h1
        refine xx 6 ?_
        refine X.sb [7, 6, 8] ?_
        refine X.retL (q) Tryz.func112 (res2 Tryz.results112 rfl rfl) ⟨_, rfl, by first | (simp [twoS, h1]; done) | (unfold twoS val; simp [h1]; omega) | (unfold twoS val; simp only [h1]; simp; grind), rfl⟩
      · skip
        replace h1 := sp h1
        refine xx 8 ?_
        refine X.sb [7, 6] ?_
        refine X.retL (q) Tryz.func112 (res2 Tryz.results112 rfl rfl) ⟨_, rfl, by first | (simp [twoS, h1]; done) | (unfold twoS val; simp [h1]; omega) | (unfold twoS val; simp only [h1]; simp; grind), rfl⟩
  · skip
    have hm := val_div (b := z) hu
    refine xx 20 ?_
    refine X.know 10 (.bool false) rfl knw ?_
    refine xx 6 ?_
    refine X.know 16 (.bool false) rfl knw ?_
    refine xx 6 ?_
    refine X.know 22 (.bool false) rfl knw ?_
    refine xx 6 ?_
    refine X.know 28 (.bool false) rfl knw ?_
    refine xx 6 ?_
    refine X.sb [34, 9, 8, 7, 6, 1, 2] ?_
    refine X.know 34 (.bool false) rfl knw ?_
    refine xx 6 ?_
    refine X.know 39 (.bool false) rfl knw ?_
    refine xx 6 ?_
    refine X.know 44 (.bool false) rfl knw ?_
    refine xx 6 ?_
    refine X.know 49 (.bool true) rfl knw ?_
    refine xx 7 ?_
    refine X.part 52 rfl (fun h1 => ?_) (fun h1 => ?_)
    · skip
      replace h1 := sp h1
      refine xx 6 ?_
      refine X.retL (q) Tryz.func112 (res2 Tryz.results112 rfl rfl) ⟨_, rfl, by first | (simp [twoS, h1]; done) | (unfold twoS val; simp [h1]; omega) | (unfold twoS val; simp only [h1]; simp; grind), rfl⟩
    · skip
      replace h1 := sp h1
      refine xo 5 ?_
      refine XO.pu (Pu.quoW rfl rfl (by omega)) ?_
      refine XO.know 55 (.int .i64 (u.tdiv z)) rfl (congrArg (Value.int .i64) (show IntKind.i64.wrap (u.tdiv z) = u.tdiv z from wrap64_of (by omega) (by omega))) ?_
      refine oo 9 ?_
      refine XO.sb [65, 8, 7, 6] ?_
      apply XO.cutOr 3 68 65 rfl
      · skip
        intro g2 M2; have h2 := sp g2
        refine oo 3 ?_
        exact XO.fin M2 ⟨orF g2, subB⟩
      · skip
        intro g2 M2; have h2 := sp g2
        refine oo 3 ?_
        exact XO.fin M2 ⟨orT g2, subB⟩
      · skip
        refine ox 1 ?_
        refine X.sb [68, 8, 7, 6] ?_
        refine X.part 68 rfl (fun h2 => ?_) (fun h2 => ?_)
        · skip
          replace h2 := sp h2
          refine xx 6 ?_
          refine X.retL (q) Tryz.func112 (res2 Tryz.results112 rfl rfl) ⟨_, rfl, by first | (simp [twoS, h1, h2]; done) | (unfold twoS val; simp [h1, h2]; omega) | (unfold twoS val; simp only [h1, h2]; simp; grind), rfl⟩
        · skip
          replace h2 := sp h2
          refine xx 8 ?_
          refine X.retL (q) Tryz.func112 (res2 Tryz.results112 rfl rfl) ⟨_, rfl, by first | (simp [twoS, h1, h2]; done) | (unfold twoS val; simp [h1, h2]; omega) | (unfold twoS val; simp only [h1, h2]; simp; grind), rfl⟩
  · skip
    have hm := val_mod (b := z) hu
    refine xx 20 ?_
    refine X.know 10 (.bool false) rfl knw ?_
    refine xx 6 ?_
    refine X.know 16 (.bool false) rfl knw ?_
    refine xx 6 ?_
    refine X.know 22 (.bool false) rfl knw ?_
    refine xx 6 ?_
    refine X.know 28 (.bool false) rfl knw ?_
    refine xx 6 ?_
    refine X.sb [34, 9, 8, 7, 6, 1, 2] ?_
    refine X.know 34 (.bool false) rfl knw ?_
    refine xx 6 ?_
    refine X.know 39 (.bool false) rfl knw ?_
    refine xx 6 ?_
    refine X.know 44 (.bool false) rfl knw ?_
    refine xx 6 ?_
    refine X.know 49 (.bool false) rfl knw ?_
    refine xx 6 ?_
    refine X.know 56 (.bool true) rfl knw ?_
    refine xx 7 ?_
    refine X.part 59 rfl (fun h1 => ?_) (fun h1 => ?_)
    · skip
      replace h1 := sp h1
      refine xx 6 ?_
      refine X.sb [7, 6, 1, 2] ?_
      refine X.retL (q) Tryz.func112 (res2 Tryz.results112 rfl rfl) ⟨_, rfl, by first | (simp [twoS, h1]; done) | (unfold twoS val; simp [h1]; omega) | (unfold twoS val; simp only [h1]; simp; grind), rfl⟩
    · skip
      replace h1 := sp h1
      refine xo 5 ?_
      refine XO.pu (Pu.rem rfl rfl (by omega)) ?_
      refine oo 9 ?_
      refine XO.sb [65, 8, 7, 6] ?_
      apply XO.cutOr 3 68 65 rfl
      · skip
        intro g2 M2; have h2 := sp g2
        refine oo 3 ?_
        exact XO.fin M2 ⟨orF g2, subB⟩
      · skip
        intro g2 M2; have h2 := sp g2
        refine oo 3 ?_
        exact XO.fin M2 ⟨orT g2, subB⟩
      · skip
        refine ox 1 ?_
        refine X.sb [68, 8, 7, 6] ?_
        refine X.part 68 rfl (fun h2 => ?_) (fun h2 => ?_)
        · skip
          replace h2 := sp h2
          refine xx 6 ?_
          refine X.retL (q) Tryz.func112 (res2 Tryz.results112 rfl rfl) ⟨_, rfl, by first | (simp [twoS, h1, h2]; done) | (unfold twoS val; simp [h1, h2]; omega) | (unfold twoS val; simp only [h1, h2]; simp; grind), rfl⟩
        · skip
          replace h2 := sp h2
          refine xx 8 ?_
          refine X.retL (q) Tryz.func112 (res2 Tryz.results112 rfl rfl) ⟨_, rfl, by first | (simp [twoS, h1, h2]; done) | (unfold twoS val; simp [h1, h2]; omega) | (unfold twoS val; simp only [h1, h2]; simp; grind), rfl⟩
set_option maxHeartbeats 2000000 in
theorem exN_ok  : CallF Tryz.prog G 69 [.agg #[.slice none 0 0, .slice none 0 0, .int .i64 0, .int .i64 0, .slice none 0 0, .slice none 0 0, .int .i64 0, .int .i64 0, .slice none 0 0, .slice none 0 0, .slice none 0 0, .slice none 0 0, .slice none 0 0, .slice none 0 0, .slice none 0 0, .slice none 0 0, .slice none 0 0, .slice none 0 0, .slice none 0 0, .int .i64 0, .int .i64 0, .int .i64 0, .int .i64 0], .agg (exN z).toArray, .slice none 0 0] (q) (Ret fun v q' => v = .agg [.int .i64 z, .int .i64 0, .slice none 0 0].toArray ∧ q' = q) := by
  refine CallF.of Tryz.func69 Tryz.ntmps69 rfl (fun F cs => ?_)
  refine xo 2 ?_
  refine XO.ef (Ef.box rfl) ?_
  rintro _ _ ⟨n1, rfl, rfl⟩
  refine XO.ef (Ef.box rfl) ?_
  rintro _ _ ⟨n2, rfl, rfl⟩
  refine XO.ef (Ef.alloc Tryz.zeroValue152) ?_
  rintro _ _ ⟨n3, rfl, rfl⟩
  refine oo 5 ?_
  refine XO.ld Tryz.isAgg145 ?_
  refine ox 7 ?_
  refine X.know 17 (.bool true) rfl knw ?_
  refine xo 4 ?_
  refine XO.ld Tryz.isAgg2 ?_
  refine oo 1 ?_
  refine XO.ef0 (Ef.stA Tryz.sizeOf152) ?_
  rintro _ _ ⟨rfl, rfl⟩
  refine ox 1 ?_
  refine X.retL (q) Tryz.func69 (resC1 Tryz.results69 (ResOk.cell rfl (LV.agg Tryz.isAgg152 Tryz.sizeOf152 hasA rfl) ResOk.nil)) ⟨_, rfl, rfl, rfl⟩
set_option maxHeartbeats 8000000 in
theorem exB_ok (hs : Sees q (some ⟨g, 0, none⟩) ([u, z].flatMap exN)) (ho : 3 ≤ op ∧ op ≤ 11) (hu : val u) (hz : val z) : CallF Tryz.prog G 69 [.agg #[.slice none 0 0, .slice none 0 0, .int .i64 0, .int .i64 0, .slice none 0 0, .slice none 0 0, .int .i64 0, .int .i64 0, .slice none 0 0, .slice none 0 0, .slice none 0 0, .slice none 0 0, .slice none 0 0, .slice none 0 0, .slice none 0 0, .slice none 0 0, .slice none 0 0, .slice none 0 0, .slice none 0 0, .int .i64 0, .int .i64 0, .int .i64 0, .int .i64 0], .agg (exB op g).toArray, .slice none 0 0] (q) (Ret fun v q' => ∃ a' c', v = .agg [.int .i64 (twoS op u z).1, .int .i64 (twoS op u z).2, .slice a' 0 c'].toArray ∧ q' = q) := by
  refine CallF.of Tryz.func69 Tryz.ntmps69 rfl (fun F cs => ?_)
  have hl0 : 0 < [u, z].length := by simp
  have hl1 : 1 < [u, z].length := by simp
  refine xo 2 ?_
  refine XO.ef (Ef.box rfl) ?_
  rintro _ _ ⟨n1, rfl, rfl⟩
  refine XO.ef (Ef.box rfl) ?_
  rintro _ _ ⟨n2, rfl, rfl⟩
  refine XO.ef (Ef.alloc Tryz.zeroValue152) ?_
  rintro _ _ ⟨n3, rfl, rfl⟩
  refine oo 5 ?_
  refine XO.ld Tryz.isAgg145 ?_
  refine ox 7 ?_
  refine X.know 17 (.bool false) rfl (congrArg Value.bool (by first | rfl | exact decide_eq_false (by omega) | (simp; omega))) ?_
  refine xx 6 ?_
  refine X.know 22 (.bool false) rfl (congrArg Value.bool (by first | rfl | exact decide_eq_false (by omega) | (simp; omega))) ?_
  refine xx 4 ?_
  refine X.draw [] Tryz.mixed (by kernel_rfl) (by kernel_rfl) rfl ?_
  refine XD.loadA 0 rfl rfl Tryz.isAgg160 Tryz.sizeOf160 hasA (by rfl) ?_
  refine dd [1] ?_
  refine XD.ld 2 Tryz.isAgg147 ?_
  refine dd [3] ?_
  refine XD.ldS 4 (m := 0) Tryz.isAgg149 Tryz.sizeOf149 hs hl0 ?_
  refine dd [5] ?_
  refine XD.float (fl := [⟨7, 7, fun g => .pointer (some ⟨g, 0, none⟩), fun g => pto g (.cells [.int .i64 0, .int .i64 0, .slice none 0 0].toArray 152 (0, 0))⟩]) ?_
  refine XF.cX 6 ⟨⟨_, rfl, rfl, rfl, rfl, rfl, rfl, fun q => Ef.alloc Tryz.zeroValue152⟩, trivial⟩ Tryz.call69 (Le.refl _) (exN_ok (z := u)) ?_ (hL := (hlA (h := by repeat first | exact trivial | refine ⟨clA, ?_⟩ | refine ⟨Cl.row (j := 0) (n := 0) (sz := 7) hs leA (fun _ => rfl) hl0 rfl 0 _ rfl, ?_⟩ | refine ⟨Cl.row (j := 0) (n := 0) (sz := 7) hs leA (fun _ => rfl) hl0 rfl 1 _ rfl, ?_⟩ | refine ⟨Cl.row (j := 0) (n := 0) (sz := 7) hs leA (fun _ => rfl) hl0 rfl 2 _ rfl, ?_⟩ | refine ⟨Cl.row (j := 0) (n := 0) (sz := 7) hs leA (fun _ => rfl) hl0 rfl 3 _ rfl, ?_⟩ | refine ⟨Cl.row (j := 0) (n := 0) (sz := 7) hs leA (fun _ => rfl) hl0 rfl 4 _ rfl, ?_⟩ | refine ⟨Cl.row (j := 0) (n := 0) (sz := 7) hs leA (fun _ => rfl) hl0 rfl 5 _ rfl, ?_⟩ | refine ⟨Cl.row (j := 0) (n := 0) (sz := 7) hs leA (fun _ => rfl) hl0 rfl 6 _ rfl, ?_⟩ | refine ⟨Cl.row (j := 1) (n := 1) (sz := 7) hs leA (fun _ => rfl) hl1 rfl 0 _ rfl, ?_⟩ | refine ⟨Cl.row (j := 1) (n := 1) (sz := 7) hs leA (fun _ => rfl) hl1 rfl 1 _ rfl, ?_⟩ | refine ⟨Cl.row (j := 1) (n := 1) (sz := 7) hs leA (fun _ => rfl) hl1 rfl 2 _ rfl, ?_⟩ | refine ⟨Cl.row (j := 1) (n := 1) (sz := 7) hs leA (fun _ => rfl) hl1 rfl 3 _ rfl, ?_⟩ | refine ⟨Cl.row (j := 1) (n := 1) (sz := 7) hs leA (fun _ => rfl) hl1 rfl 4 _ rfl, ?_⟩ | refine ⟨Cl.row (j := 1) (n := 1) (sz := 7) hs leA (fun _ => rfl) hl1 rfl 5 _ rfl, ?_⟩ | refine ⟨Cl.row (j := 1) (n := 1) (sz := 7) hs leA (fun _ => rfl) hl1 rfl 6 _ rfl, ?_⟩)))
  rintro _ _ ⟨rfl, rfl⟩
  refine ⟨(hlA (h := by repeat first | exact trivial | refine ⟨clA, ?_⟩ | refine ⟨Cl.row (j := 0) (n := 0) (sz := 7) hs leA (fun _ => rfl) hl0 rfl 0 _ rfl, ?_⟩ | refine ⟨Cl.row (j := 0) (n := 0) (sz := 7) hs leA (fun _ => rfl) hl0 rfl 1 _ rfl, ?_⟩ | refine ⟨Cl.row (j := 0) (n := 0) (sz := 7) hs leA (fun _ => rfl) hl0 rfl 2 _ rfl, ?_⟩ | refine ⟨Cl.row (j := 0) (n := 0) (sz := 7) hs leA (fun _ => rfl) hl0 rfl 3 _ rfl, ?_⟩ | refine ⟨Cl.row (j := 0) (n := 0) (sz := 7) hs leA (fun _ => rfl) hl0 rfl 4 _ rfl, ?_⟩ | refine ⟨Cl.row (j := 0) (n := 0) (sz := 7) hs leA (fun _ => rfl) hl0 rfl 5 _ rfl, ?_⟩ | refine ⟨Cl.row (j := 0) (n := 0) (sz := 7) hs leA (fun _ => rfl) hl0 rfl 6 _ rfl, ?_⟩ | refine ⟨Cl.row (j := 1) (n := 1) (sz := 7) hs leA (fun _ => rfl) hl1 rfl 0 _ rfl, ?_⟩ | refine ⟨Cl.row (j := 1) (n := 1) (sz := 7) hs leA (fun _ => rfl) hl1 rfl 1 _ rfl, ?_⟩ | refine ⟨Cl.row (j := 1) (n := 1) (sz := 7) hs leA (fun _ => rfl) hl1 rfl 2 _ rfl, ?_⟩ | refine ⟨Cl.row (j := 1) (n := 1) (sz := 7) hs leA (fun _ => rfl) hl1 rfl 3 _ rfl, ?_⟩ | refine ⟨Cl.row (j := 1) (n := 1) (sz := 7) hs leA (fun _ => rfl) hl1 rfl 4 _ rfl, ?_⟩ | refine ⟨Cl.row (j := 1) (n := 1) (sz := 7) hs leA (fun _ => rfl) hl1 rfl 5 _ rfl, ?_⟩ | refine ⟨Cl.row (j := 1) (n := 1) (sz := 7) hs leA (fun _ => rfl) hl1 rfl 6 _ rfl, ?_⟩)), ?_⟩
  refine XF.abs (e0 := ⟨7, 7, fun g => .pointer (some ⟨g, 0, none⟩), fun g => pto g (.cells [.int .i64 0, .int .i64 0, .slice none 0 0].toArray 152 (0, 0))⟩) (hnd := by simp) 7 ⟨⟨_, rfl, rfl, rfl, rfl, rfl, rfl, fun q => Ef.alloc Tryz.zeroValue152⟩, trivial⟩ (fun nm0 => ?_) (hL := (hlA (h := by repeat first | exact trivial | refine ⟨clA, ?_⟩ | refine ⟨Cl.row (j := 0) (n := 0) (sz := 7) hs leA (fun _ => rfl) hl0 rfl 0 _ rfl, ?_⟩ | refine ⟨Cl.row (j := 0) (n := 0) (sz := 7) hs leA (fun _ => rfl) hl0 rfl 1 _ rfl, ?_⟩ | refine ⟨Cl.row (j := 0) (n := 0) (sz := 7) hs leA (fun _ => rfl) hl0 rfl 2 _ rfl, ?_⟩ | refine ⟨Cl.row (j := 0) (n := 0) (sz := 7) hs leA (fun _ => rfl) hl0 rfl 3 _ rfl, ?_⟩ | refine ⟨Cl.row (j := 0) (n := 0) (sz := 7) hs leA (fun _ => rfl) hl0 rfl 4 _ rfl, ?_⟩ | refine ⟨Cl.row (j := 0) (n := 0) (sz := 7) hs leA (fun _ => rfl) hl0 rfl 5 _ rfl, ?_⟩ | refine ⟨Cl.row (j := 0) (n := 0) (sz := 7) hs leA (fun _ => rfl) hl0 rfl 6 _ rfl, ?_⟩ | refine ⟨Cl.row (j := 1) (n := 1) (sz := 7) hs leA (fun _ => rfl) hl1 rfl 0 _ rfl, ?_⟩ | refine ⟨Cl.row (j := 1) (n := 1) (sz := 7) hs leA (fun _ => rfl) hl1 rfl 1 _ rfl, ?_⟩ | refine ⟨Cl.row (j := 1) (n := 1) (sz := 7) hs leA (fun _ => rfl) hl1 rfl 2 _ rfl, ?_⟩ | refine ⟨Cl.row (j := 1) (n := 1) (sz := 7) hs leA (fun _ => rfl) hl1 rfl 3 _ rfl, ?_⟩ | refine ⟨Cl.row (j := 1) (n := 1) (sz := 7) hs leA (fun _ => rfl) hl1 rfl 4 _ rfl, ?_⟩ | refine ⟨Cl.row (j := 1) (n := 1) (sz := 7) hs leA (fun _ => rfl) hl1 rfl 5 _ rfl, ?_⟩ | refine ⟨Cl.row (j := 1) (n := 1) (sz := 7) hs leA (fun _ => rfl) hl1 rfl 6 _ rfl, ?_⟩)))
  change XF _ _ _ _ _ _ _ [] _ _ _ ((7, .pointer (some ⟨nm0, 0, none⟩)) :: _) _ _ (pto nm0 (.cells [.int .i64 0, .int .i64 0, .slice none 0 0].toArray 152 (0, 0)) :: _)
  refine XF.back ?_ (hL := (hlA (h := by repeat first | exact trivial | refine ⟨clA, ?_⟩ | refine ⟨Cl.row (j := 0) (n := 0) (sz := 7) hs leA (fun _ => rfl) hl0 rfl 0 _ rfl, ?_⟩ | refine ⟨Cl.row (j := 0) (n := 0) (sz := 7) hs leA (fun _ => rfl) hl0 rfl 1 _ rfl, ?_⟩ | refine ⟨Cl.row (j := 0) (n := 0) (sz := 7) hs leA (fun _ => rfl) hl0 rfl 2 _ rfl, ?_⟩ | refine ⟨Cl.row (j := 0) (n := 0) (sz := 7) hs leA (fun _ => rfl) hl0 rfl 3 _ rfl, ?_⟩ | refine ⟨Cl.row (j := 0) (n := 0) (sz := 7) hs leA (fun _ => rfl) hl0 rfl 4 _ rfl, ?_⟩ | refine ⟨Cl.row (j := 0) (n := 0) (sz := 7) hs leA (fun _ => rfl) hl0 rfl 5 _ rfl, ?_⟩ | refine ⟨Cl.row (j := 0) (n := 0) (sz := 7) hs leA (fun _ => rfl) hl0 rfl 6 _ rfl, ?_⟩ | refine ⟨Cl.row (j := 1) (n := 1) (sz := 7) hs leA (fun _ => rfl) hl1 rfl 0 _ rfl, ?_⟩ | refine ⟨Cl.row (j := 1) (n := 1) (sz := 7) hs leA (fun _ => rfl) hl1 rfl 1 _ rfl, ?_⟩ | refine ⟨Cl.row (j := 1) (n := 1) (sz := 7) hs leA (fun _ => rfl) hl1 rfl 2 _ rfl, ?_⟩ | refine ⟨Cl.row (j := 1) (n := 1) (sz := 7) hs leA (fun _ => rfl) hl1 rfl 3 _ rfl, ?_⟩ | refine ⟨Cl.row (j := 1) (n := 1) (sz := 7) hs leA (fun _ => rfl) hl1 rfl 4 _ rfl, ?_⟩ | refine ⟨Cl.row (j := 1) (n := 1) (sz := 7) hs leA (fun _ => rfl) hl1 rfl 5 _ rfl, ?_⟩ | refine ⟨Cl.row (j := 1) (n := 1) (sz := 7) hs leA (fun _ => rfl) hl1 rfl 6 _ rfl, ?_⟩)))
  refine XD.ef0 8 rfl (Ef.stA Tryz.sizeOf152) ?_
  rintro _ _ ⟨rfl, rfl⟩
  refine ⟨trivial, ?_⟩
  refine XD.nil ?_
  refine xo 4 ?_
  refine XO.ld Tryz.isAgg3 ?_
  refine ox 2 ?_
  refine X.sb [58, 7, 6, 4, 3, 2] ?_
  refine X.know 58 (.bool false) rfl knw ?_
  refine xo 6 ?_
  refine XO.ld Tryz.isAgg145 ?_
  refine ox 7 ?_
  refine X.know 62 (.bool false) rfl (congrArg Value.bool (by first | rfl | exact decide_eq_false (by omega) | (simp; omega))) ?_
  refine xx 6 ?_
  refine X.know 92 (.bool false) rfl (congrArg Value.bool (by first | rfl | exact decide_eq_false (by omega) | (simp; omega))) ?_
  refine xx 6 ?_
  refine X.know 105 (.bool false) rfl (congrArg Value.bool (by first | rfl | exact decide_eq_false (by omega) | (simp; omega))) ?_
  refine xo 6 ?_
  refine XO.ld Tryz.isAgg146 ?_
  refine oo 8 ?_
  refine XO.know 118 (.bool false) rfl (congrArg Value.bool (by first | rfl | (rw [beq_eq_false_iff_ne]; omega))) ?_
  refine oo 8 ?_
  refine XO.know 126 (.bool false) rfl (congrArg Value.bool (by first | rfl | (rw [beq_eq_false_iff_ne]; omega))) ?_
  refine ox 9 ?_
  refine X.sb [11, 7, 6, 4, 3, 2] ?_
  refine X.draw [] Tryz.mixed (by kernel_rfl) (by kernel_rfl) rfl ?_
  refine XD.loadA 0 rfl rfl Tryz.isAgg160 Tryz.sizeOf160 hasA (by rfl) ?_
  refine dd [1] ?_
  refine XD.ld 2 Tryz.isAgg147 ?_
  refine dd [3] ?_
  refine XD.ldS 4 (m := 1) Tryz.isAgg149 Tryz.sizeOf149 hs hl1 ?_
  refine dd [5] ?_
  refine XD.float (fl := [⟨7, 12, fun g => .pointer (some ⟨g, 0, none⟩), fun g => pto g (.cells [.int .i64 0, .int .i64 0, .slice none 0 0].toArray 152 (0, 0))⟩]) ?_
  refine XF.cX 6 ⟨⟨_, rfl, rfl, rfl, rfl, rfl, rfl, fun q => Ef.alloc Tryz.zeroValue152⟩, trivial⟩ Tryz.call69 (Le.refl _) (exN_ok (z := z)) ?_ (hL := (hlA (h := by repeat first | exact trivial | refine ⟨clA, ?_⟩ | refine ⟨Cl.row (j := 0) (n := 0) (sz := 7) hs leA (fun _ => rfl) hl0 rfl 0 _ rfl, ?_⟩ | refine ⟨Cl.row (j := 0) (n := 0) (sz := 7) hs leA (fun _ => rfl) hl0 rfl 1 _ rfl, ?_⟩ | refine ⟨Cl.row (j := 0) (n := 0) (sz := 7) hs leA (fun _ => rfl) hl0 rfl 2 _ rfl, ?_⟩ | refine ⟨Cl.row (j := 0) (n := 0) (sz := 7) hs leA (fun _ => rfl) hl0 rfl 3 _ rfl, ?_⟩ | refine ⟨Cl.row (j := 0) (n := 0) (sz := 7) hs leA (fun _ => rfl) hl0 rfl 4 _ rfl, ?_⟩ | refine ⟨Cl.row (j := 0) (n := 0) (sz := 7) hs leA (fun _ => rfl) hl0 rfl 5 _ rfl, ?_⟩ | refine ⟨Cl.row (j := 0) (n := 0) (sz := 7) hs leA (fun _ => rfl) hl0 rfl 6 _ rfl, ?_⟩ | refine ⟨Cl.row (j := 1) (n := 1) (sz := 7) hs leA (fun _ => rfl) hl1 rfl 0 _ rfl, ?_⟩ | refine ⟨Cl.row (j := 1) (n := 1) (sz := 7) hs leA (fun _ => rfl) hl1 rfl 1 _ rfl, ?_⟩ | refine ⟨Cl.row (j := 1) (n := 1) (sz := 7) hs leA (fun _ => rfl) hl1 rfl 2 _ rfl, ?_⟩ | refine ⟨Cl.row (j := 1) (n := 1) (sz := 7) hs leA (fun _ => rfl) hl1 rfl 3 _ rfl, ?_⟩ | refine ⟨Cl.row (j := 1) (n := 1) (sz := 7) hs leA (fun _ => rfl) hl1 rfl 4 _ rfl, ?_⟩ | refine ⟨Cl.row (j := 1) (n := 1) (sz := 7) hs leA (fun _ => rfl) hl1 rfl 5 _ rfl, ?_⟩ | refine ⟨Cl.row (j := 1) (n := 1) (sz := 7) hs leA (fun _ => rfl) hl1 rfl 6 _ rfl, ?_⟩)))
  rintro _ _ ⟨rfl, rfl⟩
  refine ⟨(hlA (h := by repeat first | exact trivial | refine ⟨clA, ?_⟩ | refine ⟨Cl.row (j := 0) (n := 0) (sz := 7) hs leA (fun _ => rfl) hl0 rfl 0 _ rfl, ?_⟩ | refine ⟨Cl.row (j := 0) (n := 0) (sz := 7) hs leA (fun _ => rfl) hl0 rfl 1 _ rfl, ?_⟩ | refine ⟨Cl.row (j := 0) (n := 0) (sz := 7) hs leA (fun _ => rfl) hl0 rfl 2 _ rfl, ?_⟩ | refine ⟨Cl.row (j := 0) (n := 0) (sz := 7) hs leA (fun _ => rfl) hl0 rfl 3 _ rfl, ?_⟩ | refine ⟨Cl.row (j := 0) (n := 0) (sz := 7) hs leA (fun _ => rfl) hl0 rfl 4 _ rfl, ?_⟩ | refine ⟨Cl.row (j := 0) (n := 0) (sz := 7) hs leA (fun _ => rfl) hl0 rfl 5 _ rfl, ?_⟩ | refine ⟨Cl.row (j := 0) (n := 0) (sz := 7) hs leA (fun _ => rfl) hl0 rfl 6 _ rfl, ?_⟩ | refine ⟨Cl.row (j := 1) (n := 1) (sz := 7) hs leA (fun _ => rfl) hl1 rfl 0 _ rfl, ?_⟩ | refine ⟨Cl.row (j := 1) (n := 1) (sz := 7) hs leA (fun _ => rfl) hl1 rfl 1 _ rfl, ?_⟩ | refine ⟨Cl.row (j := 1) (n := 1) (sz := 7) hs leA (fun _ => rfl) hl1 rfl 2 _ rfl, ?_⟩ | refine ⟨Cl.row (j := 1) (n := 1) (sz := 7) hs leA (fun _ => rfl) hl1 rfl 3 _ rfl, ?_⟩ | refine ⟨Cl.row (j := 1) (n := 1) (sz := 7) hs leA (fun _ => rfl) hl1 rfl 4 _ rfl, ?_⟩ | refine ⟨Cl.row (j := 1) (n := 1) (sz := 7) hs leA (fun _ => rfl) hl1 rfl 5 _ rfl, ?_⟩ | refine ⟨Cl.row (j := 1) (n := 1) (sz := 7) hs leA (fun _ => rfl) hl1 rfl 6 _ rfl, ?_⟩)), ?_⟩
  refine XF.abs (e0 := ⟨7, 12, fun g => .pointer (some ⟨g, 0, none⟩), fun g => pto g (.cells [.int .i64 0, .int .i64 0, .slice none 0 0].toArray 152 (0, 0))⟩) (hnd := by simp) 7 ⟨⟨_, rfl, rfl, rfl, rfl, rfl, rfl, fun q => Ef.alloc Tryz.zeroValue152⟩, trivial⟩ (fun nm1 => ?_) (hL := (hlA (h := by repeat first | exact trivial | refine ⟨clA, ?_⟩ | refine ⟨Cl.row (j := 0) (n := 0) (sz := 7) hs leA (fun _ => rfl) hl0 rfl 0 _ rfl, ?_⟩ | refine ⟨Cl.row (j := 0) (n := 0) (sz := 7) hs leA (fun _ => rfl) hl0 rfl 1 _ rfl, ?_⟩ | refine ⟨Cl.row (j := 0) (n := 0) (sz := 7) hs leA (fun _ => rfl) hl0 rfl 2 _ rfl, ?_⟩ | refine ⟨Cl.row (j := 0) (n := 0) (sz := 7) hs leA (fun _ => rfl) hl0 rfl 3 _ rfl, ?_⟩ | refine ⟨Cl.row (j := 0) (n := 0) (sz := 7) hs leA (fun _ => rfl) hl0 rfl 4 _ rfl, ?_⟩ | refine ⟨Cl.row (j := 0) (n := 0) (sz := 7) hs leA (fun _ => rfl) hl0 rfl 5 _ rfl, ?_⟩ | refine ⟨Cl.row (j := 0) (n := 0) (sz := 7) hs leA (fun _ => rfl) hl0 rfl 6 _ rfl, ?_⟩ | refine ⟨Cl.row (j := 1) (n := 1) (sz := 7) hs leA (fun _ => rfl) hl1 rfl 0 _ rfl, ?_⟩ | refine ⟨Cl.row (j := 1) (n := 1) (sz := 7) hs leA (fun _ => rfl) hl1 rfl 1 _ rfl, ?_⟩ | refine ⟨Cl.row (j := 1) (n := 1) (sz := 7) hs leA (fun _ => rfl) hl1 rfl 2 _ rfl, ?_⟩ | refine ⟨Cl.row (j := 1) (n := 1) (sz := 7) hs leA (fun _ => rfl) hl1 rfl 3 _ rfl, ?_⟩ | refine ⟨Cl.row (j := 1) (n := 1) (sz := 7) hs leA (fun _ => rfl) hl1 rfl 4 _ rfl, ?_⟩ | refine ⟨Cl.row (j := 1) (n := 1) (sz := 7) hs leA (fun _ => rfl) hl1 rfl 5 _ rfl, ?_⟩ | refine ⟨Cl.row (j := 1) (n := 1) (sz := 7) hs leA (fun _ => rfl) hl1 rfl 6 _ rfl, ?_⟩)))
  change XF _ _ _ _ _ _ _ [] _ _ _ ((12, .pointer (some ⟨nm1, 0, none⟩)) :: _) _ _ (pto nm1 (.cells [.int .i64 0, .int .i64 0, .slice none 0 0].toArray 152 (0, 0)) :: _)
  refine XF.back ?_ (hL := (hlA (h := by repeat first | exact trivial | refine ⟨clA, ?_⟩ | refine ⟨Cl.row (j := 0) (n := 0) (sz := 7) hs leA (fun _ => rfl) hl0 rfl 0 _ rfl, ?_⟩ | refine ⟨Cl.row (j := 0) (n := 0) (sz := 7) hs leA (fun _ => rfl) hl0 rfl 1 _ rfl, ?_⟩ | refine ⟨Cl.row (j := 0) (n := 0) (sz := 7) hs leA (fun _ => rfl) hl0 rfl 2 _ rfl, ?_⟩ | refine ⟨Cl.row (j := 0) (n := 0) (sz := 7) hs leA (fun _ => rfl) hl0 rfl 3 _ rfl, ?_⟩ | refine ⟨Cl.row (j := 0) (n := 0) (sz := 7) hs leA (fun _ => rfl) hl0 rfl 4 _ rfl, ?_⟩ | refine ⟨Cl.row (j := 0) (n := 0) (sz := 7) hs leA (fun _ => rfl) hl0 rfl 5 _ rfl, ?_⟩ | refine ⟨Cl.row (j := 0) (n := 0) (sz := 7) hs leA (fun _ => rfl) hl0 rfl 6 _ rfl, ?_⟩ | refine ⟨Cl.row (j := 1) (n := 1) (sz := 7) hs leA (fun _ => rfl) hl1 rfl 0 _ rfl, ?_⟩ | refine ⟨Cl.row (j := 1) (n := 1) (sz := 7) hs leA (fun _ => rfl) hl1 rfl 1 _ rfl, ?_⟩ | refine ⟨Cl.row (j := 1) (n := 1) (sz := 7) hs leA (fun _ => rfl) hl1 rfl 2 _ rfl, ?_⟩ | refine ⟨Cl.row (j := 1) (n := 1) (sz := 7) hs leA (fun _ => rfl) hl1 rfl 3 _ rfl, ?_⟩ | refine ⟨Cl.row (j := 1) (n := 1) (sz := 7) hs leA (fun _ => rfl) hl1 rfl 4 _ rfl, ?_⟩ | refine ⟨Cl.row (j := 1) (n := 1) (sz := 7) hs leA (fun _ => rfl) hl1 rfl 5 _ rfl, ?_⟩ | refine ⟨Cl.row (j := 1) (n := 1) (sz := 7) hs leA (fun _ => rfl) hl1 rfl 6 _ rfl, ?_⟩)))
  refine XD.ef0 8 rfl (Ef.stA Tryz.sizeOf152) ?_
  rintro _ _ ⟨rfl, rfl⟩
  refine ⟨trivial, ?_⟩
  refine XD.nil ?_
  refine xx 1 ?_
  refine X.draw [] Tryz.mixed (by kernel_rfl) (by kernel_rfl) rfl ?_
  refine dd [0] ?_
  refine XD.ld 1 Tryz.isAgg150 ?_
  refine dd [3] ?_
  refine XD.ld 4 Tryz.isAgg150 ?_
  refine XD.le (q' := rsH acc3 3 71 none 0 [] :: _) (Le.rsH_nil _ _ _ _) ?_
  refine XD.ef 2 rfl (Ef.appRA (f := acc3) (l := []) (m := []) Tryz.underlying150 Tryz.info71 rfl rfl (fun _ => rfl) rfl rfl fndA (Sees.nil _ _) (fun _ => rfl) (by simp) (by simp)) ?_
  rintro _ _ ⟨a2, c2, rfl, rfl⟩
  refine ⟨(hlA (h := by repeat first | exact trivial | refine ⟨clA, ?_⟩ | refine ⟨Cl.row (j := 0) (n := 0) (sz := 7) hs leA (fun _ => rfl) hl0 rfl 0 _ rfl, ?_⟩ | refine ⟨Cl.row (j := 0) (n := 0) (sz := 7) hs leA (fun _ => rfl) hl0 rfl 1 _ rfl, ?_⟩ | refine ⟨Cl.row (j := 0) (n := 0) (sz := 7) hs leA (fun _ => rfl) hl0 rfl 2 _ rfl, ?_⟩ | refine ⟨Cl.row (j := 0) (n := 0) (sz := 7) hs leA (fun _ => rfl) hl0 rfl 3 _ rfl, ?_⟩ | refine ⟨Cl.row (j := 0) (n := 0) (sz := 7) hs leA (fun _ => rfl) hl0 rfl 4 _ rfl, ?_⟩ | refine ⟨Cl.row (j := 0) (n := 0) (sz := 7) hs leA (fun _ => rfl) hl0 rfl 5 _ rfl, ?_⟩ | refine ⟨Cl.row (j := 0) (n := 0) (sz := 7) hs leA (fun _ => rfl) hl0 rfl 6 _ rfl, ?_⟩ | refine ⟨Cl.row (j := 1) (n := 1) (sz := 7) hs leA (fun _ => rfl) hl1 rfl 0 _ rfl, ?_⟩ | refine ⟨Cl.row (j := 1) (n := 1) (sz := 7) hs leA (fun _ => rfl) hl1 rfl 1 _ rfl, ?_⟩ | refine ⟨Cl.row (j := 1) (n := 1) (sz := 7) hs leA (fun _ => rfl) hl1 rfl 2 _ rfl, ?_⟩ | refine ⟨Cl.row (j := 1) (n := 1) (sz := 7) hs leA (fun _ => rfl) hl1 rfl 3 _ rfl, ?_⟩ | refine ⟨Cl.row (j := 1) (n := 1) (sz := 7) hs leA (fun _ => rfl) hl1 rfl 4 _ rfl, ?_⟩ | refine ⟨Cl.row (j := 1) (n := 1) (sz := 7) hs leA (fun _ => rfl) hl1 rfl 5 _ rfl, ?_⟩ | refine ⟨Cl.row (j := 1) (n := 1) (sz := 7) hs leA (fun _ => rfl) hl1 rfl 6 _ rfl, ?_⟩)), ?_⟩
  refine XD.ef 5 rfl (Ef.appRA (f := acc3) (l := []) (m := []) Tryz.underlying150 Tryz.info71 rfl rfl (fun _ => rfl) rfl rfl fndA (Sees.nil _ _) (fun _ => rfl) (by simp) (by simp)) ?_
  rintro _ _ ⟨a3, c3, rfl, rfl⟩
  refine ⟨trivial, ?_⟩
  refine dd [6] ?_
  refine XD.ef0 7 rfl (Ef.st Tryz.sizeOf150) ?_
  rintro _ _ ⟨rfl, rfl⟩
  refine ⟨trivial, ?_⟩
  refine XD.nil ?_
  refine xo 4 ?_
  refine XO.ld Tryz.isAgg3 ?_
  refine ox 2 ?_
  refine X.sb [154, 12, 11, 7, 6] ?_
  refine X.know 154 (.bool false) rfl knw ?_
  refine xx 8 ?_
  refine X.know 157 (.bool false) rfl (congrArg Value.bool (by first | rfl | exact decide_eq_false (by omega) | (simp; omega))) ?_
  refine xo 6 ?_
  refine XO.ld Tryz.isAgg2 ?_
  refine oo 1 ?_
  refine XO.ld Tryz.isAgg2 ?_
  refine XO.cR Tryz.call112 (two05_ok (op := op) (u := u) (z := z) ho hu hz) ?_
  refine oo 11 ?_
  refine XO.ld Tryz.isAgg150 ?_
  refine oo 1 ?_
  refine XO.ef0 (Ef.stA Tryz.sizeOf152) ?_
  rintro _ _ ⟨rfl, rfl⟩
  refine ox 1 ?_
  refine X.sb [6] ?_
  refine X.retL (q) Tryz.func69 (resC1 Tryz.results69 (ResOk.cell rfl (LV.agg Tryz.isAgg152 Tryz.sizeOf152 hasA rfl) ResOk.nil)) ⟨_, rfl, a3, c3, rfl, rfl⟩
end
end Go.Proofs.YtcklgodcjnnllaaGreatDoor

