/- What functions of package verify, of its references and of its laws do: contracts of calls, proved by walking their code. -/
import Derived.Test.YtmdnfhpoplpaoaaDoorS
import Derived.Test.YtmdnfhpoplpaoaaDoorWd
import Derived.KernelRfl
set_option maxRecDepth 100000
set_option linter.unusedVariables false
set_option linter.unusedSimpArgs false
namespace Go.Proofs.YtmdnfhpoplpaoaaDoor
open Go Go.RowKit Wx
attribute [local irreducible] Wx.lsH Wx.rsH Wx.lsM Wx.rsM Wx.stars

theorem Tryd.info2 : (Tryd.prog.info? 2).map (fun i => (i.zero, i.size, i.bytes)) = some (some (.int .i64 0), 1, 8) := by kernel_rfl
theorem Le.mk_ints3 {g C ty : Nat} (q : List HP) : Le (slH (some ⟨g, 0, none⟩) C ty 1 C ((List.replicate C (Value.int .i64 0).cells.toList).flatten) :: q) (lsH I64 ty (some ⟨g, 0, none⟩) C (List.replicate C 0) :: q) := by
  have e1 : (List.replicate C (0 : Int)).map I64 = (List.replicate C (Value.int .i64 0).cells.toList).flatten := by simp [Value.cells]
  unfold lsH
  rw [e1, List.length_replicate]
  exact Le.refl _
theorem dp_bad3 {m : Mdl} {th : Int} (h : mchk m ≠ 0) : dpOf m th = ([], 2) := by
  unfold dpOf; rw [if_pos h, show mchk m = 2 by unfold mchk at h ⊢; split <;> simp_all]
theorem vchk_bad3 {m : Mdl} (h : mchk m ≠ 0) : vchk m = 2 := by
  unfold vchk; rw [if_pos h]; unfold mchk at h ⊢; split <;> simp_all
theorem vchk_two {m : Mdl} {t u : Cod} (h : mchk m = 0) (ht : m.threads = [t, u]) : vchk m = if (dOf m t).2 ≠ 0 then (dOf m t).2 else (dOf m u).2 := by
  unfold vchk; rw [if_neg (by omega), ht]; unfold vErr; split
  · rfl
  · unfold vErr; split <;> simp_all [vErr]
def mod3 (xs ys : List Ins) (a b : Option Addr) (c d : Nat) (g0 g1 g2 g3 g4 g5 : Nat) : Mdl := ⟨[1], [2], [1], 1, 1, [⟨⟨#[97]⟩, 1, xs, List.replicate xs.length 0, a, c, some ⟨g3, 0, none⟩, xs.length⟩, ⟨⟨#[98]⟩, 0, ys, List.replicate ys.length 0, b, d, some ⟨g4, 0, none⟩, ys.length⟩], some ⟨g0, 0, none⟩, 1, some ⟨g1, 0, none⟩, 1, some ⟨g2, 0, none⟩, 1, some ⟨g5, 0, none⟩, 2⟩
theorem mod3_q {q : List HP} {xs ys : List Ins} {a b : Option Addr} {c d : Nat} {g0 g1 g2 g3 g4 g5 : Nat} {r0 r1 r2 r3 r4 r5 : List HP} (hs : Sees q a (xs.flatMap insC)) (hL : xs.length ≤ 1000) (hs2 : Sees q b (ys.flatMap insC)) (hL2 : ys.length ≤ 1000)
    (h0 : Le q (lsH I64 2 (some ⟨g0, 0, none⟩) 1 [1] :: r0)) (h1 : Le q (lsH I64 3 (some ⟨g1, 0, none⟩) 1 [2] :: r1)) (h2 : Le q (lsH I64 3 (some ⟨g2, 0, none⟩) 1 [1] :: r2))
    (h3 : Le q (lsH I64 3 (some ⟨g3, 0, none⟩) xs.length (List.replicate xs.length 0) :: r3)) (h4 : Le q (lsH I64 3 (some ⟨g4, 0, none⟩) ys.length (List.replicate ys.length 0) :: r4)) (h5 : Le q (rsH codC 4 39 (some ⟨g5, 0, none⟩) 2 (mod3 xs ys a b c d g0 g1 g2 g3 g4 g5).threads :: r5)) : MdlQ q (mod3 xs ys a b c d g0 g1 g2 g3 g4 g5) :=
  ⟨(Sees.lsH _).le h0, (Sees.lsH _).le h1, (Sees.lsH _).le h2, (Sees.rsH _).le h5, fun x hx => by
    rcases List.mem_cons.1 hx with rfl | hx
    · exact ⟨hs, (Sees.lsH _).le h3, (show 1 ≤ 9223372036854775807 by decide), by dsimp only; omega, by dsimp only; rw [List.length_replicate]; omega⟩
    · obtain rfl := List.mem_singleton.1 hx
      exact ⟨hs2, (Sees.lsH _).le h4, (show 1 ≤ 9223372036854775807 by decide), by dsimp only; omega, by dsimp only; rw [List.length_replicate]; omega⟩, (show 1 ≤ 9223372036854775807 by decide), (show 1 ≤ 9223372036854775807 by decide), (show 1 ≤ 9223372036854775807 by decide), (show 2 ≤ 9223372036854775807 by decide)⟩
section
variable {G : World} {q pre : List HP} {a b A : Option Addr} {c d C p p0 p1 p2 i : Nat} {lo hi n cd dep : Int} {fv : Value} {x y : Ins} {t : Cod} {m : Mdl} {at_ : Int}
variable {l l2 : List Ins}
set_option maxHeartbeats 8000000 in
theorem verifyTwo_ok (gc : GC q) (g : GE q) (hs : Sees q a (l.flatMap insC)) (hL0 : l.length ≤ 9223372036854775807) (hs2 : Sees q b (l2.flatMap insC)) (hL02 : l2.length ≤ 9223372036854775807) : CallF Tryd.prog G 6 [.slice a l.length c, .slice b l2.length d] (q) (Ret fun v q' => v = .bool true ∧ q' = q) := by
  refine CallF.of Tryd.func6 Tryd.ntmps6 rfl (fun F cs => ?_)
  refine xo 11 ?_
  refine XO.sb [14, 4, 0, 1] ?_
  apply XO.cutOr 4 18 14 rfl
  · skip
    intro g1 M1; have h1 := sp g1
    refine oo 4 ?_
    exact XO.fin M1 ⟨orF g1, subB⟩
  · skip
    intro g1 M1; have h1 := sp g1
    refine oo 4 ?_
    exact XO.fin M1 ⟨orT g1, subB⟩
  · skip
    refine ox 1 ?_
    refine X.part 18 rfl (fun h1 => ?_) (fun h1 => ?_)
    · skip
      replace h1 := sp h1
      refine xo 3 ?_
      refine XO.cR Tryd.call10 (works_ok (gc.le leA) (g.le leA)) ?_
      refine ox 2 ?_
      refine X.retL (q) Tryd.func6 (res1 Tryd.results6 rfl) ⟨_, rfl, rfl, rfl⟩
    · skip
      replace h1 := sp h1
      refine xx 3 ?_
      refine X.draw [] Tryd.mixed (by kernel_rfl) (by kernel_rfl) rfl ?_
      refine dd [3, 4, 5, 8, 9, 10] ?_
      have hL : l.length ≤ 1000 := (by omega); have hL2 : l2.length ≤ 1000 := (by omega)
      refine XD.float (fl := [⟨0, 20, fun g => .slice (some ⟨g, 0, none⟩) 1 1, fun g => lsH I64 2 (some ⟨g, 0, none⟩) 1 [1]⟩, ⟨1, 21, fun g => .slice (some ⟨g, 0, none⟩) 1 1, fun g => lsH I64 3 (some ⟨g, 0, none⟩) 1 [2]⟩, ⟨2, 22, fun g => .slice (some ⟨g, 0, none⟩) 1 1, fun g => lsH I64 3 (some ⟨g, 0, none⟩) 1 [1]⟩, ⟨15, 5, fun g => .pointer (some ⟨g, 0, none⟩), fun g => pto g (.cells [.slice none 0 0, .slice none 0 0, .slice none 0 0, .int .i64 0, .int .i64 0, .slice none 0 0].toArray 26 (0, 0))⟩]) ?_
      refine XF.two 6 11 ⟨⟨_, rfl, rfl, rfl, rfl, rfl, rfl, fun q => Ef.litL I64 [1] Tryd.underlying22 Tryd.info2 rfl rfl rfl rfl rfl rfl (fun _ => rfl)⟩, ⟨_, rfl, rfl, rfl, rfl, rfl, rfl, fun q => Ef.litL I64 [2] Tryd.underlying23 Tryd.info3 rfl rfl rfl rfl rfl rfl (fun _ => rfl)⟩, ⟨_, rfl, rfl, rfl, rfl, rfl, rfl, fun q => Ef.litL I64 [1] Tryd.underlying23 Tryd.info3 rfl rfl rfl rfl rfl rfl (fun _ => rfl)⟩, ⟨_, rfl, rfl, rfl, rfl, rfl, rfl, fun q => Ef.alloc Tryd.zeroValue26⟩, trivial⟩ (StepOk.of 6 (Ef.newE (V := fun g => .slice (some ⟨g, 0, none⟩) l.length l.length) (A := fun g => slH (some ⟨g, 0, none⟩) l.length 3 1 l.length ((List.replicate l.length (Value.int .i64 0).cells.toList).flatten)) (fun q => Ef.make (n := l.length) rfl rfl Tryd.underlying23 Tryd.info3 rfl rfl (by omega) (by omega))) ?_) (StepOk.of 11 (Ef.newE (V := fun g => .slice (some ⟨g, 0, none⟩) l2.length l2.length) (A := fun g => slH (some ⟨g, 0, none⟩) l2.length 3 1 l2.length ((List.replicate l2.length (Value.int .i64 0).cells.toList).flatten)) (fun q => Ef.make (n := l2.length) rfl rfl Tryd.underlying23 Tryd.info3 rfl rfl (by omega) (by omega))) ?_)
      · skip
        rintro _ _ ⟨g3, rfl, rfl⟩
        refine ⟨trivial, ?_⟩
        refine XF.pu 7 ⟨⟨_, rfl, rfl, rfl, rfl, rfl, rfl, fun q => Ef.litL I64 [1] Tryd.underlying22 Tryd.info2 rfl rfl rfl rfl rfl rfl (fun _ => rfl)⟩, ⟨_, rfl, rfl, rfl, rfl, rfl, rfl, fun q => Ef.litL I64 [2] Tryd.underlying23 Tryd.info3 rfl rfl rfl rfl rfl rfl (fun _ => rfl)⟩, ⟨_, rfl, rfl, rfl, rfl, rfl, rfl, fun q => Ef.litL I64 [1] Tryd.underlying23 Tryd.info3 rfl rfl rfl rfl rfl rfl (fun _ => rfl)⟩, ⟨_, rfl, rfl, rfl, rfl, rfl, rfl, fun q => Ef.alloc Tryd.zeroValue26⟩, trivial⟩ (Pu.build (cells := [_, _, _, _]) [(0, 1), (1, 1), (2, 1), (3, 1)] Tryd.zeroValue39 Tryd.underlying39 (by kernel_rfl) rfl rfl) ?_
        refine XF.ef 11 ⟨⟨_, rfl, rfl, rfl, rfl, rfl, rfl, fun q => Ef.litL I64 [1] Tryd.underlying22 Tryd.info2 rfl rfl rfl rfl rfl rfl (fun _ => rfl)⟩, ⟨_, rfl, rfl, rfl, rfl, rfl, rfl, fun q => Ef.litL I64 [2] Tryd.underlying23 Tryd.info3 rfl rfl rfl rfl rfl rfl (fun _ => rfl)⟩, ⟨_, rfl, rfl, rfl, rfl, rfl, rfl, fun q => Ef.litL I64 [1] Tryd.underlying23 Tryd.info3 rfl rfl rfl rfl rfl rfl (fun _ => rfl)⟩, ⟨_, rfl, rfl, rfl, rfl, rfl, rfl, fun q => Ef.alloc Tryd.zeroValue26⟩, trivial⟩ (Ef.newE (V := fun g => .slice (some ⟨g, 0, none⟩) l2.length l2.length) (A := fun g => slH (some ⟨g, 0, none⟩) l2.length 3 1 l2.length ((List.replicate l2.length (Value.int .i64 0).cells.toList).flatten)) (fun q => Ef.make (n := l2.length) rfl rfl Tryd.underlying23 Tryd.info3 rfl rfl (by omega) (by omega))) ?_
        rintro _ _ ⟨g4, rfl, rfl⟩
        refine ⟨trivial, ?_⟩
        refine XF.pu 12 ⟨⟨_, rfl, rfl, rfl, rfl, rfl, rfl, fun q => Ef.litL I64 [1] Tryd.underlying22 Tryd.info2 rfl rfl rfl rfl rfl rfl (fun _ => rfl)⟩, ⟨_, rfl, rfl, rfl, rfl, rfl, rfl, fun q => Ef.litL I64 [2] Tryd.underlying23 Tryd.info3 rfl rfl rfl rfl rfl rfl (fun _ => rfl)⟩, ⟨_, rfl, rfl, rfl, rfl, rfl, rfl, fun q => Ef.litL I64 [1] Tryd.underlying23 Tryd.info3 rfl rfl rfl rfl rfl rfl (fun _ => rfl)⟩, ⟨_, rfl, rfl, rfl, rfl, rfl, rfl, fun q => Ef.alloc Tryd.zeroValue26⟩, trivial⟩ (Pu.build (cells := [_, _, _, _]) [(0, 1), (1, 1), (2, 1), (3, 1)] Tryd.zeroValue39 Tryd.underlying39 (by kernel_rfl) rfl rfl) ?_
        have eU1 : codC (⟨⟨#[97]⟩, 1, l, List.replicate l.length 0, a, c, some ⟨g3, 0, none⟩, l.length⟩ : Cod) = [.string ⟨#[97]⟩, .int .i64 1, .slice a l.length c, .slice (some ⟨g3, 0, none⟩) l.length l.length] := by simp [codC]
        have eU2 : codC (⟨⟨#[98]⟩, 0, l2, List.replicate l2.length 0, b, d, some ⟨g4, 0, none⟩, l2.length⟩ : Cod) = [.string ⟨#[98]⟩, .int .i64 0, .slice b l2.length d, .slice (some ⟨g4, 0, none⟩) l2.length l2.length] := by simp [codC]
        have eU12 : [(⟨⟨#[97]⟩, 1, l, List.replicate l.length 0, a, c, some ⟨g3, 0, none⟩, l.length⟩ : Cod), (⟨⟨#[98]⟩, 0, l2, List.replicate l2.length 0, b, d, some ⟨g4, 0, none⟩, l2.length⟩ : Cod)].flatMap codC = [.string ⟨#[97]⟩, .int .i64 1, .slice a l.length c, .slice (some ⟨g3, 0, none⟩) l.length l.length, .string ⟨#[98]⟩, .int .i64 0, .slice b l2.length d, .slice (some ⟨g4, 0, none⟩) l2.length l2.length] := by simp [codC]
        refine XF.ef 13 ⟨⟨_, rfl, rfl, rfl, rfl, rfl, rfl, fun q => Ef.litL I64 [1] Tryd.underlying22 Tryd.info2 rfl rfl rfl rfl rfl rfl (fun _ => rfl)⟩, ⟨_, rfl, rfl, rfl, rfl, rfl, rfl, fun q => Ef.litL I64 [2] Tryd.underlying23 Tryd.info3 rfl rfl rfl rfl rfl rfl (fun _ => rfl)⟩, ⟨_, rfl, rfl, rfl, rfl, rfl, rfl, fun q => Ef.litL I64 [1] Tryd.underlying23 Tryd.info3 rfl rfl rfl rfl rfl rfl (fun _ => rfl)⟩, ⟨_, rfl, rfl, rfl, rfl, rfl, rfl, fun q => Ef.alloc Tryd.zeroValue26⟩, trivial⟩ (Ef.newE (V := fun g => .slice (some ⟨g, 0, none⟩) 2 2) (A := fun g => slH (some ⟨g, 0, none⟩) 2 39 4 2 ([(⟨⟨#[97]⟩, 1, l, List.replicate l.length 0, a, c, some ⟨g3, 0, none⟩, l.length⟩ : Cod), (⟨⟨#[98]⟩, 0, l2, List.replicate l2.length 0, b, d, some ⟨g4, 0, none⟩, l2.length⟩ : Cod)].flatMap codC)) (fun q => Ef.buildSlice (ps := [(0, .tmp 27), (1, .tmp 32)]) (len := 2) (us := [.agg (codC (⟨⟨#[97]⟩, 1, l, List.replicate l.length 0, a, c, some ⟨g3, 0, none⟩, l.length⟩ : Cod)).toArray, .agg (codC (⟨⟨#[98]⟩, 0, l2, List.replicate l2.length 0, b, d, some ⟨g4, 0, none⟩, l2.length⟩ : Cod)).toArray]) (cells := [(⟨⟨#[97]⟩, 1, l, List.replicate l.length 0, a, c, some ⟨g3, 0, none⟩, l.length⟩ : Cod), (⟨⟨#[98]⟩, 0, l2, List.replicate l2.length 0, b, d, some ⟨g4, 0, none⟩, l2.length⟩ : Cod)].flatMap codC) Tryd.underlying24 Tryd.info39 (by rw [eU1, eU2]; rfl) rfl rfl (by rw [eU12, eU1, eU2]; kernel_rfl) (by rw [eU12]; rfl))) ?_
        rintro _ _ ⟨g5, rfl, rfl⟩
        refine ⟨trivial, ?_⟩
        refine XF.abs (e0 := ⟨0, 20, fun g => .slice (some ⟨g, 0, none⟩) 1 1, fun g => lsH I64 2 (some ⟨g, 0, none⟩) 1 [1]⟩) (hnd := by simp) 0 ⟨⟨_, rfl, rfl, rfl, rfl, rfl, rfl, fun q => Ef.litL I64 [1] Tryd.underlying22 Tryd.info2 rfl rfl rfl rfl rfl rfl (fun _ => rfl)⟩, ⟨_, rfl, rfl, rfl, rfl, rfl, rfl, fun q => Ef.litL I64 [2] Tryd.underlying23 Tryd.info3 rfl rfl rfl rfl rfl rfl (fun _ => rfl)⟩, ⟨_, rfl, rfl, rfl, rfl, rfl, rfl, fun q => Ef.litL I64 [1] Tryd.underlying23 Tryd.info3 rfl rfl rfl rfl rfl rfl (fun _ => rfl)⟩, ⟨_, rfl, rfl, rfl, rfl, rfl, rfl, fun q => Ef.alloc Tryd.zeroValue26⟩, trivial⟩ (fun g0 => ?_)
        change XF _ _ _ _ _ _ _ [⟨1, 21, fun g => .slice (some ⟨g, 0, none⟩) 1 1, fun g => lsH I64 3 (some ⟨g, 0, none⟩) 1 [2]⟩, ⟨2, 22, fun g => .slice (some ⟨g, 0, none⟩) 1 1, fun g => lsH I64 3 (some ⟨g, 0, none⟩) 1 [1]⟩, ⟨15, 5, fun g => .pointer (some ⟨g, 0, none⟩), fun g => pto g (.cells [.slice none 0 0, .slice none 0 0, .slice none 0 0, .int .i64 0, .int .i64 0, .slice none 0 0].toArray 26 (0, 0))⟩] _ _ _ ((20, .slice (some ⟨g0, 0, none⟩) 1 1) :: _) _ _ (lsH I64 2 (some ⟨g0, 0, none⟩) 1 [1] :: _)
        refine XF.abs (e0 := ⟨1, 21, fun g => .slice (some ⟨g, 0, none⟩) 1 1, fun g => lsH I64 3 (some ⟨g, 0, none⟩) 1 [2]⟩) (hnd := by simp) 1 ⟨⟨_, rfl, rfl, rfl, rfl, rfl, rfl, fun q => Ef.litL I64 [2] Tryd.underlying23 Tryd.info3 rfl rfl rfl rfl rfl rfl (fun _ => rfl)⟩, ⟨_, rfl, rfl, rfl, rfl, rfl, rfl, fun q => Ef.litL I64 [1] Tryd.underlying23 Tryd.info3 rfl rfl rfl rfl rfl rfl (fun _ => rfl)⟩, ⟨_, rfl, rfl, rfl, rfl, rfl, rfl, fun q => Ef.alloc Tryd.zeroValue26⟩, trivial⟩ (fun g1 => ?_)
        change XF _ _ _ _ _ _ _ [⟨2, 22, fun g => .slice (some ⟨g, 0, none⟩) 1 1, fun g => lsH I64 3 (some ⟨g, 0, none⟩) 1 [1]⟩, ⟨15, 5, fun g => .pointer (some ⟨g, 0, none⟩), fun g => pto g (.cells [.slice none 0 0, .slice none 0 0, .slice none 0 0, .int .i64 0, .int .i64 0, .slice none 0 0].toArray 26 (0, 0))⟩] _ _ _ ((21, .slice (some ⟨g1, 0, none⟩) 1 1) :: _) _ _ (lsH I64 3 (some ⟨g1, 0, none⟩) 1 [2] :: _)
        refine XF.abs (e0 := ⟨2, 22, fun g => .slice (some ⟨g, 0, none⟩) 1 1, fun g => lsH I64 3 (some ⟨g, 0, none⟩) 1 [1]⟩) (hnd := by simp) 2 ⟨⟨_, rfl, rfl, rfl, rfl, rfl, rfl, fun q => Ef.litL I64 [1] Tryd.underlying23 Tryd.info3 rfl rfl rfl rfl rfl rfl (fun _ => rfl)⟩, ⟨_, rfl, rfl, rfl, rfl, rfl, rfl, fun q => Ef.alloc Tryd.zeroValue26⟩, trivial⟩ (fun g2 => ?_)
        change XF _ _ _ _ _ _ _ [⟨15, 5, fun g => .pointer (some ⟨g, 0, none⟩), fun g => pto g (.cells [.slice none 0 0, .slice none 0 0, .slice none 0 0, .int .i64 0, .int .i64 0, .slice none 0 0].toArray 26 (0, 0))⟩] _ _ _ ((22, .slice (some ⟨g2, 0, none⟩) 1 1) :: _) _ _ (lsH I64 3 (some ⟨g2, 0, none⟩) 1 [1] :: _)
        refine XF.pu 14 ⟨⟨_, rfl, rfl, rfl, rfl, rfl, rfl, fun q => Ef.alloc Tryd.zeroValue26⟩, trivial⟩ (Pu.build (cells := [_, _, _, _, _, _]) [(0, 1), (1, 1), (2, 1), (3, 1), (4, 1), (5, 1)] Tryd.zeroValue26 Tryd.underlying26 (by kernel_rfl) rfl rfl) ?_
        refine XF.abs (e0 := ⟨15, 5, fun g => .pointer (some ⟨g, 0, none⟩), fun g => pto g (.cells [.slice none 0 0, .slice none 0 0, .slice none 0 0, .int .i64 0, .int .i64 0, .slice none 0 0].toArray 26 (0, 0))⟩) (hnd := by simp) 15 ⟨⟨_, rfl, rfl, rfl, rfl, rfl, rfl, fun q => Ef.alloc Tryd.zeroValue26⟩, trivial⟩ (fun n1 => ?_)
        change XF _ _ _ _ _ _ _ [] _ _ _ ((5, .pointer (some ⟨n1, 0, none⟩)) :: _) _ _ (pto n1 (.cells [.slice none 0 0, .slice none 0 0, .slice none 0 0, .int .i64 0, .int .i64 0, .slice none 0 0].toArray 26 (0, 0)) :: _)
        refine XF.back ?_
        refine XD.ef0 16 rfl (Ef.stA Tryd.sizeOf26) ?_
        rintro _ _ ⟨rfl, rfl⟩
        refine ⟨trivial, ?_⟩
        refine XD.nil ?_
        refine xo 2 ?_
        refine XO.ldA Tryd.isAgg26 Tryd.sizeOf26 ?_
        refine XO.le (q' := lsH I64 3 (some ⟨g3, 0, none⟩) l.length (List.replicate l.length 0) :: _) (Le.trans fndA (Le.mk_ints3 _)) ?_
        refine XO.le (q' := lsH I64 3 (some ⟨g4, 0, none⟩) l2.length (List.replicate l2.length 0) :: _) (Le.trans fndA (Le.mk_ints3 _)) ?_
        refine XO.le (q' := rsH codC 4 39 (some ⟨g5, 0, none⟩) 2 [(⟨⟨#[97]⟩, 1, l, List.replicate l.length 0, a, c, some ⟨g3, 0, none⟩, l.length⟩ : Cod), (⟨⟨#[98]⟩, 0, l2, List.replicate l2.length 0, b, d, some ⟨g4, 0, none⟩, l2.length⟩ : Cod)] :: _) (Le.trans fndA (Le.rs_of_sl codC 4 39 (some ⟨g5, 0, none⟩) 2 [(⟨⟨#[97]⟩, 1, l, List.replicate l.length 0, a, c, some ⟨g3, 0, none⟩, l.length⟩ : Cod), (⟨⟨#[98]⟩, 0, l2, List.replicate l2.length 0, b, d, some ⟨g4, 0, none⟩, l2.length⟩ : Cod)] _)) ?_
        rcases Decidable.em (mchk (mod3 l l2 a b c d g0 g1 g2 g3 g4 g5) = 0) with hk0 | hk0
        · skip
          obtain ⟨hin, hLn⟩ := mdlOk_thr hk0 (t := (⟨⟨#[97]⟩, 1, l, List.replicate l.length 0, a, c, some ⟨g3, 0, none⟩, l.length⟩ : Cod)) (List.mem_cons_self ..); obtain ⟨hin2, hLn2⟩ := mdlOk_thr hk0 (t := (⟨⟨#[98]⟩, 0, l2, List.replicate l2.length 0, b, d, some ⟨g4, 0, none⟩, l2.length⟩ : Cod)) (List.mem_cons_of_mem _ (List.mem_singleton.2 rfl))
          have hdp : dpOf (mod3 l l2 a b c d g0 g1 g2 g3 g4 g5) 0 = dOf (mod3 l l2 a b c d g0 g1 g2 g3 g4 g5) (⟨⟨#[97]⟩, 1, l, List.replicate l.length 0, a, c, some ⟨g3, 0, none⟩, l.length⟩ : Cod) := by unfold dpOf; rw [if_neg (by omega), dif_pos ⟨by decide, (by decide : 0 < 2)⟩]; rfl
          have hdp1 : dpOf (mod3 l l2 a b c d g0 g1 g2 g3 g4 g5) 1 = dOf (mod3 l l2 a b c d g0 g1 g2 g3 g4 g5) (⟨⟨#[98]⟩, 0, l2, List.replicate l2.length 0, b, d, some ⟨g4, 0, none⟩, l2.length⟩ : Cod) := by unfold dpOf; rw [if_neg (by omega), dif_pos ⟨by decide, (by decide : 1 < 2)⟩]; rfl
          have hvc : vchk (mod3 l l2 a b c d g0 g1 g2 g3 g4 g5) = if (dOf (mod3 l l2 a b c d g0 g1 g2 g3 g4 g5) (⟨⟨#[97]⟩, 1, l, List.replicate l.length 0, a, c, some ⟨g3, 0, none⟩, l.length⟩ : Cod)).2 ≠ 0 then (dOf (mod3 l l2 a b c d g0 g1 g2 g3 g4 g5) (⟨⟨#[97]⟩, 1, l, List.replicate l.length 0, a, c, some ⟨g3, 0, none⟩, l.length⟩ : Cod)).2 else (dOf (mod3 l l2 a b c d g0 g1 g2 g3 g4 g5) (⟨⟨#[98]⟩, 0, l2, List.replicate l2.length 0, b, d, some ⟨g4, 0, none⟩, l2.length⟩ : Cod)).2 := vchk_two hk0 rfl
          rw [← hdp, ← hdp1] at hvc
          refine XO.cR Tryd.call12 (VCheck_ok (m := (mod3 l l2 a b c d g0 g1 g2 g3 g4 g5)) (gc.le leA) (g.le leA) (mod3_q (xs := l) (ys := l2) (a := a) (b := b) (c := c) (d := d) (g0 := g0) (g1 := g1) (g2 := g2) (g3 := g3) (g4 := g4) (g5 := g5) (hs.le leA) hL (hs2.le leA) hL2 fndA fndA fndA fndA fndA fndA)) ?_
          refine oo 4 ?_
          refine XO.ldA Tryd.isAgg26 Tryd.sizeOf26 ?_
          refine XO.cX Tryd.call14 (Le.refl _) (Depths_ok (m := (mod3 l l2 a b c d g0 g1 g2 g3 g4 g5)) (th := 0) (gc.le leA) (g.le leA) (mod3_q (xs := l) (ys := l2) (a := a) (b := b) (c := c) (d := d) (g0 := g0) (g1 := g1) (g2 := g2) (g3 := g3) (g4 := g4) (g5 := g5) (hs.le leA) hL (hs2.le leA) hL2 fndA fndA fndA fndA fndA fndA)) ?_
          rintro _ _ (⟨hz0, rfl, rfl⟩ | ⟨hz0, a0, c0, rfl, rfl⟩)
          · skip
            refine oo 8 ?_
            refine XO.ldA Tryd.isAgg26 Tryd.sizeOf26 ?_
            refine XO.cX Tryd.call14 (Le.refl _) (Depths_ok (m := (mod3 l l2 a b c d g0 g1 g2 g3 g4 g5)) (th := 1) (gc.le leA) (g.le leA) (mod3_q (xs := l) (ys := l2) (a := a) (b := b) (c := c) (d := d) (g0 := g0) (g1 := g1) (g2 := g2) (g3 := g3) (g4 := g4) (g5 := g5) (hs.le leA) hL (hs2.le leA) hL2 fndA fndA fndA fndA fndA fndA)) ?_
            rintro _ _ (⟨hz1, rfl, rfl⟩ | ⟨hz1, a1, c1, rfl, rfl⟩)
            · skip
              refine oo 9 ?_
              refine XO.ldA Tryd.isAgg26 Tryd.sizeOf26 ?_
              refine XO.cR Tryd.call15 (RCheck_ok (m := (mod3 l l2 a b c d g0 g1 g2 g3 g4 g5)) (mod3_q (xs := l) (ys := l2) (a := a) (b := b) (c := c) (d := d) (g0 := g0) (g1 := g1) (g2 := g2) (g3 := g3) (g4 := g4) (g5 := g5) (hs.le leA) hL (hs2.le leA) hL2 fndA fndA fndA fndA fndA fndA)) ?_
              refine ox 2 ?_
              refine X.sb [49, 10, 8, 6, 5, 4] ?_
              refine X.know 49 (.bool false) rfl (congrArg Value.bool (by rw [bne_eq_false_iff_eq]; exact hk0)) ?_
              refine xo 6 ?_
              refine XO.cR Tryd.call11 (num_ok) ?_
              refine ox 2 ?_
              refine X.know 68 (.bool true) rfl (congrArg Value.bool (by rw [bne_iff_ne]; exact hz0)) ?_
              refine xx 2 ?_
              refine X.draw [] Tryd.mixed (by kernel_rfl) (by kernel_rfl) rfl ?_
              refine dd [0, 1, 2, 3] ?_
              refine XD.know 72 (.bool true) rfl (congrArg Value.bool (by rw [beq_iff_eq, hvc]; exact if_pos hz0)) ?_
              refine dd [4] ?_
              refine XD.loadA 6 rfl rfl Tryd.isAgg26 Tryd.sizeOf26 hasA (by rfl) ?_
              refine XD.cRL 5 Tryd.call11 (num_ok) ?_
              refine XD.cRL 7 Tryd.call13 (RCheck7_ok (m := (mod3 l l2 a b c d g0 g1 g2 g3 g4 g5)) (mod3_q (xs := l) (ys := l2) (a := a) (b := b) (c := c) (d := d) (g0 := g0) (g1 := g1) (g2 := g2) (g3 := g3) (g4 := g4) (g5 := g5) (hs.le leA) hL (hs2.le leA) hL2 fndA fndA fndA fndA fndA fndA)) ?_
              refine dd [8, 9, 10] ?_
              refine XD.know 79 (.bool true) rfl (congrArg Value.bool (by first | rfl | exact decide_eq_true rfl | (rw [beq_iff_eq]; done) | (simp; done))) ?_
              refine XD.cRL 11 Tryd.call10 (works_ok (gc.le leA) (g.le leA)) ?_
              refine dd [12, 13] ?_
              refine XD.nil ?_
              refine X.retL (q) Tryd.func6 (res1 Tryd.results6 rfl) ⟨_, rfl, rfl, rfl⟩
            · skip
              refine oo 9 ?_
              refine XO.ldA Tryd.isAgg26 Tryd.sizeOf26 ?_
              refine XO.cR Tryd.call15 (RCheck_ok (m := (mod3 l l2 a b c d g0 g1 g2 g3 g4 g5)) (mod3_q (xs := l) (ys := l2) (a := a) (b := b) (c := c) (d := d) (g0 := g0) (g1 := g1) (g2 := g2) (g3 := g3) (g4 := g4) (g5 := g5) (hs.le leA) hL (hs2.le leA) hL2 fndA fndA fndA fndA fndA fndA)) ?_
              refine ox 2 ?_
              refine X.sb [49, 10, 8, 6, 5, 4] ?_
              refine X.know 49 (.bool false) rfl (congrArg Value.bool (by rw [bne_eq_false_iff_eq]; exact hk0)) ?_
              refine xo 6 ?_
              refine XO.cR Tryd.call11 (num_ok) ?_
              refine ox 2 ?_
              refine X.know 68 (.bool true) rfl (congrArg Value.bool (by rw [bne_iff_ne]; exact hz0)) ?_
              refine xx 2 ?_
              refine X.draw [] Tryd.mixed (by kernel_rfl) (by kernel_rfl) rfl ?_
              refine dd [0, 1, 2, 3] ?_
              refine XD.know 72 (.bool true) rfl (congrArg Value.bool (by rw [beq_iff_eq, hvc]; exact if_pos hz0)) ?_
              refine dd [4] ?_
              refine XD.loadA 6 rfl rfl Tryd.isAgg26 Tryd.sizeOf26 hasA (by rfl) ?_
              refine XD.cRL 5 Tryd.call11 (num_ok) ?_
              refine XD.cRL 7 Tryd.call13 (RCheck7_ok (m := (mod3 l l2 a b c d g0 g1 g2 g3 g4 g5)) (mod3_q (xs := l) (ys := l2) (a := a) (b := b) (c := c) (d := d) (g0 := g0) (g1 := g1) (g2 := g2) (g3 := g3) (g4 := g4) (g5 := g5) (hs.le leA) hL (hs2.le leA) hL2 fndA fndA fndA fndA fndA fndA)) ?_
              refine dd [8, 9, 10] ?_
              refine XD.know 79 (.bool true) rfl (congrArg Value.bool (by first | rfl | exact decide_eq_true rfl | (rw [beq_iff_eq]; done) | (simp; done))) ?_
              refine XD.cRL 11 Tryd.call10 (works_ok (gc.le leA) (g.le leA)) ?_
              refine dd [12, 13] ?_
              refine XD.nil ?_
              refine X.retL (q) Tryd.func6 (res1 Tryd.results6 rfl) ⟨_, rfl, rfl, rfl⟩
          · skip
            refine oo 8 ?_
            refine XO.ldA Tryd.isAgg26 Tryd.sizeOf26 ?_
            refine XO.cX Tryd.call14 (Le.refl _) (Depths_ok (m := (mod3 l l2 a b c d g0 g1 g2 g3 g4 g5)) (th := 1) (gc.le leA) (g.le leA) (mod3_q (xs := l) (ys := l2) (a := a) (b := b) (c := c) (d := d) (g0 := g0) (g1 := g1) (g2 := g2) (g3 := g3) (g4 := g4) (g5 := g5) (hs.le leA) hL (hs2.le leA) hL2 fndA fndA fndA fndA fndA fndA)) ?_
            rintro _ _ (⟨hz1, rfl, rfl⟩ | ⟨hz1, a1, c1, rfl, rfl⟩)
            · skip
              refine oo 9 ?_
              refine XO.ldA Tryd.isAgg26 Tryd.sizeOf26 ?_
              refine XO.cR Tryd.call15 (RCheck_ok (m := (mod3 l l2 a b c d g0 g1 g2 g3 g4 g5)) (mod3_q (xs := l) (ys := l2) (a := a) (b := b) (c := c) (d := d) (g0 := g0) (g1 := g1) (g2 := g2) (g3 := g3) (g4 := g4) (g5 := g5) (hs.le leA) hL (hs2.le leA) hL2 fndA fndA fndA fndA fndA fndA)) ?_
              refine ox 2 ?_
              refine X.sb [49, 10, 8, 6, 5, 4] ?_
              refine X.know 49 (.bool false) rfl (congrArg Value.bool (by rw [bne_eq_false_iff_eq]; exact hk0)) ?_
              refine xo 6 ?_
              refine XO.cR Tryd.call11 (num_ok) ?_
              refine ox 2 ?_
              refine X.know 68 (.bool false) rfl (congrArg Value.bool (by first | rfl | (simp; done))) ?_
              refine xx 3 ?_
              refine X.draw [] Tryd.mixed (by kernel_rfl) (by kernel_rfl) rfl ?_
              refine dd [0, 1, 2, 3] ?_
              refine XD.know 85 (.bool true) rfl (congrArg Value.bool (by rw [beq_iff_eq, hvc]; rw [if_neg (by omega)])) ?_
              refine dd [4] ?_
              refine XD.loadA 6 rfl rfl Tryd.isAgg26 Tryd.sizeOf26 hasA (by rfl) ?_
              refine XD.cRL 5 Tryd.call11 (num_ok) ?_
              refine XD.cRL 7 Tryd.call13 (RCheck7_ok (m := (mod3 l l2 a b c d g0 g1 g2 g3 g4 g5)) (mod3_q (xs := l) (ys := l2) (a := a) (b := b) (c := c) (d := d) (g0 := g0) (g1 := g1) (g2 := g2) (g3 := g3) (g4 := g4) (g5 := g5) (hs.le leA) hL (hs2.le leA) hL2 fndA fndA fndA fndA fndA fndA)) ?_
              refine dd [8, 9, 10] ?_
              refine XD.know 92 (.bool true) rfl (congrArg Value.bool (by first | rfl | exact decide_eq_true rfl | (rw [beq_iff_eq]; done) | (simp; done))) ?_
              refine XD.cRL 11 Tryd.call10 (works_ok (gc.le leA) (g.le leA)) ?_
              refine dd [12, 13] ?_
              refine XD.nil ?_
              refine X.retL (q) Tryd.func6 (res1 Tryd.results6 rfl) ⟨_, rfl, rfl, rfl⟩
            · skip
              refine oo 9 ?_
              refine XO.ldA Tryd.isAgg26 Tryd.sizeOf26 ?_
              refine XO.cR Tryd.call15 (RCheck_ok (m := (mod3 l l2 a b c d g0 g1 g2 g3 g4 g5)) (mod3_q (xs := l) (ys := l2) (a := a) (b := b) (c := c) (d := d) (g0 := g0) (g1 := g1) (g2 := g2) (g3 := g3) (g4 := g4) (g5 := g5) (hs.le leA) hL (hs2.le leA) hL2 fndA fndA fndA fndA fndA fndA)) ?_
              refine ox 2 ?_
              refine X.sb [49, 10, 8, 6, 5, 4] ?_
              refine X.know 49 (.bool false) rfl (congrArg Value.bool (by rw [bne_eq_false_iff_eq]; exact hk0)) ?_
              refine xo 6 ?_
              refine XO.cR Tryd.call11 (num_ok) ?_
              refine ox 2 ?_
              refine X.know 68 (.bool false) rfl (congrArg Value.bool (by first | rfl | (simp; done))) ?_
              refine xx 3 ?_
              refine X.draw [] Tryd.mixed (by kernel_rfl) (by kernel_rfl) rfl ?_
              refine dd [0, 1, 2, 3] ?_
              refine XD.know 85 (.bool true) rfl (congrArg Value.bool (by rw [beq_iff_eq, hvc]; rw [if_neg (by omega)]; exact hz1)) ?_
              refine dd [4] ?_
              refine XD.loadA 6 rfl rfl Tryd.isAgg26 Tryd.sizeOf26 hasA (by rfl) ?_
              refine XD.cRL 5 Tryd.call11 (num_ok) ?_
              refine XD.cRL 7 Tryd.call13 (RCheck7_ok (m := (mod3 l l2 a b c d g0 g1 g2 g3 g4 g5)) (mod3_q (xs := l) (ys := l2) (a := a) (b := b) (c := c) (d := d) (g0 := g0) (g1 := g1) (g2 := g2) (g3 := g3) (g4 := g4) (g5 := g5) (hs.le leA) hL (hs2.le leA) hL2 fndA fndA fndA fndA fndA fndA)) ?_
              refine dd [8, 9, 10] ?_
              refine XD.know 92 (.bool true) rfl (congrArg Value.bool (by first | rfl | exact decide_eq_true rfl | (rw [beq_iff_eq]; done) | (simp; done))) ?_
              refine XD.cRL 11 Tryd.call10 (works_ok (gc.le leA) (g.le leA)) ?_
              refine dd [12, 13] ?_
              refine XD.nil ?_
              refine X.retL (q) Tryd.func6 (res1 Tryd.results6 rfl) ⟨_, rfl, rfl, rfl⟩
        · skip
          refine XO.cR Tryd.call12 (VCheck_ok (m := (mod3 l l2 a b c d g0 g1 g2 g3 g4 g5)) (gc.le leA) (g.le leA) (mod3_q (xs := l) (ys := l2) (a := a) (b := b) (c := c) (d := d) (g0 := g0) (g1 := g1) (g2 := g2) (g3 := g3) (g4 := g4) (g5 := g5) (hs.le leA) hL (hs2.le leA) hL2 fndA fndA fndA fndA fndA fndA)) ?_
          refine XO.know 36 (.int .i64 2) rfl (congrArg (Value.int .i64) (vchk_bad3 hk0)) ?_
          refine oo 4 ?_
          refine XO.ldA Tryd.isAgg26 Tryd.sizeOf26 ?_
          refine XO.cX Tryd.call14 (Le.refl _) (Depths_ok (m := (mod3 l l2 a b c d g0 g1 g2 g3 g4 g5)) (th := 0) (gc.le leA) (g.le leA) (mod3_q (xs := l) (ys := l2) (a := a) (b := b) (c := c) (d := d) (g0 := g0) (g1 := g1) (g2 := g2) (g3 := g3) (g4 := g4) (g5 := g5) (hs.le leA) hL (hs2.le leA) hL2 fndA fndA fndA fndA fndA fndA)) ?_
          rintro _ _ (⟨hz, rfl, rfl⟩ | ⟨hz, a1, c1, rfl, rfl⟩) <;> rw [dp_bad3 hk0] at hz
          rotate_left; · exact absurd hz (by decide)
          rw [dp_bad3 hk0]
          refine oo 8 ?_
          refine XO.ldA Tryd.isAgg26 Tryd.sizeOf26 ?_
          refine XO.cX Tryd.call14 (Le.refl _) (Depths_ok (m := (mod3 l l2 a b c d g0 g1 g2 g3 g4 g5)) (th := 1) (gc.le leA) (g.le leA) (mod3_q (xs := l) (ys := l2) (a := a) (b := b) (c := c) (d := d) (g0 := g0) (g1 := g1) (g2 := g2) (g3 := g3) (g4 := g4) (g5 := g5) (hs.le leA) hL (hs2.le leA) hL2 fndA fndA fndA fndA fndA fndA)) ?_
          rintro _ _ (⟨hz, rfl, rfl⟩ | ⟨hz, a1, c1, rfl, rfl⟩) <;> rw [dp_bad3 hk0] at hz
          rotate_left; · exact absurd hz (by decide)
          rw [dp_bad3 hk0]
          refine oo 9 ?_
          refine XO.ldA Tryd.isAgg26 Tryd.sizeOf26 ?_
          refine XO.cR Tryd.call15 (RCheck_ok (m := (mod3 l l2 a b c d g0 g1 g2 g3 g4 g5)) (mod3_q (xs := l) (ys := l2) (a := a) (b := b) (c := c) (d := d) (g0 := g0) (g1 := g1) (g2 := g2) (g3 := g3) (g4 := g4) (g5 := g5) (hs.le leA) hL (hs2.le leA) hL2 fndA fndA fndA fndA fndA fndA)) ?_
          refine ox 2 ?_
          refine X.sb [49, 10, 8, 6, 5, 4] ?_
          refine X.know 49 (.bool true) rfl (congrArg Value.bool (by rw [bne_iff_ne]; exact hk0)) ?_
          refine xo 4 ?_
          refine XO.cR Tryd.call11 (num_ok) ?_
          refine oo 2 ?_
          refine XO.know 53 (.bool true) rfl (congrArg Value.bool (by first | rfl | exact decide_eq_true rfl | (rw [beq_iff_eq]; done) | (simp; done))) ?_
          refine oo 1 ?_
          refine XO.cR Tryd.call11 (num_ok) ?_
          refine oo 3 ?_
          refine XO.know 58 (.bool true) rfl (congrArg Value.bool (by first | rfl | exact decide_eq_true rfl | (rw [beq_iff_eq]; done) | (simp; done))) ?_
          refine oo 1 ?_
          refine XO.cR Tryd.call11 (num_ok) ?_
          refine oo 3 ?_
          refine XO.know 63 (.bool true) rfl (congrArg Value.bool (by first | rfl | exact decide_eq_true rfl | (rw [beq_iff_eq]; done) | (simp; done))) ?_
          refine XO.cR Tryd.call10 (works_ok (gc.le leA) (g.le leA)) ?_
          refine ox 3 ?_
          refine X.sb [4, 10, 8, 6, 5] ?_
          refine X.retL (q) Tryd.func6 (res1 Tryd.results6 rfl) ⟨_, rfl, rfl, rfl⟩
      · skip
        rintro _ _ ⟨g4, rfl, rfl⟩
        refine ⟨trivial, ?_⟩
        refine XF.pu 12 ⟨⟨_, rfl, rfl, rfl, rfl, rfl, rfl, fun q => Ef.litL I64 [1] Tryd.underlying22 Tryd.info2 rfl rfl rfl rfl rfl rfl (fun _ => rfl)⟩, ⟨_, rfl, rfl, rfl, rfl, rfl, rfl, fun q => Ef.litL I64 [2] Tryd.underlying23 Tryd.info3 rfl rfl rfl rfl rfl rfl (fun _ => rfl)⟩, ⟨_, rfl, rfl, rfl, rfl, rfl, rfl, fun q => Ef.litL I64 [1] Tryd.underlying23 Tryd.info3 rfl rfl rfl rfl rfl rfl (fun _ => rfl)⟩, ⟨_, rfl, rfl, rfl, rfl, rfl, rfl, fun q => Ef.alloc Tryd.zeroValue26⟩, trivial⟩ (Pu.build (cells := [_, _, _, _]) [(0, 1), (1, 1), (2, 1), (3, 1)] Tryd.zeroValue39 Tryd.underlying39 (by kernel_rfl) rfl rfl) ?_
        refine XF.ef 6 ⟨⟨_, rfl, rfl, rfl, rfl, rfl, rfl, fun q => Ef.litL I64 [1] Tryd.underlying22 Tryd.info2 rfl rfl rfl rfl rfl rfl (fun _ => rfl)⟩, ⟨_, rfl, rfl, rfl, rfl, rfl, rfl, fun q => Ef.litL I64 [2] Tryd.underlying23 Tryd.info3 rfl rfl rfl rfl rfl rfl (fun _ => rfl)⟩, ⟨_, rfl, rfl, rfl, rfl, rfl, rfl, fun q => Ef.litL I64 [1] Tryd.underlying23 Tryd.info3 rfl rfl rfl rfl rfl rfl (fun _ => rfl)⟩, ⟨_, rfl, rfl, rfl, rfl, rfl, rfl, fun q => Ef.alloc Tryd.zeroValue26⟩, trivial⟩ (Ef.newE (V := fun g => .slice (some ⟨g, 0, none⟩) l.length l.length) (A := fun g => slH (some ⟨g, 0, none⟩) l.length 3 1 l.length ((List.replicate l.length (Value.int .i64 0).cells.toList).flatten)) (fun q => Ef.make (n := l.length) rfl rfl Tryd.underlying23 Tryd.info3 rfl rfl (by omega) (by omega))) ?_
        rintro _ _ ⟨g3, rfl, rfl⟩
        refine ⟨trivial, ?_⟩
        refine XF.pu 7 ⟨⟨_, rfl, rfl, rfl, rfl, rfl, rfl, fun q => Ef.litL I64 [1] Tryd.underlying22 Tryd.info2 rfl rfl rfl rfl rfl rfl (fun _ => rfl)⟩, ⟨_, rfl, rfl, rfl, rfl, rfl, rfl, fun q => Ef.litL I64 [2] Tryd.underlying23 Tryd.info3 rfl rfl rfl rfl rfl rfl (fun _ => rfl)⟩, ⟨_, rfl, rfl, rfl, rfl, rfl, rfl, fun q => Ef.litL I64 [1] Tryd.underlying23 Tryd.info3 rfl rfl rfl rfl rfl rfl (fun _ => rfl)⟩, ⟨_, rfl, rfl, rfl, rfl, rfl, rfl, fun q => Ef.alloc Tryd.zeroValue26⟩, trivial⟩ (Pu.build (cells := [_, _, _, _]) [(0, 1), (1, 1), (2, 1), (3, 1)] Tryd.zeroValue39 Tryd.underlying39 (by kernel_rfl) rfl rfl) ?_
        have eU1 : codC (⟨⟨#[97]⟩, 1, l, List.replicate l.length 0, a, c, some ⟨g3, 0, none⟩, l.length⟩ : Cod) = [.string ⟨#[97]⟩, .int .i64 1, .slice a l.length c, .slice (some ⟨g3, 0, none⟩) l.length l.length] := by simp [codC]
        have eU2 : codC (⟨⟨#[98]⟩, 0, l2, List.replicate l2.length 0, b, d, some ⟨g4, 0, none⟩, l2.length⟩ : Cod) = [.string ⟨#[98]⟩, .int .i64 0, .slice b l2.length d, .slice (some ⟨g4, 0, none⟩) l2.length l2.length] := by simp [codC]
        have eU12 : [(⟨⟨#[97]⟩, 1, l, List.replicate l.length 0, a, c, some ⟨g3, 0, none⟩, l.length⟩ : Cod), (⟨⟨#[98]⟩, 0, l2, List.replicate l2.length 0, b, d, some ⟨g4, 0, none⟩, l2.length⟩ : Cod)].flatMap codC = [.string ⟨#[97]⟩, .int .i64 1, .slice a l.length c, .slice (some ⟨g3, 0, none⟩) l.length l.length, .string ⟨#[98]⟩, .int .i64 0, .slice b l2.length d, .slice (some ⟨g4, 0, none⟩) l2.length l2.length] := by simp [codC]
        refine XF.ef 13 ⟨⟨_, rfl, rfl, rfl, rfl, rfl, rfl, fun q => Ef.litL I64 [1] Tryd.underlying22 Tryd.info2 rfl rfl rfl rfl rfl rfl (fun _ => rfl)⟩, ⟨_, rfl, rfl, rfl, rfl, rfl, rfl, fun q => Ef.litL I64 [2] Tryd.underlying23 Tryd.info3 rfl rfl rfl rfl rfl rfl (fun _ => rfl)⟩, ⟨_, rfl, rfl, rfl, rfl, rfl, rfl, fun q => Ef.litL I64 [1] Tryd.underlying23 Tryd.info3 rfl rfl rfl rfl rfl rfl (fun _ => rfl)⟩, ⟨_, rfl, rfl, rfl, rfl, rfl, rfl, fun q => Ef.alloc Tryd.zeroValue26⟩, trivial⟩ (Ef.newE (V := fun g => .slice (some ⟨g, 0, none⟩) 2 2) (A := fun g => slH (some ⟨g, 0, none⟩) 2 39 4 2 ([(⟨⟨#[97]⟩, 1, l, List.replicate l.length 0, a, c, some ⟨g3, 0, none⟩, l.length⟩ : Cod), (⟨⟨#[98]⟩, 0, l2, List.replicate l2.length 0, b, d, some ⟨g4, 0, none⟩, l2.length⟩ : Cod)].flatMap codC)) (fun q => Ef.buildSlice (ps := [(0, .tmp 27), (1, .tmp 32)]) (len := 2) (us := [.agg (codC (⟨⟨#[97]⟩, 1, l, List.replicate l.length 0, a, c, some ⟨g3, 0, none⟩, l.length⟩ : Cod)).toArray, .agg (codC (⟨⟨#[98]⟩, 0, l2, List.replicate l2.length 0, b, d, some ⟨g4, 0, none⟩, l2.length⟩ : Cod)).toArray]) (cells := [(⟨⟨#[97]⟩, 1, l, List.replicate l.length 0, a, c, some ⟨g3, 0, none⟩, l.length⟩ : Cod), (⟨⟨#[98]⟩, 0, l2, List.replicate l2.length 0, b, d, some ⟨g4, 0, none⟩, l2.length⟩ : Cod)].flatMap codC) Tryd.underlying24 Tryd.info39 (by rw [eU1, eU2]; rfl) rfl rfl (by rw [eU12, eU1, eU2]; kernel_rfl) (by rw [eU12]; rfl))) ?_
        rintro _ _ ⟨g5, rfl, rfl⟩
        refine ⟨trivial, ?_⟩
        refine XF.abs (e0 := ⟨0, 20, fun g => .slice (some ⟨g, 0, none⟩) 1 1, fun g => lsH I64 2 (some ⟨g, 0, none⟩) 1 [1]⟩) (hnd := by simp) 0 ⟨⟨_, rfl, rfl, rfl, rfl, rfl, rfl, fun q => Ef.litL I64 [1] Tryd.underlying22 Tryd.info2 rfl rfl rfl rfl rfl rfl (fun _ => rfl)⟩, ⟨_, rfl, rfl, rfl, rfl, rfl, rfl, fun q => Ef.litL I64 [2] Tryd.underlying23 Tryd.info3 rfl rfl rfl rfl rfl rfl (fun _ => rfl)⟩, ⟨_, rfl, rfl, rfl, rfl, rfl, rfl, fun q => Ef.litL I64 [1] Tryd.underlying23 Tryd.info3 rfl rfl rfl rfl rfl rfl (fun _ => rfl)⟩, ⟨_, rfl, rfl, rfl, rfl, rfl, rfl, fun q => Ef.alloc Tryd.zeroValue26⟩, trivial⟩ (fun g0 => ?_)
        change XF _ _ _ _ _ _ _ [⟨1, 21, fun g => .slice (some ⟨g, 0, none⟩) 1 1, fun g => lsH I64 3 (some ⟨g, 0, none⟩) 1 [2]⟩, ⟨2, 22, fun g => .slice (some ⟨g, 0, none⟩) 1 1, fun g => lsH I64 3 (some ⟨g, 0, none⟩) 1 [1]⟩, ⟨15, 5, fun g => .pointer (some ⟨g, 0, none⟩), fun g => pto g (.cells [.slice none 0 0, .slice none 0 0, .slice none 0 0, .int .i64 0, .int .i64 0, .slice none 0 0].toArray 26 (0, 0))⟩] _ _ _ ((20, .slice (some ⟨g0, 0, none⟩) 1 1) :: _) _ _ (lsH I64 2 (some ⟨g0, 0, none⟩) 1 [1] :: _)
        refine XF.abs (e0 := ⟨1, 21, fun g => .slice (some ⟨g, 0, none⟩) 1 1, fun g => lsH I64 3 (some ⟨g, 0, none⟩) 1 [2]⟩) (hnd := by simp) 1 ⟨⟨_, rfl, rfl, rfl, rfl, rfl, rfl, fun q => Ef.litL I64 [2] Tryd.underlying23 Tryd.info3 rfl rfl rfl rfl rfl rfl (fun _ => rfl)⟩, ⟨_, rfl, rfl, rfl, rfl, rfl, rfl, fun q => Ef.litL I64 [1] Tryd.underlying23 Tryd.info3 rfl rfl rfl rfl rfl rfl (fun _ => rfl)⟩, ⟨_, rfl, rfl, rfl, rfl, rfl, rfl, fun q => Ef.alloc Tryd.zeroValue26⟩, trivial⟩ (fun g1 => ?_)
        change XF _ _ _ _ _ _ _ [⟨2, 22, fun g => .slice (some ⟨g, 0, none⟩) 1 1, fun g => lsH I64 3 (some ⟨g, 0, none⟩) 1 [1]⟩, ⟨15, 5, fun g => .pointer (some ⟨g, 0, none⟩), fun g => pto g (.cells [.slice none 0 0, .slice none 0 0, .slice none 0 0, .int .i64 0, .int .i64 0, .slice none 0 0].toArray 26 (0, 0))⟩] _ _ _ ((21, .slice (some ⟨g1, 0, none⟩) 1 1) :: _) _ _ (lsH I64 3 (some ⟨g1, 0, none⟩) 1 [2] :: _)
        refine XF.abs (e0 := ⟨2, 22, fun g => .slice (some ⟨g, 0, none⟩) 1 1, fun g => lsH I64 3 (some ⟨g, 0, none⟩) 1 [1]⟩) (hnd := by simp) 2 ⟨⟨_, rfl, rfl, rfl, rfl, rfl, rfl, fun q => Ef.litL I64 [1] Tryd.underlying23 Tryd.info3 rfl rfl rfl rfl rfl rfl (fun _ => rfl)⟩, ⟨_, rfl, rfl, rfl, rfl, rfl, rfl, fun q => Ef.alloc Tryd.zeroValue26⟩, trivial⟩ (fun g2 => ?_)
        change XF _ _ _ _ _ _ _ [⟨15, 5, fun g => .pointer (some ⟨g, 0, none⟩), fun g => pto g (.cells [.slice none 0 0, .slice none 0 0, .slice none 0 0, .int .i64 0, .int .i64 0, .slice none 0 0].toArray 26 (0, 0))⟩] _ _ _ ((22, .slice (some ⟨g2, 0, none⟩) 1 1) :: _) _ _ (lsH I64 3 (some ⟨g2, 0, none⟩) 1 [1] :: _)
        refine XF.pu 14 ⟨⟨_, rfl, rfl, rfl, rfl, rfl, rfl, fun q => Ef.alloc Tryd.zeroValue26⟩, trivial⟩ (Pu.build (cells := [_, _, _, _, _, _]) [(0, 1), (1, 1), (2, 1), (3, 1), (4, 1), (5, 1)] Tryd.zeroValue26 Tryd.underlying26 (by kernel_rfl) rfl rfl) ?_
        refine XF.abs (e0 := ⟨15, 5, fun g => .pointer (some ⟨g, 0, none⟩), fun g => pto g (.cells [.slice none 0 0, .slice none 0 0, .slice none 0 0, .int .i64 0, .int .i64 0, .slice none 0 0].toArray 26 (0, 0))⟩) (hnd := by simp) 15 ⟨⟨_, rfl, rfl, rfl, rfl, rfl, rfl, fun q => Ef.alloc Tryd.zeroValue26⟩, trivial⟩ (fun n1 => ?_)
        change XF _ _ _ _ _ _ _ [] _ _ _ ((5, .pointer (some ⟨n1, 0, none⟩)) :: _) _ _ (pto n1 (.cells [.slice none 0 0, .slice none 0 0, .slice none 0 0, .int .i64 0, .int .i64 0, .slice none 0 0].toArray 26 (0, 0)) :: _)
        refine XF.back ?_
        refine XD.ef0 16 rfl (Ef.stA Tryd.sizeOf26) ?_
        rintro _ _ ⟨rfl, rfl⟩
        refine ⟨trivial, ?_⟩
        refine XD.nil ?_
        refine xo 2 ?_
        refine XO.ldA Tryd.isAgg26 Tryd.sizeOf26 ?_
        refine XO.le (q' := lsH I64 3 (some ⟨g3, 0, none⟩) l.length (List.replicate l.length 0) :: _) (Le.trans fndA (Le.mk_ints3 _)) ?_
        refine XO.le (q' := lsH I64 3 (some ⟨g4, 0, none⟩) l2.length (List.replicate l2.length 0) :: _) (Le.trans fndA (Le.mk_ints3 _)) ?_
        refine XO.le (q' := rsH codC 4 39 (some ⟨g5, 0, none⟩) 2 [(⟨⟨#[97]⟩, 1, l, List.replicate l.length 0, a, c, some ⟨g3, 0, none⟩, l.length⟩ : Cod), (⟨⟨#[98]⟩, 0, l2, List.replicate l2.length 0, b, d, some ⟨g4, 0, none⟩, l2.length⟩ : Cod)] :: _) (Le.trans fndA (Le.rs_of_sl codC 4 39 (some ⟨g5, 0, none⟩) 2 [(⟨⟨#[97]⟩, 1, l, List.replicate l.length 0, a, c, some ⟨g3, 0, none⟩, l.length⟩ : Cod), (⟨⟨#[98]⟩, 0, l2, List.replicate l2.length 0, b, d, some ⟨g4, 0, none⟩, l2.length⟩ : Cod)] _)) ?_
        rcases Decidable.em (mchk (mod3 l l2 a b c d g0 g1 g2 g3 g4 g5) = 0) with hk0 | hk0
        · skip
          obtain ⟨hin, hLn⟩ := mdlOk_thr hk0 (t := (⟨⟨#[97]⟩, 1, l, List.replicate l.length 0, a, c, some ⟨g3, 0, none⟩, l.length⟩ : Cod)) (List.mem_cons_self ..); obtain ⟨hin2, hLn2⟩ := mdlOk_thr hk0 (t := (⟨⟨#[98]⟩, 0, l2, List.replicate l2.length 0, b, d, some ⟨g4, 0, none⟩, l2.length⟩ : Cod)) (List.mem_cons_of_mem _ (List.mem_singleton.2 rfl))
          have hdp : dpOf (mod3 l l2 a b c d g0 g1 g2 g3 g4 g5) 0 = dOf (mod3 l l2 a b c d g0 g1 g2 g3 g4 g5) (⟨⟨#[97]⟩, 1, l, List.replicate l.length 0, a, c, some ⟨g3, 0, none⟩, l.length⟩ : Cod) := by unfold dpOf; rw [if_neg (by omega), dif_pos ⟨by decide, (by decide : 0 < 2)⟩]; rfl
          have hdp1 : dpOf (mod3 l l2 a b c d g0 g1 g2 g3 g4 g5) 1 = dOf (mod3 l l2 a b c d g0 g1 g2 g3 g4 g5) (⟨⟨#[98]⟩, 0, l2, List.replicate l2.length 0, b, d, some ⟨g4, 0, none⟩, l2.length⟩ : Cod) := by unfold dpOf; rw [if_neg (by omega), dif_pos ⟨by decide, (by decide : 1 < 2)⟩]; rfl
          have hvc : vchk (mod3 l l2 a b c d g0 g1 g2 g3 g4 g5) = if (dOf (mod3 l l2 a b c d g0 g1 g2 g3 g4 g5) (⟨⟨#[97]⟩, 1, l, List.replicate l.length 0, a, c, some ⟨g3, 0, none⟩, l.length⟩ : Cod)).2 ≠ 0 then (dOf (mod3 l l2 a b c d g0 g1 g2 g3 g4 g5) (⟨⟨#[97]⟩, 1, l, List.replicate l.length 0, a, c, some ⟨g3, 0, none⟩, l.length⟩ : Cod)).2 else (dOf (mod3 l l2 a b c d g0 g1 g2 g3 g4 g5) (⟨⟨#[98]⟩, 0, l2, List.replicate l2.length 0, b, d, some ⟨g4, 0, none⟩, l2.length⟩ : Cod)).2 := vchk_two hk0 rfl
          rw [← hdp, ← hdp1] at hvc
          refine XO.cR Tryd.call12 (VCheck_ok (m := (mod3 l l2 a b c d g0 g1 g2 g3 g4 g5)) (gc.le leA) (g.le leA) (mod3_q (xs := l) (ys := l2) (a := a) (b := b) (c := c) (d := d) (g0 := g0) (g1 := g1) (g2 := g2) (g3 := g3) (g4 := g4) (g5 := g5) (hs.le leA) hL (hs2.le leA) hL2 fndA fndA fndA fndA fndA fndA)) ?_
          refine oo 4 ?_
          refine XO.ldA Tryd.isAgg26 Tryd.sizeOf26 ?_
          refine XO.cX Tryd.call14 (Le.refl _) (Depths_ok (m := (mod3 l l2 a b c d g0 g1 g2 g3 g4 g5)) (th := 0) (gc.le leA) (g.le leA) (mod3_q (xs := l) (ys := l2) (a := a) (b := b) (c := c) (d := d) (g0 := g0) (g1 := g1) (g2 := g2) (g3 := g3) (g4 := g4) (g5 := g5) (hs.le leA) hL (hs2.le leA) hL2 fndA fndA fndA fndA fndA fndA)) ?_
          rintro _ _ (⟨hz0, rfl, rfl⟩ | ⟨hz0, a0, c0, rfl, rfl⟩)
          · skip
            refine oo 8 ?_
            refine XO.ldA Tryd.isAgg26 Tryd.sizeOf26 ?_
            refine XO.cX Tryd.call14 (Le.refl _) (Depths_ok (m := (mod3 l l2 a b c d g0 g1 g2 g3 g4 g5)) (th := 1) (gc.le leA) (g.le leA) (mod3_q (xs := l) (ys := l2) (a := a) (b := b) (c := c) (d := d) (g0 := g0) (g1 := g1) (g2 := g2) (g3 := g3) (g4 := g4) (g5 := g5) (hs.le leA) hL (hs2.le leA) hL2 fndA fndA fndA fndA fndA fndA)) ?_
            rintro _ _ (⟨hz1, rfl, rfl⟩ | ⟨hz1, a1, c1, rfl, rfl⟩)
            · skip
              refine oo 9 ?_
              refine XO.ldA Tryd.isAgg26 Tryd.sizeOf26 ?_
              refine XO.cR Tryd.call15 (RCheck_ok (m := (mod3 l l2 a b c d g0 g1 g2 g3 g4 g5)) (mod3_q (xs := l) (ys := l2) (a := a) (b := b) (c := c) (d := d) (g0 := g0) (g1 := g1) (g2 := g2) (g3 := g3) (g4 := g4) (g5 := g5) (hs.le leA) hL (hs2.le leA) hL2 fndA fndA fndA fndA fndA fndA)) ?_
              refine ox 2 ?_
              refine X.sb [49, 10, 8, 6, 5, 4] ?_
              refine X.know 49 (.bool false) rfl (congrArg Value.bool (by rw [bne_eq_false_iff_eq]; exact hk0)) ?_
              refine xo 6 ?_
              refine XO.cR Tryd.call11 (num_ok) ?_
              refine ox 2 ?_
              refine X.know 68 (.bool true) rfl (congrArg Value.bool (by rw [bne_iff_ne]; exact hz0)) ?_
              refine xx 2 ?_
              refine X.draw [] Tryd.mixed (by kernel_rfl) (by kernel_rfl) rfl ?_
              refine dd [0, 1, 2, 3] ?_
              refine XD.know 72 (.bool true) rfl (congrArg Value.bool (by rw [beq_iff_eq, hvc]; exact if_pos hz0)) ?_
              refine dd [4] ?_
              refine XD.loadA 6 rfl rfl Tryd.isAgg26 Tryd.sizeOf26 hasA (by rfl) ?_
              refine XD.cRL 5 Tryd.call11 (num_ok) ?_
              refine XD.cRL 7 Tryd.call13 (RCheck7_ok (m := (mod3 l l2 a b c d g0 g1 g2 g3 g4 g5)) (mod3_q (xs := l) (ys := l2) (a := a) (b := b) (c := c) (d := d) (g0 := g0) (g1 := g1) (g2 := g2) (g3 := g3) (g4 := g4) (g5 := g5) (hs.le leA) hL (hs2.le leA) hL2 fndA fndA fndA fndA fndA fndA)) ?_
              refine dd [8, 9, 10] ?_
              refine XD.know 79 (.bool true) rfl (congrArg Value.bool (by first | rfl | exact decide_eq_true rfl | (rw [beq_iff_eq]; done) | (simp; done))) ?_
              refine XD.cRL 11 Tryd.call10 (works_ok (gc.le leA) (g.le leA)) ?_
              refine dd [12, 13] ?_
              refine XD.nil ?_
              refine X.retL (q) Tryd.func6 (res1 Tryd.results6 rfl) ⟨_, rfl, rfl, rfl⟩
            · skip
              refine oo 9 ?_
              refine XO.ldA Tryd.isAgg26 Tryd.sizeOf26 ?_
              refine XO.cR Tryd.call15 (RCheck_ok (m := (mod3 l l2 a b c d g0 g1 g2 g3 g4 g5)) (mod3_q (xs := l) (ys := l2) (a := a) (b := b) (c := c) (d := d) (g0 := g0) (g1 := g1) (g2 := g2) (g3 := g3) (g4 := g4) (g5 := g5) (hs.le leA) hL (hs2.le leA) hL2 fndA fndA fndA fndA fndA fndA)) ?_
              refine ox 2 ?_
              refine X.sb [49, 10, 8, 6, 5, 4] ?_
              refine X.know 49 (.bool false) rfl (congrArg Value.bool (by rw [bne_eq_false_iff_eq]; exact hk0)) ?_
              refine xo 6 ?_
              refine XO.cR Tryd.call11 (num_ok) ?_
              refine ox 2 ?_
              refine X.know 68 (.bool true) rfl (congrArg Value.bool (by rw [bne_iff_ne]; exact hz0)) ?_
              refine xx 2 ?_
              refine X.draw [] Tryd.mixed (by kernel_rfl) (by kernel_rfl) rfl ?_
              refine dd [0, 1, 2, 3] ?_
              refine XD.know 72 (.bool true) rfl (congrArg Value.bool (by rw [beq_iff_eq, hvc]; exact if_pos hz0)) ?_
              refine dd [4] ?_
              refine XD.loadA 6 rfl rfl Tryd.isAgg26 Tryd.sizeOf26 hasA (by rfl) ?_
              refine XD.cRL 5 Tryd.call11 (num_ok) ?_
              refine XD.cRL 7 Tryd.call13 (RCheck7_ok (m := (mod3 l l2 a b c d g0 g1 g2 g3 g4 g5)) (mod3_q (xs := l) (ys := l2) (a := a) (b := b) (c := c) (d := d) (g0 := g0) (g1 := g1) (g2 := g2) (g3 := g3) (g4 := g4) (g5 := g5) (hs.le leA) hL (hs2.le leA) hL2 fndA fndA fndA fndA fndA fndA)) ?_
              refine dd [8, 9, 10] ?_
              refine XD.know 79 (.bool true) rfl (congrArg Value.bool (by first | rfl | exact decide_eq_true rfl | (rw [beq_iff_eq]; done) | (simp; done))) ?_
              refine XD.cRL 11 Tryd.call10 (works_ok (gc.le leA) (g.le leA)) ?_
              refine dd [12, 13] ?_
              refine XD.nil ?_
              refine X.retL (q) Tryd.func6 (res1 Tryd.results6 rfl) ⟨_, rfl, rfl, rfl⟩
          · skip
            refine oo 8 ?_
            refine XO.ldA Tryd.isAgg26 Tryd.sizeOf26 ?_
            refine XO.cX Tryd.call14 (Le.refl _) (Depths_ok (m := (mod3 l l2 a b c d g0 g1 g2 g3 g4 g5)) (th := 1) (gc.le leA) (g.le leA) (mod3_q (xs := l) (ys := l2) (a := a) (b := b) (c := c) (d := d) (g0 := g0) (g1 := g1) (g2 := g2) (g3 := g3) (g4 := g4) (g5 := g5) (hs.le leA) hL (hs2.le leA) hL2 fndA fndA fndA fndA fndA fndA)) ?_
            rintro _ _ (⟨hz1, rfl, rfl⟩ | ⟨hz1, a1, c1, rfl, rfl⟩)
            · skip
              refine oo 9 ?_
              refine XO.ldA Tryd.isAgg26 Tryd.sizeOf26 ?_
              refine XO.cR Tryd.call15 (RCheck_ok (m := (mod3 l l2 a b c d g0 g1 g2 g3 g4 g5)) (mod3_q (xs := l) (ys := l2) (a := a) (b := b) (c := c) (d := d) (g0 := g0) (g1 := g1) (g2 := g2) (g3 := g3) (g4 := g4) (g5 := g5) (hs.le leA) hL (hs2.le leA) hL2 fndA fndA fndA fndA fndA fndA)) ?_
              refine ox 2 ?_
              refine X.sb [49, 10, 8, 6, 5, 4] ?_
              refine X.know 49 (.bool false) rfl (congrArg Value.bool (by rw [bne_eq_false_iff_eq]; exact hk0)) ?_
              refine xo 6 ?_
              refine XO.cR Tryd.call11 (num_ok) ?_
              refine ox 2 ?_
              refine X.know 68 (.bool false) rfl (congrArg Value.bool (by first | rfl | (simp; done))) ?_
              refine xx 3 ?_
              refine X.draw [] Tryd.mixed (by kernel_rfl) (by kernel_rfl) rfl ?_
              refine dd [0, 1, 2, 3] ?_
              refine XD.know 85 (.bool true) rfl (congrArg Value.bool (by rw [beq_iff_eq, hvc]; rw [if_neg (by omega)])) ?_
              refine dd [4] ?_
              refine XD.loadA 6 rfl rfl Tryd.isAgg26 Tryd.sizeOf26 hasA (by rfl) ?_
              refine XD.cRL 5 Tryd.call11 (num_ok) ?_
              refine XD.cRL 7 Tryd.call13 (RCheck7_ok (m := (mod3 l l2 a b c d g0 g1 g2 g3 g4 g5)) (mod3_q (xs := l) (ys := l2) (a := a) (b := b) (c := c) (d := d) (g0 := g0) (g1 := g1) (g2 := g2) (g3 := g3) (g4 := g4) (g5 := g5) (hs.le leA) hL (hs2.le leA) hL2 fndA fndA fndA fndA fndA fndA)) ?_
              refine dd [8, 9, 10] ?_
              refine XD.know 92 (.bool true) rfl (congrArg Value.bool (by first | rfl | exact decide_eq_true rfl | (rw [beq_iff_eq]; done) | (simp; done))) ?_
              refine XD.cRL 11 Tryd.call10 (works_ok (gc.le leA) (g.le leA)) ?_
              refine dd [12, 13] ?_
              refine XD.nil ?_
              refine X.retL (q) Tryd.func6 (res1 Tryd.results6 rfl) ⟨_, rfl, rfl, rfl⟩
            · skip
              refine oo 9 ?_
              refine XO.ldA Tryd.isAgg26 Tryd.sizeOf26 ?_
              refine XO.cR Tryd.call15 (RCheck_ok (m := (mod3 l l2 a b c d g0 g1 g2 g3 g4 g5)) (mod3_q (xs := l) (ys := l2) (a := a) (b := b) (c := c) (d := d) (g0 := g0) (g1 := g1) (g2 := g2) (g3 := g3) (g4 := g4) (g5 := g5) (hs.le leA) hL (hs2.le leA) hL2 fndA fndA fndA fndA fndA fndA)) ?_
              refine ox 2 ?_
              refine X.sb [49, 10, 8, 6, 5, 4] ?_
              refine X.know 49 (.bool false) rfl (congrArg Value.bool (by rw [bne_eq_false_iff_eq]; exact hk0)) ?_
              refine xo 6 ?_
              refine XO.cR Tryd.call11 (num_ok) ?_
              refine ox 2 ?_
              refine X.know 68 (.bool false) rfl (congrArg Value.bool (by first | rfl | (simp; done))) ?_
              refine xx 3 ?_
              refine X.draw [] Tryd.mixed (by kernel_rfl) (by kernel_rfl) rfl ?_
              refine dd [0, 1, 2, 3] ?_
              refine XD.know 85 (.bool true) rfl (congrArg Value.bool (by rw [beq_iff_eq, hvc]; rw [if_neg (by omega)]; exact hz1)) ?_
              refine dd [4] ?_
              refine XD.loadA 6 rfl rfl Tryd.isAgg26 Tryd.sizeOf26 hasA (by rfl) ?_
              refine XD.cRL 5 Tryd.call11 (num_ok) ?_
              refine XD.cRL 7 Tryd.call13 (RCheck7_ok (m := (mod3 l l2 a b c d g0 g1 g2 g3 g4 g5)) (mod3_q (xs := l) (ys := l2) (a := a) (b := b) (c := c) (d := d) (g0 := g0) (g1 := g1) (g2 := g2) (g3 := g3) (g4 := g4) (g5 := g5) (hs.le leA) hL (hs2.le leA) hL2 fndA fndA fndA fndA fndA fndA)) ?_
              refine dd [8, 9, 10] ?_
              refine XD.know 92 (.bool true) rfl (congrArg Value.bool (by first | rfl | exact decide_eq_true rfl | (rw [beq_iff_eq]; done) | (simp; done))) ?_
              refine XD.cRL 11 Tryd.call10 (works_ok (gc.le leA) (g.le leA)) ?_
              refine dd [12, 13] ?_
              refine XD.nil ?_
              refine X.retL (q) Tryd.func6 (res1 Tryd.results6 rfl) ⟨_, rfl, rfl, rfl⟩
        · skip
          refine XO.cR Tryd.call12 (VCheck_ok (m := (mod3 l l2 a b c d g0 g1 g2 g3 g4 g5)) (gc.le leA) (g.le leA) (mod3_q (xs := l) (ys := l2) (a := a) (b := b) (c := c) (d := d) (g0 := g0) (g1 := g1) (g2 := g2) (g3 := g3) (g4 := g4) (g5 := g5) (hs.le leA) hL (hs2.le leA) hL2 fndA fndA fndA fndA fndA fndA)) ?_
          refine XO.know 36 (.int .i64 2) rfl (congrArg (Value.int .i64) (vchk_bad3 hk0)) ?_
          refine oo 4 ?_
          refine XO.ldA Tryd.isAgg26 Tryd.sizeOf26 ?_
          refine XO.cX Tryd.call14 (Le.refl _) (Depths_ok (m := (mod3 l l2 a b c d g0 g1 g2 g3 g4 g5)) (th := 0) (gc.le leA) (g.le leA) (mod3_q (xs := l) (ys := l2) (a := a) (b := b) (c := c) (d := d) (g0 := g0) (g1 := g1) (g2 := g2) (g3 := g3) (g4 := g4) (g5 := g5) (hs.le leA) hL (hs2.le leA) hL2 fndA fndA fndA fndA fndA fndA)) ?_
          rintro _ _ (⟨hz, rfl, rfl⟩ | ⟨hz, a1, c1, rfl, rfl⟩) <;> rw [dp_bad3 hk0] at hz
          rotate_left; · exact absurd hz (by decide)
          rw [dp_bad3 hk0]
          refine oo 8 ?_
          refine XO.ldA Tryd.isAgg26 Tryd.sizeOf26 ?_
          refine XO.cX Tryd.call14 (Le.refl _) (Depths_ok (m := (mod3 l l2 a b c d g0 g1 g2 g3 g4 g5)) (th := 1) (gc.le leA) (g.le leA) (mod3_q (xs := l) (ys := l2) (a := a) (b := b) (c := c) (d := d) (g0 := g0) (g1 := g1) (g2 := g2) (g3 := g3) (g4 := g4) (g5 := g5) (hs.le leA) hL (hs2.le leA) hL2 fndA fndA fndA fndA fndA fndA)) ?_
          rintro _ _ (⟨hz, rfl, rfl⟩ | ⟨hz, a1, c1, rfl, rfl⟩) <;> rw [dp_bad3 hk0] at hz
          rotate_left; · exact absurd hz (by decide)
          rw [dp_bad3 hk0]
          refine oo 9 ?_
          refine XO.ldA Tryd.isAgg26 Tryd.sizeOf26 ?_
          refine XO.cR Tryd.call15 (RCheck_ok (m := (mod3 l l2 a b c d g0 g1 g2 g3 g4 g5)) (mod3_q (xs := l) (ys := l2) (a := a) (b := b) (c := c) (d := d) (g0 := g0) (g1 := g1) (g2 := g2) (g3 := g3) (g4 := g4) (g5 := g5) (hs.le leA) hL (hs2.le leA) hL2 fndA fndA fndA fndA fndA fndA)) ?_
          refine ox 2 ?_
          refine X.sb [49, 10, 8, 6, 5, 4] ?_
          refine X.know 49 (.bool true) rfl (congrArg Value.bool (by rw [bne_iff_ne]; exact hk0)) ?_
          refine xo 4 ?_
          refine XO.cR Tryd.call11 (num_ok) ?_
          refine oo 2 ?_
          refine XO.know 53 (.bool true) rfl (congrArg Value.bool (by first | rfl | exact decide_eq_true rfl | (rw [beq_iff_eq]; done) | (simp; done))) ?_
          refine oo 1 ?_
          refine XO.cR Tryd.call11 (num_ok) ?_
          refine oo 3 ?_
          refine XO.know 58 (.bool true) rfl (congrArg Value.bool (by first | rfl | exact decide_eq_true rfl | (rw [beq_iff_eq]; done) | (simp; done))) ?_
          refine oo 1 ?_
          refine XO.cR Tryd.call11 (num_ok) ?_
          refine oo 3 ?_
          refine XO.know 63 (.bool true) rfl (congrArg Value.bool (by first | rfl | exact decide_eq_true rfl | (rw [beq_iff_eq]; done) | (simp; done))) ?_
          refine XO.cR Tryd.call10 (works_ok (gc.le leA) (g.le leA)) ?_
          refine ox 3 ?_
          refine X.sb [4, 10, 8, 6, 5] ?_
          refine X.retL (q) Tryd.func6 (res1 Tryd.results6 rfl) ⟨_, rfl, rfl, rfl⟩
end
end Go.Proofs.YtmdnfhpoplpaoaaDoor

