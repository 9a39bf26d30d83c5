/- The law SourceCopies holds: for every input it returns true and leaves its arguments as they were. No condition. -/
import Derived.Test.YtflkjkhijcdbaaaGreatBn
import Derived.WalkKit
import Derived.ProofKit
import Derived.OpenShut
import Derived.Below
import Derived.ShutString
import Derived.ChangeOld
import Derived.SizedLaws
import Derived.Deep.Slices
namespace Go.Proofs.YtflkjkhijcdbaaaGreat.sourceCopies
open Wx Go.ChangeShapes Go.WideShapes Go.ChangeAt Go.RowKit
open Go.ChangeMaps (open_string shut_string)
set_option linter.unusedVariables false
theorem own : ownKnob Tryz.prog.godebug = none := by kernel_rfl
theorem laidOut : laidOutB Tryz.prog = true := by kernel_rfl
theorem len_le {H : Type} {enc : TypeId × Value → H} {P : Program} {w : World} {base : Nat} {spare : Nat → Bool} {held : Bool} {ts : List TypeId} {ds : List (DataW H)} {j : Nat} {t u : TypeId} {a : Option Addr} {n c : Nat} {d : DataW H} {p : List MemPlace} (hz : (DataW.weightsEach P ts ds).all (· ≤ reachBytes) = true) (ht : ts[j]? = some t) (hd : ds[j]? = some d)
    (hu : P.underlying t = some (.slice u)) (h : DataW.Trod enc P w base spare held t (.slice a n c) d p) (hb : 1 ≤ P.bytesOf u) : n ≤ 140737488351232 := by
  obtain ⟨m, hm⟩ := h
  rcases Go.Deep.open_slice hu hm with ⟨h0, _⟩ | ⟨a', len, cap, k, _, D, Pl, h0, _, _, _, _, hx, _⟩
  · injection h0 with h1; injection h1 with _ h2; omega
  · injection h0 with h1; injection h1 with _ h2
    rw [show d = _ from (Prod.ext_iff.1 hx).1] at hd
    have := Go.sized_slice hz ht hd hu
    simp only [List.length_map, List.length_range] at this
    have h3 : len ≤ (len + (k - len)) * P.bytesOf u := Nat.le_trans (Nat.le_add_right _ _) (Nat.le_mul_of_pos_right _ hb)
    rw [h2]; exact Nat.le_trans h3 (Nat.le_trans this (by decide))
theorem walk (a0 : ByteArray) (x1 : SlV (Sh.T (Sh.int .i64))) (x2 : SlV (Sh.T (Sh.int .i64))) (w : World) (w0 : a0.size ≤ maxLen) (w1 : (Sh.slice (Sh.int .i64)).ok w x1) (w2 : (Sh.slice (Sh.int .i64)).ok w x2) (b1 : x1.l.length ≤ 140737488351232) (b2 : x2.l.length ≤ 140737488351232) :
    Calls Tryz.prog 11 #[.string a0, .slice x1.a x1.l.length x1.c, .slice x2.a x2.l.length x2.c] w fun e w' => e = .returned (.bool true) ∧ Below w.heap.size w w' := by
  have h1 := T5 (w1.okQ [])
  have h2 := T5 (w2.okQ [])
  exact (Rj (q := [old w]) (s := a0) (pa := x1.a) (pc := x1.c) (ah := x1.l) (pb := x2.a) (pd := x2.c) (bh := x2.l) h1.2.2.1 (fun k hk => wfi64 (h1.2.2.2 k hk)) h2.2.2.1 (fun k hk => wfi64 (h2.2.2.2 k hk)) (by omega) (by omega)).law (fun v q' h => h.1) (St.old w)
set_option maxRecDepth 100000 in
theorem lifted (os : Os) (started : os.Started) (H : Type) (enc : TypeId × Value → H) :
    ReturnsInHanded {} Tryz.checked os 11 .any (Rows.sourceCopiesSpec.pre6 enc Tryz.prog Tryz.f11 Rows.sourceCopiesRow.domain false) (Rows.sourceCopiesSpec.post enc Tryz.prog Tryz.f11 false true false false) := by
  refine returnsInHanded_of_change_sized (C := Tryz.checked) own started (by kernel_rfl) Tryz.func11
    (ChangeSpec.witness6 (enc := enc) (C := Tryz.checked) false ⟨#[], #[.string ⟨#[]⟩, .slice none 0 0, .slice none 0 0], []⟩ 8 (by kernel_rfl) (by kernel_rfl) (by kernel_rfl) (by kernel_rfl)) ?_
  intro W base args ds gs before hval0 hW hcnd hsz0 _
  have hsz : (DataW.weightsEach Tryz.prog (Tryz.f11.params.toList ++ Rows.sourceCopiesSpec.plain.varTypes Tryz.prog) (ds ++ gs)).all (· ≤ reachBytes) = true := hsz0
  have hval : ∀ (j : Nat) t v, Tryz.f11.params[j]? = some t → args[j]? = some v → Value.okWide Tryz.prog W .any base t v := hval0
  have hW' := hW
  obtain ⟨p, q, hA0, hV, rfl, hfz, hnd⟩ := hW
  have hA : DataW.TrodAll enc Tryz.prog W 0 (fun _ => true) true Tryz.f11.params.toList args.toList ds p := hA0
  rw [Tryz.params11] at hA hval hsz
  obtain ⟨v0, vs0, d0, ds0, p0, q0, hargs, rfl, rfl, h0, r0⟩ := trodAll_cons hA
  obtain ⟨v1, vs1, d1, ds1, p1, q1, rfl, rfl, rfl, h1, r1⟩ := trodAll_cons r0
  obtain ⟨v2, vs2, d2, ds2, p2, q2, rfl, rfl, rfl, h2, r2⟩ := trodAll_cons r1
  obtain ⟨rfl, rfl, rfl⟩ := trodAll_nil r2
  obtain rfl : args = #[v0, v1, v2] := by cases args; simp_all
  obtain ⟨rfl, rfl⟩ := trodVars_none hV
  obtain ⟨a0, rfl, rfl, rfl, w0⟩ := open_string Tryz.underlying9 (hval 0 9 v0 rfl rfl) h0
  have k1 := h1
  have lt1 : ∀ x ∈ p1, x.block < W.heap.size := by obtain ⟨m, hm⟩ := k1; exact DataW.trod_lt m _ _ _ hm
  obtain ⟨x1, rfl, w1⟩ := open_slice (Sh.int .i64) Tryz.underlying22 (hval 1 22 v1 rfl rfl) h1 (by kernel_rfl)
  have k2 := h2
  have lt2 : ∀ x ∈ p2, x.block < W.heap.size := by obtain ⟨m, hm⟩ := k2; exact DataW.trod_lt m _ _ _ hm
  obtain ⟨x2, rfl, w2⟩ := open_slice (Sh.int .i64) Tryz.underlying22 (hval 2 22 v2 rfl rfl) h2 (by kernel_rfl)
  clear hA0 hval0
  refine (walk a0 x1 x2   W w0 w1 w2 (len_le hsz (j := 1) rfl rfl Tryz.underlying22 k1 (of_decide_eq_true (by kernel_rfl))) (len_le hsz (j := 2) rfl rfl Tryz.underlying22 k2 (of_decide_eq_true (by kernel_rfl)))).mono fun e W' ⟨he, bel⟩ => ?_
  subst he
  exact ⟨_, rfl, _, _, _, [], _, [], hW', trodAll_mk1 (shut_bool Tryz.underlying4 _), (trodAll_cons_mk (shut_string Tryz.underlying9 w0) (trodAll_cons_mk (Below.trod laidOut (by kernel_rfl) (of_decide_eq_true (by kernel_rfl)) k1 bel lt1) (trodAll_cons_mk (Below.trod laidOut (by kernel_rfl) (of_decide_eq_true (by kernel_rfl)) k2 bel lt2) trodAll_mk0))), rfl, bel.frame _, fun h => by cases h⟩

theorem over : Rows.sourceCopiesRow.holds Tryz.pinned (OpenSpec.ofChange Rows.sourceCopiesSpec) :=
  OpenClaim.holds_of_wide 11 Tryz.f11 rfl rfl rfl rfl rfl rfl rfl ⟨rfl, rfl, rfl, rfl, rfl⟩ rfl rfl rfl rfl rfl (by kernel_rfl) Tryz.func11 (by kernel_rfl)
    (of_decide_eq_true (by kernel_rfl)) (by unfold Func.isWrapper; first | (rw [if_pos (by decide +kernel)]; kernel_rfl) | (rw [if_neg (by decide +kernel)]; exact ⟨rfl, rfl⟩))
    (fun os started H enc _ => lifted os started H enc)
theorem proved : Rows.SourceCopiesSaid := over
#print axioms proved
end Go.Proofs.YtflkjkhijcdbaaaGreat.sourceCopies
