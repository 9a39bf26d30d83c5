/- The law LogBack holds: for every input it returns true and leaves its arguments as they were. No condition. -/
import Derived.Test.YtiehcgmbkjdagaaS
import Derived.Test.YtiehcgmbkjdagaaL
import Derived.Test.YtiehcgmbkjdagaaWx20
import Derived.WalkKit
import Derived.ProofKit
import Derived.OpenShut
import Derived.Below
import Derived.ShutString
import Derived.ChangeOld
namespace Go.Proofs.Ytiehcgmbkjdagaa.logBack
open Wx Go.ChangeShapes Go.WideShapes Go.ChangeAt Go.RowKit
open Go.ChangeMaps (open_string shut_string)
set_option linter.unusedVariables false
theorem own : ownKnob Try.prog.godebug = none := by kernel_rfl
theorem laidOut : laidOutB Try.prog = true := by kernel_rfl
theorem walk (x0 : Sh.T TakenS) (x1 : SlV (Sh.T (Sh.int .i64))) (x2 : Sh.T (.cons (.slice (.int .u8)) (.cons (.int .i64) (.cons (.int .u8) .nil)))) (w : World) (w0 : Sh.ok w TakenS x0) (w1 : (Sh.slice (Sh.int .i64)).ok w x1) (w2 : Sh.ok w (.cons (.slice (.int .u8)) (.cons (.int .i64) (.cons (.int .u8) .nil))) x2) :
    Calls Try.prog 11 #[.agg (Sh.cells TakenS x0).toArray, .slice x1.a x1.l.length x1.c, .agg (Sh.cells (.cons (.slice (.int .u8)) (.cons (.int .i64) (.cons (.int .u8) .nil))) x2).toArray] w fun e w' => e = .returned (.bool true) ∧ Below w.heap.size w w' := by
  have h := taken_sees (w0.okQ [])
  obtain ⟨_, _, ht, _⟩ := Sh.okQ_ints (w1.okQ [])
  obtain ⟨y1, y2, y3, _⟩ := x2
  have wr := w2.okQ []
  obtain ⟨_, _, hl, hb⟩ := Sh.okQ_ints wr.1
  have hy := wf8 wr.2.2.1
  rw [taken_v]
  exact (logBack_ok (q := [old w]) (a := x0.2.1.a) (c := x0.2.1.c) (b := x1.a) (d := x1.c) (th := x1.l) (e := y1.a) (l := y1.l) (kc := y1.c) (at_ := y2) (y := y3) h.1 ht hl (fun n hn => wf8 (hb n hn)) h.2 hy).law (fun v q' h => h.1) (St.old w)
set_option maxRecDepth 100000 in
theorem lifted (os : Os) (started : os.Started) (H : Type) (enc : TypeId × Value → H) :
    ReturnsInHanded {} Try.checked os 11 .any (Rows.logBackSpec.pre6 enc Try.prog Try.f11 Rows.logBackRow.domain false) (Rows.logBackSpec.post enc Try.prog Try.f11 false true false false) := by
  refine returnsInHanded_of_change (C := Try.checked) own started (by kernel_rfl) Try.func11
    (ChangeSpec.witness6 (enc := enc) (C := Try.checked) false ⟨#[], #[.agg #[.int .u32 0, .slice none 0 0, .int .i64 0, .int .i64 0, .int .i64 0, .int .i64 0], .slice none 0 0, .agg #[.slice none 0 0, .int .i64 0, .int .u8 0]], []⟩ 8 (by kernel_rfl) (by kernel_rfl) (by kernel_rfl) (by kernel_rfl)) ?_
  intro W base args ds gs before hval0 hW hcnd _
  have hval : ∀ (j : Nat) t v, Try.f11.params[j]? = some t → args[j]? = some v → Value.okWide Try.prog W .any base t v := hval0
  have hW' := hW
  obtain ⟨p, q, hA0, hV, rfl, hfz, hnd⟩ := hW
  have hA : DataW.TrodAll enc Try.prog W 0 (fun _ => true) true Try.f11.params.toList args.toList ds p := hA0
  rw [Try.params11] at hA hval
  obtain ⟨v0, vs0, d0, ds0, p0, q0, hargs, rfl, rfl, h0, r0⟩ := trodAll_cons hA
  obtain ⟨v1, vs1, d1, ds1, p1, q1, rfl, rfl, rfl, h1, r1⟩ := trodAll_cons r0
  obtain ⟨v2, vs2, d2, ds2, p2, q2, rfl, rfl, rfl, h2, r2⟩ := trodAll_cons r1
  obtain ⟨rfl, rfl, rfl⟩ := trodAll_nil r2
  obtain rfl : args = #[v0, v1, v2] := by cases args; simp_all
  obtain ⟨rfl, rfl⟩ := trodVars_none hV
  have k0 := h0
  have lt0 : ∀ x ∈ p0, x.block < W.heap.size := by obtain ⟨m, hm⟩ := k0; exact DataW.trod_lt m _ _ _ hm
  obtain ⟨x0, rfl, w0⟩ := open_struct TakenS Try.underlying29 (hval 0 29 v0 rfl rfl) h0 (by kernel_rfl)
  have k1 := h1
  have lt1 : ∀ x ∈ p1, x.block < W.heap.size := by obtain ⟨m, hm⟩ := k1; exact DataW.trod_lt m _ _ _ hm
  obtain ⟨x1, rfl, w1⟩ := open_slice (Sh.int .i64) Try.underlying48 (hval 1 48 v1 rfl rfl) h1 (by kernel_rfl)
  have k2 := h2
  have lt2 : ∀ x ∈ p2, x.block < W.heap.size := by obtain ⟨m, hm⟩ := k2; exact DataW.trod_lt m _ _ _ hm
  obtain ⟨x2, rfl, w2⟩ := open_struct (.cons (.slice (.int .u8)) (.cons (.int .i64) (.cons (.int .u8) .nil))) Try.underlying63 (hval 2 63 v2 rfl rfl) h2 (by kernel_rfl)
  clear hA0 hval0
  refine (walk x0 x1 x2 W w0 w1 w2).mono fun e W' ⟨he, bel⟩ => ?_
  subst he
  exact ⟨_, rfl, _, _, _, [], _, [], hW', trodAll_mk1 (shut_bool Try.underlying4 _), (trodAll_cons_mk (Below.trod laidOut (by kernel_rfl) (of_decide_eq_true (by kernel_rfl)) k0 bel lt0) (trodAll_cons_mk (Below.trod laidOut (by kernel_rfl) (of_decide_eq_true (by kernel_rfl)) k1 bel lt1) (trodAll_cons_mk (Below.trod laidOut (by kernel_rfl) (of_decide_eq_true (by kernel_rfl)) k2 bel lt2) trodAll_mk0))), rfl, bel.frame _, fun h => by cases h⟩

theorem over : Rows.logBackRow.holds Try.pinned (OpenSpec.ofChange Rows.logBackSpec) :=
  OpenClaim.holds_of_wide 11 Try.f11 rfl rfl rfl rfl rfl rfl rfl ⟨rfl, rfl, rfl, rfl, rfl⟩ rfl rfl rfl rfl rfl (by kernel_rfl) Try.func11 (by kernel_rfl)
    (of_decide_eq_true (by kernel_rfl)) (by unfold Func.isWrapper; first | (rw [if_pos (by decide +kernel)]; kernel_rfl) | (rw [if_neg (by decide +kernel)]; exact ⟨rfl, rfl⟩))
    (fun os started H enc _ => lifted os started H enc)
theorem proved : Rows.LogBackSaid := over
#print axioms proved
end Go.Proofs.Ytiehcgmbkjdagaa.logBack
