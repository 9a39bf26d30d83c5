/- The law VerifyTwo holds: for every input it returns true and leaves its arguments as they were. No condition. -/
import Derived.Test.YtmdnfhpoplpaoaaDoorU
import Derived.Test.YtmdnfhpoplpaoaaDoorY
import Derived.Test.YtmdnfhpoplpaoaaDoorTie
import Derived.Test.YtmdnfhpoplpaoaaDoorCards
import Derived.LaidMore
import Derived.Stop.Joined
import Derived.SevenTiedAt
import Derived.WalkKit
import Derived.ProofKit
import Derived.OpenShut
import Derived.Below
import Derived.ShutString
import Derived.ChangeOld
namespace Go.Proofs.YtmdnfhpoplpaoaaDoor.verifyTwo
open Wx Go.ChangeShapes Go.WideShapes Go.ChangeAt Go.RowKit
open Go.ChangeMaps (open_string shut_string)
set_option linter.unusedVariables false
theorem own : ownKnob Tryd.prog.godebug = none := by kernel_rfl
theorem laidOut : laidOutB Tryd.prog = true := by kernel_rfl
theorem walk (x0 : SlV (Sh.T InsS)) (x1 : SlV (Sh.T InsS)) (w : World) (hL : laidMetH Tryd.prog laidL w) (w0 : (Sh.slice InsS).ok w x0) (w1 : (Sh.slice InsS).ok w x1) :
    Calls Tryd.prog 6 #[.slice x0.a x0.l.length x0.c, .slice x1.a x1.l.length x1.c] w fun e w' => e = .returned (.bool true) ∧ Below w.heap.size w w' := by
  obtain ⟨gc, g⟩ := of_laid hL
  have h0 : Sees [old w] x0.a ((x0.l.map mkIns).flatMap insC) ∧ (x0.l.map mkIns).length ≤ 9223372036854775807 := ⟨ins_sees (w0.okQ []), by rw [List.length_map]; exact Nat.le_trans (w0.okQ []).1 (Nat.le_trans (w0.okQ []).2.1 (by decide))⟩
  have h1 : Sees [old w] x1.a ((x1.l.map mkIns).flatMap insC) ∧ (x1.l.map mkIns).length ≤ 9223372036854775807 := ⟨ins_sees (w1.okQ []), by rw [List.length_map]; exact Nat.le_trans (w1.okQ []).1 (Nat.le_trans (w1.okQ []).2.1 (by decide))⟩
  have h := (verifyTwo_ok (c := x0.c) (d := x1.c) gc g h0.1 h0.2 h1.1 h1.2).law (fun v q' h => h.1) (St.old w)
  rw [List.length_map, List.length_map] at h
  exact h
set_option maxRecDepth 100000 in
theorem lifted (os : Os) (started : os.Started) (H : Type) (enc : TypeId × Value → H) :
    ReturnsInHanded {} Tryd.checked os 6 .any (fun w args => (Rows.verifyTwoSpec.pre enc Tryd.prog Tryd.f6 [] false w args ∧ laidMetH Tryd.prog laidL w) ∧ sizedMet enc Tryd.prog Tryd.f6 (OpenSpec.ofChange Rows.verifyTwoSpec) false w args)
      (Rows.verifyTwoSpec.post enc Tryd.prog Tryd.f6 false true false false) := by
  refine returnsInHanded_of_change_and (C := Tryd.checked) (X := fun w _ => laidMetH Tryd.prog laidL w) (fun _ _ _ hh h => h.of_heap hh) own started (by kernel_rfl) Tryd.func6
    (ChangeSpec.witness_shaped (enc := enc) (C := Tryd.checked) (os := os) (X := fun w _ => laidMetH Tryd.prog laidL w) false (World.doorLaid Tryd.prog 400 os) #[.slice none 0 0, .slice none 0 0] 8 rfl (World.shaped_of_RefB (by kernel_rfl) (by kernel_rfl)) (by kernel_rfl) (by kernel_rfl) (by kernel_rfl) (door_met os _)) ?_
  intro W base args ds gs before hval0 hW _ _ hL _
  have hval : ∀ (j : Nat) t v, Tryd.f6.params[j]? = some t → args[j]? = some v → Value.okWide Tryd.prog W .any base t v := hval0
  have hW' := hW
  obtain ⟨p, q, hA0, hV, rfl, hfz, hnd⟩ := hW
  have hA : DataW.TrodAll enc Tryd.prog W 0 (fun _ => true) true Tryd.f6.params.toList args.toList ds p := hA0
  rw [Tryd.params6] at hA hval
  obtain ⟨v0, vs0, d0, ds0, p0, q0, hargs, rfl, rfl, h0, r0⟩ := trodAll_cons hA
  obtain ⟨v1, vs1, d1, ds1, p1, q1, rfl, rfl, rfl, h1, r1⟩ := trodAll_cons r0
  obtain ⟨rfl, rfl, rfl⟩ := trodAll_nil r1
  obtain rfl : args = #[v0, v1] := by cases args; simp_all
  obtain ⟨rfl, rfl⟩ := trodVars_none hV
  have k0 := h0
  have lt0 : ∀ x ∈ p0, x.block < W.heap.size := by obtain ⟨m, hm⟩ := k0; exact DataW.trod_lt m _ _ _ hm
  obtain ⟨x0, rfl, w0⟩ := open_slice InsS Tryd.underlying37 (hval 0 37 v0 rfl rfl) h0 (by kernel_rfl)
  have k1 := h1
  have lt1 : ∀ x ∈ p1, x.block < W.heap.size := by obtain ⟨m, hm⟩ := k1; exact DataW.trod_lt m _ _ _ hm
  obtain ⟨x1, rfl, w1⟩ := open_slice InsS Tryd.underlying37 (hval 1 37 v1 rfl rfl) h1 (by kernel_rfl)
  clear hA0 hval0
  refine (walk x0 x1 W hL w0 w1).mono fun e W' ⟨he, bel⟩ => ?_
  subst he
  exact ⟨_, rfl, _, _, _, [], _, [], hW', trodAll_mk1 (shut_bool Tryd.underlying4 _), (trodAll_cons_mk (Below.trod laidOut (by kernel_rfl) (of_decide_eq_true (by kernel_rfl)) k0 bel lt0) (trodAll_cons_mk (Below.trod laidOut (by kernel_rfl) (of_decide_eq_true (by kernel_rfl)) k1 bel lt1) trodAll_mk0)), rfl, bel.frame _, fun h => by cases h⟩

theorem over : Rows.verifyTwoRow.holds Tryd.pinned (OpenSpec.ofChange Rows.verifyTwoSpec) :=
  OpenClaim.holds_of_wide 6 Tryd.f6 rfl rfl rfl rfl rfl rfl rfl ⟨rfl, rfl, rfl, rfl, rfl⟩ rfl rfl rfl rfl rfl (by kernel_rfl) Tryd.func6 (by kernel_rfl)
    (of_decide_eq_true (by kernel_rfl)) (by unfold Func.isWrapper; first | (rw [if_pos (by decide +kernel)]; kernel_rfl) | (rw [if_neg (by decide +kernel)]; exact ⟨rfl, rfl⟩))
    (fun os started H enc _ => lifted os started H enc)
theorem proved : Rows.VerifyTwoCardSaid :=
  Claim7.holds_tied_plain_at .later [] [.data, .data] true (true, "f3c6b9db85a2e3477242aef878fe613fc8e6f48f3cf05f95444850c6c3f0d8f8") true
    over (fun _ h => by cases h) (by kernel_rfl) (fun _ h => by cases h) verifyTwo_row_tie rfl ⟨rfl, rfl⟩ (by kernel_rfl) rfl
    (fun f fn hf hfn => by
      obtain rfl : f = 6 := Option.some.inj ((show Tryd.prog.funcNamed Rows.verifyTwoRow.func = some 6 by kernel_rfl).symm.trans hf) |>.symm
      obtain rfl : fn = Tryd.f6 := (Option.some.inj (Tryd.func6.symm.trans hfn)).symm
      exact ⟨by kernel_rfl, fun j t ht => by
        rw [Tryd.params6] at ht
        have hm : t ∈ [37, 37] := by simpa using Array.mem_of_getElem? ht
        have hall : ([37, 37].all fun u => !Tryd.prog.wantsStandIn u) = true := by kernel_rfl
        exact (show Tryd.prog.wantsStandIn t = false by simpa using List.all_eq_true.1 hall t hm)⟩)
    (by kernel_rfl)
#print axioms proved
end Go.Proofs.YtmdnfhpoplpaoaaDoor.verifyTwo
