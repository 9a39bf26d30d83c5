/-
  Plain program logic, part 27: short words for what the printed texts say often.
-/
import Derived.Test.YtjkkefgkhafmfaaWx26
namespace Wx
open Go Go.RowKit
/-- A test's outcome in plain words. -/
theorem sp {φ ψ : Prop} (h : φ) (e : φ → ψ := by intro h; (try simp only [decide_eq_true_eq, decide_eq_false_iff_not, bne_iff_ne, beq_iff_eq, ne_eq, bne_eq_false_iff_eq, beq_eq_false_iff_ne, Bool.not_eq_true', Bool.not_eq_false', Int.not_lt, Int.not_le, Bool.not_not, Bool.and_eq_true, Bool.and_eq_false_iff, Bool.true_and, Bool.and_true, beq_self_eq_true, Bool.or_eq_true, Bool.or_eq_false_iff] at h); exact h) : ψ := e h
/-- A test that is decided. -/
theorem knw {b c : Bool} (h : b = c := by first | rfl | (exact decide_eq_true (by omega)) | (exact decide_eq_false (by omega)) | (simp; done) | (simp; omega)) : Value.bool b = Value.bool c := congrArg Value.bool h
theorem XD.sb {P : Program} {G : World} {f : Fc} {Q : Post} {ops : List Oper} {k : List Item} {pk p p' : PE} {L : Rds} {n : Nat} {done : List Nat} {ds : List Deferred} {cs : List Frame} {q : List HP} (l : List Nat) (x : XD P G f Q ops k pk L n done p' ds cs q) (h : pickP l p = some p' := by exact rfl) : XD P G f Q ops k pk L n done p ds cs q := x.sub (pickP_ok h)
theorem subB {p p' : PE} (h : SubP p' p := by repeat (first | exact trivial | refine ⟨(by first | rfl | exact congrArg (fun x => some (Value.bool x)) (Eq.symm (by assumption))), ?_⟩)) : SubP p' p := h
theorem Rd.ef {P : Program} {G : World} {p : PE} {q : List HP} {o : Oper} {v : Value} (h : Rd P G p q o v) : Ef P G p q o fun u q' => u = v ∧ q' = q := fun tm w ag s => ⟨v, w, q, .inl (h tm w ag s), s, rfl, rfl⟩
section
variable {P : Program} {G : World} {f : Fc} {Q : Post} {ops : List Oper} {k : List Item} {p : PE} {ds : List Deferred} {cs : List Frame} {q : List HP} {rest : List Oper} {args : List Operand} {ats : Array TypeId} {ty : TypeId} {pos : String} {af : Array Edge} {gd : Option (Nat × Bool)} {vs : List Value} {pre : List HP} {R : Value → List HP → Prop} {d : Tmp} {fo : Operand} {fv : Value}
/-- A call of a value whose chunks are all that stand. -/
theorem XO.cVX (hq : Le q pre) (hc : CallV P G fv vs pre (Ret R)) (x : ∀ v q', R v q' → XO P G f Q ops.toArray k rest ((d, v) :: p) ds cs q') (hf : evp p fo = some fv := by rfl) (hv : evl p args = some vs := by rfl)
    (hw : Wt ops p ⟨some d, .call ⟨.value fo, args.toArray, ats⟩, ty, pos, af, gd⟩ = some true := by rfl) (hd : Nat.blt d f.n = true := by rfl) :
    XO P G f Q ops.toArray k (⟨some d, .call ⟨.value fo, args.toArray, ats⟩, ty, pos, af, gd⟩ :: rest) p ds cs q :=
  .cV (F := []) hc (fun v q' r q'' e => by rw [List.append_nil] at e; rw [e]; exact x v q' r) hf hv (by rw [List.append_nil]; exact hq) hw hd
end
theorem Le.rs_of_sl {α : Type} (f : α → List Value) (sz ty : Nat) (a : Option Addr) (c : Nat) (l : List α) (q : List HP) : Le (slH a c ty sz l.length (l.flatMap f) :: q) (rsH f sz ty a c l :: q) := Le.refl _
end Wx
