/-
  Plain program logic, part 15: two ways come together again behind a choice between truths.
-/
import Derived.Test.YtjkkefgkhafmfaaWx14
namespace Wx
open Go Go.RowKit
set_option linter.unusedVariables false
def dropL : Nat → List Oper → List Oper
  | 0, l => l
  | _ + 1, [] => []
  | n + 1, _ :: r => dropL n r
section
variable {P : Program} {G : World} {f : Fc} {Q : Post} {ops : List Oper} {k : List Item} {p : PE} {ds : List Deferred} {cs : List Frame} {q : List HP} {l : List Oper}
theorem XO.cutAnd {r1 : Bool} (n : Nat) (d s : Nat) {b : Bool} (h : lkp p s = some (.bool b))
    (ht : b = true → XO P G f Q ops.toArray k (dropL n l) ((d, .bool (b && r1)) :: p) ds cs q → XO P G f Q ops.toArray k l ((s, .bool true) :: p) ds cs q)
    (hf : b = false → XO P G f Q ops.toArray k (dropL n l) ((d, .bool (b && r1)) :: p) ds cs q → XO P G f Q ops.toArray k l ((s, .bool false) :: p) ds cs q)
    (M : XO P G f Q ops.toArray k (dropL n l) ((d, .bool (b && r1)) :: p) ds cs q) : XO P G f Q ops.toArray k l p ds cs q :=
  .part s h (fun e => ht e M) (fun e => hf e M)
theorem XO.cutOr {r1 : Bool} (n : Nat) (d s : Nat) {b : Bool} (h : lkp p s = some (.bool b))
    (hf : b = false → XO P G f Q ops.toArray k (dropL n l) ((d, .bool (b || r1)) :: p) ds cs q → XO P G f Q ops.toArray k l ((s, .bool false) :: p) ds cs q)
    (ht : b = true → XO P G f Q ops.toArray k (dropL n l) ((d, .bool (b || r1)) :: p) ds cs q → XO P G f Q ops.toArray k l ((s, .bool true) :: p) ds cs q)
    (M : XO P G f Q ops.toArray k (dropL n l) ((d, .bool (b || r1)) :: p) ds cs q) : XO P G f Q ops.toArray k l p ds cs q :=
  .part s h (fun e => ht e M) (fun e => hf e M)
theorem andT {b r : Bool} (h : b = true) : some (Value.bool r) = some (Value.bool (b && r)) := by rw [h]; rfl
theorem andF {b r : Bool} (h : b = false) : some (Value.bool false) = some (Value.bool (b && r)) := by rw [h]; rfl
theorem orF {b r : Bool} (h : b = false) : some (Value.bool r) = some (Value.bool (b || r)) := by rw [h]; rfl
theorem orT {b r : Bool} (h : b = true) : some (Value.bool true) = some (Value.bool (b || r)) := by rw [h]; rfl
theorem XO.fin {p' : PE} (M : XO P G f Q ops.toArray k l p' ds cs q) (h : SubP p' p) : XO P G f Q ops.toArray k l p ds cs q := XO.sub h M
variable {pk : PE} {L : Rds} {m : Nat} {done : List Nat}
def sameL (a b : List Nat) : Bool := a.all b.contains && b.all a.contains
theorem XD.fin {L : Rds} {done' : List Nat} {p' : PE} (M : ∀ L, XD P G f Q ops k pk L m done' p' ds cs q) (h : SubP p' p) (e : sameL done' done = true := by rfl) : XD P G f Q ops k pk L m done p ds cs q := by
  have he : ∀ j, j ∈ done' ↔ j ∈ done := by
    intro j
    simp only [sameL, Bool.and_eq_true, List.all_eq_true, List.contains_iff_mem] at e
    exact ⟨e.1 j, e.2 j⟩
  refine XD.sub h ?_
  exact fun h1 h2 tm w hn ag s hs => WA.congr m he (M L h1 h2 tm w hn ag s hs)
theorem XD.cutAnd {r1 : Bool} (n' : Nat) (done' : List Nat) (d s : Nat) {b : Bool} (h : lkp p s = some (.bool b))
    (ht : b = true → (∀ L, XD P G f Q ops k pk L n' done' ((d, .bool (b && r1)) :: p) ds cs q) → XD P G f Q ops k pk L m done ((s, .bool true) :: p) ds cs q)
    (hf : b = false → (∀ L, XD P G f Q ops k pk L n' done' ((d, .bool (b && r1)) :: p) ds cs q) → XD P G f Q ops k pk L m done ((s, .bool false) :: p) ds cs q)
    (M : ∀ L, XD P G f Q ops k pk L n' done' ((d, .bool (b && r1)) :: p) ds cs q) : XD P G f Q ops k pk L m done p ds cs q :=
  .part s h (fun e => ht e M) (fun e => hf e M)
theorem XD.cutOr {r1 : Bool} (n' : Nat) (done' : List Nat) (d s : Nat) {b : Bool} (h : lkp p s = some (.bool b))
    (hf : b = false → (∀ L, XD P G f Q ops k pk L n' done' ((d, .bool (b || r1)) :: p) ds cs q) → XD P G f Q ops k pk L m done ((s, .bool false) :: p) ds cs q)
    (ht : b = true → (∀ L, XD P G f Q ops k pk L n' done' ((d, .bool (b || r1)) :: p) ds cs q) → XD P G f Q ops k pk L m done ((s, .bool true) :: p) ds cs q)
    (M : ∀ L, XD P G f Q ops k pk L n' done' ((d, .bool (b || r1)) :: p) ds cs q) : XD P G f Q ops k pk L m done p ds cs q :=
  .part s h (fun e => ht e M) (fun e => hf e M)
end
end Wx
