/-
  Plain program logic, part 21: iterators: what a function tells, one after the other; ranges over them.
-/
import Derived.Test.YtjkkefgkhafmfaaWx20
namespace Wx
open Go Go.RowKit
set_option linter.unusedVariables false
/-- gv hands xs to whoever is called, one behind the other, till one answers false; what it reads is pre. -/
def Iter (P : Program) (G : World) (gv : Value) (xs : List (List Value)) (pre : List HP) : Prop :=
  ∀ (l : Nat) (J : Nat → HP) (Jf : HP → Prop),
    (∀ i (h : i < xs.length), CallV P G (.func (.yield l) #[] #[]) xs[i] (J i :: pre) (Ret fun v q => (v = .bool true ∧ q = J (i + 1) :: pre) ∨ (v = .bool false ∧ ∃ A, Jf A ∧ q = A :: pre))) →
    CallV P G gv [.func (.yield l) #[] #[]] (J 0 :: pre) (Ret fun _ q => q = J xs.length :: pre ∨ ∃ A, Jf A ∧ q = A :: pre)
/-- How a round of the loop l ends. -/
def RQ (cs₀ : List Frame) (rec : Loop) (l : Nat) (next : List HP) (Jmp : Code → List HP → Prop) (R : List HP) : Post := fun o p ds cs q => cs = cs₀ ∧ ds = [] ∧ match o with
  | .fall => Le q (lp rec l .busy none :: (next ++ R))
  | .jump c => ∃ qs, Jmp c qs ∧ Le q (lp rec l .busy none :: (qs ++ R))
  | .panic _ => False
section
variable {P : Program} {G : World} {f : Fc} {Q : Post} {k : List Item} {p : PE} {ds : List Deferred} {cs : List Frame} {q : List HP}
theorem X.range {g : Operand} {ps : List Tmp} {as bd : Code} {gv : Value} {xs : List (List Value)} {F : List HP} (pre : List HP) (Inv : Nat → List HP) (Jmp : Code → List HP → Prop) (hI : Iter P G gv xs pre) (hg : evp p g = some gv) (hq : Le q (Inv 0 ++ (pre ++ F)))
    (hxs : ∀ x ∈ xs, x.length = ps.length) (hps : ps.all (Nat.blt · f.n) = true) (hf : (P.funcs[f.fn]?).isSome = true) (hro : f.round = none)
    (round : ∀ i (h : i < xs.length) l rec F₀ cs₀, X P G ⟨f.fn, f.n, .normal, some l⟩ (RQ cs₀ rec l (Inv (i + 1)) Jmp (pre ++ F₀)) [.code as, .beginRound, .code bd] (zipP ps xs[i] p) [] cs₀ (lp rec l .ready none :: (Inv i ++ (pre ++ F₀))))
    (cont : ∀ r, X P G f Q k p (markD r :: ds) cs (pto r (.deferred (some [])) :: (Inv xs.length ++ (pre ++ F))))
    (contJ : ∀ r c qs, Jmp c qs → X P G f Q (.code c :: k) p (markD r :: ds) cs (pto r (.deferred (some [])) :: (qs ++ (pre ++ F)))) :
    X P G f Q (.code (.rangeFunc g ps.toArray as bd) :: k) p ds cs q := by
  refine X.rangeFunc (pre := Inv 0 ++ pre) (F := F) (R' := fun pend q1 => (pend = none ∧ q1 = Inv xs.length ++ pre) ∨ ∃ c qs, pend = some c ∧ Jmp c qs ∧ q1 = qs ++ pre) hro hg (by rw [List.append_assoc]; exact hq) (fun l rec hrec => ?_) (fun r pend q1 h => ?_)
  · have key := hI l (fun i => stars (lp rec l .ready none :: Inv i)) (fun A => ∃ c qs, Jmp c qs ∧ A = stars (lp rec l .done (some c) :: qs)) (fun i h => ?_)
    · refine CallV.conv (pre' := stars (lp rec l .ready none :: Inv 0) :: pre) ?_ key ?_
      · rw [show lp rec l .ready none :: (Inv 0 ++ pre) = (lp rec l .ready none :: Inv 0) ++ pre from rfl]
        exact Le.stars_in _ _
      · rintro e q' ⟨v, rfl, rfl | ⟨A, ⟨c, qs, hJ, rfl⟩, rfl⟩⟩
        · exact ⟨lp rec l .ready none :: (Inv xs.length ++ pre), ⟨v, rfl, .ready, none, _, by simp, rfl, .inl ⟨rfl, rfl⟩⟩, Le.stars_out _ _⟩
        · exact ⟨lp rec l .done (some c) :: (qs ++ pre), ⟨v, rfl, .done, some c, _, by simp, rfl, .inr ⟨c, qs, rfl, hJ, rfl⟩⟩, Le.stars_out _ _⟩
    · refine CallV.conv (pre' := lp rec l .ready none :: (Inv i ++ pre)) (Le.stars_out _ _)
        (CallV.yield (R := Ret fun v q => (v = .bool true ∧ q = lp rec l .ready none :: (Inv (i + 1) ++ pre)) ∨ (v = .bool false ∧ ∃ c qs, Jmp c qs ∧ q = lp rec l .done (some c) :: (qs ++ pre))) hrec hps (by simpa using hxs _ (List.getElem_mem h)) hf (fun F₀ cs₀ => ?_)) ?_
      · intro tm w hn ha s
        obtain ⟨o, tm', p', ds', cs', w', q', ⟨hcs, hds, ho⟩, h1, h2, h3, h4⟩ := round i h l rec F₀ cs₀ tm w hn ha (by rw [List.append_assoc] at s; exact s)
        refine ⟨o, tm', p', ds', cs', w', q', ⟨hcs, hds, ?_⟩, h1, h2, h3, h4⟩
        cases o with
        | fall => exact ⟨Inv (i + 1) ++ pre, ⟨_, rfl, .inl ⟨rfl, rfl⟩⟩, by rw [List.append_assoc]; exact ho⟩
        | jump c => obtain ⟨qs, hJ, hle⟩ := ho; exact ⟨qs ++ pre, ⟨_, rfl, .inr ⟨rfl, c, qs, hJ, rfl⟩⟩, by rw [List.append_assoc]; exact hle⟩
        | panic ch => exact ho.elim
      · rintro e q' ⟨v, rfl, ⟨rfl, rfl⟩ | ⟨rfl, c, qs, hJ, rfl⟩⟩
        · exact ⟨stars (lp rec l .ready none :: Inv (i + 1)) :: pre, ⟨_, rfl, .inl ⟨rfl, rfl⟩⟩, Le.stars_in (lp rec l .ready none :: Inv (i + 1)) pre⟩
        · exact ⟨stars (lp rec l .done (some c) :: qs) :: pre, ⟨_, rfl, .inr ⟨rfl, _, ⟨c, qs, hJ, rfl⟩, rfl⟩⟩, Le.stars_in (lp rec l .done (some c) :: qs) pre⟩
  · rcases h with ⟨rfl, rfl⟩ | ⟨c, qs, rfl, hJ, rfl⟩
    · have := cont r; rw [← List.append_assoc] at this; exact this
    · have := contJ r c qs hJ; rw [← List.append_assoc] at this; exact this
/-- The ends of a frame behind ranges over functions that left no deferred calls. -/
theorem Lv.marks {fn : FuncId} {R : Spec} {F : List HP} {u : FrameMode} {p : PE} {q q' : List HP} {r : Nat} (h : Lv P G fn R F ds u p q') (hu : u ≠ .run := by simp) (hq : Le q (pto r (.deferred (some [])) :: q') := by exact fndA) : Lv P G fn R F (markD r :: ds) u p q := Lv.mark hu hq h
end
end Wx
