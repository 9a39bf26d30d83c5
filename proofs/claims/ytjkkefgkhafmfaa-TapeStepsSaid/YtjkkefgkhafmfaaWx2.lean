/-
  Plain program logic, part 2: frames, code, operations, over any program.
-/
import Derived.Test.YtjkkefgkhafmfaaWx1
import Derived.WalkKit
namespace Wx
open Go Go.RowKit

/-! ### what is known of slots -/
abbrev PE := List (Nat × Value)
def lkp : PE → Nat → Option Value
  | [], _ => none
  | (d, v) :: r, t => bif Nat.beq d t then some v else lkp r t
def Agr (tm : Array Value) (p : PE) : Prop := ∀ t v, lkp p t = some v → tm.getD t undef = v
def evp (p : PE) : Operand → Option Value
  | .tmp t => lkp p t
  | .const v => some v
  | .global g => some (.pointer (some ⟨g, 0, none⟩))
  | .func f => some (.func (.func f) #[] #[])
def evl (p : PE) : List Operand → Option (List Value)
  | [] => some []
  | x :: r => match evp p x, evl p r with
    | some v, some vs => some (v :: vs)
    | _, _ => none
def evA (tm : Array Value) : Operand → Value
  | .tmp t => tm.getD t undef
  | .const v => v
  | .global g => .pointer (some ⟨g, 0, none⟩)
  | .func f => .func (.func f) #[] #[]
theorem evA_of {tm : Array Value} {p : PE} (a : Agr tm p) {x : Operand} {v : Value} (h : evp p x = some v) : evA tm x = v := by
  cases x with
  | tmp t => exact a t v h
  | const c => simpa [evp, evA] using h
  | global g => simpa [evp, evA] using h
  | func f => simpa [evp, evA] using h
theorem evl_of {tm : Array Value} {p : PE} (a : Agr tm p) : ∀ {l : List Operand} {vs : List Value}, evl p l = some vs → l.map (evA tm) = vs := by
  intro l
  induction l with
  | nil => intro vs h; simpa [evl] using h
  | cons x r ih =>
    intro vs h
    simp only [evl] at h
    split at h
    · rename_i v ws h1 h2
      cases h
      simp [evA_of a h1, ih h2]
    · cases h
def SubP : PE → PE → Prop
  | [], _ => True
  | (d, v) :: r, p => lkp p d = some v ∧ SubP r p
theorem SubP.lk {p' p : PE} (h : SubP p' p) : ∀ t v, lkp p' t = some v → lkp p t = some v := by
  induction p' with
  | nil => intro t v e; simp [lkp] at e
  | cons x r ih =>
    obtain ⟨d, u⟩ := x
    intro t v e
    simp only [lkp] at e
    cases hb : Nat.beq d t with
    | true =>
      rw [hb] at e
      simp at e
      have := Nat.eq_of_beq_eq_true hb
      subst this; subst e; exact h.1
    | false => rw [hb] at e; exact ih h.2 t v (by simpa using e)
theorem Agr.sub {tm : Array Value} {p p' : PE} (a : Agr tm p) (h : SubP p' p) : Agr tm p' := fun t v e => a t v (h.lk t v e)
theorem Agr.nil (tm : Array Value) : Agr tm [] := fun _ _ e => by simp [lkp] at e
def putp (p : PE) : Option Tmp → Value → PE
  | some d, v => (d, v) :: p
  | none, _ => p
def putA (tm : Array Value) : Option Tmp → Value → Array Value
  | some d, v => tm.setIfInBounds d v
  | none, _ => tm
def dOk (n : Nat) : Option Tmp → Bool
  | some d => Nat.blt d n
  | none => true
theorem putA_size (tm : Array Value) (d : Option Tmp) (v : Value) : (putA tm d v).size = tm.size := by cases d <;> simp [putA]
theorem Agr.put {tm : Array Value} {p : PE} (a : Agr tm p) {d : Option Tmp} {v : Value} (hd : dOk tm.size d = true) : Agr (putA tm d v) (putp p d v) := by
  cases d with
  | none => exact a
  | some d =>
    have hlt : d < tm.size := by simpa [dOk, Nat.blt_eq] using hd
    intro t u e
    simp only [putp, lkp] at e
    cases hb : Nat.beq d t with
    | true =>
      rw [hb] at e
      have := Nat.eq_of_beq_eq_true hb
      subst this
      simp at e
      subst e
      simp [putA, hlt]
    | false =>
      rw [hb] at e
      have hne : d ≠ t := Nat.ne_of_beq_eq_false hb
      have := a t u (by simpa using e)
      simpa [putA, Array.getElem?_setIfInBounds, hne] using this

/-! ### frames -/
structure Fc where
  fn : FuncId
  n : Nat
  kind : CallKind
  round : Option Nat
def Fc.fr (f : Fc) (tm : Array Value) (ds : List Deferred) (todo : List Item) : Frame :=
  { fn := f.fn, tmps := tm, todo, defers := ds, mode := .run, kind := f.kind, roundOf := f.round }
inductive Out where
  | fall
  | jump (c : Code)
  | panic (ch : List PanicEntry)
def Gone (c : Code) (k : List Item) : Prop := c = .ret ∨ (∃ id, c = .exit id ∧ exitTo id k = none) ∨ (∃ l, c = .goto l ∧ gotoIn l k = none)
def Arr (P : Program) (f : Fc) (m : Machine) : Out → Array Value → List Deferred → List Frame → World → Prop
  | .fall, tm, ds, cs, w => Steps P m (lone (f.fr tm ds []) cs w)
  | .jump c, tm, ds, cs, w => ∃ k, Gone c k ∧ Steps P m (lone (f.fr tm ds (.code c :: k)) cs w)
  | .panic ch, tm, ds, cs, w => ∃ k, Steps P m (lone { f.fr tm ds k with mode := .panicking ch } cs w)
theorem Arr.head {P : Program} {f : Fc} {m m₁ : Machine} {o : Out} {tm : Array Value} {ds : List Deferred} {cs : List Frame} {w : World}
    (s : Steps P m m₁) (h : Arr P f m₁ o tm ds cs w) : Arr P f m o tm ds cs w := by
  cases o with
  | fall => exact s.trans h
  | jump c => obtain ⟨k, g, h⟩ := h; exact ⟨k, g, s.trans h⟩
  | panic ch => obtain ⟨k, h⟩ := h; exact ⟨k, s.trans h⟩
abbrev Post := Out → PE → List Deferred → List Frame → List HP → Prop
/-- From this point of a frame on, whatever slots agree with p and whatever world has the chunks q, the frame comes to its end as Q says. -/
def X (P : Program) (G : World) (f : Fc) (Q : Post) (todo : List Item) (p : PE) (ds : List Deferred) (cs : List Frame) (q : List HP) : Prop :=
  ∀ tm w, tm.size = f.n → Agr tm p → St G w q →
    ∃ o tm' p' ds' cs' w' q', Q o p' ds' cs' q' ∧ tm'.size = f.n ∧ Agr tm' p' ∧ St G w' q' ∧ Arr P f (lone (f.fr tm ds todo) cs w) o tm' ds' cs' w'
section code
variable {P : Program} {G : World} {f : Fc} {Q : Post} {k : List Item} {p : PE} {ds : List Deferred} {cs : List Frame} {q : List HP}

theorem X.le {todo : List Item} {q' : List HP} (h : Le q q') (x : X P G f Q todo p ds cs q') : X P G f Q todo p ds cs q :=
  fun tm w n a s => x tm w n a (s.le h)
theorem X.sub {todo : List Item} {p' : PE} (h : SubP p' p) (x : X P G f Q todo p' ds cs q) : X P G f Q todo p ds cs q :=
  fun tm w n a s => x tm w n (a.sub h) s
theorem X.at {todo : List Item} {p' : PE} {q' : List HP} (x : X P G f Q todo p' ds cs q') (h : SubP p' p) (l : Le q q') : X P G f Q todo p ds cs q := (x.sub h).le l
theorem X.pure {todo : List Item} {φ : Prop} (x : φ → X P G f Q todo p ds cs q) : X P G f Q todo p ds cs (pure φ :: q) :=
  fun tm w n a s => x s.get_pure tm w n a (s.le (.drop _ _))
theorem X.ex {todo : List Item} {α : Sort _} {A : α → HP} (x : ∀ y, X P G f Q todo p ds cs (A y :: q)) : X P G f Q todo p ds cs (ex A :: q) :=
  fun tm w n a s => let ⟨y, s'⟩ := s.get_ex; x y tm w n a s'
theorem X.freeze {todo : List Item} {b : Nat} {o : Obj} (x : X P G f Q todo p ds cs (im b o :: q)) : X P G f Q todo p ds cs (pto b o :: q) :=
  fun tm w n a s => x tm w n a s.freeze
theorem X.ne {todo : List Item} {b b' : Nat} {o o' : Obj} (x : b ≠ b' → X P G f Q todo p ds cs (pto b o :: pto b' o' :: q)) : X P G f Q todo p ds cs (pto b o :: pto b' o' :: q) :=
  fun tm w n a s => x s.ne tm w n a s
/-- A slot's value is another one. -/
theorem X.know {todo : List Item} (s : Nat) {v : Value} (u : Value) (h : lkp p s = some v) (e : v = u) (K : X P G f Q todo ((s, u) :: p) ds cs q) : X P G f Q todo p ds cs q := by
  subst e
  refine fun tm w n ag st => K tm w n (fun j u' hj => ag j u' ?_) st
  simp only [lkp] at hj
  cases hb : Nat.beq s j with
  | true => rw [hb] at hj; have := Nat.eq_of_beq_eq_true hb; subst this; rw [h]; simpa using hj
  | false => rw [hb] at hj; simpa using hj
theorem X.step {todo todo' : List Item} (h : ∀ tm w, step P (lone (f.fr tm ds todo) cs w) = .next (lone (f.fr tm ds todo') cs w))
    (x : X P G f Q todo' p ds cs q) : X P G f Q todo p ds cs q := by
  intro tm w n a s
  obtain ⟨o, tm', p', ds', cs', w', q', hQ, hn, ha, hs, arr⟩ := x tm w n a s
  exact ⟨o, tm', p', ds', cs', w', q', hQ, hn, ha, hs, arr.head (.one (h tm w))⟩
theorem X.seq {a b : Code} (x : X P G f Q (.code a :: .code b :: k) p ds cs q) : X P G f Q (.code (.seq a b) :: k) p ds cs q :=
  .step (fun _ _ => step_lone_go (by simp [stepG, stepG.exec, Fc.fr])) x
theorem X.skip (x : X P G f Q k p ds cs q) : X P G f Q (.code .skip :: k) p ds cs q :=
  .step (fun _ _ => step_lone_go (by simp [stepG, stepG.exec, Fc.fr])) x
theorem X.label {l : Nat} (x : X P G f Q k p ds cs q) : X P G f Q (.code (.label l) :: k) p ds cs q :=
  .step (fun _ _ => step_lone_go (by simp [stepG, stepG.exec, Fc.fr])) x
theorem X.inBlock {l : Nat} (x : X P G f Q k p ds cs q) : X P G f Q (.inBlock l :: k) p ds cs q :=
  .step (fun _ _ => step_lone_go (by simp [stepG, stepG.exec, Fc.fr])) x
theorem X.inScope {b : Code} (x : X P G f Q k p ds cs q) : X P G f Q (.inScope b :: k) p ds cs q :=
  .step (fun _ _ => step_lone_go (by simp [stepG, stepG.exec, Fc.fr])) x
theorem X.block {l : Nat} {b : Code} (x : X P G f Q (.code b :: .inBlock l :: k) p ds cs q) : X P G f Q (.code (.block l b) :: k) p ds cs q :=
  .step (fun _ _ => step_lone_go (by simp [stepG, stepG.exec, Fc.fr])) x
theorem X.scope {b : Code} (x : X P G f Q (.code b :: .inScope b :: k) p ds cs q) : X P G f Q (.code (.scope b) :: k) p ds cs q :=
  .step (fun _ _ => step_lone_go (by simp [stepG, stepG.exec, Fc.fr])) x
theorem X.inLoop {b : Code} (x : X P G f Q (.code b :: .inLoop b :: k) p ds cs q) : X P G f Q (.inLoop b :: k) p ds cs q :=
  .step (fun _ _ => step_lone_go (by simp [stepG, stepG.exec, Fc.fr])) x
theorem X.loop1 {b : Code} (x : X P G f Q (.code b :: .inLoop b :: k) p ds cs q) : X P G f Q (.code (.loop b) :: k) p ds cs q :=
  .step (fun _ _ => step_lone_go (by simp [stepG, stepG.exec, Fc.fr])) x
theorem X.exit {id : Nat} {k' : List Item} (h : exitTo id k = some k') (x : X P G f Q k' p ds cs q) : X P G f Q (.code (.exit id) :: k) p ds cs q :=
  .step (fun _ _ => step_lone_go (by simp [stepG, stepG.exec, Fc.fr, h])) x
theorem X.goto {l : Nat} {k' : List Item} (h : gotoIn l k = some k') (x : X P G f Q k' p ds cs q) : X P G f Q (.code (.goto l) :: k) p ds cs q :=
  .step (fun _ _ => step_lone_go (by simp [stepG, stepG.exec, Fc.fr, h])) x
theorem frame_eval (f : Fc) (tm : Array Value) (ds : List Deferred) (todo : List Item) (x : Operand) : (f.fr tm ds todo).eval x = evA tm x := by cases x <;> rfl
theorem X.cond_at {c : Operand} {t e : Code} {b : Bool} (hc : evp p c = some (.bool b)) (x : X P G f Q (.code (if b then t else e) :: k) p ds cs q) :
    X P G f Q (.code (.cond c t e) :: k) p ds cs q := by
  intro tm w n a s
  obtain ⟨o, tm', p', ds', cs', w', q', hQ, hn, ha, hs, arr⟩ := x tm w n a s
  refine ⟨o, tm', p', ds', cs', w', q', hQ, hn, ha, hs, arr.head (.one (step_lone_go ?_))⟩
  have hv : (f.fr tm ds (.code (.cond c t e) :: k)).eval c = .bool b := (frame_eval ..).trans (evA_of a hc)
  simp only [Fc.fr] at hv
  simp [stepG, stepG.exec, Fc.fr, hv]
theorem X.cond {c : Operand} {t e : Code} {b : Bool} (hc : evp p c = some (.bool b)) (ht : b = true → X P G f Q (.code t :: k) p ds cs q)
    (he : b = false → X P G f Q (.code e :: k) p ds cs q) : X P G f Q (.code (.cond c t e) :: k) p ds cs q := by
  refine .cond_at hc ?_
  cases b with
  | true => exact ht rfl
  | false => exact he rfl
theorem X.condT {c : Operand} {t e : Code} (hc : evp p c = some (.bool true)) (x : X P G f Q (.code t :: k) p ds cs q) : X P G f Q (.code (.cond c t e) :: k) p ds cs q := .cond_at hc x
theorem X.condF {c : Operand} {t e : Code} (hc : evp p c = some (.bool false)) (x : X P G f Q (.code e :: k) p ds cs q) : X P G f Q (.code (.cond c t e) :: k) p ds cs q := .cond_at hc x
/-! ends of a frame -/
theorem X.fall (h : Q .fall p ds cs q) : X P G f Q [] p ds cs q := fun tm w n a s => ⟨.fall, tm, p, ds, cs, w, q, h, n, a, s, .refl P _⟩
theorem X.ret (h : Q (.jump .ret) p ds cs q) : X P G f Q (.code .ret :: k) p ds cs q :=
  fun tm w n a s => ⟨.jump .ret, tm, p, ds, cs, w, q, h, n, a, s, k, .inl rfl, .refl P _⟩
theorem X.out {id : Nat} (hk : exitTo id k = none) (h : Q (.jump (.exit id)) p ds cs q) : X P G f Q (.code (.exit id) :: k) p ds cs q :=
  fun tm w n a s => ⟨.jump (.exit id), tm, p, ds, cs, w, q, h, n, a, s, k, .inr (.inl ⟨id, rfl, hk⟩), .refl P _⟩
/-- A loop: J a holds at its head, a measure falls. -/
theorem X.loop {b : Code} {α : Sort _} (Inv : α → Prop) (pI : α → PE) (qI : α → List HP) (μ : α → Nat)
    (round : ∀ a, Inv a → (∀ a', Inv a' → μ a' < μ a → X P G f Q (.inLoop b :: k) (pI a') ds cs (qI a')) → X P G f Q (.code b :: .inLoop b :: k) (pI a) ds cs (qI a))
    (a : α) (h : Inv a) : X P G f Q (.code (.loop b) :: k) (pI a) ds cs (qI a) := by
  have key : ∀ n a, μ a = n → Inv a → X P G f Q (.code b :: .inLoop b :: k) (pI a) ds cs (qI a) := by
    intro n
    induction n using Nat.strongRecOn with
    | _ n ih => exact fun a hn h => round a h fun a' h' hl => .inLoop (ih (μ a') (hn ▸ hl) a' rfl h')
  exact .loop1 (key _ a rfl h)
end code

/-! ### regions -/
/-- The operations l are still to be done, in this order. -/
def XO (P : Program) (G : World) (f : Fc) (Q : Post) (ops : Array Oper) (k : List Item) (l : List Oper) (p : PE) (ds : List Deferred) (cs : List Frame) (q : List HP) : Prop :=
  ∀ is : List Nat, is.map (ops[·]?) = l.map some → X P G f Q (.inRegion ops is :: k) p ds cs q
/-- Is the operation wanted? -/
def Wt (ops : List Oper) (p : PE) (o : Oper) : Option Bool :=
  match o.guard with
  | none => some true
  | some (j, want) => match (ops[j]?).bind (·.dst) with
    | none => some false
    | some d => match lkp p d with
      | some (.bool b) => some (b == want)
      | some (.tuple _) => some false
      | _ => none
theorem wanted_of {ops : List Oper} {p : PE} {o : Oper} {b : Bool} {tm : Array Value} (a : Agr tm p) (h : Wt ops p o = some b) : Region.wanted o (yielded ops.toArray tm) = b := by
  unfold Wt at h
  unfold Region.wanted
  split at h
  · rename_i hg; rw [hg]; simpa using h
  · rename_i j want hg
    rw [hg]
    dsimp only
    unfold yielded
    split at h
    · rename_i hd
      have hd' : (ops.toArray[j]?).bind (fun x => x.dst) = none := by simpa using hd
      rw [hd']
      simp at h; subst h
      simp
    · rename_i d hd
      have hd' : (ops.toArray[j]?).bind (fun x => x.dst) = some d := by simpa using hd
      rw [hd']
      split at h
      · rename_i bb hl
        have := a d _ hl
        have hs : tm[d]? = some (.bool bb) := by
          cases hx : tm[d]? with
          | none => simp [hx, undef] at this
          | some u => simpa [hx] using this
        simp [hs]
        simpa using h
      · rename_i vs hl
        have := a d _ hl
        simp at h; subst h
        cases hx : tm[d]? with
        | none => simp [hx]
        | some u =>
          have hu : u = .tuple vs := by simpa [hx] using this
          simp [hx, hu]
      · cases h
section region
variable {P : Program} {G : World} {f : Fc} {Q : Post} {ops : List Oper} {k : List Item} {p : PE} {ds : List Deferred} {cs : List Frame} {q : List HP} {rest : List Oper} {o : Oper}
theorem X.region {id : Nat} (x : XO P G f Q ops.toArray k ops p ds cs q) : X P G f Q (.code (.region id ops.toArray false) :: k) p ds cs q := by
  refine .step (todo' := .inRegion ops.toArray (List.range ops.length) :: k) (fun _ _ => step_lone_go (by simp [stepG, stepG.exec, Fc.fr])) (x _ ?_)
  apply List.ext_getElem?
  intro i
  simp only [List.getElem?_map]
  by_cases h : i < ops.length
  · simp [h]
  · simp [h]
theorem XO.nil (x : X P G f Q k p ds cs q) : XO P G f Q ops.toArray k [] p ds cs q := by
  intro is h
  cases is with
  | nil => exact .step (fun _ _ => step_lone_go (by simp [stepG, stepG.exec, Fc.fr])) x
  | cons i r => simp at h
theorem XO.le {l : List Oper} {q' : List HP} (h : Le q q') (x : XO P G f Q ops.toArray k l p ds cs q') : XO P G f Q ops.toArray k l p ds cs q := fun is e => (x is e).le h
theorem XO.sub {l : List Oper} {p' : PE} (h : SubP p' p) (x : XO P G f Q ops.toArray k l p' ds cs q) : XO P G f Q ops.toArray k l p ds cs q := fun is e => (x is e).sub h
theorem XO.pure {l : List Oper} {φ : Prop} (x : φ → XO P G f Q ops.toArray k l p ds cs q) : XO P G f Q ops.toArray k l p ds cs (pure φ :: q) := fun is e => .pure fun h => x h is e
theorem XO.ex {l : List Oper} {α : Sort _} {A : α → HP} (x : ∀ y, XO P G f Q ops.toArray k l p ds cs (A y :: q)) : XO P G f Q ops.toArray k l p ds cs (Wx.ex A :: q) := fun is e => .ex fun y => x y is e
theorem XO.freeze {l : List Oper} {b : Nat} {o : Obj} (x : XO P G f Q ops.toArray k l p ds cs (im b o :: q)) : XO P G f Q ops.toArray k l p ds cs (pto b o :: q) := fun is e => .freeze (x is e)
theorem XO.ne {l : List Oper} {b b' : Nat} {o o' : Obj} (x : b ≠ b' → XO P G f Q ops.toArray k l p ds cs (pto b o :: pto b' o' :: q)) : XO P G f Q ops.toArray k l p ds cs (pto b o :: pto b' o' :: q) := fun is e => .ne fun h => x h is e
theorem finish_fr (f : Fc) (tm : Array Value) (ds : List Deferred) (ops : Array Oper) (i : Nat) (r : List Nat) (k : List Item) (v : Value) {o : Oper} (ho : ops[i]? = some o) :
    (f.fr tm ds (.inRegion ops (i :: r) :: k)).finish v = f.fr (putA tm o.dst v) ds (.inRegion ops r :: k) := by
  cases hd : o.dst <;> simp [Frame.finish, Fc.fr, ho, putA, hd]
theorem stepG_oper (f : Fc) (tm : Array Value) (ds : List Deferred) (cs : List Frame) (w : World) (ops : Array Oper) (i : Nat) (r : List Nat) (k : List Item) {o : Oper} (ho : ops[i]? = some o)
    (hw : Region.wanted o (yielded ops tm) = true) (hdf : ∀ c, o.op ≠ .defer c) :
    stepG P true { frame := f.fr tm ds (.inRegion ops (i :: r) :: k), callers := cs, status := .running, dying := none } w =
      stepG.apply P true (f.fr tm ds (.inRegion ops (i :: r) :: k)) cs none (execOp (evA tm) o) w := by
  have he : (f.fr tm ds (.inRegion ops (i :: r) :: k)).eval = evA tm := funext fun x => frame_eval ..
  simp only [Fc.fr] at he
  simp only [stepG, stepG.exec, stepG.oper, Frame.oper?, Fc.fr, ho, hw, he, Option.map_some, Option.getD_some, if_true]
  split
  · rename_i c _ h; exact absurd h (hdf _)
  · rfl
/-- The operation is passed over. -/
theorem XO.pass_ (hw : Wt ops p o = some false) (hd : dOk f.n o.dst = true) (x : XO P G f Q ops.toArray k rest (putp p o.dst undef) ds cs q) :
    XO P G f Q ops.toArray k (o :: rest) p ds cs q := by
  intro is h tm w n a s
  cases is with
  | nil => simp at h
  | cons i r =>
    obtain ⟨ho, hr⟩ := List.cons.inj h
    obtain ⟨o', tm', p', ds', cs', w', q', hQ, hn, ha, hs, arr⟩ := x r hr (putA tm o.dst undef) w (by rw [putA_size]; exact n) (a.put (n ▸ hd)) s
    refine ⟨o', tm', p', ds', cs', w', q', hQ, hn, ha, hs, arr.head (.one (step_lone_go ?_))⟩
    rw [← finish_fr f tm ds _ i r k undef ho]
    have := wanted_of a hw
    simp [stepG, stepG.exec, Fc.fr, ho, this]
/-- The operation answers a value; what memory it turns, q' tells. -/
theorem XO.run {v : Value} (hw : Wt ops p o = some true) (hd : dOk f.n o.dst = true)
    (hr : ∀ tm w, tm.size = f.n → Agr tm p → St G w q → (execOp (evA tm) o).run P w = .ok (.value v) w ∨ (v = undef ∧ (execOp (evA tm) o).run P w = .ok .skip w))
    (x : XO P G f Q ops.toArray k rest (putp p o.dst v) ds cs q) (hdf : ∀ c, o.op ≠ .defer c := by intro _ h; cases h) : XO P G f Q ops.toArray k (o :: rest) p ds cs q := by
  intro is h tm w n a s
  cases is with
  | nil => simp at h
  | cons i r =>
    obtain ⟨ho, hr'⟩ := List.cons.inj h
    obtain ⟨o', tm', p', ds', cs', w', q', hQ, hn, ha, hs, arr⟩ := x r hr' (putA tm o.dst v) w (by rw [putA_size]; exact n) (a.put (n ▸ hd)) s
    refine ⟨o', tm', p', ds', cs', w', q', hQ, hn, ha, hs, arr.head (.one (step_lone_go ?_))⟩
    rw [stepG_oper f tm ds cs w _ i r k ho (wanted_of a hw) hdf, ← finish_fr f tm ds _ i r k v ho]
    rcases hr tm w n a s with e | ⟨rfl, e⟩
    · simp [stepG.apply, e]
    · simp [stepG.apply, e]
/-- The operation answers a value and turns memory: of each way that it may go. -/
theorem XO.eff (hw : Wt ops p o = some true) (hd : dOk f.n o.dst = true)
    (hr : ∀ tm w, tm.size = f.n → Agr tm p → St G w q → ∃ v w' q', ((execOp (evA tm) o).run P w = .ok (.value v) w' ∨ (v = undef ∧ (execOp (evA tm) o).run P w = .ok .skip w')) ∧ St G w' q' ∧
      XO P G f Q ops.toArray k rest (putp p o.dst v) ds cs q') (hdf : ∀ c, o.op ≠ .defer c := by intro _ h; cases h) : XO P G f Q ops.toArray k (o :: rest) p ds cs q := by
  intro is h tm w n a s
  cases is with
  | nil => simp at h
  | cons i r =>
    obtain ⟨ho, hr'⟩ := List.cons.inj h
    obtain ⟨v, w₁, q₁, hrun, s₁, x⟩ := hr tm w n a s
    obtain ⟨o', tm', p', ds', cs', w', q', hQ, hn, ha, hs, arr⟩ := x r hr' (putA tm o.dst v) w₁ (by rw [putA_size]; exact n) (a.put (n ▸ hd)) s₁
    refine ⟨o', tm', p', ds', cs', w', q', hQ, hn, ha, hs, arr.head (.one (step_lone_go ?_))⟩
    rw [stepG_oper f tm ds cs w _ i r k ho (wanted_of a hw) hdf, ← finish_fr f tm ds _ i r k v ho]
    rcases hrun with e | ⟨rfl, e⟩
    · simp [stepG.apply, e]
    · simp [stepG.apply, e]
/-- The operation panics. -/
theorem XO.panics {v : Value} (hw : Wt ops p o = some true)
    (hr : ∀ tm w, tm.size = f.n → Agr tm p → St G w q → ∃ w', (execOp (evA tm) o).run P w = .halt (.panic v) w' ∧ St G w' q)
    (hQ : Q (.panic [{ v, recovered := false }]) p ds cs q) (hdf : ∀ c, o.op ≠ .defer c := by intro _ h; cases h) : XO P G f Q ops.toArray k (o :: rest) p ds cs q := by
  intro is h tm w n a s
  cases is with
  | nil => simp at h
  | cons i r =>
    obtain ⟨ho, hr'⟩ := List.cons.inj h
    obtain ⟨w₁, e, s₁⟩ := hr tm w n a s
    refine ⟨.panic [{ v, recovered := false }], tm, p, ds, cs, w₁, q, hQ, n, a, s₁, .inRegion ops.toArray (i :: r) :: k, .one (step_lone_go ?_)⟩
    rw [stepG_oper f tm ds cs w _ i r k ho (wanted_of a hw) hdf]
    simp [stepG.apply, e, Frame.raise, Fc.fr]

/-! ### calls -/
/-- What calling this does: in whatever frame that runs. -/
def okTodo : List Item → Prop
  | .call .. :: _ | .extern .. :: _ => False
  | _ => True
def ApTo (fr : Frame) (cs : List Frame) (e : Ending) (w : World) : Machine :=
  match e with
  | .returned v => lone (fr.finish v) cs w
  | .panicked ch => lone (fr.raise ch) cs w
  | .outgrown => lone fr cs w
def Ap (P : Program) (s : Sem Next) (w : World) (R : Ending → World → Prop) : Prop :=
  ∀ (fr : Frame) (cs : List Frame), fr.mode = .run → okTodo fr.todo → ∃ e w', R e w' ∧ e ≠ .outgrown ∧
    ∃ fr₁ cs₁ w₁, (stepG.apply P true fr cs none s w).bare = .go { frame := fr₁, callers := cs₁, status := .running, dying := none } w₁ ∧
      Steps P (lone fr₁ cs₁ w₁) (ApTo fr cs e w')
abbrev Spec := Ending → List HP → Prop
/-- Calling the function value fv. -/
def CallV (P : Program) (G : World) (fv : Value) (vs : List Value) (pre : List HP) (R : Spec) : Prop :=
  ∀ (F : List HP) w, St G w (pre ++ F) → Ap P (do let d ← Deferred.ofValue fv vs.toArray; invoke d.target d.args) w fun e w' => ∃ q, R e q ∧ St G w' (q ++ F)
/-- Calling function number fn. -/
def CallF (P : Program) (G : World) (fn : FuncId) (vs : List Value) (pre : List HP) (R : Spec) : Prop :=
  ∀ (F : List HP) w, St G w (pre ++ F) → Calls P fn vs.toArray w fun e w' => e ≠ .outgrown ∧ ∃ q, R e q ∧ St G w' (q ++ F)
theorem CallF.mono {fn : FuncId} {vs : List Value} {pre : List HP} {R R' : Spec} (h : CallF P G fn vs pre R) (hr : ∀ e q, R e q → R' e q) : CallF P G fn vs pre R' := by
  intro F w s cs
  obtain ⟨e, w', fr, ⟨hne, q, hR, hs⟩, rest⟩ := h F w s cs
  exact ⟨e, w', fr, ⟨hne, q, hr e q hR, hs⟩, rest⟩
theorem CallV.mono {fv : Value} {vs : List Value} {pre : List HP} {R R' : Spec} (h : CallV P G fv vs pre R) (hr : ∀ e q, R e q → R' e q) : CallV P G fv vs pre R' := by
  intro F w s fr cs hm ho
  obtain ⟨e, w', ⟨q, hR, hs⟩, rest⟩ := h F w s fr cs hm ho
  exact ⟨e, w', ⟨q, hr e q hR, hs⟩, rest⟩
theorem CallV.of_callF {fn : FuncId} {a b vs : List Value} {pre : List HP} {R : Spec}
    (hc : ∀ args w, (callFunc fn args).run P w = .ok (.enter fn args) w) (h : CallF P G fn (a ++ vs ++ b) pre R) : CallV P G (.func (.func fn) a.toArray b.toArray) vs pre R := by
  intro F w s fr cs hm ho
  obtain ⟨e, w', frX, ⟨hne, q, hR, hs⟩, hcom, hfn, hl⟩ := h F w s (fr :: cs)
  refine ⟨e, w', ⟨q, hR, hs⟩, hne, Frame.enter P fn (a ++ vs ++ b).toArray .normal, fr :: cs, w, ?_, ?_⟩
  · have : (do let d ← Deferred.ofValue (.func (.func fn) a.toArray b.toArray) vs.toArray; invoke d.target d.args : Sem Next).run P w = .ok (.enter fn (a ++ vs ++ b).toArray) w := by
      have := hc (a ++ vs ++ b).toArray w
      simpa [Deferred.ofValue, invoke, Sem.run_bind, Result.andThen, bind, Sem.bind, Pure.pure] using this
    simp only [stepG.apply, Sem.runT_eq, this, GStep.bare_after, GStep.bare_go, if_true]
    cases ht : fr.todo with
    | nil => rfl
    | cons x r => cases x <;> first | rfl | (rw [ht] at ho; exact ho.elim)
  · cases e with
    | returned v => exact Steps.trans hcom (.one (step_leave_returned hl))
    | panicked ch => exact Steps.trans hcom (.one (step_leave_panicked hl))
    | outgrown => exact absurd rfl hne
/-- A call operation of a value. -/
theorem XO.callE {d : Option Tmp} {fo : Operand} {args : List Operand} {ats : Array TypeId} {ty : TypeId} {pos : String} {af : Array Edge} {gd : Option (Nat × Bool)}
    {fv : Value} {vs : List Value} {pre F : List HP} {R : Spec}
    (hw : Wt ops p ⟨d, .call ⟨.value fo, args.toArray, ats⟩, ty, pos, af, gd⟩ = some true) (hd : dOk f.n d = true)
    (hf : evp p fo = some fv) (hv : evl p args = some vs) (hc : CallV P G fv vs pre R) (hq : Le q (pre ++ F))
    (x : ∀ v q', R (.returned v) q' → XO P G f Q ops.toArray k rest (putp p d v) ds cs (q' ++ F))
    (xp : ∀ ch q', R (.panicked ch) q' → Q (.panic ch) p ds cs (q' ++ F)) :
    XO P G f Q ops.toArray k (⟨d, .call ⟨.value fo, args.toArray, ats⟩, ty, pos, af, gd⟩ :: rest) p ds cs q := by
  intro is h tm w n a s
  cases is with
  | nil => simp at h
  | cons i r =>
    obtain ⟨ho, hr'⟩ := List.cons.inj h
    obtain ⟨e, w₁, ⟨q₁, hR, s₁⟩, hne, fr₁, cs₁, w₂, hap, hst⟩ := hc F w (s.le hq) (f.fr tm ds (.inRegion ops.toArray (i :: r) :: k)) cs rfl trivial
    have hexec : execOp (evA tm) ⟨d, .call ⟨.value fo, args.toArray, ats⟩, ty, pos, af, gd⟩ = (do let d ← Deferred.ofValue fv vs.toArray; invoke d.target d.args) := by
      have h1 := evA_of a hf
      have h2 := evl_of a hv
      simp only [execOp, resolve, h1]
      have : (args.toArray.map (evA tm)) = vs.toArray := by rw [← h2]; simp
      rw [this]
    have hstep : step P (lone (f.fr tm ds (.inRegion ops.toArray (i :: r) :: k)) cs w) = .next (lone fr₁ cs₁ w₂) := by
      refine step_lone_go ?_
      rw [stepG_oper f tm ds cs w _ i r k ho (wanted_of a hw) (by intro _ h; cases h), hexec]
      exact hap
    cases e with
    | returned v =>
      obtain ⟨o', tm', p', ds', cs', w', q', hQ, hn, ha, hs, arr⟩ := x v q₁ hR r hr' (putA tm d v) w₁ (by rw [putA_size]; exact n) (a.put (n ▸ hd)) s₁
      refine ⟨o', tm', p', ds', cs', w', q', hQ, hn, ha, hs, Arr.head ((Steps.one hstep).trans hst) ?_⟩
      have := finish_fr f tm ds _ i r k v ho
      simp only [ApTo, this]
      exact arr
    | panicked ch =>
      refine ⟨.panic ch, tm, p, ds, cs, w₁, q₁ ++ F, xp ch q₁ hR, n, a, s₁, .inRegion ops.toArray (i :: r) :: k, ?_⟩
      have := (Steps.one hstep).trans hst
      simpa [ApTo, Frame.raise, Fc.fr] using this
    | outgrown => exact absurd rfl hne
end region
end Wx
