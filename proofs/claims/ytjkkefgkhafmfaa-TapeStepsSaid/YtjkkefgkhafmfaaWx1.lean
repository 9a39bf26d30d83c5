/-
  Plain program logic, part 1: the heap told by chunks. No program in sight.
-/
import Derived.Calls
import Derived.Defers
import Derived.Below
namespace Wx
open Go Go.RowKit

/-! ### heaplets -/
abbrev Hp := Nat → Option Obj
def Hle (h k : Hp) : Prop := ∀ b o, h b = some o → k b = some o
def Hdj (h k : Hp) : Prop := ∀ b, h b = none ∨ k b = none
theorem Hle.refl (h : Hp) : Hle h h := fun _ _ e => e
theorem Hle.trans {a b c : Hp} (h : Hle a b) (k : Hle b c) : Hle a c := fun x o e => k x o (h x o e)
theorem Hdj.symm {h k : Hp} (d : Hdj h k) : Hdj k h := fun b => (d b).symm
theorem Hdj.mono {h k h' k' : Hp} (d : Hdj h k) (a : Hle h' h) (b : Hle k' k) : Hdj h' k' := by
  intro x
  rcases d x with e | e
  · left; cases hx : h' x with
    | none => rfl
    | some o => have := a x o hx; rw [e] at this; cases this
  · right; cases hx : k' x with
    | none => rfl
    | some o => have := b x o hx; rw [e] at this; cases this
def Hjoin (h k : Hp) : Hp := fun b => match h b with | some o => some o | none => k b
theorem Hle.join_left (h k : Hp) : Hle h (Hjoin h k) := by intro b o e; simp [Hjoin, e]
theorem Hle.join_right {h k : Hp} (d : Hdj h k) : Hle k (Hjoin h k) := by
  intro b o e
  rcases d b with n | n
  · simp [Hjoin, n, e]
  · rw [n] at e; cases e
theorem Hle.join {h k m : Hp} (a : Hle h m) (b : Hle k m) : Hle (Hjoin h k) m := by
  intro x o e
  unfold Hjoin at e
  cases hx : h x with
  | none => rw [hx] at e; exact b x o e
  | some o' => rw [hx] at e; cases e; exact a x _ hx
theorem Hdj.join_right {a h k : Hp} (d : Hdj a h) (e : Hdj a k) : Hdj a (Hjoin h k) := by
  intro b
  rcases d b with n | n
  · exact .inl n
  · rcases e b with m | m
    · exact .inl m
    · right; simp [Hjoin, n, m]

/-- A chunk: what it says of the lasting part and of the owned part of memory; of more memory it holds too. -/
structure HP where
  p : Hp → Hp → Prop
  mono : ∀ {M M' h h' : Hp}, Hle M M' → Hle h h' → p M h → p M' h'

def emp : HP := ⟨fun _ _ => True, fun _ _ _ => trivial⟩
def pto (b : Nat) (o : Obj) : HP := ⟨fun _ h => h b = some o, fun _ e k => e _ _ k⟩
/-- A block that nobody will write any more. -/
def im (b : Nat) (o : Obj) : HP := ⟨fun M _ => M b = some o, fun e _ k => e _ _ k⟩
def pure (φ : Prop) : HP := ⟨fun _ _ => φ, fun _ _ k => k⟩
def star (A B : HP) : HP := ⟨fun M h => ∃ h₁ h₂, Hdj h₁ h₂ ∧ Hle h₁ h ∧ Hle h₂ h ∧ A.p M h₁ ∧ B.p M h₂,
  fun e e' ⟨h₁, h₂, d, a, b, p, q⟩ => ⟨h₁, h₂, d, a.trans e', b.trans e', A.mono e (.refl _) p, B.mono e (.refl _) q⟩⟩
def ex {α : Sort _} (A : α → HP) : HP := ⟨fun M h => ∃ x, (A x).p M h, fun e e' ⟨x, p⟩ => ⟨x, (A x).mono e e' p⟩⟩
def stars : List HP → HP
  | [] => emp
  | A :: r => star A (stars r)

/-- Of chunk lists: what the left says the right says. -/
def Le (cs ds : List HP) : Prop := ∀ M h, (stars cs).p M h → (stars ds).p M h
theorem Le.refl (cs : List HP) : Le cs cs := fun _ _ h => h
theorem Le.trans {a b c : List HP} (h : Le a b) (k : Le b c) : Le a c := fun M x p => k M x (h M x p)
theorem Le.nil (cs : List HP) : Le cs [] := fun _ _ _ => trivial
theorem Le.cons (A : HP) {cs ds : List HP} (h : Le cs ds) : Le (A :: cs) (A :: ds) :=
  fun M _ ⟨h₁, h₂, d, a, b, p, q⟩ => ⟨h₁, h₂, d, a, b, p, h M _ q⟩
theorem Le.drop (A : HP) (cs : List HP) : Le (A :: cs) cs := fun _ _ ⟨_, _, _, _, b, _, q⟩ => (stars cs).mono (.refl _) b q
theorem Le.swap (A B : HP) (cs : List HP) : Le (A :: B :: cs) (B :: A :: cs) := by
  rintro M h ⟨h₁, h₂, d, a, b, p, k₁, k₂, e, a', b', p', q⟩
  refine ⟨k₁, Hjoin h₁ k₂, ?_, a'.trans b, .join a (b'.trans b), p', h₁, k₂, (d.mono (.refl _) b'), .join_left _ _, .join_right (d.mono (.refl _) b'), p, q⟩
  exact .join_right ((d.mono (.refl _) a').symm) e
theorem Le.there (B : HP) {A : HP} {cs r : List HP} (h : Le cs (A :: r)) : Le (B :: cs) (A :: B :: r) := (h.cons B).trans (.swap _ _ _)
theorem Le.here (A : HP) (cs : List HP) : Le (A :: cs) (A :: cs) := .refl _
theorem Le.pick {A : HP} {cs r ds : List HP} (h : Le cs (A :: r)) (k : Le r ds) : Le cs (A :: ds) := h.trans (k.cons A)
theorem Le.lose {A : HP} {cs ds : List HP} (h : Le cs ds) : Le (A :: cs) ds := (Le.drop A cs).trans h
theorem Le.one {A B : HP} {cs : List HP} (h : ∀ M x, A.p M x → B.p M x) : Le (A :: cs) (B :: cs) :=
  fun M _ ⟨h₁, h₂, d, a, b, p, q⟩ => ⟨h₁, h₂, d, a, b, h M _ p, q⟩
theorem Le.append_left (ds : List HP) {a b : List HP} (h : Le a b) : Le (ds ++ a) (ds ++ b) := by
  induction ds with
  | nil => exact h
  | cons A r ih => exact ih.cons A
/-- A star as two chunks, and back. -/
theorem Le.split (A B : HP) (cs : List HP) : Le (star A B :: cs) (A :: B :: cs) := by
  rintro M h ⟨h₁, h₂, d, a, b, ⟨k₁, k₂, e, a', b', p, p'⟩, q⟩
  refine ⟨k₁, Hjoin k₂ h₂, ?_, a'.trans a, .join (b'.trans a) b, p, k₂, h₂, d.mono b' (.refl _), .join_left _ _, .join_right (d.mono b' (.refl _)), p', q⟩
  exact .join_right e (d.mono a' (.refl _))
theorem Le.fuse (A B : HP) (cs : List HP) : Le (A :: B :: cs) (star A B :: cs) := by
  rintro M h ⟨h₁, h₂, d, a, b, p, k₁, k₂, e, a', b', p', q⟩
  refine ⟨Hjoin h₁ k₁, k₂, ?_, .join a (a'.trans b), b'.trans b, ⟨h₁, k₁, d.mono (.refl _) a', .join_left _ _, .join_right (d.mono (.refl _) a'), p, p'⟩, q⟩
  exact (Hdj.join_right (d.mono (.refl _) b').symm e.symm).symm
theorem Le.app_left (a b : List HP) : Le (a ++ b) a := by
  induction a with
  | nil => exact Le.nil _
  | cons A r ih => exact ih.cons A
theorem Le.stars_in (cs ds : List HP) : Le (cs ++ ds) (stars cs :: ds) := by
  induction cs with
  | nil => exact fun M h p => ⟨fun _ => none, h, fun _ => .inl rfl, fun _ _ e => by simp at e, .refl _, trivial, p⟩
  | cons A r ih => exact (ih.cons A).trans (.fuse _ _ _)
theorem Le.stars_out (cs ds : List HP) : Le (stars cs :: ds) (cs ++ ds) := by
  induction cs with
  | nil => exact .drop _ _
  | cons A r ih => exact (Le.split _ _ _).trans (ih.cons A)
theorem Le.dup_im {b : Nat} {o : Obj} (cs : List HP) : Le (im b o :: cs) (im b o :: im b o :: cs) := by
  rintro M h ⟨h₁, h₂, d, a, b', p, q⟩
  exact ⟨fun _ => none, h, fun _ => .inl rfl, fun _ _ e => by simp at e, .refl _, p, h₁, h₂, d, a, b', p, q⟩
/-- A chunk that says nothing of what is owned may be had twice. -/
def HP.lasts (A : HP) : Prop := ∀ M h, A.p M h → A.p M (fun _ => none)
theorem lasts_im (b : Nat) (o : Obj) : (im b o).lasts := fun _ _ p => p
theorem lasts_pure (φ : Prop) : (pure φ).lasts := fun _ _ p => p
theorem lasts_emp : emp.lasts := fun _ _ p => p
theorem lasts_ex {α : Sort _} {A : α → HP} (h : ∀ x, (A x).lasts) : (ex A).lasts := fun M k ⟨x, p⟩ => ⟨x, h x M k p⟩
theorem lasts_star {A B : HP} (h : A.lasts) (k : B.lasts) : (star A B).lasts :=
  fun M _ ⟨_, _, _, _, _, p, q⟩ => ⟨fun _ => none, fun _ => none, fun _ => .inl rfl, .refl _, .refl _, h M _ p, k M _ q⟩
theorem Le.dup {A : HP} (hA : A.lasts) (cs : List HP) : Le (A :: cs) (A :: A :: cs) := by
  rintro M h ⟨h₁, h₂, d, a, b', p, q⟩
  exact ⟨fun _ => none, h, fun _ => .inl rfl, fun _ _ e => by simp at e, .refl _, hA _ _ p, h₁, h₂, d, a, b', p, q⟩
theorem Le.add_pure {φ : Prop} (h : φ) (cs : List HP) : Le cs (pure φ :: cs) :=
  fun _ k p => ⟨fun _ => none, k, fun _ => .inl rfl, fun _ _ e => by simp at e, .refl _, h, p⟩
theorem Le.of_pure {φ : Prop} {cs ds : List HP} (h : φ → Le cs ds) : Le (pure φ :: cs) ds := by
  rintro M k ⟨h₁, h₂, d, a, b', p, q⟩
  exact h p M k ((stars cs).mono (.refl _) b' q)
theorem Le.of_ex {α : Sort _} {A : α → HP} {cs ds : List HP} (h : ∀ x, Le (A x :: cs) ds) : Le (ex A :: cs) ds := by
  rintro M k ⟨h₁, h₂, d, a, b', ⟨x, p⟩, q⟩
  exact h x M k ⟨h₁, h₂, d, a, b', p, q⟩
theorem Le.to_ex {α : Sort _} {A : α → HP} {cs ds : List HP} (x : α) (h : Le cs (A x :: ds)) : Le cs (ex A :: ds) :=
  h.trans (.one fun _ _ p => ⟨x, p⟩)

/-! ### worlds -/
def wh (w : World) : Hp := fun b => w.heap[b]?
/-- The world w stands since G, and its chunks are cs. -/
def St (G w : World) (cs : List HP) : Prop :=
  Below G.heap.size G w ∧ ∃ M h : Hp, Hle M (wh w) ∧ Hle h (wh w) ∧ (∀ b o, h b = some o → G.heap.size ≤ b) ∧ Hdj M h ∧ Hle (wh G) M ∧ (stars cs).p M h
variable {G w w' : World} {cs ds : List HP}
theorem St.le (s : St G w cs) (h : Le cs ds) : St G w ds := let ⟨b, M, k, a, c, d, e, f, p⟩ := s; ⟨b, M, k, a, c, d, e, f, h M k p⟩
theorem St.init (G : World) : St G G [] :=
  ⟨.refl _ _, wh G, fun _ => none, .refl _, fun _ _ e => by simp at e, fun _ _ e => by simp at e, fun _ => .inr rfl, .refl _, trivial⟩
theorem St.below (s : St G w cs) : Below G.heap.size G w := s.1
theorem St.of_old {b : Nat} {o : Obj} (s : St G w cs) (h : G.heap[b]? = some o) : St G w (im b o :: cs) := by
  obtain ⟨bl, M, k, a, c, d, e, f, p⟩ := s
  exact ⟨bl, M, k, a, c, d, e, f, fun _ => none, k, fun _ => .inl rfl, fun _ _ e => by simp at e, .refl _, f _ _ h, p⟩
theorem St.get_pure {φ : Prop} (s : St G w (pure φ :: cs)) : φ := let ⟨_, _, _, _, _, _, _, _, _, _, _, _, _, p, _⟩ := s; p
theorem St.get_ex {α : Sort _} {A : α → HP} (s : St G w (ex A :: cs)) : ∃ x, St G w (A x :: cs) :=
  let ⟨b, M, k, a, c, d, e, f, h₁, h₂, i, j, l, ⟨x, p⟩, q⟩ := s; ⟨x, b, M, k, a, c, d, e, f, h₁, h₂, i, j, l, p, q⟩

/-- Block b is known to hold o. -/
def Has (cs : List HP) (b : Nat) (o : Obj) : Prop := ∀ M h, (stars cs).p M h → M b = some o ∨ h b = some o
theorem Has.pto (b : Nat) (o : Obj) (cs : List HP) : Has (pto b o :: cs) b o := fun _ _ ⟨_, _, _, a, _, p, _⟩ => .inr (a _ _ p)
theorem Has.im (b : Nat) (o : Obj) (cs : List HP) : Has (im b o :: cs) b o := fun _ _ ⟨_, _, _, _, _, p, _⟩ => .inl p
theorem Has.there {A : HP} {cs : List HP} {b : Nat} {o : Obj} (h : Has cs b o) : Has (A :: cs) b o :=
  fun M _ ⟨_, _, _, _, e, _, q⟩ => (h M _ q).imp id (e _ _)
theorem Has.le {cs ds : List HP} {b : Nat} {o : Obj} (h : Has ds b o) (k : Le cs ds) : Has cs b o := fun M x p => h M x (k M x p)
theorem St.has {b : Nat} {o : Obj} (s : St G w cs) (h : Has cs b o) : w.heap[b]? = some o := by
  obtain ⟨_, M, k, a, c, _, _, _, p⟩ := s
  rcases h M k p with e | e
  · exact a _ _ e
  · exact c _ _ e

/-- The owned block b turns from o to o'. -/
theorem St.put {b : Nat} {o o' : Obj} (s : St G w (pto b o :: cs)) (hb : w'.heap[b]? = some o') (hne : ∀ k, k ≠ b → w'.heap[k]? = w.heap[k]?)
    (hs : w'.heap.size = w.heap.size) (h1 : w'.os = w.os) (h2 : w'.tape = w.tape) (h3 : w'.output = w.output) : St G w' (pto b o' :: cs) := by
  obtain ⟨bl, M, h, a, c, d, e, f, h₁, h₂, dj, l₁, l₂, p, q⟩ := s
  have hbh : h b = some o := l₁ _ _ p
  have hGb : G.heap.size ≤ b := d _ _ hbh
  refine ⟨bl.trans ⟨h1, h2, h3, by omega, fun k hk => hne k (by omega)⟩, M, Hjoin (fun x => if x = b then some o' else none) (fun x => if x = b then none else h x), ?_, ?_, ?_, ?_, f,
    (fun x => if x = b then some o' else none), (fun x => if x = b then none else h x), ?_, .join_left _ _, ?_, ?_, ?_⟩
  · intro x o₁ hx
    have hxb : x ≠ b := by rintro rfl; rcases e x with n | n <;> simp_all
    exact (hne x hxb).trans (a _ _ hx)
  · intro x o₁ hx
    by_cases hxb : x = b
    · subst hxb; simp [Hjoin] at hx; subst hx; exact hb
    · simp [Hjoin, hxb] at hx; exact (hne x hxb).trans (c _ _ hx)
  · intro x o₁ hx
    by_cases hxb : x = b
    · omega
    · simp [Hjoin, hxb] at hx; exact d _ _ hx
  · intro x
    by_cases hxb : x = b
    · subst hxb; left; rcases e x with n | n
      · exact n
      · rw [n] at hbh; cases hbh
    · rcases e x with n | n
      · exact .inl n
      · right; simp [Hjoin, hxb, n]
  · intro x; by_cases hxb : x = b <;> simp [hxb]
  · refine .join_right ?_
    intro x; by_cases hxb : x = b <;> simp [hxb]
  · simp [pto]
  · refine (stars cs).mono (.refl _) ?_ q
    intro x o₁ hx
    have hxb : x ≠ b := by
      rintro rfl
      rcases dj x with n | n
      · have p' : h₁ x = some o := p
        rw [n] at p'; cases p'
      · rw [n] at hx; cases hx
    simp [hxb]; exact l₂ _ _ hx

/-- A new block. -/
theorem St.new {o : Obj} (s : St G w cs) (hn : w'.heap = w.heap.push o) (h1 : w'.os = w.os) (h2 : w'.tape = w.tape) (h3 : w'.output = w.output) :
    St G w' (pto w.heap.size o :: cs) := by
  obtain ⟨bl, M, h, a, c, d, e, f, q⟩ := s
  have hlt : ∀ x o₁, w.heap[x]? = some o₁ → x < w.heap.size := fun x o₁ hx => (Array.getElem?_eq_some_iff.1 hx).1
  have hold : ∀ x, x ≠ w.heap.size → w'.heap[x]? = w.heap[x]? := by
    intro x hx; rw [hn, Array.getElem?_push, if_neg hx]
  have hnew : w'.heap[w.heap.size]? = some o := by rw [hn, Array.getElem?_push, if_pos rfl]
  have hM : M w.heap.size = none := by
    cases hm : M w.heap.size with
    | none => rfl
    | some o₁ => have := hlt _ _ (a _ _ hm); omega
  have hh : h w.heap.size = none := by
    cases hm : h w.heap.size with
    | none => rfl
    | some o₁ => have := hlt _ _ (c _ _ hm); omega
  have hsz := bl.size
  refine ⟨bl.trans ⟨h1, h2, h3, by rw [hn]; simp, fun k hk => hold k (by omega)⟩, M, Hjoin (fun x => if x = w.heap.size then some o else none) h, ?_, ?_, ?_, ?_, f,
    (fun x => if x = w.heap.size then some o else none), h, ?_, .join_left _ _, ?_, ?_, q⟩
  · intro x o₁ hx
    refine (hold x ?_).trans (a _ _ hx)
    rintro rfl; rw [hM] at hx; cases hx
  · intro x o₁ hx
    by_cases hxb : x = w.heap.size
    · subst hxb; simp [Hjoin] at hx; subst hx; exact hnew
    · simp [Hjoin, hxb] at hx; exact (hold x hxb).trans (c _ _ hx)
  · intro x o₁ hx
    by_cases hxb : x = w.heap.size
    · omega
    · simp [Hjoin, hxb] at hx; exact d _ _ hx
  · intro x
    by_cases hxb : x = w.heap.size
    · subst hxb; exact .inl hM
    · rcases e x with n | n
      · exact .inl n
      · right; simp [Hjoin, hxb, n]
  · intro x
    by_cases hxb : x = w.heap.size
    · subst hxb; exact .inr hh
    · simp [hxb]
  · refine .join_right ?_
    intro x
    by_cases hxb : x = w.heap.size
    · subst hxb; exact .inr hh
    · simp [hxb]
  · simp [pto]
/-- Nothing of memory turns (a draw). -/
theorem St.same (s : St G w cs) (hh : w'.heap = w.heap) (h1 : w'.os = w.os) (h2 : w'.tape = w.tape) (h3 : w'.output = w.output) : St G w' cs := by
  obtain ⟨bl, M, h, a, c, d, e, f, q⟩ := s
  have hw : wh w' = wh w := by funext x; simp [wh, hh]
  exact ⟨bl.trans ⟨h1, h2, h3, by rw [hh]; exact Nat.le_refl _, fun k _ => by rw [hh]⟩, M, h, hw ▸ a, hw ▸ c, d, e, f, q⟩
/-- What is owned may be let go for good. -/
theorem St.freeze {b : Nat} {o : Obj} (s : St G w (pto b o :: cs)) : St G w (im b o :: cs) := by
  obtain ⟨bl, M, h, a, c, d, e, f, h₁, h₂, dj, l₁, l₂, p, q⟩ := s
  have hbh : h b = some o := l₁ _ _ p
  have hMb : M b = none := by rcases e b with n | n; exact n; rw [n] at hbh; cases hbh
  have hMle : Hle M (Hjoin M (fun x => if x = b then some o else none)) := .join_left _ _
  refine ⟨bl, Hjoin M (fun x => if x = b then some o else none), h₂, ?_, l₂.trans c, fun x o₁ hx => d _ _ (l₂ _ _ hx), ?_, f.trans hMle, fun _ => none, h₂, fun _ => .inl rfl,
    fun _ _ e => by simp at e, .refl _, ?_, (stars cs).mono hMle (.refl _) q⟩
  · refine .join a ?_
    intro x o₁ hx
    by_cases hxb : x = b
    · subst hxb; simp at hx; subst hx; exact c _ _ hbh
    · simp [hxb] at hx
  · intro x
    by_cases hxb : x = b
    · subst hxb; right
      rcases dj x with n | n
      · have p' : h₁ x = some o := p
        rw [n] at p'; cases p'
      · exact n
    · rcases e x with n | n
      · left; simp [Hjoin, n, hxb]
      · right
        cases hx : h₂ x with
        | none => rfl
        | some o₁ => have := l₂ _ _ hx; rw [n] at this; cases this
  · simp [im, Hjoin, hMb]
/-- Two owned blocks are two. -/
theorem St.ne {b b' : Nat} {o o' : Obj} (s : St G w (pto b o :: pto b' o' :: cs)) : b ≠ b' := by
  rintro rfl
  obtain ⟨_, M, h, _, _, _, _, _, h₁, h₂, dj, _, _, p, k₁, k₂, _, k, _, p', _⟩ := s
  have e1 : h₁ b = some o := p
  have e2 : h₂ b = some o' := k _ _ p'
  rcases dj b with n | n
  · rw [n] at e1; cases e1
  · rw [n] at e2; cases e2
end Wx
