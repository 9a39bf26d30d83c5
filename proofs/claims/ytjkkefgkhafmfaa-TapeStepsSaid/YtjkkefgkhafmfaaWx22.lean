/-
  Plain program logic, part 22: values of any shape that last; lists of things that are owned each.
-/
import Derived.Test.YtjkkefgkhafmfaaWx21
namespace Wx
open Go Go.RowKit
set_option linter.unusedVariables false
/-! ### lists of chunks -/
section
variable {α β : Type} {h : α → HP} {l : List α} {q : List HP}
theorem Le.stars_cons (A : HP) (l : List HP) (q : List HP) : Le (A :: stars l :: q) (stars (A :: l) :: q) := Le.fuse _ _ _
theorem Le.stars_uncons (A : HP) (l : List HP) (q : List HP) : Le (stars (A :: l) :: q) (A :: stars l :: q) := Le.split _ _ _
theorem Le.stars_nil (q : List HP) : Le q (stars [] :: q) := fun _ k p => ⟨fun _ => none, k, fun _ => .inl rfl, fun _ _ e => by simp at e, .refl _, trivial, p⟩
theorem Le.stars_app (a b : List HP) (q : List HP) : Le (stars a :: stars b :: q) (stars (a ++ b) :: q) := by
  refine (Le.stars_out a _).trans ?_
  refine Le.trans (b := a ++ (b ++ q)) (Le.append_left a (Le.stars_out b q)) ?_
  rw [← List.append_assoc]; exact Le.stars_in _ _
theorem Le.stars_unapp (a b : List HP) (q : List HP) : Le (stars (a ++ b) :: q) (stars a :: stars b :: q) := by
  refine (Le.stars_out (a ++ b) q).trans ?_
  rw [List.append_assoc]
  exact (Le.append_left a (Le.stars_in b q)).trans (Le.stars_in a _)
/-- The chunk of one of many. -/
theorem Le.focus (h : α → HP) {l : List α} {i : Nat} (hi : i < l.length) (q : List HP) : Le (stars (l.map h) :: q) (h l[i] :: stars ((l.eraseIdx i).map h) :: q) := by
  have e : l.map h = (l.take i).map h ++ (h l[i] :: (l.drop (i + 1)).map h) := by
    conv => lhs; rw [← List.take_append_drop i l, List.drop_eq_getElem_cons hi]
    rw [List.map_append, List.map_cons]
  have e2 : (l.eraseIdx i).map h = (l.take i).map h ++ (l.drop (i + 1)).map h := by rw [List.eraseIdx_eq_take_drop_succ, List.map_append]
  rw [e, e2]
  refine (Le.stars_unapp _ _ q).trans ?_
  refine (Le.cons _ (Le.stars_uncons _ _ q)).trans ?_
  exact (Le.swap _ _ _).trans (Le.cons _ (Le.stars_app _ _ q))
theorem Le.unfocus (h : α → HP) {l : List α} {i : Nat} (hi : i < l.length) (x : α) (q : List HP) : Le (h x :: stars ((l.eraseIdx i).map h) :: q) (stars ((l.set i x).map h) :: q) := by
  have e : (l.set i x).map h = (l.take i).map h ++ (h x :: (l.drop (i + 1)).map h) := by
    rw [List.set_eq_take_append_cons_drop, if_pos hi]; simp
  have e2 : (l.eraseIdx i).map h = (l.take i).map h ++ (l.drop (i + 1)).map h := by rw [List.eraseIdx_eq_take_drop_succ, List.map_append]
  rw [e, e2]
  refine (Le.cons _ (Le.stars_unapp _ _ q)).trans ?_
  refine (Le.swap _ _ _).trans ?_
  exact (Le.cons _ (Le.stars_cons _ _ q)).trans (Le.stars_app _ _ q)
theorem Le.stars_snoc (h : α → HP) (l : List α) (x : α) (q : List HP) : Le (stars (l.map h) :: h x :: q) (stars ((l ++ [x]).map h) :: q) := by
  rw [List.map_append]
  refine Le.trans (Le.cons _ ?_) (Le.stars_app _ _ q)
  exact (Le.cons _ (Le.stars_nil q)).trans (Le.stars_cons _ _ q)
theorem Le.stars_rep (h : α → HP) (x : α) (hx : ∀ q, Le q (h x :: q)) (n : Nat) (q : List HP) : Le q (stars ((List.replicate n x).map h) :: q) := by
  induction n with
  | zero => exact Le.stars_nil q
  | succ n ih =>
    rw [List.replicate_succ, List.map_cons]
    exact ih.trans ((hx _).trans (Le.stars_cons _ _ q))
/-- What is seen of one of many. -/
theorem Sees.star {h : α → HP} {l : List α} {i : Nat} (hi : i < l.length) {a : Option Addr} {vs : List Value} (hs : ∀ q, Sees (h l[i] :: q) a vs) (q : List HP) : Sees (stars (l.map h) :: q) a vs :=
  (hs _).le (Le.focus h hi q)
theorem stars_mem {l : List HP} {M h : Hp} (p : (stars l).p M h) : ∀ A ∈ l, ∃ h', A.p M h' := by
  induction l generalizing h with
  | nil => intro A hA; cases hA
  | cons B r ih =>
    obtain ⟨h1, h2, _, _, _, p1, p2⟩ := p
    intro A hA
    rcases List.mem_cons.1 hA with rfl | hA
    · exact ⟨_, p1⟩
    · exact ih p2 A hA
theorem lasts_stars {l : List HP} (h : ∀ A ∈ l, A.lasts) : (stars l).lasts := by
  induction l with
  | nil => exact fun _ _ _ => trivial
  | cons A r ih => exact lasts_star (h A (List.mem_cons_self ..)) (ih fun B hB => h B (List.mem_cons_of_mem _ hB))
end
/-! ### values of any shape that last -/
def SeesM (M : Hp) (a : Option Addr) (vs : List Value) : Prop := ∀ i u, vs[i]? = some u → ∃ b o cur ty z, a = some ⟨b, o, none⟩ ∧ M b = some (.cells cur ty z) ∧ cur[o + i]? = some u
theorem SeesM.mono {M M' : Hp} {a : Option Addr} {vs : List Value} (e : Hle M M') (h : SeesM M a vs) : SeesM M' a vs := fun i u hu =>
  let ⟨b, o, cur, ty, z, h1, h2, h3⟩ := h i u hu; ⟨b, o, cur, ty, z, h1, e _ _ h2, h3⟩
def Sh.okM (M : Hp) : (s : Sh) → s.T → Prop
  | .bool, _ => True
  | .int k, n => (Lit.int k n).wf = true
  | .str, s => s.size ≤ maxLen
  | .slice e, x => x.l.length ≤ x.c ∧ x.c ≤ maxLen ∧ (x.a = none → x.c = 0) ∧ SeesM M x.a (x.l.flatMap e.cells) ∧ ∀ y ∈ x.l, e.okM M y
  | .nil, _ => True
  | .cons a b, x => a.okM M x.1 ∧ b.okM M x.2
theorem Sh.okM.mono {M M' : Hp} (l : Hle M M') : ∀ {s : Sh} {v : s.T}, s.okM M v → s.okM M' v := by
  intro s
  induction s with
  | slice e ih => exact fun ⟨h1, h2, h3, h4, h5⟩ => ⟨h1, h2, h3, h4.mono l, fun y hy => ih (h5 y hy)⟩
  | cons a b iha ihb => exact fun ⟨h1, h2⟩ => ⟨iha h1, ihb h2⟩
  | _ => exact fun h => h
/-- A value of a shape, and all behind it, that nobody writes any more. -/
def shM (s : Sh) (v : s.T) : HP := ⟨fun M _ => s.okM M v, fun e _ p => p.mono e⟩
theorem lasts_shM (s : Sh) (v : s.T) : (shM s v).lasts := fun _ _ p => p
theorem Sees.ofM {a : Option Addr} {vs : List Value} {q : List HP} {A : HP} (h : ∀ M x, A.p M x → SeesM M a vs) : Sees (A :: q) a vs := by
  rintro G w ⟨_, M, _, x1, _, _, _, _, h₁, h₂, _, l₁, _, p, _⟩ i u hu
  obtain ⟨b, o, cur, ty, z, e1, e2, e3⟩ := h M _ p i u hu
  have e4 : w.heap[b]? = some (.cells cur ty z) := x1 _ _ e2
  exact ⟨b, o, e1, by simp [World.cell?, e4, e3]⟩
theorem Sh.okQ_of {A : HP} {q : List HP} : ∀ {s : Sh} {v : s.T}, (∃ M x, A.p M x) → (∀ M x, A.p M x → s.okM M v) → s.okQ (A :: q) v := by
  intro s
  induction s with
  | slice e ih =>
    intro v ⟨M, x, p⟩ h
    obtain ⟨h1, h2, h3, h4, h5⟩ := h M x p
    exact ⟨h1, h2, h3, Sees.ofM fun M x p => (h M x p).2.2.2.1, fun y hy => ih ⟨M, x, p⟩ fun M x p => (h M x p).2.2.2.2 y hy⟩
  | cons a b iha ihb => exact fun e h => ⟨iha e fun M x p => (h M x p).1, ihb e fun M x p => (h M x p).2⟩
  | _ => exact fun ⟨M, x, p⟩ h => h M x p
/-- What can be read of a chunk of a shape, at any world in which it stands. -/
theorem X.shM {P : Program} {G : World} {f : Fc} {Q : Post} {todo : List Item} {p : PE} {ds : List Deferred} {cs : List Frame} {q : List HP} {s : Sh} {v : s.T} (x : s.okQ (shM s v :: q) v → X P G f Q todo p ds cs (shM s v :: q)) : X P G f Q todo p ds cs (shM s v :: q) :=
  fun tm w hn ag st => x (by obtain ⟨_, M, h, _, _, _, _, _, h₁, h₂, _, _, _, p, _⟩ := st; exact Sh.okQ_of ⟨M, _, p⟩ fun _ _ p => p) tm w hn ag st
theorem XO.shM {P : Program} {G : World} {f : Fc} {Q : Post} {ops : List Oper} {k : List Item} {l : List Oper} {p : PE} {ds : List Deferred} {cs : List Frame} {q : List HP} {s : Sh} {v : s.T} (x : s.okQ (Wx.shM s v :: q) v → XO P G f Q ops.toArray k l p ds cs (Wx.shM s v :: q)) : XO P G f Q ops.toArray k l p ds cs (Wx.shM s v :: q) :=
  fun is e => .shM fun h => x h is e
theorem okQ_shM {G w : World} {q : List HP} {s : Sh} {v : s.T} (st : St G w (Wx.shM s v :: q)) : s.okQ (Wx.shM s v :: q) v := by
  obtain ⟨_, M, h, _, _, _, _, _, h₁, h₂, _, _, _, p, _⟩ := st; exact Sh.okQ_of ⟨M, _, p⟩ fun _ _ p => p
theorem Sh.ok.okM {G : World} : ∀ {s : Sh} {v : s.T}, s.ok G v → s.okM (wh G) v := by
  have key : ∀ {a : Option Addr} {vs : List Value}, SeesW G a vs → SeesM (wh G) a vs := by
    intro a vs h i u hu
    obtain ⟨b, o, ha, hc⟩ := h i u hu
    simp only [World.cell?] at hc
    split at hc
    · rename_i c e z hh; exact ⟨b, o, _, _, _, ha, hh, by simpa using hc⟩
    · cases hc
  intro s
  induction s with
  | slice e ih => exact fun ⟨h1, h2, h3, h4, h5⟩ => ⟨h1, h2, h3, key h4, fun y hy => ih (h5 y hy)⟩
  | cons a b iha ihb => exact fun ⟨h1, h2⟩ => ⟨iha h1, ihb h2⟩
  | _ => exact fun h => h
theorem Le.old_shM {G : World} {s : Sh} {v : s.T} (h : s.ok G v) (q : List HP) : Le (old G :: q) (shM s v :: old G :: q) :=
  (Le.dup (lasts_old G) q).trans (.one fun M x p => h.okM.mono p)
/-! how one comes to stand -/
theorem Le.shM_nil (q : List HP) : Le q (Wx.shM .nil () :: q) := fun _ k p => ⟨fun _ => none, k, fun _ => .inl rfl, fun _ _ e => by simp at e, .refl _, trivial, p⟩
theorem Le.shM_pure {s : Sh} {v : s.T} (h : ∀ M, s.okM M v) (q : List HP) : Le q (Wx.shM s v :: q) := fun _ k p => ⟨fun _ => none, k, fun _ => .inl rfl, fun _ _ e => by simp at e, .refl _, h _, p⟩
theorem Le.shM_cons {a b : Sh} {x : a.T} {y : b.T} (q : List HP) : Le (Wx.shM a x :: Wx.shM b y :: q) (Wx.shM (.cons a b) (x, y) :: q) := by
  rintro M h ⟨h₁, h₂, d, i, j, p, k₁, k₂, e, i', j', p', r⟩
  exact ⟨fun _ => none, k₂, fun _ => .inl rfl, fun _ _ e => by simp at e, j'.trans j, ⟨p, p'⟩, r⟩
theorem Le.shM_uncons {a b : Sh} {x : a.T} {y : b.T} (q : List HP) : Le (Wx.shM (.cons a b) (x, y) :: q) (Wx.shM a x :: Wx.shM b y :: q) := by
  rintro M h ⟨h₁, h₂, d, i, j, ⟨p, p'⟩, r⟩
  exact ⟨fun _ => none, h, fun _ => .inl rfl, fun _ _ e => by simp at e, .refl _, p, fun _ => none, h₂, fun _ => .inl rfl, fun _ _ e => by simp at e, j, p', r⟩
theorem slP.seesM {a : Option Addr} {c ty sz n : Nat} {vs : List Value} {h : Hp} (p : slP a c ty sz n vs h) : SeesM h a vs := by
  intro i u hu
  obtain ⟨p1, p2⟩ := p
  rcases p2 with ⟨_, _, rfl⟩ | ⟨g, cur, q1, q2, q3, q4, q5, q6⟩
  · have : vs = [] := List.eq_nil_of_length_eq_zero (by simpa using p1)
    subst this; simp at hu
  · refine ⟨g, 0, cur, ty, (0, 0), q1, q6, ?_⟩
    rw [← q5, List.getElem?_take] at hu
    split at hu
    · rw [Nat.zero_add]; simpa using hu
    · cases hu
theorem Le.shM_slice {e : Sh} {a : Option Addr} {c ty sz : Nat} {l : List e.T} {vs : List Value} (hv : vs = l.flatMap e.cells) (q : List HP) : Le (slM a c ty sz l.length vs :: stars (l.map (Wx.shM e)) :: q) (Wx.shM (.slice e) ⟨a, c, l⟩ :: q) := by
  subst hv
  rintro M h ⟨h₁, h₂, d, i, j, p, k₁, k₂, e', i', j', p', r⟩
  refine ⟨fun _ => none, k₂, fun _ => .inl rfl, fun _ _ e => by simp at e, j'.trans j, ?_, r⟩
  have hs := slP.seesM p
  refine ⟨?_, ?_, ?_, hs, fun y hy => ?_⟩
  · rcases p.2 with ⟨_, rfl, h⟩ | ⟨g, cur, q1, q2, q3, q4, q5, q6⟩
    · rw [h]; exact Nat.le_refl _
    · exact q2
  · rcases p.2 with ⟨_, rfl, h⟩ | ⟨g, cur, q1, q2, q3, q4, q5, q6⟩
    · simp [maxLen]
    · exact q3
  · intro ha
    rcases p.2 with ⟨_, rfl, h⟩ | ⟨g, cur, q1, _⟩
    · rfl
    · rw [q1] at ha; cases ha
  · obtain ⟨_, hh⟩ := stars_mem p' (Wx.shM e y) (List.mem_map_of_mem hy)
    exact hh
theorem Le.shM_all {e : Sh} {l : List e.T} (h : ∀ M, ∀ y ∈ l, e.okM M y) (q : List HP) : Le q (stars (l.map (Wx.shM e)) :: q) := by
  have key : ∀ M, (stars (l.map (Wx.shM e))).p M (fun _ => none) := by
    intro M
    induction l with
    | nil => trivial
    | cons y r ih => exact ⟨fun _ => none, fun _ => none, fun _ => .inl rfl, .refl _, .refl _, h M y (List.mem_cons_self ..), ih fun M z hz => h M z (List.mem_cons_of_mem _ hz)⟩
  exact fun _ k p => ⟨fun _ => none, k, fun _ => .inl rfl, fun _ _ e => by simp at e, .refl _, key _, p⟩
/-- A list of numbers that lasts. -/
theorem ints_cells (k : IntKind) (l : List Int) : l.flatMap (Sh.cells (.int k)) = l.map (Value.int k) := by
  induction l with
  | nil => rfl
  | cons y r ih => rw [List.flatMap_cons, ih]; rfl
theorem Le.shM_ints {k : IntKind} {a : Option Addr} {c ty : Nat} {l : List Int} (h : ∀ n ∈ l, (Lit.int k n).wf = true) (q : List HP) : Le (lsM (Value.int k) ty a c l :: q) (Wx.shM (.slice (.int k)) ⟨a, c, l⟩ :: q) :=
  (Le.cons _ (Le.shM_all (e := .int k) (l := l) (fun _ => h) q)).trans (Le.shM_slice (ints_cells k l).symm q)
theorem stars_frz {α : Type} {f g : α → HP} {l : List α} (hfg : ∀ x ∈ l, ∀ G w q, St G w (f x :: q) → St G w (g x :: q)) : ∀ G w q, St G w (stars (l.map f) :: q) → St G w (stars (l.map g) :: q) := by
  induction l with
  | nil => exact fun _ _ _ s => s
  | cons x r ih =>
    intro G w q s
    have s1 := hfg x (List.mem_cons_self ..) G w _ (s.le (Le.stars_uncons _ _ q))
    have s2 := ih (fun y hy => hfg y (List.mem_cons_of_mem _ hy)) G w _ (s1.le (Le.swap _ _ _))
    exact s2.le ((Le.swap _ _ _).trans (Le.stars_cons _ _ q))
theorem X.turn {P : Program} {G : World} {f : Fc} {Q : Post} {todo : List Item} {p : PE} {ds : List Deferred} {cs : List Frame} {q q' : List HP} (h : ∀ w, St G w q → St G w q') (x : X P G f Q todo p ds cs q') : X P G f Q todo p ds cs q := fun tm w hn ag s => x tm w hn ag (h w s)
theorem XO.turn {P : Program} {G : World} {f : Fc} {Q : Post} {ops : List Oper} {k : List Item} {l : List Oper} {p : PE} {ds : List Deferred} {cs : List Frame} {q q' : List HP} (h : ∀ w, St G w q → St G w q') (x : XO P G f Q ops.toArray k l p ds cs q') : XO P G f Q ops.toArray k l p ds cs q := fun is e => .turn h (x is e)
end Wx
