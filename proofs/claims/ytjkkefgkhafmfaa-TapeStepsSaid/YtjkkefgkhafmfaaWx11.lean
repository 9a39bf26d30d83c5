/-
  Plain program logic, part 11: arguments of any shape: what lay in memory before the call.
-/
import Derived.Test.YtjkkefgkhafmfaaWx10
import Derived.ChangeArms
import Derived.OpenShut
import Derived.DataReads
namespace Wx
open Go Go.RowKit
set_option linter.unusedVariables false
/-- The memory of G₀, which nobody turns. -/
def old (G₀ : World) : HP := ⟨fun M _ => Hle (wh G₀) M, fun h _ p => fun b o e => h b o (p b o e)⟩
theorem lasts_old (G₀ : World) : (old G₀).lasts := fun _ _ p => p
theorem St.old (G : World) : St G G [Wx.old G] :=
  ⟨.refl _ _, wh G, fun _ => none, .refl _, fun _ _ e => by simp at e, fun _ _ e => by simp at e, fun _ => .inr rfl, .refl _,
    fun _ => none, fun _ => none, fun _ => .inl rfl, fun _ _ e => by simp at e, fun _ _ e => by simp at e, .refl _, trivial⟩

/-! ### shapes of types -/
inductive Sh where
  | bool
  | int (k : IntKind)
  | str
  | slice (e : Sh)
  | nil
  | cons (a b : Sh)
structure SlV (α : Type) where
  a : Option Addr
  c : Nat
  l : List α
@[reducible] def Sh.T : Sh → Type
  | .bool => Bool
  | .int _ => Int
  | .str => ByteArray
  | .slice e => SlV e.T
  | .nil => Unit
  | .cons a b => a.T × b.T
def Sh.sz : Sh → Nat
  | .bool => 1
  | .int _ => 1
  | .str => 1
  | .slice _ => 1
  | .nil => 0
  | .cons a b => a.sz + b.sz
def Sh.cells : (s : Sh) → s.T → List Value
  | .bool, b => [.bool b]
  | .int k, n => [.int k n]
  | .str, s => [.string s]
  | .slice _, x => [.slice x.a x.l.length x.c]
  | .nil, _ => []
  | .cons a b, x => a.cells x.1 ++ b.cells x.2
theorem Sh.cells_len (s : Sh) (v : s.T) : (s.cells v).length = s.sz := by
  induction s with
  | cons a b iha ihb => simp [Sh.cells, Sh.sz, iha, ihb]
  | _ => simp [Sh.cells, Sh.sz]
def SeesW (w : World) (a : Option Addr) (vs : List Value) : Prop := ∀ i u, vs[i]? = some u → ∃ b o, a = some ⟨b, o, none⟩ ∧ w.cell? ⟨b, o + i, none⟩ = some u
def Sh.ok (w : World) : (s : Sh) → s.T → Prop
  | .bool, _ => True
  | .int k, n => (Lit.int k n).wf = true
  | .str, s => s.size ≤ maxLen
  | .slice e, x => x.l.length ≤ x.c ∧ x.c ≤ maxLen ∧ (x.a = none → x.c = 0) ∧ SeesW w x.a (x.l.flatMap e.cells) ∧ ∀ y ∈ x.l, e.ok w y
  | .nil, _ => True
  | .cons a b, x => a.ok w x.1 ∧ b.ok w x.2
/-- The same, of any time at which the chunks q stand. -/
def Sh.okQ (q : List HP) : (s : Sh) → s.T → Prop
  | .bool, _ => True
  | .int k, n => (Lit.int k n).wf = true
  | .str, s => s.size ≤ maxLen
  | .slice e, x => x.l.length ≤ x.c ∧ x.c ≤ maxLen ∧ (x.a = none → x.c = 0) ∧ Sees q x.a (x.l.flatMap e.cells) ∧ ∀ y ∈ x.l, e.okQ q y
  | .nil, _ => True
  | .cons a b, x => a.okQ q x.1 ∧ b.okQ q x.2
theorem SeesW.sees {G₀ : World} {a : Option Addr} {vs : List Value} (h : SeesW G₀ a vs) (q : List HP) : Sees (Wx.old G₀ :: q) a vs := by
  intro G w s i u hu
  obtain ⟨b, o, ha, hc⟩ := h i u hu
  refine ⟨b, o, ha, ?_⟩
  obtain ⟨_, M, h, hM, _, _, _, _, h₁, h₂, _, _, _, p, _⟩ := s
  have p' : Hle (wh G₀) M := p
  have hob : ∃ ob, G₀.heap[b]? = some ob ∧ (match ob with | .cells c _ _ => c[o + i]? = some u | _ => False) := by
    simp only [World.cell?] at hc
    split at hc
    · rename_i c e z hh; exact ⟨_, hh, by simpa using hc⟩
    · cases hc
  obtain ⟨ob, h1, h2⟩ := hob
  have h3 : w.heap[b]? = some ob := hM _ _ (p' _ _ h1)
  cases ob with
  | cells c e z => simp [World.cell?, h3]; exact h2
  | _ => exact h2.elim
theorem Sh.ok.okQ {G₀ : World} (q : List HP) : ∀ {s : Sh} {v : s.T}, s.ok G₀ v → s.okQ (Wx.old G₀ :: q) v := by
  intro s
  induction s with
  | slice e ih => exact fun ⟨h1, h2, h3, h4, h5⟩ => ⟨h1, h2, h3, h4.sees q, fun y hy => ih (h5 y hy)⟩
  | cons a b iha ihb => exact fun ⟨h1, h2⟩ => ⟨iha h1, ihb h2⟩
  | _ => exact fun h => h
theorem Sh.okQ.le {q q' : List HP} (l : Le q q') : ∀ {s : Sh} {v : s.T}, s.okQ q' v → s.okQ q v := by
  intro s
  induction s with
  | slice e ih => exact fun ⟨h1, h2, h3, h4, h5⟩ => ⟨h1, h2, h3, h4.le l, fun y hy => ih (h5 y hy)⟩
  | cons a b iha ihb => exact fun ⟨h1, h2⟩ => ⟨iha h1, ihb h2⟩
  | _ => exact fun h => h
/-- Does a type have this shape? -/
def Sh.fits (P : Program) : Sh → (TypeId ⊕ List Field × Nat) → Bool
  | .bool, .inl t => match P.underlying t with | some .bool => true | _ => false
  | .int k, .inl t => match P.underlying t with | some (.int k') => decide (k' = k) | _ => false
  | .str, .inl t => match P.underlying t with | some .string => true | _ => false
  | .slice e, .inl t => match P.underlying t with | some (.slice e') => e.fits P (.inl e') && Nat.beq (P.cellsOf e') e.sz | _ => false
  | .nil, .inl t => match P.underlying t with | some (.struct fs) => fs.toList.isEmpty && Nat.beq (P.cellsOf t) 0 | _ => false
  | .nil, .inr (fs, _) => fs.isEmpty
  | .cons a b, .inl t => match P.underlying t with
    | some (.struct fs) => Nat.beq (P.cellsOf t) (a.sz + b.sz) && match fs.toList with
      | f :: r => Nat.beq f.offset 0 && a.fits P (.inl f.type) && Nat.beq (P.cellsOf f.type) a.sz && b.fits P (.inr (r, a.sz))
      | [] => false
    | _ => false
  | .cons a b, .inr (fs, o) => match fs with
    | f :: r => Nat.beq f.offset o && a.fits P (.inl f.type) && Nat.beq (P.cellsOf f.type) a.sz && b.fits P (.inr (r, o + a.sz))
    | [] => false
  | _, .inr _ => false
theorem exists_list {α : Type} {n : Nat} {Q : Nat → α → Prop} (h : ∀ i, i < n → ∃ y, Q i y) : ∃ l : List α, l.length = n ∧ ∀ i u, l[i]? = some u → Q i u := by
  induction n with
  | zero => exact ⟨[], rfl, by simp⟩
  | succ n ih =>
    obtain ⟨l, hl, hq⟩ := ih fun i hi => h i (by omega)
    obtain ⟨y, hy⟩ := h n (by omega)
    refine ⟨l ++ [y], by simp [hl], fun i u hu => ?_⟩
    rcases Nat.lt_or_ge i l.length with hi | hi
    · rw [List.getElem?_append_left hi] at hu; exact hq i u hu
    · rw [List.getElem?_append_right hi] at hu
      have : i = n := by
        rcases Nat.eq_or_lt_of_le (show n ≤ i by omega) with e | e
        · exact e.symm
        · have : i - l.length = (i - l.length - 1) + 1 := by omega
          rw [this] at hu; simp at hu
      subst this
      simp [hl] at hu; subst hu; exact hy
theorem flatMap_get {α β : Type} {f : α → List β} {sz : Nat} (hf : ∀ x, (f x).length = sz) : ∀ (l : List α) (i : Nat) (u : β), (l.flatMap f)[i]? = some u →
    ∃ j k x, i = j * sz + k ∧ k < sz ∧ l[j]? = some x ∧ (f x)[k]? = some u := by
  intro l
  induction l with
  | nil => intro i u h; simp at h
  | cons y r ih =>
    intro i u h
    rw [List.flatMap_cons] at h
    rcases Nat.lt_or_ge i sz with hi | hi
    · rw [List.getElem?_append_left (by rw [hf]; exact hi)] at h
      exact ⟨0, i, y, by simp, hi, rfl, h⟩
    · rw [List.getElem?_append_right (by rw [hf]; exact hi), hf] at h
      obtain ⟨j, k, x, e, hk, hx, hu⟩ := ih _ _ h
      exact ⟨j + 1, k, x, by rw [Nat.add_mul]; omega, hk, by simpa using hx, hu⟩
theorem get_flatMap {α β : Type} {f : α → List β} {sz : Nat} (hf : ∀ x, (f x).length = sz) : ∀ (l : List α) (j k : Nat) (x : α), k < sz → l[j]? = some x → (l.flatMap f)[j * sz + k]? = (f x)[k]? := by
  intro l
  induction l with
  | nil => intro j k x _ h; simp at h
  | cons y r ih =>
    intro j k x hk h
    rw [List.flatMap_cons]
    cases j with
    | zero => simp at h; subst h; rw [List.getElem?_append_left (by rw [hf]; omega)]; simp
    | succ j =>
      have e : (j + 1) * sz + k = j * sz + k + sz := by rw [Nat.add_mul]; omega
      rw [List.getElem?_append_right (by rw [hf]; omega), hf, e, Nat.add_sub_cancel]
      exact ih j k x hk (by simpa using h)
theorem open_sh {H : Type} {enc : TypeId × Value → H} {P : Program} {w : World} {base : Nat} {spare : Nat → Bool} {held : Bool} : ∀ (s : Sh),
    (∀ {t : TypeId} {fuel : Nat} {cs : List Value} {x : DataW H × List MemPlace}, s.fits P (.inl t) = true → DataW.trod enc P w base spare held fuel t cs = some x → ∃ v, cs = s.cells v ∧ s.ok w v) ∧
    (∀ {fs : List Field} {off n : Nat} {cs : List Value}, s.fits P (.inr (fs, off)) = true → cs.length = off + s.sz →
      (∀ (i : Nat) (f : Field), fs[i]? = some f → ∃ y, DataW.trod enc P w base spare held n f.type ((cs.drop f.offset).take (P.cellsOf f.type)) = some y) → ∃ v, cs.drop off = s.cells v ∧ s.ok w v) := by
  intro s
  induction s with
  | bool =>
    refine ⟨fun {t fuel cs x} hf h => ?_, fun hf => by simp [Sh.fits] at hf⟩
    simp only [Sh.fits] at hf
    split at hf
    · obtain ⟨b, rfl, _⟩ := DataW.trod_bool (by assumption) h; exact ⟨b, rfl, trivial⟩
    · cases hf
  | int k =>
    refine ⟨fun {t fuel cs x} hf h => ?_, fun hf => by simp [Sh.fits] at hf⟩
    simp only [Sh.fits] at hf
    split at hf
    · rename_i k' hu
      have : k' = k := of_decide_eq_true hf
      subst this
      obtain ⟨n, rfl, _, hw⟩ := DataW.trod_int hu h; exact ⟨n, rfl, hw⟩
    · cases hf
  | str =>
    refine ⟨fun {t fuel cs x} hf h => ?_, fun hf => by simp [Sh.fits] at hf⟩
    simp only [Sh.fits] at hf
    split at hf
    · obtain ⟨b, rfl, _, hs⟩ := DataW.trod_string (by assumption) h; exact ⟨b, rfl, hs⟩
    · cases hf
  | nil =>
    refine ⟨fun {t fuel cs x} hf h => ?_, fun {fs off n cs} hf hl _ => ⟨(), ?_, trivial⟩⟩
    · simp only [Sh.fits] at hf
      split at hf
      · rename_i fs hu
        obtain ⟨xs, n, _, _, hl, _⟩ := DataW.trod_struct hu h
        simp at hf
        refine ⟨(), ?_, trivial⟩
        rw [hf.2] at hl
        exact List.eq_nil_of_length_eq_zero hl
      · cases hf
    · simp [Sh.sz] at hl; simp [Sh.cells, hl]
  | slice e ih =>
    refine ⟨fun {t fuel cs x} hf h => ?_, fun hf => by simp [Sh.fits] at hf⟩
    simp only [Sh.fits] at hf
    split at hf
    · rename_i e' hu
      simp only [Bool.and_eq_true, Nat.beq_eq] at hf
      obtain ⟨hfe, hsz⟩ := hf
      rcases DataW.trod_slice hu h with ⟨rfl, _⟩ | ⟨a, len, cap, elems, rest, n, rfl, rfl, _, _, hlc, hcm, hel, hget, _, _⟩
      · exact ⟨⟨none, 0, []⟩, rfl, by simp, by simp, by simp, by intro i u hu; simp at hu, by simp⟩
      · have key : ∀ i, i < len → ∃ y : e.T, w.cells? base (a.add (i * e.sz)) e.sz = some (e.cells y) ∧ e.ok w y := by
          intro i hi
          have hg := hget i hi
          rw [hsz] at hg
          have hlt : i < elems.length := by omega
          rw [List.getElem?_eq_getElem hlt, Option.bind_eq_some_iff] at hg
          obtain ⟨cs, h1, h2⟩ := hg
          obtain ⟨y, rfl, hy⟩ := ih.1 hfe h2
          exact ⟨y, h1, hy⟩
        obtain ⟨l, hl, hq⟩ := exists_list key
        refine ⟨⟨some a, cap, l⟩, by simp [Sh.cells, hl], by simp [hl, hlc], by simpa using hcm, by simp, ?_, ?_⟩
        · intro i u hu
          obtain ⟨j, k, y, rfl, hk, hy, hc⟩ := flatMap_get (Sh.cells_len e) l i u hu
          obtain ⟨h1, _⟩ := hq j y hy
          obtain ⟨_, _, h2⟩ := World.cells?_some h1
          have h3 := h2 k hk
          rw [hc] at h3
          have hspot : a.spot = none := by
            have hl0 : 0 < l.length := by
              have := (List.getElem?_eq_some_iff.1 hy).1; omega
            obtain ⟨y0, hy0⟩ : ∃ y0, l[0]? = some y0 := ⟨l[0], by simp⟩
            obtain ⟨_, _, h4⟩ := World.cells?_some (hq 0 y0 hy0).1
            have h5 := h4 0 (by omega)
            have h6 : (e.cells y0)[0]? = some ((e.cells y0)[0]'(by rw [Sh.cells_len]; omega)) := by simp
            rw [h6] at h5
            simpa [Addr.add] using World.cell?_spot h5
          obtain ⟨b, o, spot⟩ := a
          simp only at hspot
          subst hspot
          exact ⟨b, o, rfl, by rw [add_addr, add_addr] at h3; rw [← Nat.add_assoc]; exact h3⟩
        · intro y hy
          obtain ⟨j, hj⟩ := List.getElem?_of_mem hy
          exact (hq j y hj).2
    · cases hf
  | cons a b iha ihb =>
    have B : ∀ {fs : List Field} {off n : Nat} {cs : List Value}, (Sh.cons a b).fits P (.inr (fs, off)) = true → cs.length = off + (Sh.cons a b).sz →
      (∀ (i : Nat) (f : Field), fs[i]? = some f → ∃ y, DataW.trod enc P w base spare held n f.type ((cs.drop f.offset).take (P.cellsOf f.type)) = some y) → ∃ v, cs.drop off = (Sh.cons a b).cells v ∧ (Sh.cons a b).ok w v := by
      intro fs off n cs hf hl hx
      cases fs with
      | nil => simp [Sh.fits] at hf
      | cons f r =>
        simp only [Sh.fits, Bool.and_eq_true, Nat.beq_eq] at hf
        obtain ⟨⟨⟨ho, ha⟩, hs⟩, hb⟩ := hf
        obtain ⟨y, hy⟩ := hx 0 f rfl
        obtain ⟨v1, h1, k1⟩ := iha.1 ha hy
        obtain ⟨v2, h2, k2⟩ := ihb.2 hb (by rw [hl]; simp [Sh.sz]; omega) (fun i f hf => hx (i + 1) f (by simpa using hf))
        refine ⟨(v1, v2), ?_, k1, k2⟩
        rw [hs, ho] at h1
        simp only [Sh.cells]
        rw [← h1, ← h2, ← List.drop_drop, List.take_append_drop]
    refine ⟨fun {t fuel cs x} hf h => ?_, B⟩
    simp only [Sh.fits] at hf
    split at hf
    · rename_i fs hu
      simp only [Bool.and_eq_true, Nat.beq_eq] at hf
      obtain ⟨hs, hf⟩ := hf
      obtain ⟨xs, n, _, _, hl, hxl, hx⟩ := DataW.trod_struct hu h
      have := B (fs := fs.toList) (off := 0) (n := n) (cs := cs) (by
        cases hfs : fs.toList with
        | nil => rw [hfs] at hf; cases hf
        | cons f r => rw [hfs] at hf; simpa [Sh.fits] using hf) (by rw [hl, hs]; simp [Sh.sz]) (fun i f hif => by
          have hif' : fs[i]? = some f := by simpa using hif
          have h3 := hx i f hif'
          have hlt : i < xs.length := by
            rw [hxl]; exact (Array.getElem?_eq_some_iff.1 hif').1
          rw [List.getElem?_eq_getElem hlt] at h3
          exact ⟨_, h3⟩)
      simpa using this
    · cases hf
/-- An argument of a shape: its cells, and what can be read behind them. -/
theorem open_arg {H : Type} {enc : TypeId × Value → H} {P : Program} {w : World} {base : Nat} {spare : Nat → Bool} {held : Bool} {t : TypeId} {v : Value} {d : DataW H} {p : List MemPlace} (s : Sh) (hf : s.fits P (.inl t) = true)
    (h : DataW.Trod enc P w base spare held t v d p) : ∃ x : s.T, v.cells.toList = s.cells x ∧ s.ok w x := by
  obtain ⟨fuel, h⟩ := h
  exact (open_sh s).1 hf h
end Wx
