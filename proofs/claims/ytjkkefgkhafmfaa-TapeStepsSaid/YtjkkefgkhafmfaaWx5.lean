/-
  Plain program logic, part 5: slices, structs, results in memory.
-/
import Derived.Test.YtjkkefgkhafmfaaWx4
namespace Wx
set_option linter.unusedVariables false
set_option linter.unusedSimpArgs false
open Go Go.RowKit

/-! ### a slice that is owned -/
def slP (a : Option Addr) (c : Nat) (ty sz n : Nat) (vs : List Value) (h : Hp) : Prop :=
  vs.length = n * sz ∧ ((a = none ∧ c = 0 ∧ n = 0) ∨ ∃ g cur, a = some ⟨g, 0, none⟩ ∧ n ≤ c ∧ c ≤ maxLen ∧ cur.size = c * sz ∧ cur.toList.take (n * sz) = vs ∧ h g = some (.cells cur ty (0, 0)))
theorem slP.mono {a : Option Addr} {c ty sz n : Nat} {vs : List Value} {h h' : Hp} (e : Hle h h') (p : slP a c ty sz n vs h) : slP a c ty sz n vs h' := by
  obtain ⟨p1, p2⟩ := p
  refine ⟨p1, p2.imp id ?_⟩
  rintro ⟨g, cur, q1, q2, q3, q4, q5, q6⟩
  exact ⟨g, cur, q1, q2, q3, q4, q5, e _ _ q6⟩
/-- The slice value '.slice a n c' is owned; its elements' cells are vs (sz cells an element). -/
def slH (a : Option Addr) (c : Nat) (ty sz n : Nat) (vs : List Value) : HP := ⟨fun _ h => slP a c ty sz n vs h, fun _ e p => p.mono e⟩
/-- The same, lasting: nobody writes it any more. -/
def slM (a : Option Addr) (c : Nat) (ty sz n : Nat) (vs : List Value) : HP := ⟨fun M _ => slP a c ty sz n vs M, fun e _ p => p.mono e⟩
theorem lasts_slM (a : Option Addr) (c ty sz n : Nat) (vs : List Value) : (slM a c ty sz n vs).lasts := fun _ _ p => p
section
variable {G w : World} {q : List HP} {a : Option Addr} {c ty sz n : Nat} {vs : List Value}
theorem St.slH_elim (s : St G w (slH a c ty sz n vs :: q)) : vs.length = n * sz ∧ ((a = none ∧ c = 0 ∧ n = 0 ∧ St G w q) ∨
    ∃ g cur, a = some ⟨g, 0, none⟩ ∧ n ≤ c ∧ c ≤ maxLen ∧ cur.size = c * sz ∧ cur.toList.take (n * sz) = vs ∧ St G w (pto g (.cells cur ty (0, 0)) :: q)) := by
  have sq : St G w q := s.le (.drop _ _)
  obtain ⟨bl, M, h, x1, x2, x3, x4, x5, h₁, h₂, dj, l₁, l₂, ⟨p1, p2⟩, qq⟩ := s
  refine ⟨p1, ?_⟩
  rcases p2 with ⟨rfl, rfl, rfl⟩ | ⟨g, cur, q1, q2, q3, q4, q5, q6⟩
  · exact .inl ⟨rfl, rfl, rfl, sq⟩
  · exact .inr ⟨g, cur, q1, q2, q3, q4, q5, bl, M, h, x1, x2, x3, x4, x5, h₁, h₂, dj, l₁, l₂, q6, qq⟩
theorem Le.slH_intro {g : Nat} {cur : Array Value} (h1 : n ≤ c) (h2 : c ≤ maxLen) (h3 : cur.size = c * sz) (h4 : cur.toList.take (n * sz) = vs) (q : List HP) :
    Le (pto g (.cells cur ty (0, 0)) :: q) (slH (some ⟨g, 0, none⟩) c ty sz n vs :: q) :=
  .one fun M x p => ⟨by rw [← h4, List.length_take, Array.length_toList, h3]; exact Nat.min_eq_left (Nat.mul_le_mul_right _ h1), .inr ⟨g, cur, rfl, h1, h2, h3, h4, p⟩⟩
theorem Le.slH_nil (ty sz : Nat) (q : List HP) : Le q (slH none 0 ty sz 0 [] :: q) :=
  fun M h p => ⟨fun _ => none, h, fun _ => .inl rfl, fun _ _ e => by simp at e, .refl _, ⟨by simp, .inl ⟨rfl, rfl, rfl⟩⟩, p⟩
/-- Cells that are read through a slice's address. -/
def Sees (q : List HP) (a : Option Addr) (vs : List Value) : Prop := ∀ G w, St G w q → ∀ i u, vs[i]? = some u → ∃ b o, a = some ⟨b, o, none⟩ ∧ w.cell? ⟨b, o + i, none⟩ = some u
theorem slP.sees {h : Hp} (p : slP a c ty sz n vs h) (hw : ∀ b o, h b = some o → w.heap[b]? = some o) : ∀ i u, vs[i]? = some u → ∃ b o, a = some ⟨b, o, none⟩ ∧ w.cell? ⟨b, o + i, none⟩ = some u := by
  intro i u hu
  obtain ⟨p1, p2⟩ := p
  rcases p2 with ⟨_, _, rfl⟩ | ⟨g, cur, q1, q2, q3, q4, q5, q6⟩
  · have : vs = [] := List.eq_nil_of_length_eq_zero (by simpa using p1)
    subst this; simp at hu
  · refine ⟨g, 0, q1, ?_⟩
    have := hw _ _ q6
    rw [← q5, List.getElem?_take] at hu
    split at hu
    · simp only [World.cell?, this, Nat.zero_add]; simpa using hu
    · cases hu
theorem Sees.slH (q : List HP) : Sees (slH a c ty sz n vs :: q) a vs := by
  rintro G _ ⟨_, M, h, x1, x2, _, _, _, h₁, h₂, _, l₁, _, p, _⟩
  exact slP.sees p fun b o e => x2 _ _ (l₁ _ _ e)
theorem Sees.slM (q : List HP) : Sees (slM a c ty sz n vs :: q) a vs := by
  rintro G _ ⟨_, M, h, x1, x2, _, _, _, h₁, h₂, _, l₁, _, p, _⟩
  exact slP.sees p fun b o e => x1 _ _ e
theorem Sees.le {q' : List HP} (h : Sees q' a vs) (l : Le q q') : Sees q a vs := fun G w s => h G w (s.le l)
theorem Sees.there {A : HP} (h : Sees q a vs) : Sees (A :: q) a vs := h.le (.drop _ _)
theorem Sees.nil (q : List HP) (a : Option Addr) : Sees q a [] := fun _ _ _ i u h => by simp at h
theorem Sees.cl {b o i : Nat} {u : Value} (h : Sees q (some ⟨b, o, none⟩) vs) (hi : vs[i]? = some u) : Cl q ⟨b, o + i, none⟩ u := fun G w s => by
  obtain ⟨b', o', e, hc⟩ := h G w s i u hi
  cases e; exact hc
theorem Sees.take (h : Sees q a vs) (k : Nat) : Sees q a (vs.take k) := fun G w s i u hu => by
  rw [List.getElem?_take] at hu
  split at hu
  · exact h G w s i u hu
  · cases hu
/-- The address of 'x[l:]'. -/
def sufA (a : Option Addr) (c l s : Nat) : Option Addr := if c = l then a else a.map (·.add (l * s))
theorem Sees.suf {l : Nat} (h : Sees q a vs) (hn : vs.length ≤ c * sz) : Sees q (sufA a c l sz) (vs.drop (l * sz)) := fun G w s i u hu => by
  rw [List.getElem?_drop] at hu
  obtain ⟨b, o, rfl, hc⟩ := h G w s _ u hu
  unfold sufA
  by_cases e : c = l
  · subst e
    have : vs[c * sz + i]? = none := List.getElem?_eq_none (by omega)
    rw [this] at hu; cases hu
  · rw [if_neg e]
    exact ⟨b, o + l * sz, by simp [add_addr], by rw [Nat.add_assoc]; exact hc⟩
/-- What is owned is let go for good. -/
theorem St.slFreeze (s : St G w (Wx.slH a c ty sz n vs :: q)) : St G w (Wx.slM a c ty sz n vs :: q) := by
  obtain ⟨h0, h | ⟨g, cur, q1, q2, q3, q4, q5, s'⟩⟩ := s.slH_elim
  · obtain ⟨rfl, rfl, rfl, s'⟩ := h
    refine s'.le fun M h p => ⟨fun _ => none, h, fun _ => .inl rfl, fun _ _ e => by simp at e, .refl _, ⟨h0, .inl ⟨rfl, rfl, rfl⟩⟩, p⟩
  · exact s'.freeze.le (.one fun M x p => ⟨h0, .inr ⟨g, cur, q1, q2, q3, q4, q5, p⟩⟩)
theorem St.slLen (s : St G w (Wx.slH a c ty sz n vs :: q)) : vs.length = n * sz ∧ n ≤ c ∧ c ≤ maxLen := by
  obtain ⟨h0, h | ⟨g, cur, q1, q2, q3, q4, q5, s'⟩⟩ := s.slH_elim
  · obtain ⟨rfl, rfl, rfl, s'⟩ := h; exact ⟨h0, Nat.le_refl _, by simp [maxLen]⟩
  · exact ⟨h0, q2, q3⟩
end
section
variable {P : Program} {G : World} {f : Fc} {Q : Post} {k : List Item} {p : PE} {ds : List Deferred} {cs : List Frame} {q : List HP} {ops : List Oper} {l : List Oper} {a : Option Addr} {c ty sz n : Nat} {vs : List Value}
theorem X.slFreeze {todo : List Item} (x : X P G f Q todo p ds cs (slM a c ty sz n vs :: q)) : X P G f Q todo p ds cs (slH a c ty sz n vs :: q) := fun tm w hn ag s => x tm w hn ag s.slFreeze
theorem XO.slFreeze (x : XO P G f Q ops.toArray k l p ds cs (slM a c ty sz n vs :: q)) : XO P G f Q ops.toArray k l p ds cs (slH a c ty sz n vs :: q) := fun is e => .slFreeze (x is e)
theorem X.fact {todo : List Item} {φ : Prop} (h : ∀ w, St G w q → φ) (x : φ → X P G f Q todo p ds cs q) : X P G f Q todo p ds cs q := fun tm w hn ag s => x (h w s) tm w hn ag s
theorem XO.fact {φ : Prop} (h : ∀ w, St G w q → φ) (x : φ → XO P G f Q ops.toArray k l p ds cs q) : XO P G f Q ops.toArray k l p ds cs q := fun is e => .fact h fun y => x y is e
theorem XD.fact {pk : PE} {L : Rds} {m : Nat} {done : List Nat} {φ : Prop} (h : ∀ w, St G w q → φ) (x : φ → XD P G f Q ops k pk L m done p ds cs q) : XD P G f Q ops k pk L m done p ds cs q := fun a b tm w hn ag s hs => x (h w s) a b tm w hn ag s hs
/-- The address behind a slice that has elements. -/
theorem Sees.addr {w : World} (hs : Sees q a vs) (h : 0 < vs.length) (s : St G w q) : ∃ b o, a = some ⟨b, o, none⟩ :=
  let ⟨b, o, e, _⟩ := hs G w s 0 vs[0] (by simp [h]); ⟨b, o, e⟩
theorem X.addr {todo : List Item} (hs : Sees q a vs) (h : 0 < vs.length) (x : ∀ b o, a = some ⟨b, o, none⟩ → X P G f Q todo p ds cs q) : X P G f Q todo p ds cs q :=
  .fact (fun w s => hs.addr h s) fun ⟨b, o, e⟩ => x b o e
theorem XO.addr (hs : Sees q a vs) (h : 0 < vs.length) (x : ∀ b o, a = some ⟨b, o, none⟩ → XO P G f Q ops.toArray k l p ds cs q) : XO P G f Q ops.toArray k l p ds cs q :=
  .fact (fun w s => hs.addr h s) fun ⟨b, o, e⟩ => x b o e
end

section facts
variable {P : Program} {G : World} {p : PE} {q r : List HP} {d : Option Tmp} {ty : TypeId} {pos : String} {af : Array Edge} {gd : Option (Nat × Bool)} {v u : Value} {x y : Operand} {a b : Option Addr} {c c' sz n m i : Nat} {vs ws : List Value} {t e : TypeId}
theorem firstCells_sees {w : World} (hs : ∀ i u, ws[i]? = some u → ∃ b' o, b = some ⟨b', o, none⟩ ∧ w.cell? ⟨b', o + i, none⟩ = some u) (hm : ws.length = m * sz) (hsz : 0 < sz) :
    (m = 0 ∧ ws = []) ∨ ∃ ad : Addr, b = some ad ∧ ∀ j u, ws[j]? = some u → w.cell? (ad.add j) = some u := by
  by_cases h0 : m = 0
  · subst h0; exact .inl ⟨rfl, List.eq_nil_of_length_eq_zero (by simpa using hm)⟩
  · right
    have hl : 0 < ws.length := by rw [hm]; exact Nat.mul_pos (by omega) hsz
    obtain ⟨b', o, rfl, _⟩ := hs 0 ws[0] (by simp [hl])
    refine ⟨⟨b', o, none⟩, rfl, fun j u hu => ?_⟩
    obtain ⟨b2, o2, e, hc⟩ := hs j u hu
    cases e; rw [add_addr]; exact hc
theorem zip_ev {α β γ : Type} (ps : List (α × β)) (g : β → γ) : (ps.toArray.map fun (i, x) => (i, g x)).toList = (ps.map (·.1)).zip ((ps.map (·.2)).map g) := by
  simp only [List.map_toArray]
  induction ps with
  | nil => rfl
  | cons x r ih => simp only [List.map_cons, List.zip_cons_cons]; exact congrArg _ ih
theorem exec_builtin {bi : Builtin} {l : List Operand} {ats : Array TypeId} {us : List Value} {tm : Array Value} (ag : Agr tm p) (hv : evl p l = some us) :
    execOp (evA tm) ⟨d, .call ⟨.builtin bi, l.toArray, ats⟩, ty, pos, af, gd⟩ = builtin bi ats ty (l.toArray.map fun | .const _ => true | _ => false) us.toArray := by
  have h2 := evl_of ag hv
  simp only [execOp, resolve]
  have : (l.toArray.map (evA tm)) = us.toArray := by rw [← h2]; simp
  rw [this]
  rfl
/-- append to an owned slice (or to its first i elements). -/
theorem Ef.append {z : Value} {bytes : Nat} (ht : P.underlying t = some (.slice e)) (hi : (P.info? e).map (fun i => (i.zero, i.size, i.bytes)) = some (some z, sz, bytes)) (hz : z.cells.size = sz) (hsz : Nat.blt 0 sz = true)
    (hx : evp p x = some (.slice a i c)) (hy : evp p y = some (.slice b m c')) (hq : Le q (slH a c e sz n vs :: r)) (hin : i ≤ n) (hs : Sees q b ws) (hm : ws.length = m * sz) (h1 : ∀ u ∈ ws, u.oneCell' = true)
    (h63 : i + m ≤ 9223372036854775807) (hby : (i + m) * bytes ≤ 140737488355328) :
    Ef P G p q ⟨d, .call ⟨.builtin .append, [x, y].toArray, [t, t].toArray⟩, ty, pos, af, gd⟩ fun v q' => ∃ a' c', v = .slice a' (i + m) c' ∧ q' = slH a' c' e sz (i + m) (vs.take (i * sz) ++ ws) :: r := by
  obtain ⟨I, hI, e1, e2, e3⟩ := info_parts hi
  have hsz' : 0 < sz := by simpa [Nat.blt_eq] using hsz
  subst e2; subst e3
  intro tm w ag s
  have hev : evl p [x, y] = some [.slice a i c, .slice b m c'] := by simp [evl, hx, hy]
  have hex := exec_builtin (d := d) (ty := ty) (pos := pos) (af := af) (gd := gd) (bi := .append) (ats := [t, t].toArray) ag hev
  rw [hex]
  have hrun : ∀ v w', (Builtin.append_ #[t, t] ty #[.slice a i c, .slice b m c']).run P w = .ok v w' → (builtin .append [t, t].toArray ty ([x, y].toArray.map fun | .const _ => true | _ => false) [.slice a i c, .slice b m c'].toArray).run P w = .ok (.value v) w' := by
    intro v w' h; simp [builtin, h]
  have sees := firstCells_sees (hs G w s) hm hsz'
  obtain ⟨hlen, hcase⟩ := (s.le hq).slH_elim
  rcases hcase with ⟨rfl, rfl, rfl, s'⟩ | ⟨g, cur, rfl, hnc, hcm, hcs, htk, s'⟩
  · obtain rfl : i = 0 := by omega
    have hvs : vs = [] := List.eq_nil_of_length_eq_zero (by simpa using hlen)
    subst hvs
    rcases sees with ⟨rfl, rfl⟩ | ⟨ad, rfl, hc⟩
    · refine ⟨.slice none 0 0, w, _, .inl (hrun _ _ ?_), s'.le (Le.slH_nil e I.size r), none, 0, rfl, by simp⟩
      cases b <;> simp [Builtin.append_, run_underlying ht, Go.sizeOf, typeInfo, hI, Builtin.lenOf, Builtin.firstCells, loadCells, loadCellsFrom]
    · by_cases hm0 : m = 0
      · subst hm0
        have hws : ws = [] := List.eq_nil_of_length_eq_zero (by simpa using hm)
        subst hws
        refine ⟨.slice none 0 0, w, _, .inl (hrun _ _ ?_), s'.le (Le.slH_nil e I.size r), none, 0, rfl, by simp⟩
        simp [Builtin.append_, run_underlying ht, Go.sizeOf, typeInfo, hI, Builtin.lenOf, Builtin.firstCells, loadCells, loadCellsFrom]
      · have hr := run_append_nil (P := P) w t ty e I z ht hI e1 ad m c' ws hm hc (by omega) (by omega) (by have hb := hby; simp only [Nat.zero_add] at hb; omega)
        have hge := grownCap_ge w m 0 e
        have hcl := grownCap_le_maxLen w m 0 e (by simp only [maxLen]; omega)
        refine ⟨_, _, _, .inl (hrun _ _ hr), ?_, some ⟨w.heap.size, 0, none⟩, grownCap w m 0 e, by simp, rfl⟩
        have s2 : St G (w.drew.alloc (.cells (ws.toArray ++ Builtin.zeroCells z.cells (grownCap w m 0 e - m)) e)) (pto w.heap.size (.cells (ws.toArray ++ Builtin.zeroCells z.cells (grownCap w m 0 e - m)) e (0, 0)) :: r) :=
          St.new (w := w.drew) (s'.same rfl rfl rfl rfl) rfl rfl rfl rfl
        refine s2.le (Le.slH_intro (by omega) hcl ?_ ?_ r)
        · simp only [Array.size_append, List.size_toArray, size_zeroCells, hz, hm, ← Nat.add_mul]
          congr 1; omega
        · simp only [Array.toList_append, Nat.zero_add, Nat.zero_mul, List.take_zero, List.nil_append]
          rw [← hm]; exact List.take_left
  · have htake : cur.toList.take (i * I.size) = vs.take (i * I.size) := by
      rw [← htk, List.take_take, Nat.min_eq_left (Nat.mul_le_mul_right _ hin)]
    have hg : w.heap[g]? = some (.cells cur e (0, 0)) := s'.has (Has.pto _ _ _)
    have hvl : (vs.take (i * I.size)).length = i * I.size := by rw [List.length_take, hlen]; exact Nat.min_eq_left (Nat.mul_le_mul_right _ hin)
    -- the source, as an address that serves
    have hsrc : ∃ ad : Addr, (b = some ad ∨ (b = none ∧ m = 0)) ∧ ∀ j u, ws[j]? = some u → w.cell? (ad.add j) = some u := by
      rcases sees with ⟨rfl, rfl⟩ | ⟨ad, hb, hc⟩
      · cases b with
        | none => exact ⟨⟨0, 0, none⟩, .inr ⟨rfl, rfl⟩, fun j u h => by simp at h⟩
        | some ad => exact ⟨ad, .inl rfl, fun j u h => by simp at h⟩
      · exact ⟨ad, .inl hb, hc⟩
    obtain ⟨ad, hb, hc⟩ := hsrc
    by_cases hroom : i + m ≤ c
    · have hfit : i * I.size + ws.length ≤ cur.size := by rw [hm, hcs, ← Nat.add_mul]; exact Nat.mul_le_mul_right _ hroom
      have hst := run_storeCells_at P g (i * I.size) e ws 0 cur w hg (by simpa using hfit) h1
      simp only [Nat.add_zero] at hst
      have hr : (Builtin.append_ #[t, t] ty #[.slice (some ⟨g, 0, none⟩) i c, .slice b m c']).run P w =
          .ok (.slice (some ⟨g, 0, none⟩) (i + m) c) (w.setRow g (cur.toList.take (i * I.size) ++ ws ++ cur.toList.drop (i * I.size + ws.length)).toArray) := by
        rcases hb with rfl | ⟨rfl, rfl⟩
        · exact run_append_room (P := P) w t ty e I ht hI g i c cur hg ad m c' ws hm hc h1 hroom hfit
        · have hws : ws = [] := List.eq_nil_of_length_eq_zero (by simpa using hm)
          subst hws
          have hself := setRow_self w g cur e (0, 0) hg
          simp only [List.length_nil, Nat.add_zero, List.append_nil, List.take_append_drop, Array.toArray_toList, hself]
          have hroom' : i ≤ c := by omega
          simp [Builtin.append_, run_underlying ht, Go.sizeOf, typeInfo, hI, Builtin.lenOf, Builtin.firstCells, hroom', storeCells]
      refine ⟨_, _, _, .inl (hrun _ _ hr), ?_, some ⟨g, 0, none⟩, c, rfl, rfl⟩
      have s2 := s'.put (o' := .cells (cur.toList.take (i * I.size) ++ ws ++ cur.toList.drop (i * I.size + ws.length)).toArray e (0, 0)) (setRow_heap w g cur _ e (0, 0) hg) (fun j hj => setRow_other w g j _ hj) (by simp) rfl rfl rfl
      refine s2.le (Le.slH_intro hroom hcm ?_ ?_ r)
      · simp only [List.size_toArray, List.length_append, List.length_take, List.length_drop, Array.length_toList]
        omega
      · rw [htake]
        have : (vs.take (i * I.size) ++ ws).length = (i + m) * I.size := by rw [List.length_append, hvl, hm, Nat.add_mul]
        rw [← this]; exact List.take_left
    · have holds : ∀ j u, (vs.take (i * I.size))[j]? = some u → w.cell? ((⟨g, 0, none⟩ : Addr).add j) = some u := by
        intro j u hu
        rw [add_addr, Nat.zero_add]
        rw [← htake, List.getElem?_take] at hu
        split at hu
        · simp only [World.cell?, hg]; simpa using hu
        · cases hu
      have hr : (Builtin.append_ #[t, t] ty #[.slice (some ⟨g, 0, none⟩) i c, .slice b m c']).run P w =
          .ok (.slice (some ⟨w.heap.size, 0, none⟩) (i + m) (grownCap w (i + m) c e))
            (w.drew.alloc (.cells ((vs.take (i * I.size)).toArray ++ ws.toArray ++ Builtin.zeroCells z.cells (grownCap w (i + m) c e - (i + m))) e)) := by
        rcases hb with rfl | ⟨rfl, rfl⟩
        · exact run_append_grow (P := P) w t ty e I z ht hI e1 ⟨g, 0, none⟩ i c _ hvl holds ad m c' ws hm hc (by omega) (by omega) (growslice_fits (by omega) hby)
        · omega
      have hge := grownCap_ge w (i + m) c e
      have hcl := grownCap_le_maxLen w (i + m) c e (by simp only [maxLen]; omega)
      refine ⟨_, _, _, .inl (hrun _ _ hr), ?_, some ⟨w.heap.size, 0, none⟩, grownCap w (i + m) c e, rfl, rfl⟩
      have s3 : St G w.drew r := (s'.le (.drop _ _)).same rfl rfl rfl rfl
      have s2 := St.new (w := w.drew) (w' := w.drew.alloc (.cells ((vs.take (i * I.size)).toArray ++ ws.toArray ++ Builtin.zeroCells z.cells (grownCap w (i + m) c e - (i + m))) e)) s3 rfl rfl rfl rfl
      have hl2 : (vs.take (i * I.size) ++ ws).length = (i + m) * I.size := by rw [List.length_append, hvl, hm, Nat.add_mul]
      refine s2.le (Le.slH_intro hge hcl ?_ ?_ r)
      · simp only [Array.size_append, List.size_toArray, size_zeroCells, hz, hvl, hm, ← Nat.add_mul]
        congr 1; omega
      · simp only [Array.toList_append, List.append_assoc]
        rw [← List.append_assoc, ← hl2]; exact List.take_left
/-- A slice literal. -/
theorem Ef.buildSlice {z : Value} {bytes len : Nat} {ps : List (Nat × Operand)} {us : List Value} {cells : List Value} (ht : P.underlying t = some (.slice e)) (hi : (P.info? e).map (fun i => (i.zero, i.size, i.bytes)) = some (some z, sz, bytes))
    (hv : evl p (ps.map (·.2)) = some us) (h0 : Nat.ble (len * sz) 16777216 = true) (hn : Nat.blt 0 (len * sz) = true)
    (hf : Instr.fill (fun i => some (i * sz, sz)) ((Array.range (len * sz)).map (z.cells[· % z.cells.size]!)) ((ps.map (·.1)).zip us) = some cells.toArray) (hl : cells.length = len * sz) :
    Ef P G p q ⟨d, .buildSlice t len ps.toArray, ty, pos, af, gd⟩ fun v q' => ∃ g, v = .slice (some ⟨g, 0, none⟩) len len ∧ q' = slH (some ⟨g, 0, none⟩) len e sz len cells :: q := by
  obtain ⟨I, hI, e1, e2, e3⟩ := info_parts hi
  subst e2
  intro tm w ag s
  have h2 := evl_of ag hv
  have hps : (ps.toArray.map fun (i, x) => (i, evA tm x)).toList = (ps.map (·.1)).zip us := by
    rw [← h2]; exact zip_ev ps _
  have h0' : len * I.size ≤ 16777216 := by simpa using h0
  have hn' : 0 < len * I.size := by simpa [Nat.blt_eq] using hn
  refine ⟨.slice (some ⟨w.heap.size, 0, none⟩) len len, w.alloc (.cells cells.toArray e), _, .inl ?_, ?_, w.heap.size, rfl, rfl⟩
  · have h3 : ¬ (16777216 < len * I.size) := by omega
    have h4 : ¬ (len * I.size = 0) := by omega
    simp only [execOp, Instr.buildSlice, Sem.run_bind, run_underlying ht, Result.andThen_ok, Go.sizeOf, typeInfo, zeroValue]
    rw [hps]
    simp [hI, e1, h3, h4, hf, newRow]
  · have s2 : St G (w.alloc (.cells cells.toArray e)) (pto w.heap.size (.cells cells.toArray e (0, 0)) :: q) := s.new rfl rfl rfl rfl
    refine s2.le (Le.slH_intro (Nat.le_refl _) ?_ (by simp [hl]) (by simp [← hl]) q)
    have hs0 : 0 < I.size := Nat.pos_of_mul_pos_left hn' 
    have : len ≤ len * I.size := Nat.le_mul_of_pos_right _ hs0
    simp only [maxLen]; omega
/-- An empty slice literal: []T{}. -/
theorem Ef.buildSlice0 {z : Value} {bytes : Nat} (ht : P.underlying t = some (.slice e)) (hi : (P.info? e).map (fun i => (i.zero, i.size, i.bytes)) = some (some z, sz, bytes)) :
    Ef P G p q ⟨d, .buildSlice t 0 #[], ty, pos, af, gd⟩ fun v q' => ∃ g, v = .slice (some ⟨g, 0, none⟩) 0 0 ∧ q' = slH (some ⟨g, 0, none⟩) 0 e sz 0 [] :: q := by
  obtain ⟨I, hI, e1, e2, e3⟩ := info_parts hi
  subst e2
  intro tm w ag s
  refine ⟨.slice (some ⟨w.heap.size, 0, none⟩) 0 0, w.alloc (.cells #[] e), _, .inl ?_, ?_, w.heap.size, rfl, rfl⟩
  · simp [execOp, Instr.buildSlice, run_underlying ht, Go.sizeOf, typeInfo, hI, Instr.fill, newRow]
    congr 2
    apply Array.ext'; simp
  · have s2 : St G (w.alloc (.cells #[] e)) (pto w.heap.size (.cells #[] e (0, 0)) :: q) := s.new rfl rfl rfl rfl
    exact s2.le (Le.slH_intro (Nat.le_refl _) (by simp [maxLen]) (by simp) (by simp) q)
/-- x[:h] -/
theorem Pu.sliceHi {kd : IntKind} {h : Int} (hx : evp p x = some (.slice a n c)) (hy : evp p y = some (.int kd h)) (ht : P.underlying t = some (.slice e)) (hs : ∀ w, (Go.sizeOf e).run P w = .ok sz w) (h0 : 0 ≤ h) (h1 : h ≤ c) :
    Pu P p ⟨d, .slice t x none (some y) none, ty, pos, af, gd⟩ (.slice a h.toNat c) := fun tm w ag => by
  have hc : 0 ≤ h ∧ h ≤ (c : Int) := ⟨h0, h1⟩
  have hz : a.map (fun x : Addr => x.add 0) = a := by cases a <;> simp [Addr.add]
  simp [execOp, evA_of ag hx, evA_of ag hy, Instr.sliceAt, Instr.slice, run_underlying ht, Instr.sliceBounds, Instr.sliceBound, asIntOf, hc, hs, hz]
/-- x[l:] -/
theorem Pu.sliceLo {kd : IntKind} {l : Int} (hx : evp p x = some (.slice a n c)) (hy : evp p y = some (.int kd l)) (ht : P.underlying t = some (.slice e)) (hs : ∀ w, (Go.sizeOf e).run P w = .ok sz w) (h0 : 0 ≤ l) (h1 : l ≤ n) :
    Pu P p ⟨d, .slice t x (some y) none none, ty, pos, af, gd⟩ (.slice (sufA a c l.toNat sz) (n - l.toNat) (c - l.toNat)) := fun tm w ag => by
  have hc : 0 ≤ l ∧ l ≤ (n : Int) := ⟨h0, h1⟩
  simp [execOp, evA_of ag hx, evA_of ag hy, Instr.sliceAt, Instr.slice, run_underlying ht, Instr.sliceBounds, Instr.sliceBound, asIntOf, hc, hs, sufA]
/-! structs -/
def spl : List Value → Nat → List Value → List Value
  | l, _, [] => l
  | [], _, _ => []
  | _ :: l, 0, v :: vs => v :: spl l 0 vs
  | x :: l, n + 1, vs => x :: spl l n vs
def nthP : List (Nat × Nat) → Nat → Option (Nat × Nat)
  | [], _ => none
  | v :: _, 0 => some v
  | _ :: r, n + 1 => nthP r n
theorem nthP_eq (l : List (Nat × Nat)) (n : Nat) : nthP l n = l[n]? := by
  induction l generalizing n with
  | nil => simp [nthP]
  | cons v r ih => cases n with
    | zero => simp [nthP]
    | succ n => simp [nthP, ih]
def fillL (pl : List (Nat × Nat)) : List Value → List (Nat × Value) → Option (List Value)
  | cs, [] => some cs
  | cs, (i, v) :: r => match nthP pl i with
    | some (off, sz) => bif Nat.beq v.cells.toList.length sz && Nat.ble (off + sz) cs.length then fillL pl (spl cs off v.cells.toList) r else none
    | none => none
theorem spl_len (l : List Value) (o : Nat) (vs : List Value) : (spl l o vs).length = l.length := by
  induction l generalizing o vs with
  | nil => cases vs <;> simp [spl]
  | cons x l ih => cases vs with
    | nil => simp [spl]
    | cons v vs => cases o <;> simp [spl, ih]
theorem spl_fold (vs : List Value) : ∀ (l : List Value) (o j : Nat), (vs.zipIdx j).foldl (fun cs (c, i) => cs.setIfInBounds (o + i) c) l.toArray = (spl l (o + j) vs).toArray := by
  induction vs with
  | nil => intro l o j; simp [spl]
  | cons v vs ih =>
    intro l o j
    simp only [List.zipIdx_cons, List.foldl_cons]
    rw [List.setIfInBounds_toArray, ih]
    congr 1
    have : ∀ (l : List Value) (n : Nat), spl (l.set n v) (n + 1) vs = spl l n (v :: vs) := by
      intro l
      induction l with
      | nil => intro n; cases vs <;> simp [spl]
      | cons x l ih2 =>
        intro n
        cases n with
        | zero => cases vs with
          | nil => simp [spl]
          | cons u us => simp [spl]
        | succ n => cases vs with
          | nil => have := ih2 n; simp [spl] at this ⊢; exact this
          | cons u us => have := ih2 n; simp [spl] at this ⊢; exact this
    rw [← this l (o + j), Nat.add_assoc]
theorem fillL_fill {pl : List (Nat × Nat)} : ∀ (ps : List (Nat × Value)) {cs cells : List Value}, fillL pl cs ps = some cells → Instr.fill (pl.toArray[·]?) cs.toArray ps = some cells.toArray := by
  intro ps
  induction ps with
  | nil => intro cs cells h; simp [fillL] at h; simp [Instr.fill, h]
  | cons x r ih =>
    obtain ⟨i, v⟩ := x
    intro cs cells h
    simp only [fillL, nthP_eq] at h
    cases hp : pl[i]? with
    | none => rw [hp] at h; cases h
    | some pp =>
      obtain ⟨off, sz⟩ := pp
      rw [hp] at h
      dsimp only at h
      cases hc : (Nat.beq v.cells.toList.length sz && Nat.ble (off + sz) cs.length) with
      | false => rw [hc] at h; cases h
      | true =>
        rw [hc] at h
        simp only [cond_true] at h
        simp only [Bool.and_eq_true, Nat.beq_eq_true_eq, Nat.ble_eq] at hc
        have h1 : v.cells.size = sz := by simpa using hc.1
        have h2 : off + sz ≤ cs.length := by simpa using hc.2
        have hcond : ¬ (v.cells.size ≠ sz ∨ off + v.cells.size > cs.toArray.size) := by simp [h1]; omega
        simp only [Instr.fill, List.getElem?_toArray, hp]
        have hb : (decide (v.cells.size ≠ sz) || decide (off + v.cells.size > cs.toArray.size)) = false := by simp [h1]; omega
        rw [if_neg (by simpa using hcond)]
        have := ih h
        have hf := spl_fold v.cells.toList cs off 0
        simp only [Nat.add_zero] at hf
        rw [← hf] at this
        rw [← this]
        have e1 : (v.cells.zipIdx.foldl (fun cs (x : Value × Nat) => cs.setIfInBounds (off + x.2) x.1) cs.toArray) = (v.cells.toList.zipIdx.foldl (fun cs (x : Value × Nat) => cs.setIfInBounds (off + x.2) x.1) cs.toArray) := by
          rw [← Array.foldl_toList, Array.toList_zipIdx]
        rw [e1]
        simp only [List.getElem?_toArray]
theorem Pu.build {ps : List (Nat × Operand)} {us z cells : List Value} {fs : Array Field} (pl : List (Nat × Nat)) (hz : ∀ w, (zeroValue t).run P w = .ok (.agg z.toArray) w) (ht : P.underlying t = some (.struct fs))
    (hp : fs.toList.mapM (fun f => (P.info? f.type).map fun i => (f.offset, i.size)) = some pl) (hv : evl p (ps.map (·.2)) = some us) (hb : fillL pl z ((ps.map (·.1)).zip us) = some cells) : Pu P p ⟨d, .build t ps.toArray, ty, pos, af, gd⟩ (.agg cells.toArray) := fun tm w ag => by
  have h2 := evl_of ag hv
  have hps : (ps.toArray.map fun (i, x) => (i, evA tm x)).toList = (ps.map (·.1)).zip us := by
    rw [← h2]; exact zip_ev ps _
  have hpl := run_places (P := P) w fs.toList pl hp
  have hpl' : (fs.mapM fun f => do Pure.pure (f.offset, ← Go.sizeOf f.type) : Sem (Array (Nat × Nat))).run P w = .ok pl.toArray w := by
    have e : fs = fs.toList.toArray := by simp
    rw [e, List.mapM_toArray]
    simp only [Sem.run_map]
    have : (fun f : Field => (do Pure.pure (f.offset, ← Go.sizeOf f.type) : Sem (Nat × Nat))) = (fun f => Prod.mk f.offset <$> Go.sizeOf f.type) := by
      funext f; exact (map_eq_pure_bind _ _).symm
    rw [this, hpl]; rfl
  have hfill := fillL_fill _ hb
  simp only [execOp, Instr.build, Sem.run_bind, hz, Result.andThen_ok, run_underlying ht, hpl', Value.cells, hps, hfill]
  rfl
theorem Pu.field {l : List Value} {fs : Array Field} {k : Nat} (ft off : Nat) (hx : evp p x = some (.agg l.toArray)) (ht : P.underlying t = some (.struct fs)) (hF : (fs[k]?).map (fun F => (F.type, F.offset)) = some (ft, off)) (ha : ∀ w, (isAgg ft).run P w = .ok false w) (hv : nth l off = some v) :
    Pu P p ⟨d, .field t x k, ty, pos, af, gd⟩ v := fun tm w ag => by
  obtain ⟨F, hF', e⟩ := Option.map_eq_some_iff.1 hF
  clear hF
  simp only [Prod.mk.injEq] at e
  obtain ⟨rfl, rfl⟩ := e
  rw [nth_eq] at hv
  simp [execOp, evA_of ag hx, Instr.field, run_underlying ht, hF', asAgg, part, ha, hv]
theorem Pu.fieldA {l : List Value} {fs : Array Field} {k : Nat} (ft off : Nat) (hx : evp p x = some (.agg l.toArray)) (ht : P.underlying t = some (.struct fs)) (hF : (fs[k]?).map (fun F => (F.type, F.offset)) = some (ft, off)) (ha : ∀ w, (isAgg ft).run P w = .ok true w) (hs : ∀ w, (Go.sizeOf ft).run P w = .ok sz w) :
    Pu P p ⟨d, .field t x k, ty, pos, af, gd⟩ (.agg (Wx.sub l off sz).toArray) := fun tm w ag => by
  obtain ⟨F, hF', e⟩ := Option.map_eq_some_iff.1 hF
  clear hF
  simp only [Prod.mk.injEq] at e
  obtain ⟨rfl, rfl⟩ := e
  simp [execOp, evA_of ag hx, Instr.field, run_underlying ht, hF', asAgg, part, ha, hs, Wx.sub, List.extract]
def splice (l : List Value) (o : Nat) (vs : List Value) : List Value := l.take o ++ vs ++ l.drop (o + vs.length)
/-- A struct is stored whole. -/
theorem Ef.storeA {bk o : Nat} {l : List Value} {t' : TypeId} (hx : evp p x = some (.pointer (some ⟨bk, o, none⟩))) (hy : evp p y = some (.agg vs.toArray)) (hs : ∀ w, (Go.sizeOf t).run P w = .ok sz w)
    (hl : vs.length = sz) (h1 : vs.all (·.oneCell') = true) (hq : Le q (pto bk (.cells l.toArray t' (0, 0)) :: r)) (ho : Nat.ble (o + sz) l.length = true) :
    Ef P G p q ⟨d, .store t x y, ty, pos, af, gd⟩ fun z q' => z = undef ∧ q' = pto bk (.cells (splice l o vs).toArray t' (0, 0)) :: r :=
  fun tm w ag s => by
    have s' := s.le hq
    have hb := s'.has (Has.pto _ _ _)
    have ho' : o + vs.length ≤ l.length := by rw [hl]; simpa using ho
    have hst := run_storeCells_at P bk o t' vs 0 l.toArray w hb (by simpa using ho') (fun v hv => List.all_eq_true.1 h1 v hv)
    simp only [Nat.add_zero] at hst
    refine ⟨undef, w.setRow bk (splice l o vs).toArray, _, .inr ⟨rfl, ?_⟩, ?_, rfl, rfl⟩
    · have e1 := evA_of ag hx
      have e2 := evA_of ag hy
      simp [execOp, e1, e2, Instr.storeAt, Instr.sureAddr, storeVar, hs, Value.cells, hl, hst, splice]
    · exact s'.put (setRow_heap w bk l.toArray _ t' (0, 0) hb) (fun j hj => setRow_other w bk j _ hj) (by simp) rfl rfl rfl
/-- The object of a variable is known whole: a store into one that holds exactly this. -/
theorem splice_all (l vs : List Value) (h : vs.length = l.length) : splice l 0 vs = vs := by simp [splice, h]
end facts

/-! ### results that lie in memory -/
def LV (P : Program) (G : World) (q : List HP) (t : TypeId) (A : Addr) (v : Value) : Prop := ∀ w, St G w q → (loadVar t A).run P w = .ok v w
theorem LV.cell {P : Program} {G : World} {q : List HP} {t : TypeId} {A : Addr} {v : Value} (ht : ∀ w, (isAgg t).run P w = .ok false w) (h : Cl q A v) : LV P G q t A v := fun w s => by simp [loadVar, ht, h G w s]
theorem LV.agg {P : Program} {G : World} {q : List HP} {t : TypeId} {b o sz : Nat} {l : List Value} {t' : TypeId} {fz : Nat × Nat} (ht : ∀ w, (isAgg t).run P w = .ok true w) (hs : ∀ w, (Go.sizeOf t).run P w = .ok sz w)
    (hh : Has q b (.cells l.toArray t' fz)) (hv : Nat.ble (o + sz) l.length = true) : LV P G q t ⟨b, o, none⟩ (.agg (Wx.sub l o sz).toArray) := fun w s => by
  have hb := s.has hh
  have hv' : o + sz ≤ l.length := by simpa using hv
  have hl : (Wx.sub l o sz).length = sz := by simp [Wx.sub]; omega
  have hc := run_loadCells_list (P := P) w ⟨b, o, none⟩ (Wx.sub l o sz) (fun j u hj => by
    rw [add_addr]
    simp only [World.cell?, hb]
    simp only [Wx.sub, List.getElem?_take, List.getElem?_drop] at hj
    split at hj
    · simpa using hj
    · cases hj)
  rw [hl] at hc
  simp [loadVar, ht, hs, hc]
def ResOk (P : Program) (G : World) (p : PE) (q : List HP) : List ResultVar → List Value → Prop
  | [], [] => True
  | .tmp t :: r, v :: vs => lkp p t = some v ∧ ResOk P G p q r vs
  | .cell a t :: r, v :: vs => (∃ A, lkp p a = some (.pointer (some A)) ∧ LV P G q t A v) ∧ ResOk P G p q r vs
  | _, _ => False
def resSem (tm : Array Value) : ResultVar → Sem Value
  | .tmp t => Pure.pure (tm.getD t undef)
  | .cell a t => do loadVar t (← asAddr (tm.getD a undef))
theorem results_eq (fd : Func) (tm : Array Value) : results fd tm = (do let vs ← fd.results.mapM (resSem tm); Pure.pure (if h : vs.size = 1 then vs[0] else .tuple vs)) := rfl
theorem ResOk.run {P : Program} {G : World} {p : PE} {q : List HP} {tm : Array Value} {w : World} (ag : Agr tm p) (s : St G w q) : ∀ {rs : List ResultVar} {vs : List Value}, ResOk P G p q rs vs →
    (rs.mapM (resSem tm)).run P w = .ok vs w := by
  intro rs
  induction rs with
  | nil => intro vs h; cases vs with
    | nil => simp
    | cons => exact h.elim
  | cons x r ih =>
    intro vs h
    cases vs with
    | nil => cases x <;> exact h.elim
    | cons v vs =>
      cases x with
      | tmp t =>
        obtain ⟨h1, h2⟩ := h
        have e : (resSem tm (.tmp t)).run P w = .ok v w := by rw [resSem, ag _ _ h1]; rfl
        simp only [List.mapM_cons, Sem.run_bind, e, Result.andThen_ok, ih h2, Sem.run_pure]
      | cell a t =>
        obtain ⟨⟨A, h1, h3⟩, h2⟩ := h
        have e : (resSem tm (.cell a t)).run P w = .ok v w := by
          rw [resSem, ag _ _ h1]; simp [asAddr, h3 w s]
        simp only [List.mapM_cons, Sem.run_bind, e, Result.andThen_ok, ih h2, Sem.run_pure]
theorem resC1 {P : Program} {G : World} {p : PE} {q : List HP} {fd : Func} {r : ResultVar} {v : Value} (h : fd.results = [r].toArray) (hk : ResOk P G p q [r] [v]) (tm : Array Value) (w : World) (ag : Agr tm p) (s : St G w q) : (results fd tm).run P w = .ok v w := by
  have := hk.run ag s
  rw [results_eq, h, List.mapM_toArray]
  simp only [Sem.run_bind, Sem.run_map, this, Result.andThen_ok, Sem.run_pure]
  rfl
theorem resC {P : Program} {G : World} {p : PE} {q : List HP} {fd : Func} {r r' : ResultVar} {rs : List ResultVar} {vs : List Value} (h : fd.results = (r :: r' :: rs).toArray) (hk : ResOk P G p q (r :: r' :: rs) vs) (tm : Array Value) (w : World) (ag : Agr tm p) (s : St G w q) : (results fd tm).run P w = .ok (.tuple vs.toArray) w := by
  have := hk.run ag s
  have hl : vs.length ≠ 1 := by
    intro e
    match vs, e with
    | [v], _ => cases r <;> cases r' <;> simp [ResOk] at hk
  rw [results_eq, h, List.mapM_toArray]
  simp only [Sem.run_bind, Sem.run_map, this, Result.andThen_ok, Sem.run_pure]
  rw [dif_neg (by simpa using hl)]
end Wx
