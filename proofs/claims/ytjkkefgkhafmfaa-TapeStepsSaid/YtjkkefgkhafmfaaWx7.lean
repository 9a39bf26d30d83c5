/-
  Plain program logic, part 7: slices as lists (elements of one cell).
-/
import Derived.Test.YtjkkefgkhafmfaaWx6
namespace Wx
open Go Go.RowKit
set_option linter.unusedVariables false
set_option linter.unusedSimpArgs false
variable {α : Type}
/-- The slice '.slice a l.length c' is owned and reads as the list l. -/
def lsH (f : α → Value) (ty : TypeId) (a : Option Addr) (c : Nat) (l : List α) : HP := slH a c ty 1 l.length (l.map f)
/-- The same, lasting. -/
def lsM (f : α → Value) (ty : TypeId) (a : Option Addr) (c : Nat) (l : List α) : HP := slM a c ty 1 l.length (l.map f)
theorem lasts_lsM (f : α → Value) (ty : TypeId) (a : Option Addr) (c : Nat) (l : List α) : (lsM f ty a c l).lasts := lasts_slM _ _ _ _ _ _
section
variable {P : Program} {G : World} {fr : Fc} {Q : Post} {k : List Item} {p : PE} {ds : List Deferred} {cs : List Frame} {q r : List HP} {ops lo : List Oper} {f : α → Value} {ty : TypeId} {a b : Option Addr} {c c' : Nat} {l m : List α}
theorem Sees.lsH (q : List HP) : Sees (lsH f ty a c l :: q) a (l.map f) := Sees.slH q
theorem Sees.lsM (q : List HP) : Sees (Wx.lsM f ty a c l :: q) a (l.map f) := Sees.slM q
theorem X.lsFreeze {todo : List Item} (x : X P G fr Q todo p ds cs (Wx.lsM f ty a c l :: q)) : X P G fr Q todo p ds cs (Wx.lsH f ty a c l :: q) := .slFreeze x
theorem XO.lsFreeze (x : XO P G fr Q ops.toArray k lo p ds cs (Wx.lsM f ty a c l :: q)) : XO P G fr Q ops.toArray k lo p ds cs (Wx.lsH f ty a c l :: q) := .slFreeze x
theorem Le.lsH_nil (f : α → Value) (ty : TypeId) (q : List HP) : Le q (Wx.lsH f ty none 0 [] :: q) := Le.slH_nil ty 1 q
/-- A nil slice lasts. -/
theorem Le.lsM_nil (f : α → Value) (ty : TypeId) (q : List HP) : Le q (Wx.lsM f ty none 0 [] :: q) :=
  fun M h p => ⟨fun _ => none, h, fun _ => .inl rfl, fun _ _ e => by simp at e, .refl _, ⟨by simp, .inl ⟨rfl, rfl, rfl⟩⟩, p⟩
/-- The element number n, at the address that the walk reckons. -/
theorem Sees.at {bk o n : Nat} {j : Int} (h : Sees q (some ⟨bk, o, none⟩) (l.map f)) (hj : j = n) (hn : n < l.length) : Cl q ⟨bk, o + j.toNat * 1, none⟩ (f l[n]) := by
  subst hj
  rw [Int.toNat_natCast, Nat.mul_one]
  exact h.cl (by simp [hn])
theorem Ef.appL {d : Option Tmp} {ty' : TypeId} {pos : String} {af : Array Edge} {gd : Option (Nat × Bool)} {x y : Operand} {t : TypeId} {z : Value} {bytes i : Nat} (ht : P.underlying t = some (.slice ty)) (hi : (P.info? ty).map (fun i => (i.zero, i.size, i.bytes)) = some (some z, 1, bytes)) (hz : z.cells.size = 1)
    (hx : evp p x = some (.slice a i c)) (hy : evp p y = some (.slice b m.length c')) (hq : Le q (Wx.lsH f ty a c l :: r)) (hin : i ≤ l.length) (hs : Sees q b (m.map f)) (h1 : ∀ u, (f u).oneCell' = true)
    (h63 : i + m.length ≤ 9223372036854775807) (hby : (i + m.length) * bytes ≤ 140737488355328) :
    Ef P G p q ⟨d, .call ⟨.builtin .append, [x, y].toArray, [t, t].toArray⟩, ty', pos, af, gd⟩ fun v q' => ∃ a' c', v = .slice a' (l.take i ++ m).length c' ∧ q' = Wx.lsH f ty a' c' (l.take i ++ m) :: r := by
  have h := Ef.append (P := P) (G := G) (d := d) (ty := ty') (pos := pos) (af := af) (gd := gd) ht hi hz rfl hx hy hq hin hs (by simp) (by intro u hu; obtain ⟨w, _, rfl⟩ := List.mem_map.1 hu; exact h1 w) h63 hby
  intro tm w ag s
  obtain ⟨v, w', q', h1, h2, a', c', rfl, rfl⟩ := h tm w ag s
  have hl : (l.take i ++ m).length = i + m.length := by simp; omega
  refine ⟨_, w', _, h1, ?_, a', c', by rw [hl], rfl⟩
  unfold Wx.lsH
  rw [hl, List.map_append, List.map_take]
  simpa using h2
theorem Ef.appA {d : Option Tmp} {ty' : TypeId} {pos : String} {af : Array Edge} {gd : Option (Nat × Bool)} {x y : Operand} {t : TypeId} {z : Value} {bytes : Nat} (ht : P.underlying t = some (.slice ty)) (hi : (P.info? ty).map (fun i => (i.zero, i.size, i.bytes)) = some (some z, 1, bytes)) (hz : z.cells.size = 1)
    (hx : evp p x = some (.slice a l.length c)) (hy : evp p y = some (.slice b m.length c')) (hq : Le q (Wx.lsH f ty a c l :: r)) (hs : Sees q b (m.map f)) (h1 : ∀ u, (f u).oneCell' = true)
    (h63 : l.length + m.length ≤ 9223372036854775807) (hby : (l.length + m.length) * bytes ≤ 140737488355328) :
    Ef P G p q ⟨d, .call ⟨.builtin .append, [x, y].toArray, [t, t].toArray⟩, ty', pos, af, gd⟩ fun v q' => ∃ a' c', v = .slice a' (l ++ m).length c' ∧ q' = Wx.lsH f ty a' c' (l ++ m) :: r := by
  have h := Ef.appL (P := P) (G := G) (d := d) (ty' := ty') (pos := pos) (af := af) (gd := gd) ht hi hz hx hy hq (Nat.le_refl _) hs h1 h63 hby
  simpa using h
/-- A slice literal of one element. -/
theorem Ef.lit1 {d : Option Tmp} {ty' : TypeId} {pos : String} {af : Array Edge} {gd : Option (Nat × Bool)} {x : Operand} {t : TypeId} {z : Value} {bytes : Nat} {u : α} (f : α → Value) (ht : P.underlying t = some (.slice ty)) (hi : (P.info? ty).map (fun i => (i.zero, i.size, i.bytes)) = some (some z, 1, bytes))
    (hx : evp p x = some (f u)) (h1 : (f u).cells = #[f u]) :
    Ef P G p q ⟨d, .buildSlice t 1 [(0, x)].toArray, ty', pos, af, gd⟩ fun v q' => ∃ g, v = .slice (some ⟨g, 0, none⟩) 1 1 ∧ q' = Wx.lsH f ty (some ⟨g, 0, none⟩) 1 [u] :: q := by
  have hf : Instr.fill (fun i => some (i * 1, 1)) ((Array.range (1 * 1)).map (z.cells[· % z.cells.size]!)) (([(0, x)].map (·.1)).zip [f u]) = some [f u].toArray := by
    simp [Instr.fill, h1, Array.range]
    rfl
  exact Ef.buildSlice ht hi (us := [f u]) (by simp [evl, hx]) rfl rfl hf rfl
theorem Ef.lit0 {d : Option Tmp} {ty' : TypeId} {pos : String} {af : Array Edge} {gd : Option (Nat × Bool)} {t : TypeId} {z : Value} {bytes : Nat} (f : α → Value) (ht : P.underlying t = some (.slice ty)) (hi : (P.info? ty).map (fun i => (i.zero, i.size, i.bytes)) = some (some z, 1, bytes)) :
    Ef P G p q ⟨d, .buildSlice t 0 #[], ty', pos, af, gd⟩ fun v q' => ∃ g, v = .slice (some ⟨g, 0, none⟩) 0 0 ∧ q' = Wx.lsH f ty (some ⟨g, 0, none⟩) 0 [] :: q :=
  Ef.buildSlice0 ht hi
theorem St.lsAddr {w : World} (s : St G w (Wx.lsH f ty a c l :: q)) (h : 0 < l.length) : ∃ g, a = some ⟨g, 0, none⟩ := by
  obtain ⟨h0, h1 | ⟨g, cur, q1, _⟩⟩ := s.slH_elim
  · obtain ⟨_, _, h3, _⟩ := h1; omega
  · exact ⟨g, q1⟩
theorem St.lsLen {w : World} (s : St G w (Wx.lsH f ty a c l :: q)) : l.length ≤ c ∧ c ≤ 9223372036854775807 := by
  have := s.slLen.2
  simpa [maxLen] using this
/-- A store into an element. -/
theorem Ef.setL {d : Option Tmp} {ty' : TypeId} {pos : String} {af : Array Edge} {gd : Option (Nat × Bool)} {x y : Operand} {t : TypeId} {u : α} {n g : Nat} {j : Int} (hx : evp p x = some (.pointer (some ⟨g, 0 + j.toNat * 1, none⟩))) (hy : evp p y = some (f u)) (hsz : ∀ w, (Go.sizeOf t).run P w = .ok 1 w)
    (hj : j = n) (hn : n < l.length) (hv : (f u).cells = #[f u]) (h1 : (f u).oneCell' = true) (hq : Le q (Wx.lsH f ty (some ⟨g, 0, none⟩) c l :: r)) :
    Ef P G p q ⟨d, .store t x y, ty', pos, af, gd⟩ fun z q' => z = undef ∧ q' = Wx.lsH f ty (some ⟨g, 0, none⟩) c (l.set n u) :: r := by
  subst hj
  rw [Int.toNat_natCast, Nat.mul_one, Nat.zero_add] at hx
  intro tm w ag s
  obtain ⟨h0, h2 | ⟨g', cur, q1, q2, q3, q4, q5, s'⟩⟩ := (s.le hq).slH_elim
  · obtain ⟨_, _, h3, _⟩ := h2; omega
  · cases q1
    have hc : n < cur.size := by rw [q4]; omega
    obtain ⟨z, w', q', hr, hs, rfl, rfl⟩ := Ef.store (G := G) (d := d) (ty := ty') (pos := pos) (af := af) (gd := gd) (q := pto g (.cells cur.toList.toArray ty (0, 0)) :: r) hx hy hsz hv h1 (Le.here _ _) (by simpa [Nat.blt_eq] using hc) tm w ag (by simpa using s')
    refine ⟨_, w', _, hr, ?_, rfl, rfl⟩
    have hl : (l.set n u).length = l.length := by simp
    unfold Wx.lsH
    rw [hl]
    refine hs.le (Le.slH_intro q2 q3 (by simp [setl_eq, q4]) ?_ r)
    rw [setl_eq, List.map_set, ← q5]
    simp [List.take_set]
/-- A struct field whose slice: the list's first elements are kept, and so on: to turn a list by an equation. -/
theorem Le.lsEq {l' : List α} (e : l = l') (q : List HP) : Le (Wx.lsH f ty a c l :: q) (Wx.lsH f ty a c l' :: q) := by subst e; exact .refl _
end
/-! ### a contract at other chunks -/
theorem Le.append_right {a b : List HP} (h : Le a b) (F : List HP) : Le (a ++ F) (b ++ F) :=
  ((Le.stars_in a F).trans (.one fun M x p => h M x p)).trans (Le.stars_out b F)
section
variable {P : Program} {G : World} {pre pre' : List HP} {vs : List Value} {R R' : Spec}
theorem CallV.conv {fv : Value} (hp : Le pre pre') (h : CallV P G fv vs pre' R) (hr : ∀ e q, R e q → ∃ q', R' e q' ∧ Le q q') : CallV P G fv vs pre R' := by
  intro F w s fr cs hm ho
  obtain ⟨e, w', ⟨q, hR, hs⟩, rest⟩ := h F w (s.le (hp.append_right F)) fr cs hm ho
  obtain ⟨q', hR', hl⟩ := hr e q hR
  exact ⟨e, w', ⟨q', hR', hs.le (hl.append_right F)⟩, rest⟩
theorem CallF.conv {fn : FuncId} (hp : Le pre pre') (h : CallF P G fn vs pre' R) (hr : ∀ e q, R e q → ∃ q', R' e q' ∧ Le q q') : CallF P G fn vs pre R' := by
  intro F w s cs
  obtain ⟨e, w', fr, ⟨hne, q, hR, hs⟩, rest⟩ := h F w (s.le (hp.append_right F)) cs
  obtain ⟨q', hR', hl⟩ := hr e q hR
  exact ⟨e, w', fr, ⟨hne, q', hR', hs.le (hl.append_right F)⟩, rest⟩
/-- More chunks beside. -/
theorem CallF.frame {fn : FuncId} (H : List HP) {R₀ : Value → List HP → Prop} (h : CallF P G fn vs pre (Ret R₀)) : CallF P G fn vs (pre ++ H) (Ret fun v q => ∃ q₀, R₀ v q₀ ∧ q = q₀ ++ H) := by
  intro F w s cs
  obtain ⟨e, w', fr, ⟨hne, q, ⟨v, hv, hR⟩, hs⟩, rest⟩ := h (H ++ F) w (by rwa [← List.append_assoc]) cs
  exact ⟨e, w', fr, ⟨hne, q ++ H, ⟨v, hv, q, hR, rfl⟩, by rwa [List.append_assoc]⟩, rest⟩
end
end Wx
