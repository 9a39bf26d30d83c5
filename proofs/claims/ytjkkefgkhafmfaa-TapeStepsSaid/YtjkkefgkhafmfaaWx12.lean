/-
  Plain program logic, part 12: slices of structs; more operations; short rules.
-/
import Derived.Test.YtjkkefgkhafmfaaWx11
import Derived.Laws.IdiomStrings
import Derived.Laws.MakeOwn
namespace Wx
open Go Go.RowKit
set_option linter.unusedVariables false
set_option linter.unusedSimpArgs false
/-! ### lists whose elements have sz cells -/
section
variable {α : Type} {P : Program} {G : World} {fr : Fc} {Q : Post} {k : List Item} {p : PE} {ds : List Deferred} {cs : List Frame} {q q0 r : List HP} {ops lo : List Oper} {f : α → List Value} {sz ty : Nat} {a b : Option Addr} {c c' : Nat} {l m : List α}
def rsH (f : α → List Value) (sz ty : Nat) (a : Option Addr) (c : Nat) (l : List α) : HP := slH a c ty sz l.length (l.flatMap f)
def rsM (f : α → List Value) (sz ty : Nat) (a : Option Addr) (c : Nat) (l : List α) : HP := slM a c ty sz l.length (l.flatMap f)
theorem lasts_rsM (f : α → List Value) (sz ty : Nat) (a : Option Addr) (c : Nat) (l : List α) : (rsM f sz ty a c l).lasts := lasts_slM _ _ _ _ _ _
theorem flatMap_len (hf : ∀ x, (f x).length = sz) (l : List α) : (l.flatMap f).length = l.length * sz := by
  induction l with
  | nil => simp
  | cons x r ih => rw [List.flatMap_cons, List.length_append, hf, ih, List.length_cons, Nat.add_mul]; omega
theorem flatMap_take (hf : ∀ x, (f x).length = sz) (l : List α) (i : Nat) : (l.flatMap f).take (i * sz) = (l.take i).flatMap f := by
  induction l generalizing i with
  | nil => simp
  | cons x r ih =>
    cases i with
    | zero => simp
    | succ i =>
      rw [List.flatMap_cons, List.take_succ_cons, List.flatMap_cons, ← ih, Nat.add_mul, Nat.one_mul, Nat.add_comm, List.take_append, hf, List.take_of_length_le (by rw [hf]; omega)]
      congr 2; omega
theorem flatMap_drop (hf : ∀ x, (f x).length = sz) (l : List α) (i : Nat) : (l.flatMap f).drop (i * sz) = (l.drop i).flatMap f := by
  induction l generalizing i with
  | nil => simp
  | cons x r ih =>
    cases i with
    | zero => simp
    | succ i =>
      rw [List.flatMap_cons, List.drop_succ_cons, ← ih, Nat.add_mul, Nat.one_mul, Nat.add_comm, List.drop_append, hf, List.drop_of_length_le (by rw [hf]; omega)]
      simp
theorem flatMap_set (hf : ∀ x, (f x).length = sz) (l : List α) (n k : Nat) (u : α) (v : Value) (hk : k < sz) (hn : n < l.length) (hu : (f l[n]).set k v = f u) : (l.flatMap f).set (n * sz + k) v = (l.set n u).flatMap f := by
  induction l generalizing n with
  | nil => simp at hn
  | cons x r ih =>
    cases n with
    | zero =>
      rw [List.flatMap_cons, List.set_cons_zero, List.flatMap_cons, Nat.zero_mul, Nat.zero_add, List.set_append_left _ _ (by rw [hf]; exact hk)]
      simp at hu; rw [hu]
    | succ n =>
      rw [List.flatMap_cons, List.set_cons_succ, List.flatMap_cons, List.set_append_right _ _ (by rw [hf, Nat.add_mul]; omega), hf, ← ih n (by simpa using hn) (by simpa using hu)]
      congr 2; rw [Nat.add_mul]; omega
theorem Sees.rsH (q : List HP) : Sees (Wx.rsH f sz ty a c l :: q) a (l.flatMap f) := Sees.slH q
theorem Sees.rsM (q : List HP) : Sees (Wx.rsM f sz ty a c l :: q) a (l.flatMap f) := Sees.slM q
theorem X.rsFreeze {todo : List Item} (x : X P G fr Q todo p ds cs (Wx.rsM f sz ty a c l :: q)) : X P G fr Q todo p ds cs (Wx.rsH f sz ty a c l :: q) := X.slFreeze x
theorem Le.rsH_nil (f : α → List Value) (sz ty : Nat) (q : List HP) : Le q (Wx.rsH f sz ty none 0 [] :: q) := Le.slH_nil _ _ _
theorem Le.rsEq {l' : List α} (e : l = l') (q : List HP) : Le (Wx.rsH f sz ty a c l :: q) (Wx.rsH f sz ty a c l' :: q) := by subst e; exact .refl _
theorem St.rsAddr {w : World} (s : St G w (Wx.rsH f sz ty a c l :: q)) (h : 0 < l.length) : ∃ g, a = some ⟨g, 0, none⟩ := by
  obtain ⟨h0, h1 | ⟨g, cur, q1, _⟩⟩ := s.slH_elim
  · obtain ⟨_, _, h3, _⟩ := h1; omega
  · exact ⟨g, q1⟩
theorem St.rsLen {w : World} (s : St G w (Wx.rsH f sz ty a c l :: q)) : l.length ≤ c ∧ c ≤ 9223372036854775807 := by
  have := s.slLen.2
  simpa [maxLen] using this
theorem nth_lt {l : List Value} {k : Nat} {v : Value} (h : nth l k = some v) : k < l.length := by
  rw [nth_eq] at h; exact (List.getElem?_eq_some_iff.1 h).1
/-- A cell of an element. -/
theorem Cl.el {bk o n k : Nat} {j : Int} {v : Value} (h : Sees q0 (some ⟨bk, o, none⟩) (l.flatMap f)) (hq : Le q q0) (hf : ∀ x, (f x).length = sz) (hn : n < l.length) (hj : j = n) (hk : nth (f l[n]) k = some v) : Cl q ⟨bk, o + j.toNat * sz + k, none⟩ v := by
  subst hj
  have hk' := nth_lt hk
  rw [Int.toNat_natCast, Nat.add_assoc]
  refine (h.le hq).cl ?_
  rw [get_flatMap hf l n k l[n] (by rw [hf] at hk'; exact hk') (by simp [hn]), ← nth_eq]
  exact hk
theorem Cl.elp {bk o n k : Nat} {v : Value} (h : Sees q0 (some ⟨bk, o, none⟩) (l.flatMap f)) (hq : Le q q0) (hf : ∀ x, (f x).length = sz) (h0 : 0 < n) (hn : n < l.length) (hk : nth (f (l[n - 1]'(Nat.lt_of_le_of_lt (Nat.sub_le _ _) hn))) k = some v) : Cl q ⟨bk, o + ((n : Int) - 1).toNat * sz + k, none⟩ v :=
  Cl.el h hq hf _ (by omega) hk
/-- A cell of the last element. -/
theorem Cl.elz {bk o k : Nat} {v : Value} (h : Sees q0 (some ⟨bk, o, none⟩) (l.flatMap f)) (hq : Le q q0) (hf : ∀ x, (f x).length = sz) (h0 : 0 < l.length) (hk : nth (f (l[l.length - 1]'(Nat.sub_lt h0 Nat.one_pos))) k = some v) : Cl q ⟨bk, o + ((l.length : Int) - 1).toNat * sz + k, none⟩ v :=
  Cl.el h hq hf _ (by omega) hk
theorem Cl.e1z {g : α → Value} {bk o : Nat} (h : Sees q0 (some ⟨bk, o, none⟩) (l.map g)) (hq : Le q q0) (h0 : 0 < l.length) : Cl q ⟨bk, o + ((l.length : Int) - 1).toNat * 1, none⟩ (g (l[l.length - 1]'(Nat.sub_lt h0 Nat.one_pos))) := (h.le hq).at (by omega) _
/-- A cell of an element of one cell. -/
theorem Cl.e1 {g : α → Value} {bk o n : Nat} {j : Int} (h : Sees q0 (some ⟨bk, o, none⟩) (l.map g)) (hq : Le q q0) (hn : n < l.length) (hj : j = n) : Cl q ⟨bk, o + j.toNat * 1, none⟩ (g l[n]) := (h.le hq).at hj hn
theorem Cl.e1p {g : α → Value} {bk o n : Nat} (h : Sees q0 (some ⟨bk, o, none⟩) (l.map g)) (hq : Le q q0) (h0 : 0 < n) (hn : n < l.length) : Cl q ⟨bk, o + ((n : Int) - 1).toNat * 1, none⟩ (g (l[n - 1]'(Nat.lt_of_le_of_lt (Nat.sub_le _ _) hn))) := (h.le hq).at (by omega) _
theorem Cl.row {bk o n : Nat} {j : Int} (h : Sees q0 (some ⟨bk, o, none⟩) (l.flatMap f)) (hq : Le q q0) (hf : ∀ x, (f x).length = sz) (hn : n < l.length) (hj : j = n) (k : Nat) (v : Value) (hk : (f l[n])[k]? = some v) : Cl q ⟨bk, o + j.toNat * sz + k, none⟩ v :=
  Cl.el h hq hf hn hj (by rw [nth_eq]; exact hk)
section
variable {d : Option Tmp} {ty' : TypeId} {pos : String} {af : Array Edge} {gd : Option (Nat × Bool)} {x y : Operand} {t : TypeId} {z : Value} {bytes i : Nat}
theorem Rd.loadCs {A : Addr} {us : List Value} {sz : Nat} (hx : evp p x = some (.pointer (some A))) (ht : ∀ w, (isAgg t).run P w = .ok true w) (hs : ∀ w, (Go.sizeOf t).run P w = .ok sz w)
    (hl : us.length = sz) (hc : ∀ (k : Nat) (v : Value), us[k]? = some v → Cl q (A.add k) v) : Rd P G p q ⟨d, .load t x, ty', pos, af, gd⟩ (.agg us.toArray) := fun tm w ag s => by
  have hc := run_loadCells_list (P := P) w A us (fun j u hj => hc j u hj G w s)
  rw [hl] at hc
  simp [execOp, evA_of ag hx, Instr.loadAt, Instr.sureAddr, loadVar, ht, hs, hc]
/-- A whole element is loaded. -/
theorem Rd.loadS {bk o n : Nat} {j : Int} (hx : evp p x = some (.pointer (some ⟨bk, o + j.toNat * sz, none⟩))) (ht : ∀ w, (isAgg t).run P w = .ok true w) (hs : ∀ w, (Go.sizeOf t).run P w = .ok sz w)
    (h : Sees q0 (some ⟨bk, o, none⟩) (l.flatMap f)) (hf : ∀ x, (f x).length = sz) (hn : n < l.length) (hj : j = n) (hq : Le q q0) : Rd P G p q ⟨d, .load t x, ty', pos, af, gd⟩ (.agg (f l[n]).toArray) :=
  .loadCs hx ht hs (hf _) fun k v hk => by rw [add_addr]; exact Cl.row h hq hf hn hj k v hk
theorem oneCells {us : List Value} (h : us.all (·.oneCell') = true) : ∀ u ∈ us, u.oneCell' = true := fun u hu => by simpa using (List.all_eq_true.1 h) u hu
/-- append to an owned list (or to its first i elements). -/
theorem Ef.appR (ht : P.underlying t = some (.slice ty)) (hi : (P.info? ty).map (fun i => (i.zero, i.size, i.bytes)) = some (some z, sz, bytes)) (hz : z.cells.size = sz) (hsz : Nat.blt 0 sz = true) (hf : ∀ x, (f x).length = sz)
    (hx : evp p x = some (.slice a i c)) (hy : evp p y = some (.slice b m.length c')) (hq : Le q (Wx.rsH f sz ty a c l :: r)) (hin : i ≤ l.length) (hs : Sees q b (m.flatMap f)) (h1 : ∀ x, (f x).all (·.oneCell') = true)
    (h63 : i + m.length ≤ 9223372036854775807) (hby : (i + m.length) * bytes ≤ 140737488355328) :
    Ef P G p q ⟨d, .call ⟨.builtin .append, [x, y].toArray, [t, t].toArray⟩, ty', pos, af, gd⟩ fun v q' => ∃ a' c', v = .slice a' (l.take i ++ m).length c' ∧ q' = Wx.rsH f sz ty a' c' (l.take i ++ m) :: r := by
  have h := Ef.append (P := P) (G := G) (d := d) (ty := ty') (pos := pos) (af := af) (gd := gd) ht hi hz hsz hx hy hq hin hs (flatMap_len hf m) (by intro u hu; obtain ⟨w, _, hw⟩ := List.mem_flatMap.1 hu; exact oneCells (h1 w) u hw) h63 hby
  intro tm w ag s
  obtain ⟨v, w', q', h1, h2, a', c', rfl, rfl⟩ := h tm w ag s
  have hl : (l.take i ++ m).length = i + m.length := by simp; omega
  refine ⟨_, w', _, h1, ?_, a', c', by rw [hl], rfl⟩
  unfold Wx.rsH
  rw [hl, List.flatMap_append, ← flatMap_take hf]
  simpa using h2
theorem Ef.appRA (ht : P.underlying t = some (.slice ty)) (hi : (P.info? ty).map (fun i => (i.zero, i.size, i.bytes)) = some (some z, sz, bytes)) (hz : z.cells.size = sz) (hsz : Nat.blt 0 sz = true) (hf : ∀ x, (f x).length = sz)
    (hx : evp p x = some (.slice a l.length c)) (hy : evp p y = some (.slice b m.length c')) (hq : Le q (Wx.rsH f sz ty a c l :: r)) (hs : Sees q b (m.flatMap f)) (h1 : ∀ x, (f x).all (·.oneCell') = true)
    (h63 : l.length + m.length ≤ 9223372036854775807) (hby : (l.length + m.length) * bytes ≤ 140737488355328) :
    Ef P G p q ⟨d, .call ⟨.builtin .append, [x, y].toArray, [t, t].toArray⟩, ty', pos, af, gd⟩ fun v q' => ∃ a' c', v = .slice a' (l ++ m).length c' ∧ q' = Wx.rsH f sz ty a' c' (l ++ m) :: r := by
  have h := Ef.appR (P := P) (G := G) (d := d) (ty' := ty') (pos := pos) (af := af) (gd := gd) ht hi hz hsz hf hx hy hq (Nat.le_refl _) hs h1 h63 hby
  simpa using h
/-- A slice literal of one struct. -/
theorem Ef.litR1 {u : α} (f : α → List Value) (ht : P.underlying t = some (.slice ty)) (hi : (P.info? ty).map (fun i => (i.zero, i.size, i.bytes)) = some (some z, sz, bytes)) (h0 : Nat.ble sz 16777216 = true) (hn : Nat.blt 0 sz = true)
    (hf : ∀ x, (f x).length = sz) (hx : evp p x = some (.agg (f u).toArray)) :
    Ef P G p q ⟨d, .buildSlice t 1 [(0, x)].toArray, ty', pos, af, gd⟩ fun v q' => ∃ g, v = .slice (some ⟨g, 0, none⟩) 1 1 ∧ q' = Wx.rsH f sz ty (some ⟨g, 0, none⟩) 1 [u] :: q := by
  have hc : (Value.agg (f u).toArray).cells = (f u).toArray := rfl
  have key : ∀ (us : List Value) (n : Nat) (pre post : List Value), pre.length = n → post.length = us.length → (us.zipIdx n).foldl (fun cs (c, i) => cs.setIfInBounds (0 * sz + i) c) (pre ++ post).toArray = (pre ++ us).toArray := by
    intro us
    induction us with
    | nil => intro n pre post _ h; have := List.eq_nil_of_length_eq_zero h; subst this; simp
    | cons u r ih =>
      intro n pre post hp h
      obtain ⟨x, post, rfl⟩ : ∃ x l, post = x :: l := by cases post with
        | nil => cases h
        | cons x l => exact ⟨x, l, rfl⟩
      subst hp
      rw [List.zipIdx_cons, List.foldl_cons]
      have := ih (pre.length + 1) (pre ++ [u]) post (by simp) (by simpa using h)
      simp only [List.append_assoc, List.singleton_append] at this
      simpa using this
  have hfill : Instr.fill (fun i => some (i * sz, sz)) ((Array.range (1 * sz)).map (z.cells[· % z.cells.size]!)) (([(0, x)].map (·.1)).zip [Value.agg (f u).toArray]) = some (f u).toArray := by
    have := key (f u) 0 [] ((Array.range (1 * sz)).map (z.cells[· % z.cells.size]!)).toList rfl (by simp [hf])
    simp only [List.nil_append, Array.toArray_toList] at this
    simp only [List.map_cons, List.map_nil, List.zip_cons_cons, List.zip_nil_left, List.zip_nil_right, Instr.fill, hc]
    rw [if_neg (by simp [hf])]
    congr 1
    refine Eq.trans ?_ this
    simp
  have := Ef.buildSlice (P := P) (G := G) (p := p) (q := q) (d := d) (ty := ty') (pos := pos) (af := af) (gd := gd) (ps := [(0, x)]) (len := 1) ht hi (us := [.agg (f u).toArray]) (by simp [evl, hx]) (by simpa using h0) (by simpa using hn) hfill (by simp [hf])
  simpa [Wx.rsH] using this
theorem Ef.litR0 (f : α → List Value) (ht : P.underlying t = some (.slice ty)) (hi : (P.info? ty).map (fun i => (i.zero, i.size, i.bytes)) = some (some z, sz, bytes)) :
    Ef P G p q ⟨d, .buildSlice t 0 #[], ty', pos, af, gd⟩ fun v q' => ∃ g, v = .slice (some ⟨g, 0, none⟩) 0 0 ∧ q' = Wx.rsH f sz ty (some ⟨g, 0, none⟩) 0 [] :: q :=
  Ef.buildSlice0 ht hi
/-- A store into a cell of an element. -/
theorem Ef.setR {v : Value} {u : α} {n g k : Nat} {j : Int} (hx : evp p x = some (.pointer (some ⟨g, 0 + j.toNat * sz + k, none⟩))) (hy : evp p y = some v) (hsz : ∀ w, (Go.sizeOf t).run P w = .ok 1 w) (hf : ∀ x, (f x).length = sz)
    (hj : j = n) (hn : n < l.length) (hk : Nat.blt k sz = true) (hu : (f l[n]).set k v = f u) (hv : v.cells = #[v]) (h1 : v.oneCell' = true) (hq : Le q (Wx.rsH f sz ty (some ⟨g, 0, none⟩) c l :: r)) :
    Ef P G p q ⟨d, .store t x y, ty', pos, af, gd⟩ fun z q' => z = undef ∧ q' = Wx.rsH f sz ty (some ⟨g, 0, none⟩) c (l.set n u) :: r := by
  subst hj
  rw [Int.toNat_natCast, Nat.zero_add] at hx
  have hk' : k < sz := by simpa [Nat.blt_eq] using hk
  intro tm w ag s
  obtain ⟨h0, h2 | ⟨g', cur, q1, q2, q3, q4, q5, s'⟩⟩ := (s.le hq).slH_elim
  · obtain ⟨_, _, h3, _⟩ := h2; omega
  · cases q1
    have hlt : n * sz + k < l.length * sz := by
      have := Nat.mul_le_mul_right sz (show n + 1 ≤ l.length from hn)
      rw [Nat.add_mul, Nat.one_mul] at this; omega
    have hc : n * sz + k < cur.size := by rw [q4]; exact Nat.lt_of_lt_of_le hlt (Nat.mul_le_mul_right _ q2)
    obtain ⟨z, w', q', hr, hs, rfl, rfl⟩ := Ef.store (G := G) (d := d) (ty := ty') (pos := pos) (af := af) (gd := gd) (q := pto g (.cells cur.toList.toArray ty (0, 0)) :: r) hx hy hsz hv h1 (Le.here _ _) (by simpa [Nat.blt_eq] using hc) tm w ag (by simpa using s')
    refine ⟨_, w', _, hr, ?_, rfl, rfl⟩
    have hl : (l.set n u).length = l.length := by simp
    unfold Wx.rsH
    rw [hl]
    refine hs.le (Le.slH_intro q2 q3 (by simp [setl_eq, q4]) ?_ r)
    rw [setl_eq, ← flatMap_set hf l n k u v hk' hn hu, ← q5]
    simp [List.take_set]
end
/-! ### append to a list that is full: what is read alone -/
theorem Ef.appendFull {d : Option Tmp} {ty' : TypeId} {pos : String} {af : Array Edge} {gd : Option (Nat × Bool)} {x y : Operand} {t : TypeId} {e sz n m : Nat} {z : Value} {bytes : Nat} {vs ws : List Value} (ht : P.underlying t = some (.slice e)) (hi : (P.info? e).map (fun i => (i.zero, i.size, i.bytes)) = some (some z, sz, bytes)) (hz : z.cells.size = sz) (hsz : Nat.blt 0 sz = true)
    (hx : evp p x = some (.slice a n c)) (hy : evp p y = some (.slice b m c')) (hc : c < n + m) (hm0 : 0 < m) (hn0 : 0 < n) (hs : Sees q a vs) (hn : vs.length = n * sz) (hsw : Sees q b ws) (hm : ws.length = m * sz)
    (h63 : n + m ≤ 9223372036854775807) (hby : (n + m) * bytes ≤ 140737488355328) :
    Ef P G p q ⟨d, .call ⟨.builtin .append, [x, y].toArray, [t, t].toArray⟩, ty', pos, af, gd⟩ fun v q' => ∃ a' c', v = .slice a' (n + m) c' ∧ q' = slH a' c' e sz (n + m) (vs ++ ws) :: q := by
  obtain ⟨I, hI, e1, e2, e3⟩ := info_parts hi
  have hsz' : 0 < sz := by simpa [Nat.blt_eq] using hsz
  subst e2; subst e3
  intro tm w ag s
  have hev : evl p [x, y] = some [.slice a n c, .slice b m c'] := by simp [evl, hx, hy]
  have hex := exec_builtin (d := d) (ty := ty') (pos := pos) (af := af) (gd := gd) (bi := .append) (ats := [t, t].toArray) ag hev
  rw [hex]
  have hrun : ∀ v w', (Builtin.append_ #[t, t] ty' #[.slice a n c, .slice b m c']).run P w = .ok v w' → (builtin .append [t, t].toArray ty' ([x, y].toArray.map fun | .const _ => true | _ => false) [.slice a n c, .slice b m c'].toArray).run P w = .ok (.value v) w' := by
    intro v w' h; simp [builtin, h]
  rcases firstCells_sees (hs G w s) hn hsz' with ⟨h, _⟩ | ⟨ad, rfl, hcv⟩
  · omega
  rcases firstCells_sees (hsw G w s) hm hsz' with ⟨h, _⟩ | ⟨bd, rfl, hcw⟩
  · omega
  have hr := run_append_grow (P := P) w t ty' e I z ht hI e1 ad n c vs hn hcv bd m c' ws hm hcw hc (by omega) (growslice_fits hc hby)
  have hge := grownCap_ge w (n + m) c e
  have hcl := grownCap_le_maxLen w (n + m) c e (by simp only [maxLen]; omega)
  refine ⟨_, w.drew.alloc (.cells (vs.toArray ++ ws.toArray ++ Builtin.zeroCells z.cells (grownCap w (n + m) c e - (n + m))) e), _, .inl (hrun _ _ hr), ?_, some ⟨w.heap.size, 0, none⟩, grownCap w (n + m) c e, rfl, rfl⟩
  have s3 : St G w.drew q := s.same rfl rfl rfl rfl
  have s2 := St.new (w := w.drew) (w' := w.drew.alloc (.cells (vs.toArray ++ ws.toArray ++ Builtin.zeroCells z.cells (grownCap w (n + m) c e - (n + m))) e)) s3 rfl rfl rfl rfl
  have hl2 : (vs ++ ws).length = (n + m) * I.size := by rw [List.length_append, hn, hm, Nat.add_mul]
  refine s2.le (Le.slH_intro hge hcl ?_ ?_ q)
  · simp only [Array.size_append, List.size_toArray, size_zeroCells, hz, hn, hm, ← Nat.add_mul]
    congr 1; omega
  · simp only [Array.toList_append, List.append_assoc]
    rw [← List.append_assoc, ← hl2]; exact List.take_left
end
/-! ### a slice that is owned, or full and lasting -/
def orH (A B : HP) : HP := ⟨fun M h => A.p M h ∨ B.p M h, fun e e' p => p.imp (A.mono e e') (B.mono e e')⟩
theorem Le.orl (A B : HP) (q : List HP) : Le (A :: q) (orH A B :: q) := .one fun _ _ p => .inl p
theorem Le.orr (A B : HP) (q : List HP) : Le (B :: q) (orH A B :: q) := .one fun _ _ p => .inr p
theorem St.or_elim {G w : World} {A B : HP} {q : List HP} (s : St G w (orH A B :: q)) : St G w (A :: q) ∨ St G w (B :: q) := by
  obtain ⟨b, M, k, a, c, d, e, f, h₁, h₂, i, j, l, p | p, q⟩ := s
  · exact .inl ⟨b, M, k, a, c, d, e, f, h₁, h₂, i, j, l, p, q⟩
  · exact .inr ⟨b, M, k, a, c, d, e, f, h₁, h₂, i, j, l, p, q⟩
/-! ### bits -/
section
variable {P : Program} {G : World} {p : PE} {q : List HP} {d : Option Tmp} {ty : TypeId} {pos : String} {af : Array Edge} {gd : Option (Nat × Bool)} {x y : Operand} {kd ky : IntKind} {m n : Int} {t t' : TypeId}
theorem Pu.and (hx : evp p x = some (.int kd m)) (hy : evp p y = some (.int kd n)) : Pu P p ⟨d, .binOp .and t x y t', ty, pos, af, gd⟩ (.int kd (kd.wrap ((BitVec.ofInt kd.bits m &&& BitVec.ofInt kd.bits n).toNat : Int))) := .int hx hy (fun w => by simp [Go.binOp, Op.intBits])
theorem Pu.or (hx : evp p x = some (.int kd m)) (hy : evp p y = some (.int kd n)) : Pu P p ⟨d, .binOp .or t x y t', ty, pos, af, gd⟩ (.int kd (kd.wrap ((BitVec.ofInt kd.bits m ||| BitVec.ofInt kd.bits n).toNat : Int))) := .int hx hy (fun w => by simp [Go.binOp, Op.intBits])
theorem Pu.shl (hx : evp p x = some (.int kd m)) (hy : evp p y = some (.int ky n)) (h0 : 0 ≤ n) : Pu P p ⟨d, .binOp .shl t x y t', ty, pos, af, gd⟩ (.int kd (kd.wrap (m * 2 ^ min n.toNat kd.bits))) :=
  fun tm w ag => by
    have h1 : ¬ n < 0 := by omega
    simp [execOp, evA_of ag hx, evA_of ag hy, eqGuard, Go.binOp, Op.shift, h1]
/-! strings -/
theorem Pu.eqlS {a b : ByteArray} (hx : evp p x = some (.string a)) (hy : evp p y = some (.string b)) : Pu P p ⟨d, .binOp .eql t x y t', ty, pos, af, gd⟩ (.bool (a.toList == b.toList)) := fun tm w ag => by
  simp [execOp, evA_of ag hx, evA_of ag hy, eqGuard, Go.binOp, Op.stringOp]
theorem Pu.neqS {a b : ByteArray} (hx : evp p x = some (.string a)) (hy : evp p y = some (.string b)) : Pu P p ⟨d, .binOp .neq t x y t', ty, pos, af, gd⟩ (.bool !(a.toList == b.toList)) := fun tm w ag => by
  simp [execOp, evA_of ag hx, evA_of ag hy, eqGuard, Go.binOp, Op.stringOp]
theorem Pu.lenS {s : ByteArray} {ats : List TypeId} (hx : evp p x = some (.string s)) (ht : P.underlying t = some .string) : Pu P p ⟨d, .call ⟨.builtin .len, [x].toArray, (t :: ats).toArray⟩, ty, pos, af, gd⟩ (.int .i64 s.size) :=
  fun tm w ag => by simp [execOp, resolve, invoke, builtin, evA_of ag hx, Builtin.len_, run_underlying ht, goInt]
/-- The bytes of a slice as a string: a list of bytes. -/
def Byt (l : List Int) : List Value := l.map (Value.int .u8)
def bstr (l : List Int) : ByteArray := ⟨(l.map fun n => UInt8.ofNat n.toNat).toArray⟩
theorem Rd.toStr {s e : TypeId} {a : Option Addr} {c : Nat} {l : List Int} {q0 : List HP} (hx : evp p x = some (.slice a l.length c)) (hs : P.underlying s = some (.slice e)) (he : P.underlying e = some (.int .u8)) (ht : P.underlying t = some .string)
    (h : Sees q0 a (l.map (Value.int .u8))) (hq : Le q q0) : Rd P G p q ⟨d, .convert s t x, ty, pos, af, gd⟩ (.string (bstr l)) := fun tm w ag st => by
  have h' := (h.le hq) G w st
  have hb : bstr l = (l.map fun n => n).foldl (fun r n => r.push (UInt8.ofNat n.toNat)) ByteArray.empty := by
    have : ∀ (l : List Int) (r : ByteArray), l.foldl (fun r n => r.push (UInt8.ofNat n.toNat)) r = ⟨r.data ++ (l.map fun n => UInt8.ofNat n.toNat).toArray⟩ := by
      intro l
      induction l with
      | nil => intro r; simp
      | cons n l ih => intro r; rw [List.foldl_cons, ih]; simp [ByteArray.push]
    rw [List.map_id', this]; simp [bstr, ByteArray.empty, ByteArray.emptyWithCapacity]; rfl
  cases l with
  | nil =>
    cases a with
    | none => rw [hb]; simp [execOp, evA_of ag hx, convert, run_underlying hs, run_underlying ht, run_underlying he, Conv.bytesToString]
    | some a =>
      have hl := run_loadCells_list (P := P) w a [] (by simp)
      rw [hb]
      simp only [execOp, evA_of ag hx]
      have hl' : (loadCells a 0).run P w = .ok #[] w := by simpa using hl
      simp [convert, run_underlying hs, run_underlying ht, run_underlying he]
      rw [run_bytesToString w a 0 c [] (by simpa using hl)]
      simp
  | cons n0 r =>
    obtain ⟨b, o, ha, _⟩ := h' 0 _ rfl
    subst ha
    have hl := run_loadCells_list (P := P) w ⟨b, o, none⟩ ((n0 :: r).map (Value.int .u8)) (fun j v hj => by
      obtain ⟨b', o', e', hc⟩ := h' j v hj
      cases e'; rw [add_addr]; exact hc)
    rw [hb]
    simp only [execOp, evA_of ag hx, convert, Sem.run_bind, run_underlying hs, run_underlying ht, Result.andThen_ok, run_underlying he]
    rw [run_bytesToString w ⟨b, o, none⟩ _ c (n0 :: r) (by simpa using hl)]
    simp
end
end Wx
