/-
  Plain program logic, part 42: bytes of strings; what is known of lasting memory.
-/
import Derived.Test.YtbeeplmgcdnadaaDoorWe
set_option linter.unusedVariables false
set_option linter.unusedSimpArgs false
namespace Wx
open Go Go.RowKit
set_option linter.unusedVariables false
/-! ### strings -/
abbrev Bs := List UInt8
def bs (s : ByteArray) : Bs := s.data.toList
def ba (l : Bs) : ByteArray := ⟨l.toArray⟩
def em : ByteArray := ⟨#[]⟩
theorem bs_ba (l : Bs) : bs (ba l) = l := rfl
theorem ba_bs (s : ByteArray) : ba (bs s) = s := by cases s; rfl
theorem bs_size (s : ByteArray) : (bs s).length = s.size := rfl
theorem sbeq (a b : ByteArray) : (a.toList == b.toList) = (bs a == bs b) := by rw [ByteArray.toList_eq, ByteArray.toList_eq]; rfl
def s8 (s : ByteArray) (n : Nat) : Int := (((bs s).getD n 0).toNat : Int)
section
variable {P : Program} {p : PE} {d : Option Tmp} {ty : TypeId} {pos : String} {af : Array Edge} {gd : Option (Nat × Bool)} {x y z : Operand} {t : TypeId} {kd kd' : IntKind} {s : ByteArray} {i j : Int}
theorem Pu.indexS (hx : evp p x = some (.string s)) (hy : evp p y = some (.int kd i)) (ht : P.underlying t = some .string) (h0 : 0 ≤ i) (h1 : i.toNat < s.size) : Pu P p ⟨d, .index t x y, ty, pos, af, gd⟩ (.int .u8 (s8 s i.toNat)) := fun tm w ag => by
  have e : s[i.toNat]? = some s[i.toNat] := getElem?_pos s i.toNat h1
  have e2 : s8 s i.toNat = (s[i.toNat].toNat : Int) := by
    have h1' : i.toNat < s.data.toList.length := h1
    unfold s8 bs
    have h3 : s.data.toList[i.toNat]? = some s.data.toList[i.toNat] := List.getElem?_eq_getElem h1'
    unfold List.getD
    rw [h3]; rfl
  rw [e2]
  simp [execOp, evA_of ag hx, evA_of ag hy, Instr.index, asIntOf, run_underlying ht, h0, e]
theorem Pu.sliceS (hx : evp p x = some (.string s)) (hy : evp p y = some (.int kd i)) (hz : evp p z = some (.int kd' j)) (ht : P.underlying t = some .string) (h0 : 0 ≤ i) (h1 : i ≤ j) (h2 : j.toNat ≤ s.size) : Pu P p ⟨d, .slice t x (some y) (some z) none, ty, pos, af, gd⟩ (.string (s.extract i.toNat j.toNat)) := fun tm w ag => by
  have h3 : 0 ≤ j ∧ j ≤ (s.size : Int) := ⟨by omega, by omega⟩
  have h4 : 0 ≤ i ∧ i ≤ (j.toNat : Int) := ⟨h0, by omega⟩
  simp [execOp, evA_of ag hx, evA_of ag hy, evA_of ag hz, Instr.sliceAt, Instr.slice, Instr.sliceBounds, Instr.sliceBound, asIntOf, run_underlying ht, h3, h4]
  intro h; omega
end
theorem bs_extract (s : ByteArray) (i j : Nat) : bs (s.extract i j) = ((bs s).drop i).take (j - i) := by
  simp [bs, ByteArray.data_extract, Array.toList_extract, List.extract_eq_take_drop]
/-! ### what is known of lasting memory -/
def Kn (q : List HP) (φ : Hp → Prop) : Prop := ∀ M h, (stars q).p M h → φ M
def lst (φ : Hp → Prop) (mono : ∀ {M M' : Hp}, Hle M M' → φ M → φ M') : HP := ⟨fun M _ => φ M, fun e _ p => mono e p⟩
section
variable {P : Program} {G w : World} {f : Fc} {Q : Post} {ops : List Oper} {k : List Item} {l : List Oper} {p : PE} {ds : List Deferred} {cs : List Frame} {q q0 : List HP} {φ ψ : Hp → Prop} {mn : ∀ {M M' : Hp}, Hle M M' → φ M → φ M'} {A : HP}
theorem Kn.le (h : Kn q0 φ) (k : Le q q0 := by exact leA) : Kn q φ := fun M x p => h M x (k M x p)
theorem Kn.here : Kn (lst φ mn :: q) φ := fun _ _ ⟨_, _, _, _, _, p, _⟩ => p
theorem Kn.there (h : Kn q φ) : Kn (A :: q) φ := h.le (Le.drop A q)
theorem Kn.imp (h : Kn q φ) (k : ∀ M, φ M → ψ M) : Kn q ψ := fun M x p => k M (h M x p)
theorem Kn.and (h : Kn q φ) (k : Kn q ψ) : Kn q fun M => φ M ∧ ψ M := fun M x p => ⟨h M x p, k M x p⟩
theorem Kn.add (h : Kn q φ) : Le q (lst φ mn :: q) := fun M x p => ⟨fun _ => none, x, fun _ => .inl rfl, fun _ _ e => by simp at e, .refl _, h M x p, p⟩
theorem Kn.sees {a : Option Addr} {vs : List Value} (h : Kn q fun M => SeesM M a vs) : Sees q a vs := by
  rintro G w ⟨_, M, x, x1, _, _, _, _, p⟩ i u hu
  obtain ⟨b, o, cur, ty, z, e1, e2, e3⟩ := h M x p i u hu
  have e4 : w.heap[b]? = some (.cells cur ty z) := x1 _ _ e2
  exact ⟨b, o, e1, by simp [World.cell?, e4, e3]⟩
theorem Kn.fact {χ : Prop} (h : Kn q φ) (k : ∀ M, φ M → χ) (s : St G w q) : χ := let ⟨_, M, x, _, _, _, _, _, p⟩ := s; k M (h M x p)
theorem knA {m : ∀ {M M' : Hp}, Hle M M' → φ M → φ M'} (h : Le q (lst φ m :: q0) := by exact fndA) : Kn q φ := Kn.here.le h
theorem lasts_lst : (lst φ mn).lasts := fun _ _ p => p
/-- A slice's cells, and how many there are. -/
def SlAt (M : Hp) (a : Option Addr) (c n : Nat) (vs : List Value) : Prop := n ≤ c ∧ c ≤ maxLen ∧ SeesM M a vs
theorem SlAt.mono {M M' : Hp} {a : Option Addr} {c n : Nat} {vs : List Value} (e : Hle M M') (h : SlAt M a c n vs) : SlAt M' a c n vs := ⟨h.1, h.2.1, h.2.2.mono e⟩
theorem slP.at {a : Option Addr} {c ty sz n : Nat} {vs : List Value} {M : Hp} (p : slP a c ty sz n vs M) : SlAt M a c n vs := by
  have hs := slP.seesM p
  refine ⟨?_, ?_, hs⟩
  · rcases p.2 with ⟨_, rfl, h⟩ | ⟨g, cur, q1, q2, q3, q4, q5, q6⟩
    · rw [h]; exact Nat.le_refl _
    · exact q2
  · rcases p.2 with ⟨_, rfl, h⟩ | ⟨g, cur, q1, q2, q3, q4, q5, q6⟩
    · simp [maxLen]
    · exact q3
theorem SlAt.nil (M : Hp) : SlAt M none 0 0 [] := ⟨Nat.le_refl _, by simp [maxLen], fun i u h => by simp at h⟩
theorem Kn.slM {a : Option Addr} {c ty sz n : Nat} {vs : List Value} : Kn (slM a c ty sz n vs :: q) fun M => SlAt M a c n vs := fun _ _ ⟨_, _, _, _, _, p, _⟩ => slP.at p
/-- A list that is owned is let go for good: what is known of it then. -/
theorem frz {a : Option Addr} {c ty sz n : Nat} {vs : List Value} (hq : Le q (slH a c ty sz n vs :: q0) := by exact fndA) (h : Kn (lst (fun M => SlAt M a c n vs) SlAt.mono :: q0) φ) (s : St G w q) : St G w (lst φ mn :: q0) := by
  have s1 := (s.le hq).slFreeze
  have s2 := s1.le (Kn.add (mn := SlAt.mono) Kn.slM)
  have s3 := s2.le (Le.trans (Le.swap _ _ _) (Le.drop _ _))
  exact (s3.le (Kn.add h)).le (Le.trans (Le.swap _ _ _) (Le.drop _ _))
theorem X.frz {todo : List Item} {a : Option Addr} {c ty sz n : Nat} {vs : List Value} (h : Kn (lst (fun M => SlAt M a c n vs) SlAt.mono :: q0) φ) (x : X P G f Q todo p ds cs (lst φ mn :: q0)) (hq : Le q (slH a c ty sz n vs :: q0) := by exact fndA) : X P G f Q todo p ds cs q := .turn (fun w => Wx.frz hq h) x
theorem XO.frz {a : Option Addr} {c ty sz n : Nat} {vs : List Value} (h : Kn (lst (fun M => SlAt M a c n vs) SlAt.mono :: q0) φ) (x : XO P G f Q ops.toArray k l p ds cs (lst φ mn :: q0)) (hq : Le q (slH a c ty sz n vs :: q0) := by exact fndA) : XO P G f Q ops.toArray k l p ds cs q := .turn (fun w => Wx.frz hq h) x
theorem XD.turn {pk : PE} {m : Nat} {done : List Nat} {q' : List HP} (h : ∀ w, St G w q → St G w q') (x : XD P G f Q l k pk [] m done p ds cs q') : XD P G f Q l k pk [] m done p ds cs q := fun a b tm w hn ag s hs => x a b tm w hn ag (h w s) hs
end
end Wx

/-
  Plain program logic, part 43: literals of two structs; lists of structs let go for good.
-/
namespace Wx
open Go Go.RowKit
set_option linter.unusedVariables false
section
variable {α : Type} {P : Program} {G : World} {fr : Fc} {Q : Post} {k : List Item} {p : PE} {ds : List Deferred} {cs : List Frame} {q q0 r : List HP} {ops lo : List Oper} {f : α → List Value} {sz ty : Nat} {a b : Option Addr} {c c' : Nat} {l m : List α}
section
variable {d : Option Tmp} {ty' : TypeId} {pos : String} {af : Array Edge} {gd : Option (Nat × Bool)} {x y : Operand} {t : TypeId} {z : Value} {bytes i : Nat}
theorem fill_row (off : Nat) : ∀ (us : List Value) (n : Nat) (pre post : List Value), pre.length = off + n → us.length ≤ post.length → (us.zipIdx n).foldl (fun cs (c, i) => cs.setIfInBounds (off + i) c) (pre ++ post).toArray = (pre ++ us ++ post.drop us.length).toArray := by
  intro us
  induction us with
  | nil => intro n pre post _ h; simp
  | cons u r ih =>
    intro n pre post hp h
    obtain ⟨x, post, rfl⟩ : ∃ x l, post = x :: l := by cases post with
      | nil => cases h
      | cons x l => exact ⟨x, l, rfl⟩
    rw [List.zipIdx_cons, List.foldl_cons]
    have := ih (n + 1) (pre ++ [u]) post (by simp; omega) (by simpa using h)
    simp only [List.append_assoc, List.singleton_append] at this
    simpa [← hp] using this
/-- A slice literal of two structs. -/
theorem Ef.litR2 {u v : α} (f : α → List Value) (ht : P.underlying t = some (.slice ty)) (hi : (P.info? ty).map (fun i => (i.zero, i.size, i.bytes)) = some (some z, sz, bytes)) (h0 : Nat.ble (2 * sz) 16777216 = true) (hn : Nat.blt 0 sz = true)
    (hf : ∀ x, (f x).length = sz) (hx : evp p x = some (.agg (f u).toArray)) (hy : evp p y = some (.agg (f v).toArray)) :
    Ef P G p q ⟨d, .buildSlice t 2 [(0, x), (1, y)].toArray, ty', pos, af, gd⟩ fun w q' => ∃ g, w = .slice (some ⟨g, 0, none⟩) 2 2 ∧ q' = Wx.rsH f sz ty (some ⟨g, 0, none⟩) 2 [u, v] :: q := by
  have hc : ∀ u, (Value.agg (f u).toArray).cells = (f u).toArray := fun _ => rfl
  have hfill : Instr.fill (fun i => some (i * sz, sz)) ((Array.range (2 * sz)).map (z.cells[· % z.cells.size]!)) (([(0, x), (1, y)].map (·.1)).zip [Value.agg (f u).toArray, Value.agg (f v).toArray]) = some (f u ++ f v).toArray := by
    obtain ⟨A, hA, hl⟩ : ∃ A : List Value, (Array.range (2 * sz)).map (z.cells[· % z.cells.size]!) = A.toArray ∧ A.length = 2 * sz := ⟨((Array.range (2 * sz)).map (z.cells[· % z.cells.size]!)).toList, Array.toArray_toList.symm, by rw [Array.length_toList, Array.size_map, Array.size_range]⟩
    have k1 := fill_row (0 * sz) (f u) 0 [] A (by simp) (by rw [hf]; omega)
    have k2 := fill_row (1 * sz) (f v) 0 (f u) (A.drop (f u).length) (by rw [hf]; omega) (by rw [List.length_drop, hf, hf]; omega)
    rw [List.nil_append, List.nil_append] at k1
    have e1 : ∀ (off : Nat) (us : List Value) (A : Array Value), (us.toArray.zipIdx).foldl (fun cs (c, i) => cs.setIfInBounds (off + i) c) A = (us.zipIdx 0).foldl (fun cs (c, i) => cs.setIfInBounds (off + i) c) A := by intro off us A; simp
    have h2 := (e1 (0 * sz) (f u) A.toArray).trans k1
    have h3 := (e1 (1 * sz) (f v) (f u ++ A.drop (f u).length).toArray).trans k2
    rw [hA]
    simp only [List.map_cons, List.map_nil, List.zip_cons_cons, List.zip_nil_left, List.zip_nil_right, Instr.fill, hc]
    rw [if_neg (by simp [hf]; omega), h2, if_neg (by simp [hf]; omega), h3]
    congr 2
    rw [List.drop_eq_nil_of_le (by rw [List.length_drop, hf, hf]; omega), List.append_nil]
  have := Ef.buildSlice (P := P) (G := G) (p := p) (q := q) (d := d) (ty := ty') (pos := pos) (af := af) (gd := gd) (ps := [(0, x), (1, y)]) (len := 2) ht hi (us := [.agg (f u).toArray, .agg (f v).toArray]) (by simp [evl, hx, hy]) (by simpa using h0) (by have h := hn; simp [Nat.blt_eq] at h ⊢; omega) hfill (by simp [hf]; omega)
  simpa [Wx.rsH] using this
end
variable {φ : Hp → Prop} {mn : ∀ {M M' : Hp}, Hle M M' → φ M → φ M'}
theorem X.frzR {todo : List Item} (h : Kn (lst (fun M => SlAt M a c l.length (l.flatMap f)) SlAt.mono :: q0) φ) (x : X P G fr Q todo p ds cs (lst φ mn :: q0)) (hq : Le q (rsH f sz ty a c l :: q0) := by exact fndA) : X P G fr Q todo p ds cs q := .frz h x hq
theorem XO.frzR (h : Kn (lst (fun M => SlAt M a c l.length (l.flatMap f)) SlAt.mono :: q0) φ) (x : XO P G fr Q ops.toArray k lo p ds cs (lst φ mn :: q0)) (hq : Le q (rsH f sz ty a c l :: q0) := by exact fndA) : XO P G fr Q ops.toArray k lo p ds cs q := .frz h x hq
end
end Wx

/-
  Plain program logic, part 44: a call of a value whose chunks are all that stand, in a drawn region; calls without an answer.
-/
namespace Wx
open Go Go.RowKit
set_option linter.unusedVariables false
section
variable {P : Program} {G : World} {f : Fc} {Q : Post} {ops : List Oper} {k : List Item} {p : PE} {ds : List Deferred} {cs : List Frame} {q : List HP} {rest : List Oper} {v : Value}
variable {pk : PE} {L : Rds} {n : Nat} {done : List Nat} {args : List Operand} {ats : Array TypeId} {ty : TypeId} {pos : String} {af : Array Edge} {gd : Option (Nat × Bool)} {vs : List Value} {pre : List HP} {R : Value → List HP → Prop} {d : Tmp} {fo : Operand} {fv : Value}
theorem XD.cVX (i : Nat) (hq : Le q pre) (hc : CallV P G fv vs pre (Ret R))
    (K : ∀ v q', R v q' → HL q' (cut ⟨some d, .call ⟨.value fo, args.toArray, ats⟩, ty, pos, af, gd⟩ L) ∧ XD P G f Q ops k pk (cut ⟨some d, .call ⟨.value fo, args.toArray, ats⟩, ty, pos, af, gd⟩ L) n (i :: done) ((d, v) :: p) ds cs q')
    (ho : ops[i]? = some ⟨some d, .call ⟨.value fo, args.toArray, ats⟩, ty, pos, af, gd⟩ := by rfl) (hf : evp p fo = some fv := by rfl) (hv : evl p args = some vs := by rfl)
    (h1 : onlyR ops done i = true := by rfl) (hr : rdy ops done i = true := by rfl) (hw : Wt ops p ⟨some d, .call ⟨.value fo, args.toArray, ats⟩, ty, pos, af, gd⟩ = some true := by rfl) (hd : Nat.blt d f.n = true := by rfl) : XD P G f Q ops k pk L (n + 1) done p ds cs q :=
  .call i ho hf hv hc (hq.trans (le_nil_r pre)) (fun v q' h q'' e => by rw [List.append_nil] at e; rw [e]; exact K v q' h) h1 hr hw hd
end
end Wx

