/-
  Plain program logic, part 8: shifts, min and max, structs compared, structs read in a drawn region.
-/
import Derived.Test.YtjkkefgkhafmfaaWx7
import Derived.Laws.StructEq
namespace Wx
open Go Go.RowKit
set_option linter.unusedVariables false
set_option linter.unusedSimpArgs false
section
variable {P : Program} {G : World} {p : PE} {q : List HP} {d : Option Tmp} {ty : TypeId} {pos : String} {af : Array Edge} {gd : Option (Nat × Bool)} {x y : Operand}
theorem Pu.shr {t t' : TypeId} {kd ky : IntKind} {m n : Int} (hx : evp p x = some (.int kd m)) (hy : evp p y = some (.int ky n)) (h0 : 0 ≤ n) : Pu P p ⟨d, .binOp .shr t x y t', ty, pos, af, gd⟩ (.int kd (m.fdiv (2 ^ min n.toNat kd.bits))) :=
  fun tm w ag => by
    have h1 : ¬ n < 0 := by omega
    simp [execOp, evA_of ag hx, evA_of ag hy, eqGuard, Go.binOp, Op.shift, h1]
theorem Pu.max2 {ats : Array TypeId} {kd ky : IntKind} {m n : Int} (hx : evp p x = some (.int kd m)) (hy : evp p y = some (.int ky n)) :
    Pu P p ⟨d, .call ⟨.builtin .max, [x, y].toArray, ats⟩, ty, pos, af, gd⟩ (.int kd (max m n)) := fun tm w ag => by
  rw [exec_builtin (us := [.int kd m, .int ky n]) ag (by simp [evl, hx, hy])]
  simp [builtin, Builtin.max_, Builtin.max2]
  split <;> omega
theorem Pu.min2 {ats : Array TypeId} {kd ky : IntKind} {m n : Int} (hx : evp p x = some (.int kd m)) (hy : evp p y = some (.int ky n)) :
    Pu P p ⟨d, .call ⟨.builtin .min, [x, y].toArray, ats⟩, ty, pos, af, gd⟩ (.int kd (min m n)) := fun tm w ag => by
  rw [exec_builtin (us := [.int kd m, .int ky n]) ag (by simp [evl, hx, hy])]
  simp [builtin, Builtin.min_, Builtin.min2]
  split <;> omega
/-- Two values are compared. -/
def EqV (P : Program) (k : Nat) (t : TypeId) (x y : Value) (b : Bool) : Prop := ∀ w, (Op.equalIn k t x y).run P w = .ok b w
theorem EqV.int {k : Nat} {t : TypeId} {kd kd' : IntKind} (h : P.underlying t = some (.int kd')) (a b : Int) : EqV P (k + 1) t (.int kd a) (.int kd b) (a == b) := fun w => run_equalIn_int w k t kd kd' a b h
theorem EqV.bool {k : Nat} {t : TypeId} (h : P.underlying t = some .bool) (a b : Bool) : EqV P (k + 1) t (.bool a) (.bool b) (a == b) := fun w => run_equalIn_bool' w k t a b h
theorem EqV.string {k : Nat} {t : TypeId} (h : P.underlying t = some .string) (a b : ByteArray) : EqV P (k + 1) t (.string a) (.string b) (a.toList == b.toList) := fun w => run_equalIn_string w k t a b h
def EqFs (P : Program) (k : Nat) (xs ys : List Value) : List (TypeId × Nat) → Bool → Prop
  | [], b => b = true
  | (t, o) :: r, b => ∃ x y b1 b2, nth xs o = some x ∧ nth ys o = some y ∧ (∀ w, (isAgg t).run P w = .ok false w) ∧ EqV P k t x y b1 ∧ EqFs P k xs ys r b2 ∧ b = (b1 && b2)
theorem EqFs.run {k : Nat} {xs ys : List Value} {w : World} : ∀ {fs : List Field} {b : Bool}, fs.all (fun f => f.name != "_") = true → EqFs P k xs ys (fs.map fun f => (f.type, f.offset)) b → (Op.eqFields k xs.toArray ys.toArray fs).run P w = .ok b w
  | [], b, _, h => by cases h; rfl
  | f :: fs, b, hn, h => by
    obtain ⟨x, y, b1, b2, hx, hy, ha, he, hr, rfl⟩ := h
    simp only [List.all_cons, Bool.and_eq_true, bne_iff_ne, ne_eq] at hn
    rw [nth_eq] at hx hy
    have ih := EqFs.run (w := w) hn.2 hr
    have he' := he w
    simp only [Op.eqFields, ne_eq, hn.1, not_false_eq_true, if_true, Sem.run_bind, part, ha w, Result.andThen_ok, Sem.run_ite, Bool.false_eq_true, if_false, List.getElem?_toArray, hx, hy, Sem.run_pure, he']
    cases b1
    · simp
    · simp [ih]
theorem EqV.struct {k : Nat} {t : TypeId} {xs ys : List Value} {b : Bool} {fs : List Field} (hu : P.underlying t = some (.struct fs.toArray)) (hp : P.stoodInHeld t = false) (hn : fs.all (fun f => f.name != "_") = true) (h : EqFs P k xs ys (fs.map fun f => (f.type, f.offset)) b) :
    EqV P (k + 1) t (.agg xs.toArray) (.agg ys.toArray) b := fun w => by
  have hf : P.fieldsOf t = fs.toArray := by simp [Program.fieldsOf, hu]
  rw [run_equalIn_struct w k t _ _ (by rw [hf]; exact hu) hp, hf]
  exact h.run hn
theorem Pu.eqlA {t t' : TypeId} {xs ys : Array Value} {b : Bool} (hx : evp p x = some (.agg xs)) (hy : evp p y = some (.agg ys)) (hg : P.eqGuardType P.depth t = false) (h : EqV P Op.maxDepth t (.agg xs) (.agg ys) b) :
    Pu P p ⟨d, .binOp .eql t x y t', ty, pos, af, gd⟩ (.bool b) := fun tm w ag => by
  have he : (Op.equal t (.agg xs) (.agg ys)).run P w = .ok b w := h w
  simp [execOp, evA_of ag hx, evA_of ag hy, eqGuard, hg, Go.binOp, he]
theorem Pu.neqA {t t' : TypeId} {xs ys : Array Value} {b : Bool} (hx : evp p x = some (.agg xs)) (hy : evp p y = some (.agg ys)) (hg : P.eqGuardType P.depth t = false) (h : EqV P Op.maxDepth t (.agg xs) (.agg ys) b) :
    Pu P p ⟨d, .binOp .neq t x y t', ty, pos, af, gd⟩ (.bool !b) := fun tm w ag => by
  have he : (Op.equal t (.agg xs) (.agg ys)).run P w = .ok b w := h w
  simp [execOp, evA_of ag hx, evA_of ag hy, eqGuard, hg, Go.binOp, he]
end
/-! ### a struct read in a drawn region -/
def rdA (i b o : Nat) : List Value → Rds
  | [] => []
  | v :: r => (i, b, o, v) :: rdA i b (o + 1) r
theorem rdA_all (i b : Nat) : ∀ (l : List Value) (o : Nat), (rdA i b o l).all (fun e => Nat.beq e.1 i) = true
  | [], _ => rfl
  | v :: r, o => by simp [rdA, rdA_all i b r]
theorem rdA_mem {i b : Nat} : ∀ {l : List Value} {o j : Nat} {v : Value}, l[j]? = some v → (i, b, o + j, v) ∈ rdA i b o l
  | [], _, _, _, h => by simp at h
  | u :: r, o, 0, v, h => by simp at h; subst h; simp [rdA]
  | u :: r, o, j + 1, v, h => by
    simp only [List.getElem?_cons_succ] at h
    have := rdA_mem (i := i) (b := b) (o := o + 1) h
    rw [Nat.add_assoc, Nat.add_comm 1 j] at this
    exact List.mem_cons_of_mem _ this
theorem HL.rdA {q : List HP} {i b : Nat} : ∀ {l : List Value} {o : Nat}, (∀ j v, l[j]? = some v → Cl q ⟨b, o + j, none⟩ v) → HL q (Wx.rdA i b o l)
  | [], _, _ => trivial
  | v :: r, o, h => ⟨h 0 v rfl, HL.rdA (o := o + 1) fun j u hj => by rw [Nat.add_assoc, Nat.add_comm 1 j]; exact h (j + 1) u (by simpa using hj)⟩
section
variable {P : Program} {G : World} {f : Fc} {Q : Post} {k : List Item} {pk : PE} {L : Rds} {m n : Nat} {done : List Nat} {p : PE} {ds : List Deferred} {cs : List Frame} {q : List HP} {ops : List Oper} {ty : TypeId} {pos : String} {af : Array Edge} {gd : Option (Nat × Bool)} {x : Operand}
theorem XD.loadA (i : Nat) {t : TypeId} {d : Tmp} {b o sz : Nat} {l : List Value} {t' : TypeId} {fz : Nat × Nat} (ho : ops[i]? = some ⟨some d, .load t x, ty, pos, af, gd⟩)
    (hx : evp p x = some (.pointer (some ⟨b, o, none⟩))) (ht : ∀ w, (isAgg t).run P w = .ok true w) (hs : ∀ w, (Go.sizeOf t).run P w = .ok sz w) (hh : Has q b (.cells l.toArray t' fz)) (hv : Nat.ble (o + sz) l.length = true)
    (K : XD P G f Q ops k pk (rdA i b o (Wx.sub l o sz) ++ L) n (i :: done) ((d, .agg (Wx.sub l o sz).toArray) :: p) ds cs q)
    (hr : rdy ops done i = true := by rfl) (hw : Wt ops p ⟨some d, .load t x, ty, pos, af, gd⟩ = some true := by rfl) (hd : Nat.blt d f.n = true := by rfl) : XD P G f Q ops k pk L (n + 1) done p ds cs q := by
  have hv' : o + sz ≤ l.length := by simpa using hv
  have hl : (Wx.sub l o sz).length = sz := by simp [Wx.sub]; omega
  refine XD.rdL i ho (rdA i b o (Wx.sub l o sz)) (rdA_all _ _ _ _) (HL.rdA fun j v hj => Cl.of hh ?_) (fun tm w ag hS => ?_) K hr hw hd
  · rw [nth_eq]
    simp only [Wx.sub, List.getElem?_take, List.getElem?_drop] at hj
    split at hj
    · exact hj
    · cases hj
  · have hc := run_loadCells_list (P := P) w ⟨b, o, none⟩ (Wx.sub l o sz) (fun j u hj => by
      rw [add_addr]
      exact hS _ (rdA_mem hj))
    rw [hl] at hc
    simp [execOp, evA_of ag hx, Instr.loadAt, Instr.sureAddr, loadVar, ht, hs, hc]
end
/-! ### results, one by one -/
section
variable {P : Program} {G : World} {p : PE} {q : List HP} {rs : List ResultVar} {vs : List Value}
theorem ResOk.nil : ResOk P G p q [] [] := trivial
theorem ResOk.tmp {t : Tmp} {v : Value} (h : lkp p t = some v) (r : ResOk P G p q rs vs) : ResOk P G p q (.tmp t :: rs) (v :: vs) := ⟨h, r⟩
theorem ResOk.cell {a : Tmp} {t : TypeId} {A : Addr} {v : Value} (h : lkp p a = some (.pointer (some A))) (l : LV P G q t A v) (r : ResOk P G p q rs vs) : ResOk P G p q (.cell a t :: rs) (v :: vs) := ⟨⟨A, h, l⟩, r⟩
end
/-! ### slice literals -/
theorem fill_list {us : List Value} (hus : ∀ u ∈ us, u.cells = #[u]) : ∀ (n : Nat) (pre post : List Value), pre.length = n → post.length = us.length →
    Instr.fill (fun i => some (i * 1, 1)) (pre ++ post).toArray ((List.range' n us.length).zip us) = some (pre ++ us).toArray := by
  induction us with
  | nil => intro n pre post _ h; have := List.eq_nil_of_length_eq_zero h; subst this; simp [Instr.fill]
  | cons u r ih =>
    intro n pre post hp h
    obtain ⟨x, post, rfl⟩ : ∃ x l, post = x :: l := by cases post with
      | nil => cases h
      | cons x l => exact ⟨x, l, rfl⟩
    have hu := hus u List.mem_cons_self
    have hr := ih (fun v hv => hus v (List.mem_cons_of_mem _ hv)) (n + 1) (pre ++ [u]) post (by simp [hp]) (by simpa using h)
    simp only [List.append_assoc, List.singleton_append] at hr
    rw [List.length_cons, List.range'_succ, List.zip_cons_cons]
    subst hp
    simp only [Instr.fill, hu, Nat.mul_one]
    simp
    simpa using hr
section
variable {α : Type} {P : Program} {G : World} {p : PE} {q : List HP}
/-- A slice literal whose elements are values of one cell, in order. -/
theorem Ef.litL {d : Option Tmp} {ty' : TypeId} {pos : String} {af : Array Edge} {gd : Option (Nat × Bool)} {t e : TypeId} {z : Value} {bytes n : Nat} {ps : List (Nat × Operand)} (f : α → Value) (l : List α) (ht : P.underlying t = some (.slice e)) (hi : (P.info? e).map (fun i => (i.zero, i.size, i.bytes)) = some (some z, 1, bytes)) (hz : z.cells.size = 1)
    (hv : evl p (ps.map (·.2)) = some (l.map f)) (hx : ps.map (·.1) = List.range' 0 n) (hn : l.length = n) (h0 : Nat.blt 0 n = true) (h1 : Nat.ble n 16777216 = true) (hc : ∀ u, (f u).cells = #[f u]) :
    Ef P G p q ⟨d, .buildSlice t n ps.toArray, ty', pos, af, gd⟩ fun v q' => ∃ g, v = .slice (some ⟨g, 0, none⟩) n n ∧ q' = lsH f e (some ⟨g, 0, none⟩) n l :: q := by
  subst hn
  have hf : Instr.fill (fun i => some (i * 1, 1)) ((Array.range (l.length * 1)).map (z.cells[· % z.cells.size]!)) ((ps.map (·.1)).zip (l.map f)) = some (l.map f).toArray := by
    rw [hx]
    have := fill_list (us := l.map f) (fun u hu => by obtain ⟨w, _, rfl⟩ := List.mem_map.1 hu; exact hc w) 0 [] ((Array.range (l.length * 1)).map (z.cells[· % z.cells.size]!)).toList rfl (by simp)
    rw [List.nil_append, List.nil_append, List.length_map, Array.toArray_toList] at this
    exact this
  exact Ef.buildSlice ht hi hv (by simpa using h1) (by simpa using h0) hf (by simp)
end
end Wx
