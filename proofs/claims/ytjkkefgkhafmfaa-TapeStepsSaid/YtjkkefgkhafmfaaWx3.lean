/-
  Plain program logic, part 3: a rule for each operation; entering and leaving a function.
-/
import Derived.Test.YtjkkefgkhafmfaaWx2
namespace Wx
open Go Go.RowKit
theorem equalIn_ptrNil {P : Program} (n : Nat) {t e : TypeId} (ht : P.underlying t = some (.pointer e)) (A : Option Addr) (w : World) : (Op.equalIn (n + 1) t (.pointer A) (.pointer none)).run P w = .ok A.isNone w := by
  cases A <;> simp [Op.equalIn, run_underlying ht]
theorem equalIn_sliceNil {P : Program} (k : Nat) {t e : TypeId} (ht : P.underlying t = some (.slice e)) (A : Option Addr) (n m : Nat) (w : World) : (Op.equalIn (k + 1) t (.slice A n m) (.slice none 0 0)).run P w = .ok A.isNone w := by
  cases A <;> simp [Op.equalIn, run_underlying ht]
theorem equalIn_bool {P : Program} (k : Nat) {t : TypeId} (ht : P.underlying t = some .bool) (x y : Bool) (w : World) : (Op.equalIn (k + 1) t (.bool x) (.bool y)).run P w = .ok (x == y) w := by
  simp [Op.equalIn, run_underlying ht]

def nth : List Value → Nat → Option Value
  | [], _ => none
  | v :: _, 0 => some v
  | _ :: r, n + 1 => nth r n
theorem nth_eq (l : List Value) (n : Nat) : nth l n = l[n]? := by
  induction l generalizing n with
  | nil => simp [nth]
  | cons v r ih => cases n with
    | zero => simp [nth]
    | succ n => simp [nth, ih]
def setl (l : List Value) (o : Nat) (v : Value) : List Value := match l, o with
  | [], _ => []
  | _ :: r, 0 => v :: r
  | x :: r, n + 1 => x :: setl r n v
theorem setl_eq (l : List Value) (o : Nat) (v : Value) : setl l o v = l.set o v := by
  induction l generalizing o with
  | nil => simp [setl]
  | cons x r ih => cases o <;> simp [setl, ih]
def sub (l : List Value) (o n : Nat) : List Value := (l.drop o).take n
theorem add_addr (b o n : Nat) : (⟨b, o, none⟩ : Addr).add n = ⟨b, o + n, none⟩ := by unfold Addr.add; split <;> simp_all
theorem wrap64_of {z : Int} (h1 : -9223372036854775808 ≤ z) (h2 : z ≤ 9223372036854775807) : IntKind.i64.wrap z = z := by rw [IntKind.wrap_i64]; omega

/-! ### what an operation does: a fact of its own -/
/-- It answers v in every world, and turns nothing. -/
def Pu (P : Program) (p : PE) (o : Oper) (v : Value) : Prop := ∀ tm w, Agr tm p → (execOp (evA tm) o).run P w = .ok (.value v) w
/-- It answers v in every world that has the chunks, and turns nothing. -/
def Rd (P : Program) (G : World) (p : PE) (q : List HP) (o : Oper) (v : Value) : Prop := ∀ tm w, Agr tm p → St G w q → (execOp (evA tm) o).run P w = .ok (.value v) w
/-- It answers and turns memory as R says. -/
def Ef (P : Program) (G : World) (p : PE) (q : List HP) (o : Oper) (R : Value → List HP → Prop) : Prop := ∀ tm w, Agr tm p → St G w q →
  ∃ v w' q', ((execOp (evA tm) o).run P w = .ok (.value v) w' ∨ (v = undef ∧ (execOp (evA tm) o).run P w = .ok .skip w')) ∧ St G w' q' ∧ R v q'
/-- It panics. -/
def Pn (P : Program) (G : World) (p : PE) (q : List HP) (o : Oper) (v : Value) : Prop := ∀ tm w, Agr tm p → St G w q → ∃ w', (execOp (evA tm) o).run P w = .halt (.panic v) w' ∧ St G w' q
theorem Pu.rd {P : Program} {G : World} {p : PE} {q : List HP} {o : Oper} {v : Value} (h : Pu P p o v) : Rd P G p q o v := fun tm w ag _ => h tm w ag
section facts
variable {P : Program} {G : World} {p : PE} {q : List HP} {d : Option Tmp} {ty : TypeId} {pos : String} {af : Array Edge} {gd : Option (Nat × Bool)} {v u : Value} {a b c x y : Operand}
theorem Pu.move (hx : evp p x = some v) : Pu P p ⟨d, .move x, ty, pos, af, gd⟩ v := fun tm w ag => by simp [execOp, evA_of ag hx]
theorem Pu.assign (hx : evp p x = some v) : Pu P p ⟨d, .assign x, ty, pos, af, gd⟩ v := fun tm w ag => by simp [execOp, evA_of ag hx]
theorem Pu.pickT (hc : evp p c = some (.bool true)) (hx : evp p a = some v) : Pu P p ⟨d, .pick c a b, ty, pos, af, gd⟩ v := fun tm w ag => by simp [execOp, evA_of ag hc, evA_of ag hx, asBool]
theorem Pu.pickF (hc : evp p c = some (.bool false)) (hx : evp p b = some v) : Pu P p ⟨d, .pick c a b, ty, pos, af, gd⟩ v := fun tm w ag => by simp [execOp, evA_of ag hc, evA_of ag hx, asBool]
theorem Pu.pick {t va vb : Bool} (hc : evp p c = some (.bool t)) (hx : evp p a = some (.bool va)) (hy : evp p b = some (.bool vb)) : Pu P p ⟨d, .pick c a b, ty, pos, af, gd⟩ (.bool (bif t then va else vb)) :=
  fun tm w ag => by cases t <;> simp [execOp, evA_of ag hc, evA_of ag hx, evA_of ag hy, asBool]
theorem Pu.extract {n : Nat} {vs : List Value} (hx : evp p x = some (.tuple vs.toArray)) (hv : nth vs n = some v) : Pu P p ⟨d, .extract x n, ty, pos, af, gd⟩ v :=
  fun tm w ag => by rw [nth_eq] at hv; simp [execOp, evA_of ag hx, Instr.extract, hv]
theorem Pu.makeFunc {fn : Fn} {l m : List Operand} {fs ms : List Value} (h1 : evl p l = some fs) (h2 : evl p m = some ms) : Pu P p ⟨d, .makeFunc fn l.toArray m.toArray, ty, pos, af, gd⟩ (.func fn fs.toArray ms.toArray) :=
  fun tm w ag => by
    have e1 := evl_of ag h1
    have e2 := evl_of ag h2
    simp [execOp, Instr.makeFunc, e1, e2]
theorem Pu.makeInterface {t : TypeId} {D : TypeDesc} (hx : evp p x = some v) (hu : P.underlying t = some D) (hD : (match D with | .interface _ => false | _ => true) = true) : Pu P p ⟨d, .makeInterface t x, ty, pos, af, gd⟩ (.iface t v) :=
  fun tm w ag => by
    simp only [execOp, Instr.makeInterface, evA_of ag hx, Sem.run_bind, run_underlying hu, Result.andThen_ok]
    cases D <;> first | (cases hD; done) | rfl
theorem Pu.int {op : BinOp} {t t' : TypeId} {kd : IntKind} {m n : Int} {r : Value} (hx : evp p x = some (.int kd m)) (hy : evp p y = some (.int kd n))
    (hr : ∀ w, (Go.binOp op t (.int kd m) (.int kd n)).run P w = .ok r w) : Pu P p ⟨d, .binOp op t x y t', ty, pos, af, gd⟩ r :=
  fun tm w ag => by
    have : (eqGuard op t x y (.int kd m) (.int kd n)).run P w = .ok () w := by
      unfold eqGuard; split <;> simp_all
    simp [execOp, evA_of ag hx, evA_of ag hy, this, hr]
section
variable {kd : IntKind} {m n : Int} {t t' : TypeId} (hx : evp p x = some (.int kd m)) (hy : evp p y = some (.int kd n))
include hx hy
theorem Pu.addW : Pu P p ⟨d, .binOp .add t x y t', ty, pos, af, gd⟩ (.int kd (kd.wrap (m + n))) := .int hx hy (fun w => by simp [Go.binOp, Op.intArith])
theorem Pu.subW : Pu P p ⟨d, .binOp .sub t x y t', ty, pos, af, gd⟩ (.int kd (kd.wrap (m - n))) := .int hx hy (fun w => by simp [Go.binOp, Op.intArith])
theorem Pu.mulW : Pu P p ⟨d, .binOp .mul t x y t', ty, pos, af, gd⟩ (.int kd (kd.wrap (m * n))) := .int hx hy (fun w => by simp [Go.binOp, Op.intArith])
theorem Pu.rem (h0 : n ≠ 0) : Pu P p ⟨d, .binOp .rem t x y t', ty, pos, af, gd⟩ (.int kd (m.tmod n)) := .int hx hy (fun w => by simp [Go.binOp, Op.intDiv, h0])
theorem Pu.quoW (h0 : n ≠ 0) : Pu P p ⟨d, .binOp .quo t x y t', ty, pos, af, gd⟩ (.int kd (kd.wrap (m.tdiv n))) := .int hx hy (fun w => by simp [Go.binOp, Op.intDiv, h0])
theorem Pu.eql : Pu P p ⟨d, .binOp .eql t x y t', ty, pos, af, gd⟩ (.bool (m == n)) := .int hx hy (fun w => by simp [Go.binOp, Op.intCmp])
theorem Pu.neq : Pu P p ⟨d, .binOp .neq t x y t', ty, pos, af, gd⟩ (.bool (m != n)) := .int hx hy (fun w => by simp [Go.binOp, Op.intCmp])
theorem Pu.lss : Pu P p ⟨d, .binOp .lss t x y t', ty, pos, af, gd⟩ (.bool (decide (m < n))) := .int hx hy (fun w => by simp [Go.binOp, Op.intCmp])
theorem Pu.leq : Pu P p ⟨d, .binOp .leq t x y t', ty, pos, af, gd⟩ (.bool (decide (m ≤ n))) := .int hx hy (fun w => by simp [Go.binOp, Op.intCmp])
theorem Pu.gtr : Pu P p ⟨d, .binOp .gtr t x y t', ty, pos, af, gd⟩ (.bool (decide (n < m))) := .int hx hy (fun w => by simp [Go.binOp, Op.intCmp])
theorem Pu.geq : Pu P p ⟨d, .binOp .geq t x y t', ty, pos, af, gd⟩ (.bool (decide (n ≤ m))) := .int hx hy (fun w => by simp [Go.binOp, Op.intCmp])
end
section
variable {m n : Int} {t t' : TypeId} (hx : evp p x = some (.int .i64 m)) (hy : evp p y = some (.int .i64 n))
include hx hy
theorem Pu.add (h1 : -9223372036854775808 ≤ m + n) (h2 : m + n ≤ 9223372036854775807) : Pu P p ⟨d, .binOp .add t x y t', ty, pos, af, gd⟩ (.int .i64 (m + n)) := by
  have := Pu.addW (P := P) (d := d) (t := t) (t' := t') (ty := ty) (pos := pos) (af := af) (gd := gd) hx hy
  rwa [wrap64_of h1 h2] at this
theorem Pu.sub (h1 : -9223372036854775808 ≤ m - n) (h2 : m - n ≤ 9223372036854775807) : Pu P p ⟨d, .binOp .sub t x y t', ty, pos, af, gd⟩ (.int .i64 (m - n)) := by
  have := Pu.subW (P := P) (d := d) (t := t) (t' := t') (ty := ty) (pos := pos) (af := af) (gd := gd) hx hy
  rwa [wrap64_of h1 h2] at this
theorem Pu.mul (h1 : -9223372036854775808 ≤ m * n) (h2 : m * n ≤ 9223372036854775807) : Pu P p ⟨d, .binOp .mul t x y t', ty, pos, af, gd⟩ (.int .i64 (m * n)) := by
  have := Pu.mulW (P := P) (d := d) (t := t) (t' := t') (ty := ty) (pos := pos) (af := af) (gd := gd) hx hy
  rwa [wrap64_of h1 h2] at this
end
theorem Pu.not {t : TypeId} {z : Bool} (hx : evp p x = some (.bool z)) : Pu P p ⟨d, .unOp .not t x, ty, pos, af, gd⟩ (.bool !z) := fun tm w ag => by simp [execOp, evA_of ag hx, Op.unary]
theorem Pu.negW {t : TypeId} {kd : IntKind} {n : Int} (hx : evp p x = some (.int kd n)) : Pu P p ⟨d, .unOp .neg t x, ty, pos, af, gd⟩ (.int kd (kd.wrap (0 - n))) := fun tm w ag => by simp [execOp, evA_of ag hx, Op.unary, Op.intArith]
/-- A conversion between integer types. -/
theorem Pu.convW {s t : TypeId} {D : TypeDesc} {ks kd : IntKind} {n : Int} (hx : evp p x = some (.int ks n)) (hs : P.underlying s = some D) (ht : P.underlying t = some (.int kd)) : Pu P p ⟨d, .convert s t x, ty, pos, af, gd⟩ (.int kd (kd.wrap n)) :=
  fun tm w ag => by simp [execOp, evA_of ag hx, convert, run_underlying hs, run_underlying ht, Conv.intToInt]
theorem Pu.conv {s t : TypeId} {D : TypeDesc} {ks kd : IntKind} {n : Int} (hx : evp p x = some (.int ks n)) (hs : P.underlying s = some D) (ht : P.underlying t = some (.int kd)) (hn : kd.wrap n = n) : Pu P p ⟨d, .convert s t x, ty, pos, af, gd⟩ (.int kd n) := by
  have := Pu.convW (P := P) (d := d) (ty := ty) (pos := pos) (af := af) (gd := gd) hx hs ht
  rwa [hn] at this
theorem Pu.nilCheck {A : Addr} (hx : evp p x = some (.pointer (some A))) : Pu P p ⟨d, .nilCheck x, ty, pos, af, gd⟩ (.pointer (some A)) := fun tm w ag => by simp [execOp, evA_of ag hx]
theorem Pu.nilCheckF {f : Nat} {l m : Array Value} (hx : evp p x = some (.func (.func f) l m)) : Pu P p ⟨d, .nilCheck x, ty, pos, af, gd⟩ (.func (.func f) l m) := fun tm w ag => by simp [execOp, evA_of ag hx]
theorem Pu.fieldAddr {t : TypeId} {n : Nat} {b o : Nat} {fs : Array Field} (ft off sz : Nat) (hx : evp p x = some (.pointer (some ⟨b, o, none⟩))) (ht : P.underlying t = some (.struct fs)) (hF : (fs[n]?).map (fun F => (F.type, F.offset)) = some (ft, off))
    (hs : ∀ w, (Go.sizeOf ft).run P w = .ok (sz + 1) w) : Pu P p ⟨d, .fieldAddr t x n, ty, pos, af, gd⟩ (.pointer (some ⟨b, o + off, none⟩)) :=
  fun tm w ag => by
    obtain ⟨F, hF', e⟩ := Option.map_eq_some_iff.1 hF
    clear hF
    simp only [Prod.mk.injEq] at e
    obtain ⟨rfl, rfl⟩ := e
    simp [execOp, evA_of ag hx, Instr.fieldAt, Instr.sureAddr, run_underlying ht, hF', fieldPlace, hs, add_addr]
theorem Pu.len {t : TypeId} {e : TypeId} {A : Option Addr} {n m : Nat} {ats : List TypeId} (hx : evp p x = some (.slice A n m)) (ht : P.underlying t = some (.slice e)) : Pu P p ⟨d, .call ⟨.builtin .len, [x].toArray, (t :: ats).toArray⟩, ty, pos, af, gd⟩ (.int .i64 n) :=
  fun tm w ag => by simp [execOp, resolve, invoke, builtin, evA_of ag hx, Builtin.len_, run_underlying ht, goInt]
theorem Pu.indexAddr {t e : TypeId} {b o n m : Nat} {kd : IntKind} {i : Int} {sz : Nat} (hx : evp p x = some (.slice (some ⟨b, o, none⟩) n m)) (hy : evp p y = some (.int kd i)) (ht : P.underlying t = some (.slice e)) (hs : ∀ w, (Go.sizeOf e).run P w = .ok sz w)
    (h0 : 0 ≤ i) (h1 : i < n) : Pu P p ⟨d, .indexAddr t x y, ty, pos, af, gd⟩ (.pointer (some ⟨b, o + i.toNat * sz, none⟩)) :=
  fun tm w ag => by
    have hc : 0 ≤ i ∧ i < (n : Int) := ⟨h0, h1⟩
    simp [execOp, evA_of ag hx, evA_of ag hy, Instr.indexAt, asIntOf, run_underlying ht, hc, hs, add_addr]
theorem Pu.ptrNil {op : BinOp} {t t' e : TypeId} {A : Option Addr} {z : Bool} (hop : op = .eql ∧ z = A.isNone ∨ op = .neq ∧ z = A.isSome) (hx : evp p x = some (.pointer A)) (ht : P.underlying t = some (.pointer e)) : Pu P p ⟨d, .binOp op t x (.const (.pointer none)) t', ty, pos, af, gd⟩ (.bool z) :=
  fun tm w ag => by
    have he : (Op.equal t (.pointer A) (.pointer none)).run P w = .ok A.isNone w := equalIn_ptrNil 9999 ht A w
    have hn : evA tm (.const (.pointer none)) = .pointer none := rfl
    rcases hop with ⟨rfl, rfl⟩ | ⟨rfl, rfl⟩ <;> cases A <;> simp [execOp, evA_of ag hx, hn, eqGuard, Go.binOp, he]
theorem Pu.eqlNil {t t' e : TypeId} {A : Option Addr} (hx : evp p x = some (.pointer A)) (ht : P.underlying t = some (.pointer e)) : Pu P p ⟨d, .binOp .eql t x (.const (.pointer none)) t', ty, pos, af, gd⟩ (.bool A.isNone) := .ptrNil (.inl ⟨rfl, rfl⟩) hx ht
theorem Pu.neqNil {t t' e : TypeId} {A : Option Addr} (hx : evp p x = some (.pointer A)) (ht : P.underlying t = some (.pointer e)) : Pu P p ⟨d, .binOp .neq t x (.const (.pointer none)) t', ty, pos, af, gd⟩ (.bool A.isSome) := .ptrNil (.inr ⟨rfl, rfl⟩) hx ht
theorem Pu.slcNil {op : BinOp} {t t' e : TypeId} {A : Option Addr} {n m : Nat} {z : Bool} (hop : op = .eql ∧ z = A.isNone ∨ op = .neq ∧ z = A.isSome) (hx : evp p x = some (.slice A n m)) (ht : P.underlying t = some (.slice e)) : Pu P p ⟨d, .binOp op t x (.const (.slice none 0 0)) t', ty, pos, af, gd⟩ (.bool z) :=
  fun tm w ag => by
    have he : (Op.equal t (.slice A n m) (.slice none 0 0)).run P w = .ok A.isNone w := equalIn_sliceNil 9999 ht A n m w
    have hn : evA tm (.const (.slice none 0 0)) = .slice none 0 0 := rfl
    rcases hop with ⟨rfl, rfl⟩ | ⟨rfl, rfl⟩ <;> cases A <;> simp [execOp, evA_of ag hx, hn, eqGuard, Go.binOp, he]
theorem Pu.eqlSNil {t t' e : TypeId} {A : Option Addr} {n m : Nat} (hx : evp p x = some (.slice A n m)) (ht : P.underlying t = some (.slice e)) : Pu P p ⟨d, .binOp .eql t x (.const (.slice none 0 0)) t', ty, pos, af, gd⟩ (.bool A.isNone) := .slcNil (.inl ⟨rfl, rfl⟩) hx ht
theorem Pu.neqSNil {t t' e : TypeId} {A : Option Addr} {n m : Nat} (hx : evp p x = some (.slice A n m)) (ht : P.underlying t = some (.slice e)) : Pu P p ⟨d, .binOp .neq t x (.const (.slice none 0 0)) t', ty, pos, af, gd⟩ (.bool A.isSome) := .slcNil (.inr ⟨rfl, rfl⟩) hx ht
theorem Pu.boolCmp {op : BinOp} {t t' : TypeId} {z z' r : Bool} (hop : op = .eql ∧ r = (z == z') ∨ op = .neq ∧ r = (z != z')) (hx : evp p x = some (.bool z)) (hy : evp p y = some (.bool z')) (ht : P.underlying t = some .bool) : Pu P p ⟨d, .binOp op t x y t', ty, pos, af, gd⟩ (.bool r) :=
  fun tm w ag => by
    have he : (Op.equal t (.bool z) (.bool z')).run P w = .ok (z == z') w := equalIn_bool 9999 ht z z' w
    rcases hop with ⟨rfl, rfl⟩ | ⟨rfl, rfl⟩ <;> simp [execOp, evA_of ag hx, evA_of ag hy, eqGuard, Go.binOp, he, bne]
theorem Pu.eqlB {t t' : TypeId} {z z' : Bool} (hx : evp p x = some (.bool z)) (hy : evp p y = some (.bool z')) (ht : P.underlying t = some .bool) : Pu P p ⟨d, .binOp .eql t x y t', ty, pos, af, gd⟩ (.bool (z == z')) := .boolCmp (.inl ⟨rfl, rfl⟩) hx hy ht
theorem Pu.neqB {t t' : TypeId} {z z' : Bool} (hx : evp p x = some (.bool z)) (hy : evp p y = some (.bool z')) (ht : P.underlying t = some .bool) : Pu P p ⟨d, .binOp .neq t x y t', ty, pos, af, gd⟩ (.bool (z != z')) := .boolCmp (.inr ⟨rfl, rfl⟩) hx hy ht
/-- An operation that is run by a law of its own. -/
theorem Pu.of {o : Oper} (h : ∀ tm w, Agr tm p → (execOp (evA tm) o).run P w = .ok (.value v) w) : Pu P p o v := h

/-! memory -/
theorem Has.cell {w : World} {b o : Nat} {l : List Value} {t : TypeId} {fz : Nat × Nat} (h : Has q b (.cells l.toArray t fz)) (s : St G w q) (hv : nth l o = some v) : w.cell? ⟨b, o, none⟩ = some v := by
  have := s.has h
  rw [nth_eq] at hv
  simp [World.cell?, this, hv]
/-- The cell at an address is known. -/
def Cl (q : List HP) (A : Addr) (v : Value) : Prop := ∀ G w, St G w q → w.cell? A = some v
theorem Cl.of {b o : Nat} {l : List Value} {t : TypeId} {fz : Nat × Nat} (h : Has q b (.cells l.toArray t fz)) (hv : nth l o = some v) : Cl q ⟨b, o, none⟩ v := fun _ _ s => h.cell s hv
theorem Rd.load {t : TypeId} {A : Addr} (hx : evp p x = some (.pointer (some A))) (ht : ∀ w, (isAgg t).run P w = .ok false w) (hc : Cl q A v) : Rd P G p q ⟨d, .load t x, ty, pos, af, gd⟩ v :=
  fun tm w ag s => by simp [execOp, evA_of ag hx, Instr.loadAt, Instr.sureAddr, loadVar, ht, hc G w s]
/-- A struct (or an array) is loaded whole. -/
theorem Rd.loadA {t : TypeId} {b o : Nat} {l : List Value} {t' : TypeId} {fz : Nat × Nat} {sz : Nat} (hx : evp p x = some (.pointer (some ⟨b, o, none⟩))) (ht : ∀ w, (isAgg t).run P w = .ok true w) (hs : ∀ w, (Go.sizeOf t).run P w = .ok sz w)
    (hh : Has q b (.cells l.toArray t' fz)) (hv : Nat.ble (o + sz) l.length = true) : Rd P G p q ⟨d, .load t x, ty, pos, af, gd⟩ (.agg (Wx.sub l o sz).toArray) :=
  fun tm w ag s => by
    have hb := s.has hh
    have hv' : o + sz ≤ l.length := by simpa using hv
    have hl : (Wx.sub l o sz).length = sz := by simp [Wx.sub]; omega
    have hc := run_loadCells_list (P := P) w ⟨b, o, none⟩ (Wx.sub l o sz) (fun j u hj => by
      rw [add_addr]
      simp only [World.cell?, hb]
      simp only [Wx.sub, List.getElem?_take, List.getElem?_drop] at hj
      split at hj
      · simpa using hj
      · cases hj)
    rw [hl] at hc
    simp [execOp, evA_of ag hx, Instr.loadAt, Instr.sureAddr, loadVar, ht, hs, hc]
theorem Ef.store {t : TypeId} {b o : Nat} {l : List Value} {t' : TypeId} {r : List HP} (hx : evp p x = some (.pointer (some ⟨b, o, none⟩))) (hy : evp p y = some v) (hs : ∀ w, (Go.sizeOf t).run P w = .ok 1 w)
    (hv : v.cells = #[v]) (h1 : v.oneCell' = true) (hq : Le q (pto b (.cells l.toArray t' (0, 0)) :: r)) (ho : Nat.blt o l.length = true) :
    Ef P G p q ⟨d, .store t x y, ty, pos, af, gd⟩ fun z q' => z = undef ∧ q' = pto b (.cells (setl l o v).toArray t' (0, 0)) :: r :=
  fun tm w ag s => by
    have s' := s.le hq
    have hb := s'.has (Has.pto _ _ _)
    have ho' : o < l.length := by simpa [Nat.blt_eq] using ho
    have hc : w.cell? ⟨b, o, none⟩ = some (l[o]) := by simp [World.cell?, hb, ho']
    have hf : w.frozen? ⟨b, o, none⟩ = false := by simp [World.frozen?, hb]
    refine ⟨undef, w.setCell ⟨b, o, none⟩ v, pto b (.cells (setl l o v).toArray t' (0, 0)) :: r, .inr ⟨rfl, ?_⟩, ?_, rfl, rfl⟩
    · have e1 := evA_of ag hx
      have e2 := evA_of ag hy
      have hst : (Go.store ⟨b, o, none⟩ v).run P w = .ok () (w.setCell ⟨b, o, none⟩ v) := by
        cases v <;> first | (simp [Value.oneCell'] at h1; done) | simp [Go.store, Sem.run, hc, hf]
      simp [execOp, e1, e2, Instr.storeAt, Instr.sureAddr, storeVar, hs, hv, storeCells, add_addr, hst]
    · rw [setl_eq]
      refine s'.put ?_ ?_ ?_ rfl rfl rfl
      · rw [setCell_eq_setRow w b o l.toArray t' (0, 0) v hb]
        simpa using setRow_heap w b l.toArray (l.toArray.setIfInBounds o v) t' (0, 0) hb
      · intro j hj
        rw [setCell_eq_setRow w b o l.toArray t' (0, 0) v hb]
        exact setRow_other w b j _ hj
      · simp [World.setCell]
theorem Ef.box {t : TypeId} (hx : evp p x = some v) : Ef P G p q ⟨d, .box t x, ty, pos, af, gd⟩ fun z q' => ∃ n, z = .pointer (some ⟨n, 0, none⟩) ∧ q' = pto n (.cells v.cells t (0, 0)) :: q :=
  fun tm w ag s => ⟨_, w.alloc (.cells v.cells t), _, .inl (by simp [execOp, evA_of ag hx, Instr.box, newVar, newRow]), s.new rfl rfl rfl rfl, _, rfl, rfl⟩
theorem Ef.alloc {t : TypeId} {z : Value} (hz : ∀ w, (zeroValue t).run P w = .ok z w) : Ef P G p q ⟨d, .alloc t, ty, pos, af, gd⟩ fun r q' => ∃ n, r = .pointer (some ⟨n, 0, none⟩) ∧ q' = pto n (.cells z.cells t (0, 0)) :: q :=
  fun tm w ag s => ⟨_, w.alloc (.cells z.cells t), _, .inl (by simp [execOp, Instr.alloc, hz, newVar, newRow]), s.new rfl rfl rfl rfl, _, rfl, rfl⟩
theorem Ef.makeMap {t : TypeId} : Ef P G p q ⟨d, .makeMap t none, ty, pos, af, gd⟩ fun r q' => ∃ n, r = .map (some n) ∧ q' = pto n (.map #[] 0) :: q :=
  fun tm w ag s => ⟨_, w.alloc (.map #[] 0), _, .inl (by simp [execOp, Instr.makeMap]), s.new rfl rfl rfl rfl, _, rfl, rfl⟩
end facts

/-! ### regions whose order is the text's -/
section ops
variable {P : Program} {G : World} {f : Fc} {Q : Post} {ops : List Oper} {k : List Item} {p : PE} {ds : List Deferred} {cs : List Frame} {q : List HP} {rest : List Oper} {o : Oper} {v : Value}
theorem XO.rd_ (h : Rd P G p q o v) (K : XO P G f Q ops.toArray k rest (putp p o.dst v) ds cs q) (hw : Wt ops p o = some true := by rfl) (hd : dOk f.n o.dst = true := by rfl) (hdf : ∀ c, o.op ≠ .defer c := by intro _ h; cases h) :
    XO P G f Q ops.toArray k (o :: rest) p ds cs q := .run hw hd (fun tm w _ ag s => .inl (h tm w ag s)) K hdf
theorem XO.pu_ (h : Pu P p o v) (K : XO P G f Q ops.toArray k rest (putp p o.dst v) ds cs q) (hw : Wt ops p o = some true := by rfl) (hd : dOk f.n o.dst = true := by rfl) (hdf : ∀ c, o.op ≠ .defer c := by intro _ h; cases h) :
    XO P G f Q ops.toArray k (o :: rest) p ds cs q := .rd_ h.rd K hw hd hdf
theorem XO.ef_ {R : Value → List HP → Prop} (h : Ef P G p q o R) (K : ∀ v q', R v q' → XO P G f Q ops.toArray k rest (putp p o.dst v) ds cs q') (hw : Wt ops p o = some true := by rfl) (hd : dOk f.n o.dst = true := by rfl) (hdf : ∀ c, o.op ≠ .defer c := by intro _ h; cases h) :
    XO P G f Q ops.toArray k (o :: rest) p ds cs q :=
  .eff hw hd (fun tm w _ ag s => let ⟨v, w', q', hr, s', hR⟩ := h tm w ag s; ⟨v, w', q', hr, s', K v q' hR⟩) hdf
section
variable {d : Tmp} {op : Op} {ty : TypeId} {pos : String} {af : Array Edge} {gd : Option (Nat × Bool)}
theorem XO.rd (h : Rd P G p q ⟨some d, op, ty, pos, af, gd⟩ v) (K : XO P G f Q ops.toArray k rest ((d, v) :: p) ds cs q) (hw : Wt ops p ⟨some d, op, ty, pos, af, gd⟩ = some true := by rfl) (hd : Nat.blt d f.n = true := by rfl) (hdf : ∀ c, op ≠ .defer c := by intro _ h; cases h) :
    XO P G f Q ops.toArray k (⟨some d, op, ty, pos, af, gd⟩ :: rest) p ds cs q := .rd_ h K hw hd hdf
theorem XO.pu (h : Pu P p ⟨some d, op, ty, pos, af, gd⟩ v) (K : XO P G f Q ops.toArray k rest ((d, v) :: p) ds cs q) (hw : Wt ops p ⟨some d, op, ty, pos, af, gd⟩ = some true := by rfl) (hd : Nat.blt d f.n = true := by rfl) (hdf : ∀ c, op ≠ .defer c := by intro _ h; cases h) :
    XO P G f Q ops.toArray k (⟨some d, op, ty, pos, af, gd⟩ :: rest) p ds cs q := .rd_ h.rd K hw hd hdf
theorem XO.pu0 (h : Pu P p ⟨none, op, ty, pos, af, gd⟩ v) (K : XO P G f Q ops.toArray k rest p ds cs q) (hw : Wt ops p ⟨none, op, ty, pos, af, gd⟩ = some true := by rfl) (hdf : ∀ c, op ≠ .defer c := by intro _ h; cases h) :
    XO P G f Q ops.toArray k (⟨none, op, ty, pos, af, gd⟩ :: rest) p ds cs q := .rd_ h.rd K hw rfl hdf
theorem XO.ef {R : Value → List HP → Prop} (h : Ef P G p q ⟨some d, op, ty, pos, af, gd⟩ R) (K : ∀ v q', R v q' → XO P G f Q ops.toArray k rest ((d, v) :: p) ds cs q') (hw : Wt ops p ⟨some d, op, ty, pos, af, gd⟩ = some true := by rfl) (hd : Nat.blt d f.n = true := by rfl) (hdf : ∀ c, op ≠ .defer c := by intro _ h; cases h) :
    XO P G f Q ops.toArray k (⟨some d, op, ty, pos, af, gd⟩ :: rest) p ds cs q := .ef_ h K hw hd hdf
theorem XO.ef0 {R : Value → List HP → Prop} (h : Ef P G p q ⟨none, op, ty, pos, af, gd⟩ R) (K : ∀ v q', R v q' → XO P G f Q ops.toArray k rest p ds cs q') (hw : Wt ops p ⟨none, op, ty, pos, af, gd⟩ = some true := by rfl) (hdf : ∀ c, op ≠ .defer c := by intro _ h; cases h) :
    XO P G f Q ops.toArray k (⟨none, op, ty, pos, af, gd⟩ :: rest) p ds cs q := .ef_ h K hw rfl hdf
theorem XO.pass (hw : Wt ops p ⟨some d, op, ty, pos, af, gd⟩ = some false) (x : XO P G f Q ops.toArray k rest ((d, undef) :: p) ds cs q) (hd : Nat.blt d f.n = true := by rfl) : XO P G f Q ops.toArray k (⟨some d, op, ty, pos, af, gd⟩ :: rest) p ds cs q := .pass_ hw hd x
theorem XO.pass0 (hw : Wt ops p ⟨none, op, ty, pos, af, gd⟩ = some false) (x : XO P G f Q ops.toArray k rest p ds cs q) : XO P G f Q ops.toArray k (⟨none, op, ty, pos, af, gd⟩ :: rest) p ds cs q := .pass_ hw rfl x
end
theorem XO.pn (h : Pn P G p q o v) (hQ : Q (.panic [{ v, recovered := false }]) p ds cs q) (hw : Wt ops p o = some true := by rfl) (hdf : ∀ c, o.op ≠ .defer c := by intro _ h; cases h) :
    XO P G f Q ops.toArray k (o :: rest) p ds cs q := .panics hw (fun tm w _ ag s => h tm w ag s) hQ hdf
/-- Part on a slot's bool. -/
theorem XO.part {l : List Oper} (s : Nat) {t : Bool} (h : lkp p s = some (.bool t)) (ht : t = true → XO P G f Q ops.toArray k l ((s, .bool true) :: p) ds cs q)
    (hf : t = false → XO P G f Q ops.toArray k l ((s, .bool false) :: p) ds cs q) : XO P G f Q ops.toArray k l p ds cs q := by
  have key : ∀ t' tm, lkp p s = some (.bool t') → Agr tm p → Agr tm ((s, .bool t') :: p) := by
    intro t' tm e ag j u hj
    refine ag j u ?_
    simp only [lkp] at hj
    cases hb : Nat.beq s j with
    | true => rw [hb] at hj; have := Nat.eq_of_beq_eq_true hb; subst this; rw [e]; simpa using hj
    | false => rw [hb] at hj; simpa using hj
  cases t with
  | true => exact fun is e tm w n ag st => ht rfl is e tm w n (key true tm h ag) st
  | false => exact fun is e tm w n ag st => hf rfl is e tm w n (key false tm h ag) st
/-- A slot's value is another one. -/
theorem XO.know {l : List Oper} (s : Nat) {v : Value} (u : Value) (h : lkp p s = some v) (e : v = u) (K : XO P G f Q ops.toArray k l ((s, u) :: p) ds cs q) : XO P G f Q ops.toArray k l p ds cs q := by
  subst e
  refine fun is e tm w n ag st => K is e tm w n (fun j u' hj => ag j u' ?_) st
  simp only [lkp] at hj
  cases hb : Nat.beq s j with
  | true => rw [hb] at hj; have := Nat.eq_of_beq_eq_true hb; subst this; rw [h]; simpa using hj
  | false => rw [hb] at hj; simpa using hj
/-- A contract that always returns. -/
def Ret (R : Value → List HP → Prop) : Spec := fun e q => ∃ v, e = .returned v ∧ R v q
theorem XO.call_ {d : Option Tmp} {fo : Operand} {args : List Operand} {ats : Array TypeId} {ty : TypeId} {pos : String} {af : Array Edge} {gd : Option (Nat × Bool)}
    {fv : Value} {vs : List Value} {pre F : List HP} {R : Value → List HP → Prop}
    (hf : evp p fo = some fv) (hv : evl p args = some vs) (hc : CallV P G fv vs pre (Ret R)) (hq : Le q (pre ++ F))
    (x : ∀ v q', R v q' → ∀ q'', q'' = q' ++ F → XO P G f Q ops.toArray k rest (putp p d v) ds cs q'')
    (hw : Wt ops p ⟨d, .call ⟨.value fo, args.toArray, ats⟩, ty, pos, af, gd⟩ = some true := by rfl) (hd : dOk f.n d = true := by rfl) :
    XO P G f Q ops.toArray k (⟨d, .call ⟨.value fo, args.toArray, ats⟩, ty, pos, af, gd⟩ :: rest) p ds cs q :=
  .callE hw hd hf hv hc hq (fun v q' ⟨_, h, r⟩ => by cases h; exact x v q' r _ rfl) (fun ch q' ⟨_, h, _⟩ => by cases h)
theorem XO.callF_ {d : Option Tmp} {fn : FuncId} {args : List Operand} {ats : Array TypeId} {ty : TypeId} {pos : String} {af : Array Edge} {gd : Option (Nat × Bool)}
    {vs : List Value} {pre F : List HP} {R : Value → List HP → Prop} (hcf : ∀ args w, (callFunc fn args).run P w = .ok (.enter fn args) w)
    (hc : CallF P G fn vs pre (Ret R)) (hv : evl p args = some vs) (hq : Le q (pre ++ F))
    (x : ∀ v q', R v q' → ∀ q'', q'' = q' ++ F → XO P G f Q ops.toArray k rest (putp p d v) ds cs q'')
    (hw : Wt ops p ⟨d, .call ⟨.value (.func fn), args.toArray, ats⟩, ty, pos, af, gd⟩ = some true := by rfl) (hd : dOk f.n d = true := by rfl) :
    XO P G f Q ops.toArray k (⟨d, .call ⟨.value (.func fn), args.toArray, ats⟩, ty, pos, af, gd⟩ :: rest) p ds cs q :=
  .call_ (fv := .func (.func fn) #[] #[]) rfl hv (CallV.of_callF (a := []) (b := []) hcf (by simpa using hc)) hq x hw hd
theorem XO.call {d : Tmp} {fo : Operand} {args : List Operand} {ats : Array TypeId} {ty : TypeId} {pos : String} {af : Array Edge} {gd : Option (Nat × Bool)}
    {fv : Value} {vs : List Value} {pre F : List HP} {R : Value → List HP → Prop}
    (hf : evp p fo = some fv) (hv : evl p args = some vs) (hc : CallV P G fv vs pre (Ret R)) (hq : Le q (pre ++ F))
    (x : ∀ v q', R v q' → ∀ q'', q'' = q' ++ F → XO P G f Q ops.toArray k rest ((d, v) :: p) ds cs q'')
    (hw : Wt ops p ⟨some d, .call ⟨.value fo, args.toArray, ats⟩, ty, pos, af, gd⟩ = some true := by rfl) (hd : Nat.blt d f.n = true := by rfl) :
    XO P G f Q ops.toArray k (⟨some d, .call ⟨.value fo, args.toArray, ats⟩, ty, pos, af, gd⟩ :: rest) p ds cs q := .call_ hf hv hc hq x hw hd
theorem XO.callF {d : Tmp} {fn : FuncId} {args : List Operand} {ats : Array TypeId} {ty : TypeId} {pos : String} {af : Array Edge} {gd : Option (Nat × Bool)}
    {vs : List Value} {pre F : List HP} {R : Value → List HP → Prop} (hcf : ∀ args w, (callFunc fn args).run P w = .ok (.enter fn args) w)
    (hc : CallF P G fn vs pre (Ret R)) (hv : evl p args = some vs) (hq : Le q (pre ++ F))
    (x : ∀ v q', R v q' → ∀ q'', q'' = q' ++ F → XO P G f Q ops.toArray k rest ((d, v) :: p) ds cs q'')
    (hw : Wt ops p ⟨some d, .call ⟨.value (.func fn), args.toArray, ats⟩, ty, pos, af, gd⟩ = some true := by rfl) (hd : Nat.blt d f.n = true := by rfl) :
    XO P G f Q ops.toArray k (⟨some d, .call ⟨.value (.func fn), args.toArray, ats⟩, ty, pos, af, gd⟩ :: rest) p ds cs q := .callF_ hcf hc hv hq x hw hd
theorem XO.call0 {fo : Operand} {args : List Operand} {ats : Array TypeId} {ty : TypeId} {pos : String} {af : Array Edge} {gd : Option (Nat × Bool)}
    {fv : Value} {vs : List Value} {pre F : List HP} {R : Value → List HP → Prop}
    (hf : evp p fo = some fv) (hv : evl p args = some vs) (hc : CallV P G fv vs pre (Ret R)) (hq : Le q (pre ++ F))
    (x : ∀ v q', R v q' → ∀ q'', q'' = q' ++ F → XO P G f Q ops.toArray k rest p ds cs q'')
    (hw : Wt ops p ⟨none, .call ⟨.value fo, args.toArray, ats⟩, ty, pos, af, gd⟩ = some true := by rfl) :
    XO P G f Q ops.toArray k (⟨none, .call ⟨.value fo, args.toArray, ats⟩, ty, pos, af, gd⟩ :: rest) p ds cs q := .call_ hf hv hc hq x hw rfl
theorem XO.callF0 {fn : FuncId} {args : List Operand} {ats : Array TypeId} {ty : TypeId} {pos : String} {af : Array Edge} {gd : Option (Nat × Bool)}
    {vs : List Value} {pre F : List HP} {R : Value → List HP → Prop} (hcf : ∀ args w, (callFunc fn args).run P w = .ok (.enter fn args) w)
    (hc : CallF P G fn vs pre (Ret R)) (hv : evl p args = some vs) (hq : Le q (pre ++ F))
    (x : ∀ v q', R v q' → ∀ q'', q'' = q' ++ F → XO P G f Q ops.toArray k rest p ds cs q'')
    (hw : Wt ops p ⟨none, .call ⟨.value (.func fn), args.toArray, ats⟩, ty, pos, af, gd⟩ = some true := by rfl) :
    XO P G f Q ops.toArray k (⟨none, .call ⟨.value (.func fn), args.toArray, ats⟩, ty, pos, af, gd⟩ :: rest) p ds cs q := .callF_ hcf hc hv hq x hw rfl
end ops

/-! ### a function -/
def penv : Nat → List Value → PE
  | _, [] => []
  | i, v :: r => (i, v) :: penv (i + 1) r
theorem lkp_penv (vs : List Value) (i t : Nat) (v : Value) (h : lkp (penv i vs) t = some v) : i ≤ t ∧ vs[t - i]? = some v := by
  induction vs generalizing i with
  | nil => simp [penv, lkp] at h
  | cons u r ih =>
    simp only [penv, lkp] at h
    cases hb : Nat.beq i t with
    | true => rw [hb] at h; have := Nat.eq_of_beq_eq_true hb; subst this; simpa using h
    | false =>
      rw [hb] at h
      have hne : i ≠ t := Nat.ne_of_beq_eq_false hb
      obtain ⟨h1, h2⟩ := ih (i + 1) (by simpa using h)
      refine ⟨by omega, ?_⟩
      have : t - i = (t - (i + 1)) + 1 := by omega
      rw [this]; simpa using h2
theorem agr_penv (vs : List Value) (m : Nat) : Agr (vs.toArray ++ Array.replicate m undef) (penv 0 vs) := by
  intro t v h
  obtain ⟨_, h2⟩ := lkp_penv vs 0 t v h
  have hlt : t < vs.length := by
    rcases Nat.lt_or_ge t vs.length with h | h
    · exact h
    · simp [List.getElem?_eq_none h] at h2
  simp [Array.getElem?_append, hlt] at h2 ⊢
  simpa using h2
/-- The frame leaves: the deferred calls ds are still to be made, it stands in mode u. -/
def Lv (P : Program) (G : World) (fn : FuncId) (R : Spec) (F : List HP) (ds : List Deferred) (u : FrameMode) (p : PE) (q : List HP) : Prop :=
  ∀ tm w fr cs, fr.fn = fn → fr.tmps = tm → fr.defers = ds → fr.mode = u → fr.kind = .normal → Agr tm p → St G w q →
    ∃ e w' fr' q', R e q' ∧ e ≠ .outgrown ∧ St G w' (q' ++ F) ∧ Steps P (lone fr cs w) (lone fr' cs w') ∧ fr'.fn = fn ∧ fr'.leaving P w' e
def FQ (P : Program) (G : World) (fn : FuncId) (cs₀ : List Frame) (R : Spec) (F : List HP) : Post := fun o p ds cs q => cs = cs₀ ∧ match o with
  | .fall | .jump .ret => Lv P G fn R F ds .returning p q
  | .panic ch => Lv P G fn R F ds (.panicking ch) p q
  | _ => False
theorem CallF.of {P : Program} {G : World} {fn : FuncId} {fd : Func} {c : Code} {n : Nat} {vs : List Value} {pre : List HP} {R : Spec} (hf : P.funcs[fn]? = some fd) (hn : fd.ntmps = n) (hb : fd.body = some c)
    (h : ∀ F cs, X P G ⟨fn, n, .normal, none⟩ (FQ P G fn cs R F) [.code c] (penv 0 vs) [] cs (pre ++ F)) (hl : Nat.ble vs.length n = true := by rfl) : CallF P G fn vs pre R := by
  intro F w s cs
  subst hn
  have hl' : vs.length ≤ fd.ntmps := by simpa using hl
  obtain ⟨o, tm', p', ds', cs', w', q', ⟨rfl, hQ⟩, hn', ha, hs, arr⟩ := h F cs (vs.toArray ++ Array.replicate (fd.ntmps - vs.length) undef) w (by simp; omega) (agr_penv vs _) s
  have henter : Frame.enter P fn vs.toArray .normal = Fc.fr ⟨fn, fd.ntmps, .normal, none⟩ (vs.toArray ++ Array.replicate (fd.ntmps - vs.length) undef) [] [.code c] := by
    simp [Frame.enter, Fc.fr, hf, hb]
  rw [← henter] at arr
  cases o with
  | fall =>
    obtain ⟨e, w'', fr', q'', hR, hne, hs', hst, hfn, hl⟩ := hQ tm' w' { Fc.fr ⟨fn, fd.ntmps, .normal, none⟩ tm' ds' [] with mode := .returning } cs' rfl rfl rfl rfl rfl ha hs
    refine ⟨e, w'', fr', ⟨hne, q'', hR, hs'⟩, ?_, hfn, hl⟩
    have h1 : step P (lone (Fc.fr ⟨fn, fd.ntmps, .normal, none⟩ tm' ds' []) cs' w') = .next (lone { Fc.fr ⟨fn, fd.ntmps, .normal, none⟩ tm' ds' [] with mode := .returning } cs' w') :=
      step_lone_go (by simp [stepG, stepG.exec, Fc.fr])
    have hall := (arr.trans (.one h1)).trans hst
    cases e <;> first | exact hall | exact absurd rfl hne
  | jump c' =>
    obtain ⟨k, g, arr⟩ := arr
    cases c' with
    | ret =>
      obtain ⟨e, w'', fr', q'', hR, hne, hs', hst, hfn, hl⟩ := hQ tm' w' { Fc.fr ⟨fn, fd.ntmps, .normal, none⟩ tm' ds' (.code .ret :: k) with mode := .returning } cs' rfl rfl rfl rfl rfl ha hs
      refine ⟨e, w'', fr', ⟨hne, q'', hR, hs'⟩, ?_, hfn, hl⟩
      have h1 : step P (lone (Fc.fr ⟨fn, fd.ntmps, .normal, none⟩ tm' ds' (.code .ret :: k)) cs' w') = .next (lone { Fc.fr ⟨fn, fd.ntmps, .normal, none⟩ tm' ds' (.code .ret :: k) with mode := .returning } cs' w') :=
        step_lone_go (by simp [stepG, stepG.exec, Fc.fr])
      have hall := (arr.trans (.one h1)).trans hst
      cases e <;> first | exact hall | exact absurd rfl hne
    | _ => exact hQ.elim
  | panic ch =>
    obtain ⟨k, arr⟩ := arr
    obtain ⟨e, w'', fr', q'', hR, hne, hs', hst, hfn, hl⟩ := hQ tm' w' { Fc.fr ⟨fn, fd.ntmps, .normal, none⟩ tm' ds' k with mode := .panicking ch } cs' rfl rfl rfl rfl rfl ha hs
    refine ⟨e, w'', fr', ⟨hne, q'', hR, hs'⟩, ?_, hfn, hl⟩
    have hall := arr.trans hst
    cases e <;> first | exact hall | exact absurd rfl hne
/-- No deferred call is left: the results. -/
theorem Lv.ret {P : Program} {G : World} {fn : FuncId} {fd : Func} {R : Spec} {F : List HP} {p : PE} {q q' : List HP} {v : Value} (hf : P.funcs[fn]? = some fd)
    (hr : ∀ tm w, Agr tm p → St G w q → (results fd tm).run P w = .ok v w) (h : R (.returned v) q') (hq : Le q (q' ++ F)) : Lv P G fn R F [] .returning p q :=
  fun tm w fr cs h1 h2 h3 h4 h5 ag s => ⟨.returned v, w, fr, q', h, by simp, s.le hq, .refl P _, h1, h4, h3, h5, fd, by rw [h1]; exact hf, by rw [h2]; exact hr tm w ag s⟩
theorem Lv.panic {P : Program} {G : World} {fn : FuncId} {fd : Func} {R : Spec} {F : List HP} {p : PE} {q q' : List HP} {ch : List PanicEntry} (hf : P.funcs[fn]? = some fd)
    (h : R (.panicked ch) q') (hq : Le q (q' ++ F)) : Lv P G fn R F [] (.panicking ch) p q :=
  fun tm w fr cs h1 h2 h3 h4 h5 ag s => ⟨.panicked ch, w, fr, q', h, by simp, s.le hq, .refl P _, h1, h4, h3, fd, by rw [h1]; exact hf⟩
theorem res0 {P : Program} {fd : Func} (h : fd.results = #[]) {p : PE} {G : World} {q : List HP} (tm : Array Value) (w : World) (_ : Agr tm p) (_ : St G w q) : (results fd tm).run P w = .ok (.tuple #[]) w := results_none h _ _ _
theorem res1 {P : Program} {fd : Func} {t : Tmp} (h : fd.results = #[.tmp t]) {p : PE} {v : Value} (hp : lkp p t = some v) {G : World} {q : List HP} (tm : Array Value) (w : World) (ag : Agr tm p) (_ : St G w q) :
    (results fd tm).run P w = .ok v w := by rw [results_tmp h]; rw [ag _ _ hp]
theorem res2 {P : Program} {fd : Func} {t t' : Tmp} (h : fd.results = #[.tmp t, .tmp t']) {p : PE} {v v' : Value} (hp : lkp p t = some v) (hp' : lkp p t' = some v') {G : World} {q : List HP} (tm : Array Value) (w : World) (ag : Agr tm p) (_ : St G w q) :
    (results fd tm).run P w = .ok (.tuple #[v, v']) w := by rw [results_tmp2 h]; rw [ag _ _ hp, ag _ _ hp']
theorem res3 {P : Program} {fd : Func} {t t' t'' : Tmp} (h : fd.results = #[.tmp t, .tmp t', .tmp t'']) {p : PE} {v v' v'' : Value} (hp : lkp p t = some v) (hp' : lkp p t' = some v') (hp'' : lkp p t'' = some v'') {G : World} {q : List HP} (tm : Array Value) (w : World) (ag : Agr tm p) (_ : St G w q) :
    (results fd tm).run P w = .ok (.tuple #[v, v', v'']) w := by
  have h1 := ag _ _ hp; have h2 := ag _ _ hp'; have h3 := ag _ _ hp''
  simp [results, h]; exact ⟨by simpa using h1, by simpa using h2, by simpa using h3⟩
end Wx
