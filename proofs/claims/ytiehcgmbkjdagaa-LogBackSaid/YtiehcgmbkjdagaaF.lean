/- What functions of package log, of its references and of its laws do: contracts of calls, proved by walking their code. -/
import Derived.Test.YtiehcgmbkjdagaaE
import Derived.KernelRfl
set_option maxRecDepth 100000
set_option linter.unusedVariables false
set_option linter.unusedSimpArgs false
namespace Go.Proofs.Ytiehcgmbkjdagaa
open Go Go.RowKit Wx

/-! ### numbers out of bytes -/
theorem or_add {w k : Nat} {n y : Int} (h0 : 0 ≤ n) (h1 : n < 2 ^ k) (hy : 0 ≤ y) (h : n + y * 2 ^ k < 2 ^ w) : ((BitVec.ofInt w n ||| BitVec.ofInt w (y * 2 ^ k)).toNat : Int) = n + y * 2 ^ k := by
  obtain ⟨a, rfl⟩ := Int.eq_ofNat_of_zero_le h0
  obtain ⟨b, rfl⟩ := Int.eq_ofNat_of_zero_le hy
  have e1 : ((b : Int) * 2 ^ k) = ((b * 2 ^ k : Nat) : Int) := by simp
  have e2 : ((2 : Int) ^ k) = ((2 ^ k : Nat) : Int) := by simp
  have e3 : ((2 : Int) ^ w) = ((2 ^ w : Nat) : Int) := by simp
  rw [e2] at h1
  rw [e1, e3] at h
  have h1' : a < 2 ^ k := by exact_mod_cast h1
  have h' : a + b * 2 ^ k < 2 ^ w := by exact_mod_cast h
  rw [e1, BitVec.ofInt_natCast, BitVec.ofInt_natCast, BitVec.toNat_or, BitVec.toNat_ofNat, BitVec.toNat_ofNat, Nat.mod_eq_of_lt (by omega), Nat.mod_eq_of_lt (by omega), Nat.or_comm, Nat.mul_comm, ← Nat.two_pow_add_eq_or_of_lt h1']
  push_cast; omega
theorem and127 {x : Int} (h : 0 ≤ x) (h2 : x ≤ 255) : IntKind.i64.wrap ((BitVec.ofInt IntKind.i64.bits x &&& BitVec.ofInt IntKind.i64.bits 127).toNat : Int) = x % 128 := by
  have key : ∀ k : Fin 256, IntKind.i64.wrap ((BitVec.ofInt IntKind.i64.bits (k.val : Int) &&& BitVec.ofInt IntKind.i64.bits 127).toNat : Int) = (k.val : Int) % 128 := by decide
  have := key ⟨x.toNat, by omega⟩
  simpa [Int.toNat_of_nonneg h] using this
theorem orW {n x : Int} {i : Nat} (h0 : 0 ≤ n) (h1 : n < 256 ^ i) (hx : 0 ≤ x) (hx2 : x ≤ 255) (hi : i < 4) :
    IntKind.u32.wrap ((BitVec.ofInt IntKind.u32.bits n ||| BitVec.ofInt IntKind.u32.bits (IntKind.u32.wrap (IntKind.u32.wrap x * 2 ^ min (8 * (i : Int)).toNat IntKind.u32.bits))).toNat : Int) = n + x * 256 ^ i := by
  have e256 : (256 : Int) ^ i = 2 ^ (8 * i) := by rw [show (256 : Int) = 2 ^ 8 by decide, ← Int.pow_mul]
  have hp : (2 : Int) ^ (8 * i) ≤ 16777216 := by
    have : i = 0 ∨ i = 1 ∨ i = 2 ∨ i = 3 := by omega
    rcases this with rfl | rfl | rfl | rfl <;> decide
  have hp0 : (0 : Int) < 2 ^ (8 * i) := by
    have : i = 0 ∨ i = 1 ∨ i = 2 ∨ i = 3 := by omega
    rcases this with rfl | rfl | rfl | rfl <;> decide
  have hm : min (8 * (i : Int)).toNat IntKind.u32.bits = 8 * i := by simp only [IntKind.bits]; omega
  rw [e256] at h1 ⊢
  rw [hm]
  have hw : IntKind.u32.wrap x = x := by rw [wu32]; omega
  have hxy : x * 2 ^ (8 * i) ≤ 255 * 2 ^ (8 * i) := Int.mul_le_mul_of_nonneg_right hx2 (by omega)
  have hxp : 0 ≤ x * 2 ^ (8 * i) := Int.mul_nonneg hx (by omega)
  have hw2 : IntKind.u32.wrap (x * 2 ^ (8 * i)) = x * 2 ^ (8 * i) := by rw [wu32]; omega
  have h32 : (2 : Int) ^ IntKind.u32.bits = 4294967296 := by decide
  have h32' : (255 : Int) * 2 ^ (8 * i) + 2 ^ (8 * i) ≤ 4294967296 := by omega
  rw [hw, hw2, or_add h0 h1 hx (by rw [h32]; omega), wu32]
  omega
theorem orN {n y : Int} {i : Nat} (h0 : 0 ≤ n) (h1 : n < 2 ^ (7 * i)) (hx : 0 ≤ y) (hx2 : y ≤ 127) (hi : i < 5) :
    IntKind.i64.wrap ((BitVec.ofInt IntKind.i64.bits n ||| BitVec.ofInt IntKind.i64.bits (IntKind.i64.wrap (y * 2 ^ min (7 * (i : Int)).toNat IntKind.i64.bits))).toNat : Int) = n + y * 2 ^ (7 * i) := by
  have hp : (2 : Int) ^ (7 * i) ≤ 268435456 := by
    have : i = 0 ∨ i = 1 ∨ i = 2 ∨ i = 3 ∨ i = 4 := by omega
    rcases this with rfl | rfl | rfl | rfl | rfl <;> decide
  have hp0 : (0 : Int) < 2 ^ (7 * i) := by
    have : i = 0 ∨ i = 1 ∨ i = 2 ∨ i = 3 ∨ i = 4 := by omega
    rcases this with rfl | rfl | rfl | rfl | rfl <;> decide
  have hm : min (7 * (i : Int)).toNat IntKind.i64.bits = 7 * i := by simp only [IntKind.bits]; omega
  rw [hm]
  have hxy : y * 2 ^ (7 * i) ≤ 127 * 2 ^ (7 * i) := Int.mul_le_mul_of_nonneg_right hx2 (by omega)
  have hxp : 0 ≤ y * 2 ^ (7 * i) := Int.mul_nonneg hx (by omega)
  have h32 : (2 : Int) ^ IntKind.i64.bits = 18446744073709551616 := by decide
  have hw : IntKind.i64.wrap (y * 2 ^ (7 * i)) = y * 2 ^ (7 * i) := wrap64_of (by omega) (by omega)
  rw [hw, or_add h0 h1 hx (by rw [h32]; omega), wrap64_of (by omega) (by omega)]
theorem pow7 (i : Nat) : (2 : Int) ^ (7 * (i + 1)) = 2 ^ (7 * i) * 128 := by rw [Nat.mul_add, Int.pow_add]; rfl
def pwF : Nat → Nat → Int → List Int → Option (Int × List Int)
  | 0, _, n, l => some (n, l)
  | _ + 1, _, _, [] => none
  | j + 1, i, n, x :: r => pwF j (i + 1) (n + x * 256 ^ i) r
def pWord (l : List Int) : Option (Int × List Int) := pwF 4 0 0 l
def pnF : Nat → Nat → Int → List Int → Option (Int × List Int)
  | 0, _, _, _ => none
  | _ + 1, _, _, [] => none
  | j + 1, i, n, x :: r => if x < 128 then (if x = 0 ∧ 0 < i then none else some (n + x * 2 ^ i, r)) else pnF j (i + 7) (n + (x - 128) * 2 ^ i) r
theorem pnF_low {j i : Nat} {n x : Int} {r : List Int} (h : x < 128) : pnF (j + 1) i n (x :: r) = if x = 0 ∧ 0 < i then none else some (n + x * 2 ^ i, r) := by rw [pnF, if_pos h]
theorem pnF_high {j i : Nat} {n x : Int} {r : List Int} (h : ¬ x < 128) : pnF (j + 1) i n (x :: r) = pnF j (i + 7) (n + (x - 128) * 2 ^ i) r := by rw [pnF, if_neg h]
def pNum (l : List Int) : Option (Int × List Int) := pnF 5 0 0 l
theorem Bs.tail {x : Int} {r : List Int} (h : Bs (x :: r)) : Bs r := fun y hy => h y (List.mem_cons_of_mem _ hy)
theorem Bs.head {x : Int} {r : List Int} (h : Bs (x :: r)) : 0 ≤ x ∧ x ≤ 255 := h x List.mem_cons_self
abbrev By (l : List Int) : List Value := l.map (Value.int .u8)
def failE : PanicEntry := { v := .iface 89 (.agg [].toArray), recovered := false }
abbrev RD (p : Nat) (a : Option Addr) (n c : Nat) : HP := pto p (.cells [.slice a n c].toArray 76 (0, 0))
/-- A reader that still has l to read. -/
structure Rd' (q : List HP) (a : Option Addr) (c : Nat) (l : List Int) : Prop where
  s : Sees q a (By l)
  c : l.length ≤ c
  b : Bs l
theorem Rd'.tail {q : List HP} {a : Option Addr} {c : Nat} {x : Int} {r : List Int} (h : Rd' q a c (x :: r)) : Rd' q (sufA a c 1 1) (c - 1) r :=
  ⟨by have := h.s.suf (c := c) (sz := 1) (l := 1) (by have := h.c; simpa using this); simpa using this, by have := h.c; simp at this; omega, h.b.tail⟩
section
variable {G : World} {q : List HP} {a b : Option Addr} {c d p : Nat} {l : List Int}
theorem fail_ok  : CallF Try.prog G 45 [] (q) (RP (fun _ _ => False) (fun ch q' => ch = [failE] ∧ q' = q)) := by
  refine CallF.of Try.func45 Try.ntmps45 rfl (fun F cs => ?_)
  refine X.sub (p' := []) trivial ?_
  refine X.region ?_
  refine XO.pu (Pu.build (cells := []) [] Try.zeroValue89 Try.underlying89 (by kernel_rfl) rfl rfl) ?_
  refine XO.pu (Pu.makeInterface rfl Try.underlying89 rfl) ?_
  exact XO.pn (Pn.panic rfl) (FQ.panic Try.func45 (RP.thr ⟨rfl, rfl⟩))
def pByte : List Int → Option (Int × List Int)
  | [] => none
  | x :: r => some (x, r)
theorem byte1_ok (h : Rd' q a c l) : CallF Try.prog G 43 [.pointer (some ⟨p, 0, none⟩)] (RD p a l.length c :: q) (RP (fun v q' => ∃ x r a' c', pByte l = some (x, r) ∧ v = .int .i64 x ∧ q' = RD p a' r.length c' :: q ∧ ∀ q0, Rd' q0 a c l → Rd' q0 a' c' r) (fun ch q' => pByte l = none ∧ ch = [failE] ∧ ∃ a' n' c', q' = RD p a' n' c' :: q)) := by
  refine CallF.of Try.func43 Try.ntmps43 rfl (fun F cs => ?_)
  refine X.sub (p' := [(0, _)]) ⟨rfl, trivial⟩ ?_
  refine X.seq ?_
  refine X.region ?_
  refine XO.pu (Pu.assign rfl) ?_
  refine XO.nil ?_
  refine X.sub (p' := [(2, _), (0, _)]) ⟨rfl, rfl, trivial⟩ ?_
  refine X.seq ?_
  refine X.seq ?_
  refine X.region ?_
  refine XO.pu (Pu.move rfl) ?_
  refine XO.pu (Pu.nilCheck rfl) ?_
  refine XO.pu (Pu.fieldAddr 67 0 0 rfl Try.underlying76 rfl Try.sizeOf67) ?_
  refine XO.pu (Pu.fieldAddr 31 0 0 rfl Try.underlying67 rfl Try.sizeOf31) ?_
  refine XO.ld Try.isAgg31 ?_
  refine XO.pu (Pu.len rfl Try.underlying31) ?_
  refine XO.pu (Pu.eql rfl rfl) ?_
  refine XO.nil ?_
  refine X.sub (p' := [(10, _), (2, _), (0, _)]) ⟨rfl, rfl, rfl, trivial⟩ ?_
  refine X.part 10 rfl (fun h0 => ?_) (fun h0 => ?_)
  · skip
    have h0 : l = [] := by cases l with | nil => rfl | cons x r => simp at h0; omega
    refine X.condT rfl ?_
    refine X.region ?_
    refine XO.cP Try.call45 (Le.refl _) fail_ok ?_ (fun _ _ h => h.elim)
    rintro _ _ ⟨rfl, rfl⟩
    exact FQ.panic Try.func43 (RP.thr ⟨by rw [h0]; rfl, rfl, _, _, _, rfl⟩)
  · skip
    obtain ⟨x, r, rfl⟩ : ∃ x r, l = x :: r := by
            cases l with
            | nil => simp at h0
            | cons x r => exact ⟨x, r, rfl⟩
    have hx := h.b.head; have hc := h.c; rw [List.length_cons] at hc; have hs := h.s
    rw [List.length_cons]
    refine X.adr hs (by simp) (fun b1 o1 e_ => ?_); subst e_
    refine X.condF rfl ?_
    refine X.skip ?_
    refine X.seq ?_
    refine X.region ?_
    refine XO.pu (Pu.move rfl) ?_
    refine XO.pu (Pu.nilCheck rfl) ?_
    refine XO.pu (Pu.fieldAddr 67 0 0 rfl Try.underlying76 rfl Try.sizeOf67) ?_
    refine XO.pu (Pu.fieldAddr 31 0 0 rfl Try.underlying67 rfl Try.sizeOf31) ?_
    refine XO.ld Try.isAgg31 ?_ (hc := (by first | exact clA | exact Cl.e1 (n := 0) hs leA (by simp) rfl))
    refine XO.pu (Pu.indexAddr rfl rfl Try.underlying31 Try.sizeOf5 (by omega) (by omega)) ?_
    refine XO.ld Try.isAgg5 ?_ (hc := (by first | exact clA | exact Cl.e1 (n := 0) hs leA (by simp) rfl))
    refine XO.know 18 (.int .u8 x) rfl (rfl) ?_
    refine XO.pu (Pu.assign rfl) ?_
    refine XO.nil ?_
    refine X.sub (p' := [(3, _), (2, _), (0, _)]) ⟨rfl, rfl, rfl, trivial⟩ ?_
    refine X.seq ?_
    refine X.region ?_
    refine XO.pu (Pu.move rfl) ?_
    refine XO.pu (Pu.move rfl) ?_
    refine XO.pu (Pu.nilCheck rfl) ?_
    refine XO.pu (Pu.fieldAddr 67 0 0 rfl Try.underlying76 rfl Try.sizeOf67) ?_
    refine XO.pu (Pu.fieldAddr 31 0 0 rfl Try.underlying67 rfl Try.sizeOf31) ?_
    refine XO.ld Try.isAgg31 ?_
    refine XO.pu (Pu.sliceLo rfl rfl Try.underlying31 Try.sizeOf5 (by omega) (by omega)) ?_
    refine XO.pu (Pu.nilCheck rfl) ?_
    refine XO.pu (Pu.fieldAddr 67 0 0 rfl Try.underlying76 rfl Try.sizeOf67) ?_
    refine XO.pu (Pu.fieldAddr 31 0 0 rfl Try.underlying67 rfl Try.sizeOf31) ?_
    refine XO.ef0 (Ef.st Try.sizeOf31) ?_
    rintro _ _ ⟨rfl, rfl⟩
    refine XO.nil ?_
    refine X.sub (p' := [(3, _), (2, _)]) ⟨rfl, rfl, trivial⟩ ?_
    refine X.seq ?_
    refine X.region ?_
    refine XO.pu (Pu.move rfl) ?_
    refine XO.pu (Pu.conv rfl Try.underlying5 Try.underlying3 (wrap64_of (by omega) (by omega))) ?_
    refine XO.pu (Pu.assign rfl) ?_
    refine XO.nil ?_
    refine X.sub (p' := [(2, _)]) ⟨rfl, trivial⟩ ?_
    refine X.retL (RD p (sufA (some ⟨b1, o1, none⟩) c 1 1) r.length (c - 1) :: q) Try.func43 (res1 Try.results43 rfl) (RP.ret ⟨x, r, _, _, rfl, rfl, rfl, fun q0 h => h.tail⟩)
theorem rword_ok (h : Rd' q a c l) : CallF Try.prog G 33 [.pointer (some ⟨p, 0, none⟩)] (RD p a l.length c :: q) (RP (fun v q' => ∃ x r a' c', pWord l = some (x, r) ∧ v = .int .u32 x ∧ q' = RD p a' r.length c' :: q ∧ ∀ q0, Rd' q0 a c l → Rd' q0 a' c' r) (fun ch q' => pWord l = none ∧ ch = [failE] ∧ ∃ a' n' c', q' = RD p a' n' c' :: q)) := by
  refine CallF.of Try.func33 Try.ntmps33 rfl (fun F cs => ?_)
  refine X.sub (p' := [(0, _)]) ⟨rfl, trivial⟩ ?_
  refine X.seq ?_
  refine X.region ?_
  refine XO.pu (Pu.assign rfl) ?_
  refine XO.nil ?_
  refine X.sub (p' := [(2, _), (0, _)]) ⟨rfl, rfl, trivial⟩ ?_
  refine X.seq ?_
  refine X.region ?_
  refine XO.pu (Pu.assign rfl) ?_
  refine XO.nil ?_
  refine X.sub (p' := [(3, _), (2, _), (0, _)]) ⟨rfl, rfl, rfl, trivial⟩ ?_
  refine X.seq ?_
  refine X.seq ?_
  refine X.region ?_
  refine XO.pu (Pu.move rfl) ?_
  refine XO.nil ?_
  refine X.sub (p' := [(5, _), (3, _), (2, _), (0, _)]) ⟨rfl, rfl, rfl, rfl, trivial⟩ ?_
  refine X.block ?_
  refine X.at (X.loop (fun (s : (Nat × Int) × List Int × Option Addr × Nat) => s.1.1 ≤ 4 ∧ 0 ≤ s.1.2 ∧ s.1.2 < 256 ^ s.1.1 ∧ pWord l = pwF (4 - s.1.1) s.1.1 s.1.2 s.2.1 ∧ ∀ q0, Rd' q0 a c l → Rd' q0 s.2.2.1 s.2.2.2 s.2.1) (fun s => [(0, .pointer (some ⟨p, 0, none⟩)), (3, .int .u32 s.1.2), (5, .int .i64 (s.1.1 : Int))]) (fun s => RD p s.2.2.1 s.2.1.length s.2.2.2 :: (q ++ F)) (fun s => 4 - s.1.1) (fun s hi_ ih => ?_) ((0, 0), l, a, c) ⟨by dsimp only; omega, by dsimp only; omega, by dsimp only; omega, rfl, fun _ h => h⟩) ⟨(by first | rfl | exact congrArg some (congrArg (Value.int _) (by omega)) | (show some _ = some _; simp; done) | (show some _ = some _; simp; omega)), (by first | rfl | exact congrArg some (congrArg (Value.int _) (by omega)) | (show some _ = some _; simp; done) | (show some _ = some _; simp; omega)), (by first | rfl | exact congrArg some (congrArg (Value.int _) (by omega)) | (show some _ = some _; simp; done) | (show some _ = some _; simp; omega)), trivial⟩ leA
  try dsimp only at hi_ ih ⊢
  obtain ⟨h1, h2, h3, h4, h5⟩ := hi_
  obtain ⟨⟨i, n⟩, m, a', c'⟩ := s; dsimp only at *
  have h6 := h5 q h
  refine X.seq ?_
  refine X.region ?_
  refine XO.pu (Pu.lss rfl rfl) ?_
  refine XO.nil ?_
  refine X.sub (p' := [(6, _), (0, _), (3, _), (5, _)]) ⟨rfl, rfl, rfl, rfl, trivial⟩ ?_
  refine X.seq ?_
  refine X.part 6 rfl (fun h0 => ?_) (fun h0 => ?_)
  · skip
    have h0 := of_decide_eq_true h0; have hi0 : i < 4 := (by omega)
    refine X.condT rfl ?_
    refine X.skip ?_
    refine X.seq ?_
    refine X.block ?_
    refine X.seq ?_
    refine X.region ?_
    refine XO.pu (Pu.move rfl) ?_
    refine XO.pu (Pu.assign rfl) ?_
    refine XO.nil ?_
    refine X.sub (p' := [(4, _), (0, _), (3, _), (5, _)]) ⟨rfl, rfl, rfl, rfl, trivial⟩ ?_
    refine X.region ?_
    refine XO.pu (Pu.move rfl) ?_
    refine XO.pu (Pu.move rfl) ?_
    obtain ⟨j, hj⟩ : ∃ j, 4 - i = j + 1 := ⟨3 - i, by omega⟩
    rw [hj] at h4
    refine XO.cP Try.call43 (Le.refl _) (byte1_ok (q := q ++ F) (p := p) ⟨h6.s.le leA, h6.c, h6.b⟩) ?_ ?_
    · rintro _ _ ⟨hb, rfl, a2, n2, c2, rfl⟩
      exact FQ.panic Try.func33 (RP.thr ⟨by (cases m with | nil => rw [h4]; rfl | cons y r => cases hb), rfl, _, _, _, rfl⟩)
    rintro _ _ ⟨x, m2, a2, c2, hb, rfl, rfl, h7⟩
    cases m with
    | nil => cases hb
    | cons y r =>
      obtain ⟨rfl, rfl⟩ : y = x ∧ r = m2 := by simpa [pByte] using hb
      have hy := h6.b.head
      have hi4 : i = 0 ∨ i = 1 ∨ i = 2 ∨ i = 3 := by omega
      refine XO.pu (Pu.convW rfl Try.underlying3 Try.underlying22) ?_
      refine XO.pu (Pu.move rfl) ?_
      refine XO.pu (Pu.mul rfl rfl (by omega) (by omega)) ?_
      refine XO.pu (Pu.shl rfl rfl (by omega)) ?_
      refine XO.pu (Pu.or rfl rfl) ?_
      refine XO.know 15 (.int .u32 (n + y * 256 ^ i)) rfl (congrArg (Value.int .u32) (orW h2 h3 hy.1 hy.2 hi0)) ?_
      refine XO.pu (Pu.assign rfl) ?_
      refine XO.nil ?_
      refine X.sub (p' := [(3, _), (0, _), (5, _)]) ⟨rfl, rfl, rfl, trivial⟩ ?_
      refine X.inBlock ?_
      refine X.region ?_
      refine XO.pu (Pu.add rfl rfl (by omega) (by omega)) ?_
      refine XO.pu (Pu.move rfl) ?_
      refine XO.nil ?_
      refine X.sub (p' := [(5, _), (3, _), (0, _)]) ⟨rfl, rfl, rfl, trivial⟩ ?_
      refine X.at (ih ((i + 1, n + y * 256 ^ i), r, a2, c2) ⟨by dsimp only; omega, by dsimp only; have := Int.mul_nonneg hy.1 (Int.pow_nonneg (m := i) (show (0 : Int) ≤ 256 by omega)); omega, by dsimp only; rw [Int.pow_succ]; have := Int.mul_le_mul_of_nonneg_right hy.2 (Int.pow_nonneg (m := i) (show (0 : Int) ≤ 256 by omega)); omega, by dsimp only; rw [h4, show 4 - (i + 1) = j by omega]; rfl, fun q0 h => h7 q0 (h5 q0 h)⟩ (by dsimp only; omega)) ⟨(by first | rfl | exact congrArg some (congrArg (Value.int _) (by omega)) | (show some _ = some _; simp; done) | (show some _ = some _; simp; omega)), (by first | rfl | exact congrArg some (congrArg (Value.int _) (by omega)) | (show some _ = some _; simp; done) | (show some _ = some _; simp; omega)), (by first | rfl | exact congrArg some (congrArg (Value.int _) (by omega)) | (show some _ = some _; simp; done) | (show some _ = some _; simp; omega)), trivial⟩ leA
  · skip
    have h0 := of_decide_eq_false h0; obtain rfl : i = 4 := by omega
    refine X.condF rfl ?_
    refine X.exit rfl ?_
    refine X.seq ?_
    refine X.region ?_
    refine XO.pu (Pu.move rfl) ?_
    refine XO.pu (Pu.assign rfl) ?_
    refine XO.nil ?_
    refine X.sub (p' := [(2, _)]) ⟨rfl, trivial⟩ ?_
    refine X.retL (RD p a' m.length c' :: q) Try.func33 (res1 Try.results33 rfl) (RP.ret ⟨n, m, a', c', h4, rfl, rfl, h5⟩)
set_option maxHeartbeats 1000000 in
theorem rnumber_ok (h : Rd' q a c l) : CallF Try.prog G 46 [.pointer (some ⟨p, 0, none⟩)] (RD p a l.length c :: q) (RP (fun v q' => ∃ x r a' c', pNum l = some (x, r) ∧ v = .int .i64 x ∧ q' = RD p a' r.length c' :: q ∧ ∀ q0, Rd' q0 a c l → Rd' q0 a' c' r) (fun ch q' => pNum l = none ∧ ch = [failE] ∧ ∃ a' n' c', q' = RD p a' n' c' :: q)) := by
  refine CallF.of Try.func46 Try.ntmps46 rfl (fun F cs => ?_)
  refine X.sub (p' := [(0, _)]) ⟨rfl, trivial⟩ ?_
  refine X.seq ?_
  refine X.region ?_
  refine XO.pu (Pu.assign rfl) ?_
  refine XO.nil ?_
  refine X.sub (p' := [(2, _), (0, _)]) ⟨rfl, rfl, trivial⟩ ?_
  refine X.seq ?_
  refine X.region ?_
  refine XO.pu (Pu.assign rfl) ?_
  refine XO.nil ?_
  refine X.sub (p' := [(3, _), (2, _), (0, _)]) ⟨rfl, rfl, rfl, trivial⟩ ?_
  refine X.seq ?_
  refine X.seq ?_
  refine X.region ?_
  refine XO.pu (Pu.assign rfl) ?_
  refine XO.nil ?_
  refine X.sub (p' := [(4, _), (3, _), (2, _), (0, _)]) ⟨rfl, rfl, rfl, rfl, trivial⟩ ?_
  refine X.block ?_
  refine X.at (X.loop (fun (s : (Nat × Int) × List Int × Option Addr × Nat) => s.1.1 ≤ 5 ∧ 0 ≤ s.1.2 ∧ s.1.2 < 2 ^ (7 * s.1.1) ∧ pNum l = pnF (5 - s.1.1) (7 * s.1.1) s.1.2 s.2.1 ∧ ∀ q0, Rd' q0 a c l → Rd' q0 s.2.2.1 s.2.2.2 s.2.1) (fun s => [(0, .pointer (some ⟨p, 0, none⟩)), (3, .int .i64 s.1.2), (4, .int .i64 (7 * (s.1.1 : Int)))]) (fun s => RD p s.2.2.1 s.2.1.length s.2.2.2 :: (q ++ F)) (fun s => 5 - s.1.1) (fun s hi_ ih => ?_) ((0, 0), l, a, c) ⟨by dsimp only; omega, by dsimp only; omega, by dsimp only; omega, rfl, fun _ h => h⟩) ⟨(by first | rfl | exact congrArg some (congrArg (Value.int _) (by omega)) | (show some _ = some _; simp; done) | (show some _ = some _; simp; omega)), (by first | rfl | exact congrArg some (congrArg (Value.int _) (by omega)) | (show some _ = some _; simp; done) | (show some _ = some _; simp; omega)), (by first | rfl | exact congrArg some (congrArg (Value.int _) (by omega)) | (show some _ = some _; simp; done) | (show some _ = some _; simp; omega)), trivial⟩ leA
  try dsimp only at hi_ ih ⊢
  obtain ⟨h1, h2, h3, h4, h5⟩ := hi_
  obtain ⟨⟨i, n⟩, m, a', c'⟩ := s; dsimp only at *
  have h6 := h5 q h
  refine X.seq ?_
  refine X.seq ?_
  refine X.region ?_
  refine XO.pu (Pu.move rfl) ?_
  refine XO.pu (Pu.lss rfl rfl) ?_
  refine XO.nil ?_
  refine X.sub (p' := [(7, _), (0, _), (3, _), (4, _)]) ⟨rfl, rfl, rfl, rfl, trivial⟩ ?_
  refine X.part 7 rfl (fun h0 => ?_) (fun h0 => ?_)
  · skip
    have h0 := of_decide_eq_true h0; have hi0 : i < 5 := (by omega)
    refine X.condT rfl ?_
    refine X.skip ?_
    refine X.seq ?_
    refine X.block ?_
    refine X.seq ?_
    refine X.region ?_
    refine XO.pu (Pu.move rfl) ?_
    obtain ⟨j, hj⟩ : ∃ j, 5 - i = j + 1 := ⟨4 - i, by omega⟩
    rw [hj] at h4
    refine XO.cP Try.call43 (Le.refl _) (byte1_ok (q := q ++ F) (p := p) ⟨h6.s.le leA, h6.c, h6.b⟩) ?_ ?_
    · rintro _ _ ⟨hb, rfl, a2, n2, c2, rfl⟩
      exact FQ.panic Try.func46 (RP.thr ⟨by (cases m with | nil => rw [h4]; rfl | cons y r => cases hb), rfl, _, _, _, rfl⟩)
    rintro _ _ ⟨x, m2, a2, c2, hb, rfl, rfl, h7⟩
    cases m with
    | nil => cases hb
    | cons y r =>
      obtain ⟨rfl, rfl⟩ : y = x ∧ r = m2 := by simpa [pByte] using hb
      have hy := h6.b.head
      have hp0 : (0 : Int) < 2 ^ (7 * i) := Int.pow_pos (by omega)
      refine XO.pu (Pu.assign rfl) ?_
      refine XO.nil ?_
      refine X.sub (p' := [(5, _), (0, _), (3, _), (4, _)]) ⟨rfl, rfl, rfl, rfl, trivial⟩ ?_
      refine X.seq ?_
      refine X.region ?_
      refine XO.pu (Pu.move rfl) ?_
      refine XO.pu (Pu.move rfl) ?_
      refine XO.pu (Pu.and rfl rfl) ?_
      refine XO.pu (Pu.move rfl) ?_
      refine XO.know 14 (.int .i64 (y % 128)) rfl (congrArg (Value.int .i64) (and127 hy.1 hy.2)) ?_
      refine XO.pu (Pu.shl rfl rfl (by omega)) ?_
      refine XO.pu (Pu.or rfl rfl) ?_
      refine XO.know 17 (.int .i64 (n + y % 128 * 2 ^ (7 * i))) rfl (congrArg (Value.int .i64) (orN h2 h3 (by omega) (by omega) hi0)) ?_
      refine XO.pu (Pu.assign rfl) ?_
      refine XO.nil ?_
      refine X.sub (p' := [(3, _), (5, _), (0, _), (4, _)]) ⟨rfl, rfl, rfl, rfl, trivial⟩ ?_
      refine X.seq ?_
      refine X.region ?_
      refine XO.pu (Pu.move rfl) ?_
      refine XO.pu (Pu.lss rfl rfl) ?_
      refine XO.nil ?_
      refine X.sub (p' := [(19, _), (3, _), (5, _), (0, _), (4, _)]) ⟨rfl, rfl, rfl, rfl, rfl, trivial⟩ ?_
      refine X.part 19 rfl (fun h8 => ?_) (fun h8 => ?_)
      · skip
        have h8 := of_decide_eq_true h8
        have h4' := h4.trans (pnF_low h8)
        refine X.condT rfl ?_
        refine X.seq ?_
        refine X.seq ?_
        refine X.region ?_
        refine XO.pu (Pu.move rfl) ?_
        refine XO.pu (Pu.eql rfl rfl) ?_
        refine XO.pu (Pu.move rfl) ?_
        refine XO.sub (p' := [(22, _), (3, _), (0, _), (4, _)]) ⟨rfl, rfl, rfl, rfl, trivial⟩ ?_
        apply XO.cutAnd 3 25 22 rfl
        · skip
          intro g1 M1; have h1 := g1; try simp only [decide_eq_true_eq, decide_eq_false_iff_not, bne_iff_ne, beq_iff_eq, ne_eq, bne_eq_false_iff_eq, beq_eq_false_iff_ne, Bool.not_eq_true', Bool.not_eq_false', Int.not_lt, Int.not_le, Bool.not_not, Bool.and_eq_true, Bool.and_eq_false_iff, Bool.true_and, Bool.and_true, beq_self_eq_true, Bool.or_eq_true, Bool.or_eq_false_iff] at h1
          refine XO.pu (Pu.move rfl) ?_
          refine XO.pu (Pu.gtr rfl rfl) ?_
          refine XO.pu (Pu.pickT rfl rfl) ?_
          exact XO.fin M1 ⟨andT g1, congrArg (fun x => some (Value.bool x)) g1.symm, rfl, rfl, rfl, trivial⟩
        · skip
          intro g1 M1; have h1 := g1; try simp only [decide_eq_true_eq, decide_eq_false_iff_not, bne_iff_ne, beq_iff_eq, ne_eq, bne_eq_false_iff_eq, beq_eq_false_iff_ne, Bool.not_eq_true', Bool.not_eq_false', Int.not_lt, Int.not_le, Bool.not_not, Bool.and_eq_true, Bool.and_eq_false_iff, Bool.true_and, Bool.and_true, beq_self_eq_true, Bool.or_eq_true, Bool.or_eq_false_iff] at h1
          refine XO.pass rfl ?_
          refine XO.pass rfl ?_
          refine XO.pu (Pu.pickF rfl rfl) ?_
          exact XO.fin M1 ⟨andF g1, congrArg (fun x => some (Value.bool x)) g1.symm, rfl, rfl, rfl, trivial⟩
        · skip
          refine XO.nil ?_
          refine X.sub (p' := [(25, _), (3, _), (0, _), (4, _)]) ⟨rfl, rfl, rfl, rfl, trivial⟩ ?_
          refine X.part 25 rfl (fun h1 => ?_) (fun h1 => ?_)
          · skip
            try simp only [decide_eq_true_eq, decide_eq_false_iff_not, bne_iff_ne, beq_iff_eq, ne_eq, bne_eq_false_iff_eq, beq_eq_false_iff_ne, Bool.not_eq_true', Bool.not_eq_false', Int.not_lt, Int.not_le, Bool.not_not, Bool.and_eq_true, Bool.and_eq_false_iff, Bool.true_and, Bool.and_true, beq_self_eq_true, Bool.or_eq_true, Bool.or_eq_false_iff] at h1
            refine X.condT rfl ?_
            refine X.region ?_
            have h9 : y = 0 ∧ 0 < 7 * i := by omega
            refine XO.cP Try.call45 (Le.refl _) fail_ok ?_ (fun _ _ h => h.elim)
            rintro _ _ ⟨rfl, rfl⟩
            exact FQ.panic Try.func46 (RP.thr ⟨by rw [h4', if_pos h9], rfl, _, _, _, rfl⟩)
          · skip
            try simp only [decide_eq_true_eq, decide_eq_false_iff_not, bne_iff_ne, beq_iff_eq, ne_eq, bne_eq_false_iff_eq, beq_eq_false_iff_ne, Bool.not_eq_true', Bool.not_eq_false', Int.not_lt, Int.not_le, Bool.not_not, Bool.and_eq_true, Bool.and_eq_false_iff, Bool.true_and, Bool.and_true, beq_self_eq_true, Bool.or_eq_true, Bool.or_eq_false_iff] at h1
            refine X.condF rfl ?_
            refine X.skip ?_
            refine X.seq ?_
            refine X.region ?_
            refine XO.pu (Pu.move rfl) ?_
            refine XO.pu (Pu.assign rfl) ?_
            refine XO.nil ?_
            refine X.sub (p' := [(2, _), (3, _), (0, _), (4, _)]) ⟨rfl, rfl, rfl, rfl, trivial⟩ ?_
            have h9 : ¬ (y = 0 ∧ 0 < 7 * i) := by omega
            rw [show y % 128 = y by omega]
            refine X.retL (RD p a2 r.length c2 :: q) Try.func46 (res1 Try.results46 rfl) (RP.ret ⟨_, r, a2, c2, by rw [h4', if_neg h9], rfl, rfl, fun q0 h => h7 q0 (h5 q0 h)⟩)
      · skip
        have h8 := of_decide_eq_false h8
        refine X.condF rfl ?_
        refine X.skip ?_
        refine X.inBlock ?_
        refine X.region ?_
        refine XO.pu (Pu.move rfl) ?_
        refine XO.pu (Pu.add rfl rfl (by omega) (by omega)) ?_
        refine XO.pu (Pu.assign rfl) ?_
        refine XO.nil ?_
        refine X.sub (p' := [(4, _), (3, _), (0, _)]) ⟨rfl, rfl, rfl, trivial⟩ ?_
        refine X.at (ih ((i + 1, n + y % 128 * 2 ^ (7 * i)), r, a2, c2) ⟨by dsimp only; omega, by dsimp only; have := Int.mul_nonneg (show 0 ≤ y % 128 by omega) (show (0 : Int) ≤ 2 ^ (7 * i) by omega); omega, by dsimp only; rw [pow7]; have := Int.mul_le_mul_of_nonneg_right (show y % 128 ≤ 127 by omega) (show (0 : Int) ≤ 2 ^ (7 * i) by omega); omega, by dsimp only; rw [h4, show 5 - (i + 1) = j by omega, show y % 128 = y - 128 by omega, pnF_high h8]; rfl, fun q0 h => h7 q0 (h5 q0 h)⟩ (by dsimp only; omega)) ⟨(by first | rfl | exact congrArg some (congrArg (Value.int _) (by omega)) | (show some _ = some _; simp; done) | (show some _ = some _; simp; omega)), (by first | rfl | exact congrArg some (congrArg (Value.int _) (by omega)) | (show some _ = some _; simp; done) | (show some _ = some _; simp; omega)), (by first | rfl | exact congrArg some (congrArg (Value.int _) (by omega)) | (show some _ = some _; simp; done) | (show some _ = some _; simp; omega)), trivial⟩ leA
  · skip
    have h0 := of_decide_eq_false h0; obtain rfl : i = 5 := by omega
    refine X.condF rfl ?_
    refine X.exit rfl ?_
    refine X.seq ?_
    refine X.region ?_
    refine XO.cP Try.call45 (Le.refl _) fail_ok ?_ (fun _ _ h => h.elim)
    rintro _ _ ⟨rfl, rfl⟩
    exact FQ.panic Try.func46 (RP.thr ⟨h4, rfl, _, _, _, rfl⟩)
end
end Go.Proofs.Ytiehcgmbkjdagaa

