/- What functions of package log, of its references and of its laws do: contracts of calls, proved by walking their code. -/
import Derived.Test.YtiehcgmbkjdagaaA
import Derived.KernelRfl
set_option maxRecDepth 100000
set_option linter.unusedVariables false
set_option linter.unusedSimpArgs false
namespace Go.Proofs.Ytiehcgmbkjdagaa
open Go Go.RowKit Wx

/-! ### bytes, sums -/
def sumB (l : List Int) : Int := l.foldl (fun n x => (n * 33 + x) % 4294967296) 5381
theorem sumB_succ {l : List Int} {n : Nat} (h : n < l.length) : sumB (l.take (n + 1)) = (sumB (l.take n) * 33 + l[n]) % 4294967296 := by
  unfold sumB; rw [List.take_succ_eq_append_getElem h, List.foldl_append]; rfl
theorem sumB_rng (l : List Int) : 0 ≤ sumB l ∧ sumB l < 4294967296 := by
  unfold sumB
  have : ∀ (l : List Int) (n : Int), 0 ≤ n ∧ n < 4294967296 → 0 ≤ l.foldl (fun n x => (n * 33 + x) % 4294967296) n ∧ l.foldl (fun n x => (n * 33 + x) % 4294967296) n < 4294967296 := by
    intro l
    induction l with
    | nil => intro n h; exact h
    | cons x r ih => intro n _; exact ih _ (by dsimp only; omega)
  exact this l 5381 (by omega)
def le4 (n : Int) : List Int := [n % 256, n / 256 % 256, n / 65536 % 256, n / 16777216 % 256]
def sealB (l : List Int) : List Int := l ++ le4 (sumB l)
def Bs (l : List Int) : Prop := ∀ x ∈ l, 0 ≤ x ∧ x ≤ 255
theorem Bs.app {l m : List Int} (h : Bs l) (k : Bs m) : Bs (l ++ m) := fun x hx => (List.mem_append.1 hx).elim (h x) (k x)
theorem le4_bs (n : Int) : Bs (le4 n) := by
  intro x hx; simp only [le4, List.mem_cons, List.not_mem_nil, or_false] at hx; omega
theorem sealB_bs {l : List Int} (h : Bs l) : Bs (sealB l) := h.app (le4_bs _)
theorem le4_take (s : Int) (i : Nat) (h : i < 4) (h0 : 0 ≤ s) : (le4 s).take (i + 1) = (le4 s).take i ++ [(s / 256 ^ i) % 256] := by
  rcases i with _ | _ | _ | _ | i
  · simp [le4]
  · simp [le4]
  · simp [le4]
  · simp [le4]
  · omega
theorem pow_step (s : Int) (i : Nat) : s / 256 ^ (i + 1) = s / 256 ^ i / 256 := by
  rw [Int.pow_succ, Int.ediv_ediv_of_nonneg (Int.pow_nonneg (by omega))]
/-- A number's bytes, seven bits each, the low ones first. -/
def vbF : Nat → Nat → List Int
  | 0, n => [(n : Int)]
  | k + 1, n => if n < 128 then [(n : Int)] else ((n % 128 + 128 : Nat) : Int) :: vbF k (n / 128)
def vb (n : Nat) : List Int := vbF 10 n
theorem vbF_low {k n : Nat} (h : n < 128) (hk : 0 < k) : vbF k n = [(n : Int)] := by
  cases k with
  | zero => omega
  | succ k => simp [vbF, h]
theorem vbF_high {k n : Nat} (h : ¬ n < 128) : vbF (k + 1) n = ((n % 128 + 128 : Nat) : Int) :: vbF k (n / 128) := by simp [vbF, h]
theorem vbF_bs (k n : Nat) (h : n < 128 ^ k) : Bs (vbF k n) := by
  induction k generalizing n with
  | zero => intro x hx; simp [vbF] at hx; simp at h; omega
  | succ k ih =>
    intro x hx
    unfold vbF at hx
    split at hx
    · simp at hx; omega
    · rw [List.mem_cons] at hx
      rcases hx with rfl | hx
      · omega
      · exact ih (n / 128) (by rw [Nat.pow_succ] at h; omega) x hx
theorem vbF_len (k n : Nat) : 1 ≤ (vbF k n).length ∧ (vbF k n).length ≤ k + 1 := by
  induction k generalizing n with
  | zero => simp [vbF]
  | succ k ih =>
    unfold vbF
    split
    · simp
    · have := ih (n / 128); simp; omega
theorem vb_len (n : Nat) : 1 ≤ (vb n).length ∧ (vb n).length ≤ 11 := vbF_len 10 n
theorem vb_bs (n : Nat) (h : n < 1180591620717411303424) : Bs (vb n) := vbF_bs 10 n (by simpa using h)
/-- A list of bytes that is owned, or, if φ, stands full in a block that lasts. -/
def fullB (a : Option Addr) (c : Nat) (l : List Int) : HP := ex fun b => star (pure (a = some ⟨b, 0, none⟩ ∧ c = l.length ∧ 0 < l.length)) (ex fun z => im b (.cells (l.map (Value.int .u8)).toArray 5 z))
def bH (φ : Prop) (a : Option Addr) (c : Nat) (l : List Int) : HP := orH (lsH (Value.int .u8) 5 a c l) (star (pure φ) (fullB a c l))
theorem Le.bH_own (φ : Prop) (a : Option Addr) (c : Nat) (l : List Int) (q : List HP) : Le (lsH (Value.int .u8) 5 a c l :: q) (bH φ a c l :: q) := Le.orl _ _ _
theorem Le.bH_out {φ : Prop} (h : ¬ φ) (a : Option Addr) (c : Nat) (l : List Int) (q : List HP) : Le (bH φ a c l :: q) (lsH (Value.int .u8) 5 a c l :: q) :=
  .one fun M x p => p.elim id fun ⟨_, _, _, _, _, hp, _⟩ => (h hp).elim
theorem Le.bH_full {φ : Prop} (hφ : φ) {b : Nat} {l : List Int} {z : Nat × Nat} (h0 : 0 < l.length) (q : List HP) : Le (im b (.cells (l.map (Value.int .u8)).toArray 5 z) :: q) (bH φ (some ⟨b, 0, none⟩) l.length l :: q) :=
  .one fun M x p => .inr ⟨fun _ => none, x, fun _ => .inl rfl, fun _ _ e => by simp at e, .refl _, hφ, b, fun _ => none, x, fun _ => .inl rfl, fun _ _ e => by simp at e, .refl _, ⟨rfl, rfl, h0⟩, z, p⟩
theorem Ef.appB {P : Program} {G : World} {p : PE} {q r : List HP} {d : Option Tmp} {ty' : TypeId} {pos : String} {af : Array Edge} {gd : Option (Nat × Bool)} {x y : Operand} {t : TypeId} {φ : Prop} {a b : Option Addr} {c c' : Nat} {l m : List Int}
    (ht : P.underlying t = some (.slice 5)) (hi : (P.info? 5).map (fun i => (i.zero, i.size, i.bytes)) = some (some (.int .u8 0), 1, 1))
    (hx : evp p x = some (.slice a l.length c)) (hy : evp p y = some (.slice b m.length c')) (hq : Le q (bH φ a c l :: r)) (hs : Sees r b (m.map (Value.int .u8))) (hm : 0 < m.length) (hl : l.length + m.length ≤ 1000000000) :
    Ef P G p q ⟨d, .call ⟨.builtin .append, [x, y].toArray, [t, t].toArray⟩, ty', pos, af, gd⟩ fun v q' => ∃ a' c', v = .slice a' (l ++ m).length c' ∧ q' = lsH (Value.int .u8) 5 a' c' (l ++ m) :: r := by
  intro tm w ag s
  rcases (s.le hq).or_elim with s1 | s1
  · exact Ef.appA (G := G) (q := lsH (Value.int .u8) 5 a c l :: r) (r := r) (l := l) (m := m) (f := Value.int .u8) ht hi rfl hx hy (.refl _) hs.there (fun _ => rfl) (by omega) (by omega) tm w ag s1
  · have s2 := s1.le (.split _ _ _)
    have hφ := s2.get_pure
    have s3 := s2.le (.drop _ _)
    obtain ⟨g, s3⟩ := s3.get_ex
    have s4 := s3.le (.split _ _ _)
    obtain ⟨rfl, rfl, h0⟩ := s4.get_pure
    obtain ⟨z, s5⟩ := (s4.le (.drop _ _)).get_ex
    obtain ⟨v, w', q', h1, h2, a', c', rfl, rfl⟩ := Ef.appendFull (P := P) (G := G) (d := d) (ty' := ty') (pos := pos) (af := af) (gd := gd) (n := l.length) (m := m.length) (vs := l.map (Value.int .u8)) (ws := m.map (Value.int .u8)) ht hi rfl rfl hx hy (by omega) hm h0 (Sees.im r) (by simp) hs.there (by simp) (by omega) (by omega) tm w ag s5
    refine ⟨_, w', _, h1, ?_, a', c', by simp, rfl⟩
    unfold Wx.lsH
    rw [List.length_append, List.map_append]
    exact h2.le (Le.cons _ (.drop _ _))

section
variable {G : World} {q : List HP} {t u : Tkn} {a b : Option Addr} {c d : Nat} {l m : List Turn} {n : Nat}
theorem Equal_ok (hs : Sees q a (l.flatMap tcs)) (ht : Sees q b (m.flatMap tcs)) (hL : l.length ≤ 1000000000) : CallF Try.prog G 40 [.slice a l.length c, .slice b m.length d] q (Ret fun v q' => v = .bool (decide (l = m)) ∧ q' = q) := by
  refine CallF.of Try.func40 Try.ntmps40 rfl (fun F cs => ?_)
  refine X.sub (p' := [(0, _), (1, _)]) ⟨rfl, rfl, trivial⟩ ?_
  have hlen := flatMap_len (f := tcs) (sz := 2) (fun _ => rfl) l; have hlen2 := flatMap_len (f := tcs) (sz := 2) (fun _ => rfl) m
  refine X.seq ?_
  refine X.region ?_
  refine XO.pu (Pu.assign rfl) ?_
  refine XO.nil ?_
  refine X.sub (p' := [(4, _), (0, _), (1, _)]) ⟨rfl, rfl, rfl, trivial⟩ ?_
  refine X.seq ?_
  refine X.seq ?_
  refine X.region ?_
  refine XO.pu (Pu.move rfl) ?_
  refine XO.pu (Pu.len rfl Try.underlying23) ?_
  refine XO.pu (Pu.move rfl) ?_
  refine XO.pu (Pu.len rfl Try.underlying23) ?_
  refine XO.pu (Pu.neq rfl rfl) ?_
  refine XO.nil ?_
  refine X.sub (p' := [(10, _), (4, _), (0, _), (1, _)]) ⟨rfl, rfl, rfl, rfl, trivial⟩ ?_
  refine X.part 10 rfl (fun h1 => ?_) (fun h1 => ?_)
  · skip
    try simp only [decide_eq_true_eq, decide_eq_false_iff_not, bne_iff_ne, beq_iff_eq, ne_eq, bne_eq_false_iff_eq, beq_eq_false_iff_ne, Bool.not_eq_true', Bool.not_eq_false', Int.not_lt, Int.not_le, Bool.not_not, Bool.and_eq_true, Bool.and_eq_false_iff, Bool.true_and, Bool.and_true, beq_self_eq_true, Bool.or_eq_true, Bool.or_eq_false_iff] at h1
    refine X.condT rfl ?_
    refine X.seq ?_
    refine X.region ?_
    refine XO.pu (Pu.assign rfl) ?_
    refine XO.nil ?_
    refine X.sub (p' := [(4, _), (0, _), (1, _)]) ⟨rfl, rfl, rfl, trivial⟩ ?_
    refine X.retL (q) Try.func40 (res1 Try.results40 rfl) ⟨_, rfl, congrArg Value.bool (by symm; simp only [decide_eq_false_iff_not]; rintro rfl; simp at h1), rfl⟩
  · skip
    try simp only [decide_eq_true_eq, decide_eq_false_iff_not, bne_iff_ne, beq_iff_eq, ne_eq, bne_eq_false_iff_eq, beq_eq_false_iff_ne, Bool.not_eq_true', Bool.not_eq_false', Int.not_lt, Int.not_le, Bool.not_not, Bool.and_eq_true, Bool.and_eq_false_iff, Bool.true_and, Bool.and_true, beq_self_eq_true, Bool.or_eq_true, Bool.or_eq_false_iff] at h1
    refine X.condF rfl ?_
    refine X.skip ?_
    refine X.seq ?_
    refine X.seq ?_
    refine X.region ?_
    refine XO.pu (Pu.move rfl) ?_
    refine XO.pu (Pu.len rfl Try.underlying23) ?_
    refine XO.pu (Pu.move rfl) ?_
    refine XO.nil ?_
    refine X.sub (p' := [(13, _), (12, _), (4, _), (0, _), (1, _)]) ⟨rfl, rfl, rfl, rfl, rfl, trivial⟩ ?_
    refine X.block ?_
    have he : l.length = m.length := by omega
    refine X.at (X.loop (fun (s : Nat) => s ≤ l.length ∧ l.take s = m.take s) (fun s => [(0, .slice a l.length c), (1, .slice b m.length d), (12, .int .i64 (l.length : Int)), (13, .int .i64 (s : Int))]) (fun s => q ++ F) (fun s => l.length - s) (fun s hi_ ih => ?_) 0 ⟨by omega, by simp⟩) ⟨(by first | rfl | exact congrArg some (congrArg (Value.int _) (by omega)) | (show some _ = some _; simp; done) | (show some _ = some _; simp; omega)), (by first | rfl | exact congrArg some (congrArg (Value.int _) (by omega)) | (show some _ = some _; simp; done) | (show some _ = some _; simp; omega)), (by first | rfl | exact congrArg some (congrArg (Value.int _) (by omega)) | (show some _ = some _; simp; done) | (show some _ = some _; simp; omega)), (by first | rfl | exact congrArg some (congrArg (Value.int _) (by omega)) | (show some _ = some _; simp; done) | (show some _ = some _; simp; omega)), trivial⟩ leA
    try dsimp only at hi_ ih ⊢
    obtain ⟨hi1, hi2⟩ := hi_
    refine X.seq ?_
    refine X.region ?_
    refine XO.pu (Pu.lss rfl rfl) ?_
    refine XO.nil ?_
    refine X.sub (p' := [(14, _), (0, _), (1, _), (12, _), (13, _)]) ⟨rfl, rfl, rfl, rfl, rfl, trivial⟩ ?_
    refine X.seq ?_
    refine X.part 14 rfl (fun h0 => ?_) (fun h0 => ?_)
    · skip
      try simp only [decide_eq_true_eq, decide_eq_false_iff_not, bne_iff_ne, beq_iff_eq, ne_eq, bne_eq_false_iff_eq, beq_eq_false_iff_ne, Bool.not_eq_true', Bool.not_eq_false', Int.not_lt, Int.not_le, Bool.not_not, Bool.and_eq_true, Bool.and_eq_false_iff, Bool.true_and, Bool.and_true, beq_self_eq_true, Bool.or_eq_true, Bool.or_eq_false_iff] at h0
      have hi0 : s < l.length := by omega
      have hi9 : s < m.length := by omega
      refine X.adr hs (by rw [hlen]; omega) (fun b1 o1 e_ => ?_); subst e_
      refine X.adr ht (by rw [hlen2]; omega) (fun b2 o2 e_ => ?_); subst e_
      refine X.condT rfl ?_
      refine X.skip ?_
      refine X.seq ?_
      refine X.block ?_
      refine X.seq ?_
      refine X.region ?_
      refine XO.pu (Pu.move rfl) ?_
      refine XO.pu (Pu.assign rfl) ?_
      refine XO.nil ?_
      refine X.sub (p' := [(5, _), (0, _), (1, _), (12, _), (13, _)]) ⟨rfl, rfl, rfl, rfl, rfl, trivial⟩ ?_
      refine X.seq ?_
      refine X.draw [] Try.mixed (by kernel_rfl) (by kernel_rfl) rfl ?_
      refine XD.pu 0 rfl (Pu.move rfl) ?_
      refine XD.pu 1 rfl (Pu.move rfl) ?_
      refine XD.pu 2 rfl (Pu.indexAddr rfl rfl Try.underlying23 Try.sizeOf57 (by omega) (by omega)) ?_
      refine XD.ldS 3 (m := s) Try.isAgg57 Try.sizeOf57 hs hi0 ?_
      refine XD.pu 4 rfl (Pu.move rfl) ?_
      refine XD.pu 5 rfl (Pu.move rfl) ?_
      refine XD.pu 6 rfl (Pu.indexAddr rfl rfl Try.underlying23 Try.sizeOf57 (by omega) (by omega)) ?_
      refine XD.ldS 7 (m := s) Try.isAgg57 Try.sizeOf57 ht hi9 ?_
      refine XD.pu 8 rfl (Pu.neqA rfl rfl (by kernel_rfl) (EqV.struct Try.underlying57 (by kernel_rfl) (by kernel_rfl) ⟨_, _, _, _, rfl, rfl, Try.isAgg3, (EqV.int Try.underlying3 _ _), ⟨_, _, _, _, rfl, rfl, Try.isAgg3, (EqV.int Try.underlying3 _ _), rfl, rfl⟩, rfl⟩)) ?_
      refine XD.nil ?_
      refine X.sub (p' := [(24, _), (0, _), (1, _), (12, _), (13, _)]) ⟨rfl, rfl, rfl, rfl, rfl, trivial⟩ ?_
      refine X.part 24 rfl (fun h2 => ?_) (fun h2 => ?_)
      · skip
        have hx : ¬ l[s] = m[s] := by intro e; rw [e] at h2; simp at h2
        refine X.condT rfl ?_
        refine X.seq ?_
        refine X.region ?_
        refine XO.pu (Pu.assign rfl) ?_
        refine XO.nil ?_
        refine X.sub (p' := [(4, _), (0, _), (1, _), (12, _), (13, _)]) ⟨rfl, rfl, rfl, rfl, rfl, trivial⟩ ?_
        refine X.retL (q) Try.func40 (res1 Try.results40 rfl) ⟨_, rfl, congrArg Value.bool (by symm; simp only [decide_eq_false_iff_not]; intro e; apply hx; simp only [e]), rfl⟩
      · skip
        have hx : l[s] = m[s] := by simp at h2; exact Prod.ext h2.1 h2.2
        refine X.condF rfl ?_
        refine X.skip ?_
        refine X.inBlock ?_
        refine X.region ?_
        refine XO.pu (Pu.add rfl rfl (by omega) (by omega)) ?_
        refine XO.pu (Pu.move rfl) ?_
        refine XO.nil ?_
        refine X.sub (p' := [(13, _), (0, _), (1, _), (12, _)]) ⟨rfl, rfl, rfl, rfl, trivial⟩ ?_
        refine X.at (ih (s + 1) ⟨by omega, by rw [List.take_succ_eq_append_getElem hi0, List.take_succ_eq_append_getElem hi9, hi2, hx]⟩ (by omega)) ⟨(by first | rfl | exact congrArg some (congrArg (Value.int _) (by omega)) | (show some _ = some _; simp; done) | (show some _ = some _; simp; omega)), (by first | rfl | exact congrArg some (congrArg (Value.int _) (by omega)) | (show some _ = some _; simp; done) | (show some _ = some _; simp; omega)), (by first | rfl | exact congrArg some (congrArg (Value.int _) (by omega)) | (show some _ = some _; simp; done) | (show some _ = some _; simp; omega)), (by first | rfl | exact congrArg some (congrArg (Value.int _) (by omega)) | (show some _ = some _; simp; done) | (show some _ = some _; simp; omega)), trivial⟩ leA
    · skip
      try simp only [decide_eq_true_eq, decide_eq_false_iff_not, bne_iff_ne, beq_iff_eq, ne_eq, bne_eq_false_iff_eq, beq_eq_false_iff_ne, Bool.not_eq_true', Bool.not_eq_false', Int.not_lt, Int.not_le, Bool.not_not, Bool.and_eq_true, Bool.and_eq_false_iff, Bool.true_and, Bool.and_true, beq_self_eq_true, Bool.or_eq_true, Bool.or_eq_false_iff] at h0
      refine X.condF rfl ?_
      refine X.exit rfl ?_
      refine X.seq ?_
      refine X.region ?_
      refine XO.pu (Pu.assign rfl) ?_
      refine XO.nil ?_
      refine X.sub (p' := [(4, _)]) ⟨rfl, trivial⟩ ?_
      refine X.retL (q) Try.func40 (res1 Try.results40 rfl) ⟨_, rfl, congrArg Value.bool (by symm; simp only [decide_eq_true_eq]; rw [List.take_of_length_le (by omega), List.take_of_length_le (by omega)] at hi2; exact hi2), rfl⟩
theorem SameTurns_ok (hs : Sees q a (l.flatMap tcs)) (ht : Sees q b (m.flatMap tcs)) (hL : l.length ≤ 1000000000) : CallF Try.prog G 25 [.slice a l.length c, .slice b m.length d] q (Ret fun v q' => v = .bool (decide (l = m)) ∧ q' = q) := by
  refine CallF.of Try.func25 Try.ntmps25 rfl (fun F cs => ?_)
  refine X.sub (p' := [(0, _), (1, _)]) ⟨rfl, rfl, trivial⟩ ?_
  have hlen := flatMap_len (f := tcs) (sz := 2) (fun _ => rfl) l; have hlen2 := flatMap_len (f := tcs) (sz := 2) (fun _ => rfl) m
  refine X.seq ?_
  refine X.region ?_
  refine XO.pu (Pu.assign rfl) ?_
  refine XO.nil ?_
  refine X.sub (p' := [(4, _), (0, _), (1, _)]) ⟨rfl, rfl, rfl, trivial⟩ ?_
  refine X.seq ?_
  refine X.seq ?_
  refine X.region ?_
  refine XO.pu (Pu.move rfl) ?_
  refine XO.pu (Pu.len rfl Try.underlying23) ?_
  refine XO.pu (Pu.move rfl) ?_
  refine XO.pu (Pu.len rfl Try.underlying23) ?_
  refine XO.pu (Pu.neq rfl rfl) ?_
  refine XO.nil ?_
  refine X.sub (p' := [(10, _), (4, _), (0, _), (1, _)]) ⟨rfl, rfl, rfl, rfl, trivial⟩ ?_
  refine X.part 10 rfl (fun h1 => ?_) (fun h1 => ?_)
  · skip
    try simp only [decide_eq_true_eq, decide_eq_false_iff_not, bne_iff_ne, beq_iff_eq, ne_eq, bne_eq_false_iff_eq, beq_eq_false_iff_ne, Bool.not_eq_true', Bool.not_eq_false', Int.not_lt, Int.not_le, Bool.not_not, Bool.and_eq_true, Bool.and_eq_false_iff, Bool.true_and, Bool.and_true, beq_self_eq_true, Bool.or_eq_true, Bool.or_eq_false_iff] at h1
    refine X.condT rfl ?_
    refine X.seq ?_
    refine X.region ?_
    refine XO.pu (Pu.assign rfl) ?_
    refine XO.nil ?_
    refine X.sub (p' := [(4, _), (0, _), (1, _)]) ⟨rfl, rfl, rfl, trivial⟩ ?_
    refine X.retL (q) Try.func25 (res1 Try.results25 rfl) ⟨_, rfl, congrArg Value.bool (by symm; simp only [decide_eq_false_iff_not]; rintro rfl; simp at h1), rfl⟩
  · skip
    try simp only [decide_eq_true_eq, decide_eq_false_iff_not, bne_iff_ne, beq_iff_eq, ne_eq, bne_eq_false_iff_eq, beq_eq_false_iff_ne, Bool.not_eq_true', Bool.not_eq_false', Int.not_lt, Int.not_le, Bool.not_not, Bool.and_eq_true, Bool.and_eq_false_iff, Bool.true_and, Bool.and_true, beq_self_eq_true, Bool.or_eq_true, Bool.or_eq_false_iff] at h1
    refine X.condF rfl ?_
    refine X.skip ?_
    refine X.seq ?_
    refine X.seq ?_
    refine X.region ?_
    refine XO.pu (Pu.assign rfl) ?_
    refine XO.nil ?_
    refine X.sub (p' := [(5, _), (4, _), (0, _), (1, _)]) ⟨rfl, rfl, rfl, rfl, trivial⟩ ?_
    refine X.block ?_
    have he : l.length = m.length := by omega
    refine X.at (X.loop (fun (s : Nat) => s ≤ l.length ∧ l.take s = m.take s) (fun s => [(0, .slice a l.length c), (1, .slice b m.length d), (5, .int .i64 (s : Int))]) (fun s => q ++ F) (fun s => l.length - s) (fun s hi_ ih => ?_) 0 ⟨by omega, by simp⟩) ⟨(by first | rfl | exact congrArg some (congrArg (Value.int _) (by omega)) | (show some _ = some _; simp; done) | (show some _ = some _; simp; omega)), (by first | rfl | exact congrArg some (congrArg (Value.int _) (by omega)) | (show some _ = some _; simp; done) | (show some _ = some _; simp; omega)), (by first | rfl | exact congrArg some (congrArg (Value.int _) (by omega)) | (show some _ = some _; simp; done) | (show some _ = some _; simp; omega)), trivial⟩ leA
    try dsimp only at hi_ ih ⊢
    obtain ⟨hi1, hi2⟩ := hi_
    refine X.seq ?_
    refine X.seq ?_
    refine X.region ?_
    refine XO.pu (Pu.move rfl) ?_
    refine XO.pu (Pu.move rfl) ?_
    refine XO.pu (Pu.len rfl Try.underlying23) ?_
    refine XO.pu (Pu.lss rfl rfl) ?_
    refine XO.nil ?_
    refine X.sub (p' := [(14, _), (0, _), (1, _), (5, _)]) ⟨rfl, rfl, rfl, rfl, trivial⟩ ?_
    refine X.part 14 rfl (fun h0 => ?_) (fun h0 => ?_)
    · skip
      try simp only [decide_eq_true_eq, decide_eq_false_iff_not, bne_iff_ne, beq_iff_eq, ne_eq, bne_eq_false_iff_eq, beq_eq_false_iff_ne, Bool.not_eq_true', Bool.not_eq_false', Int.not_lt, Int.not_le, Bool.not_not, Bool.and_eq_true, Bool.and_eq_false_iff, Bool.true_and, Bool.and_true, beq_self_eq_true, Bool.or_eq_true, Bool.or_eq_false_iff] at h0
      have hi0 : s < l.length := by omega
      have hi9 : s < m.length := by omega
      refine X.adr hs (by rw [hlen]; omega) (fun b1 o1 e_ => ?_); subst e_
      refine X.adr ht (by rw [hlen2]; omega) (fun b2 o2 e_ => ?_); subst e_
      refine X.condT rfl ?_
      refine X.skip ?_
      refine X.seq ?_
      refine X.block ?_
      refine X.seq ?_
      refine X.draw [] Try.mixed (by kernel_rfl) (by kernel_rfl) rfl ?_
      refine XD.pu 0 rfl (Pu.move rfl) ?_
      refine XD.pu 1 rfl (Pu.move rfl) ?_
      refine XD.pu 2 rfl (Pu.indexAddr rfl rfl Try.underlying23 Try.sizeOf57 (by omega) (by omega)) ?_
      refine XD.ldS 3 (m := s) Try.isAgg57 Try.sizeOf57 hs hi0 ?_
      refine XD.pu 4 rfl (Pu.move rfl) ?_
      refine XD.pu 5 rfl (Pu.move rfl) ?_
      refine XD.pu 6 rfl (Pu.indexAddr rfl rfl Try.underlying23 Try.sizeOf57 (by omega) (by omega)) ?_
      refine XD.ldS 7 (m := s) Try.isAgg57 Try.sizeOf57 ht hi9 ?_
      refine XD.pu 8 rfl (Pu.neqA rfl rfl (by kernel_rfl) (EqV.struct Try.underlying57 (by kernel_rfl) (by kernel_rfl) ⟨_, _, _, _, rfl, rfl, Try.isAgg3, (EqV.int Try.underlying3 _ _), ⟨_, _, _, _, rfl, rfl, Try.isAgg3, (EqV.int Try.underlying3 _ _), rfl, rfl⟩, rfl⟩)) ?_
      refine XD.nil ?_
      refine X.sub (p' := [(25, _), (0, _), (1, _), (5, _)]) ⟨rfl, rfl, rfl, rfl, trivial⟩ ?_
      refine X.part 25 rfl (fun h2 => ?_) (fun h2 => ?_)
      · skip
        have hx : ¬ l[s] = m[s] := by intro e; rw [e] at h2; simp at h2
        refine X.condT rfl ?_
        refine X.seq ?_
        refine X.region ?_
        refine XO.pu (Pu.assign rfl) ?_
        refine XO.nil ?_
        refine X.sub (p' := [(4, _), (0, _), (1, _), (5, _)]) ⟨rfl, rfl, rfl, rfl, trivial⟩ ?_
        refine X.retL (q) Try.func25 (res1 Try.results25 rfl) ⟨_, rfl, congrArg Value.bool (by symm; simp only [decide_eq_false_iff_not]; intro e; apply hx; simp only [e]), rfl⟩
      · skip
        have hx : l[s] = m[s] := by simp at h2; exact Prod.ext h2.1 h2.2
        refine X.condF rfl ?_
        refine X.skip ?_
        refine X.inBlock ?_
        refine X.region ?_
        refine XO.pu (Pu.move rfl) ?_
        refine XO.pu (Pu.add rfl rfl (by omega) (by omega)) ?_
        refine XO.pu (Pu.assign rfl) ?_
        refine XO.nil ?_
        refine X.sub (p' := [(5, _), (0, _), (1, _)]) ⟨rfl, rfl, rfl, trivial⟩ ?_
        refine X.at (ih (s + 1) ⟨by omega, by rw [List.take_succ_eq_append_getElem hi0, List.take_succ_eq_append_getElem hi9, hi2, hx]⟩ (by omega)) ⟨(by first | rfl | exact congrArg some (congrArg (Value.int _) (by omega)) | (show some _ = some _; simp; done) | (show some _ = some _; simp; omega)), (by first | rfl | exact congrArg some (congrArg (Value.int _) (by omega)) | (show some _ = some _; simp; done) | (show some _ = some _; simp; omega)), (by first | rfl | exact congrArg some (congrArg (Value.int _) (by omega)) | (show some _ = some _; simp; done) | (show some _ = some _; simp; omega)), trivial⟩ leA
    · skip
      try simp only [decide_eq_true_eq, decide_eq_false_iff_not, bne_iff_ne, beq_iff_eq, ne_eq, bne_eq_false_iff_eq, beq_eq_false_iff_ne, Bool.not_eq_true', Bool.not_eq_false', Int.not_lt, Int.not_le, Bool.not_not, Bool.and_eq_true, Bool.and_eq_false_iff, Bool.true_and, Bool.and_true, beq_self_eq_true, Bool.or_eq_true, Bool.or_eq_false_iff] at h0
      refine X.condF rfl ?_
      refine X.exit rfl ?_
      refine X.seq ?_
      refine X.region ?_
      refine XO.pu (Pu.assign rfl) ?_
      refine XO.nil ?_
      refine X.sub (p' := [(4, _)]) ⟨rfl, trivial⟩ ?_
      refine X.retL (q) Try.func25 (res1 Try.results25 rfl) ⟨_, rfl, congrArg Value.bool (by symm; simp only [decide_eq_true_eq]; rw [List.take_of_length_le (by omega), List.take_of_length_le (by omega)] at hi2; exact hi2), rfl⟩
theorem Same_ok (hs : Sees q a (t.turns.flatMap tcs)) (ht : Sees q b (u.turns.flatMap tcs)) (hL : t.turns.length ≤ 1000000000) : CallF Try.prog G 27 [t.v a c, u.v b d] q (Ret fun v q' => v = .bool (decide (t.hash = u.hash ∧ t.turns = u.turns ∧ t.e = u.e)) ∧ q' = q) := by
  refine CallF.of Try.func27 Try.ntmps27 rfl (fun F cs => ?_)
  refine X.sub (p' := [(0, _), (1, _)]) ⟨rfl, rfl, trivial⟩ ?_
  unfold Tkn.v Tkn.cs
  refine X.seq ?_
  refine X.region ?_
  refine XO.ef (Ef.box rfl) ?_
  rintro _ _ ⟨n1, rfl, rfl⟩
  refine XO.ef (Ef.box rfl) ?_
  rintro _ _ ⟨n2, rfl, rfl⟩
  refine XO.pu (Pu.assign rfl) ?_
  refine XO.nil ?_
  refine X.sub (p' := [(4, _), (3, _), (2, _)]) ⟨rfl, rfl, rfl, trivial⟩ ?_
  refine X.seq ?_
  refine X.region ?_
  refine XO.pu (Pu.fieldAddr 22 0 0 rfl Try.underlying29 rfl Try.sizeOf22) ?_
  refine XO.ld Try.isAgg22 ?_
  refine XO.pu (Pu.fieldAddr 22 0 0 rfl Try.underlying29 rfl Try.sizeOf22) ?_
  refine XO.ld Try.isAgg22 ?_
  refine XO.pu (Pu.eql rfl rfl) ?_
  refine XO.pu (Pu.move rfl) ?_
  refine XO.sub (p' := [(10, _), (4, _), (3, _), (2, _)]) ⟨rfl, rfl, rfl, rfl, trivial⟩ ?_
  apply XO.cutAnd 6 16 10 rfl
  · skip
    intro g1 M1; have h1 := g1; try simp only [decide_eq_true_eq, decide_eq_false_iff_not, bne_iff_ne, beq_iff_eq, ne_eq, bne_eq_false_iff_eq, beq_eq_false_iff_ne, Bool.not_eq_true', Bool.not_eq_false', Int.not_lt, Int.not_le, Bool.not_not, Bool.and_eq_true, Bool.and_eq_false_iff, Bool.true_and, Bool.and_true, beq_self_eq_true, Bool.or_eq_true, Bool.or_eq_false_iff] at h1
    refine XO.pu (Pu.fieldAddr 27 2 3 rfl Try.underlying29 rfl Try.sizeOf27) ?_
    refine XO.ldA Try.isAgg27 Try.sizeOf27 ?_
    refine XO.pu (Pu.fieldAddr 27 2 3 rfl Try.underlying29 rfl Try.sizeOf27) ?_
    refine XO.ldA Try.isAgg27 Try.sizeOf27 ?_
    refine XO.pu (Pu.eqlA rfl rfl (by kernel_rfl) (EqV.struct Try.underlying27 (by kernel_rfl) (by kernel_rfl) ⟨_, _, _, _, rfl, rfl, Try.isAgg24, (EqV.int Try.underlying24 _ _), ⟨_, _, _, _, rfl, rfl, Try.isAgg25, (EqV.int Try.underlying25 _ _), ⟨_, _, _, _, rfl, rfl, Try.isAgg3, (EqV.int Try.underlying3 _ _), ⟨_, _, _, _, rfl, rfl, Try.isAgg3, (EqV.int Try.underlying3 _ _), rfl, rfl⟩, rfl⟩, rfl⟩, rfl⟩)) ?_
    refine XO.pu (Pu.pickT rfl rfl) ?_
    exact XO.fin M1 ⟨andT g1, congrArg (fun x => some (Value.bool x)) g1.symm, rfl, rfl, rfl, trivial⟩
  · skip
    intro g1 M1; have h1 := g1; try simp only [decide_eq_true_eq, decide_eq_false_iff_not, bne_iff_ne, beq_iff_eq, ne_eq, bne_eq_false_iff_eq, beq_eq_false_iff_ne, Bool.not_eq_true', Bool.not_eq_false', Int.not_lt, Int.not_le, Bool.not_not, Bool.and_eq_true, Bool.and_eq_false_iff, Bool.true_and, Bool.and_true, beq_self_eq_true, Bool.or_eq_true, Bool.or_eq_false_iff] at h1
    refine XO.pass rfl ?_
    refine XO.pass rfl ?_
    refine XO.pass rfl ?_
    refine XO.pass rfl ?_
    refine XO.pass rfl ?_
    refine XO.pu (Pu.pickF rfl rfl) ?_
    exact XO.fin M1 ⟨andF g1, congrArg (fun x => some (Value.bool x)) g1.symm, rfl, rfl, rfl, trivial⟩
  · skip
    refine XO.pu (Pu.move rfl) ?_
    refine XO.sub (p' := [(17, _), (4, _), (3, _), (2, _)]) ⟨rfl, rfl, rfl, rfl, trivial⟩ ?_
    apply XO.cutAnd 6 23 17 rfl
    · skip
      intro g1 M1; have h1 := g1; try simp only [decide_eq_true_eq, decide_eq_false_iff_not, bne_iff_ne, beq_iff_eq, ne_eq, bne_eq_false_iff_eq, beq_eq_false_iff_ne, Bool.not_eq_true', Bool.not_eq_false', Int.not_lt, Int.not_le, Bool.not_not, Bool.and_eq_true, Bool.and_eq_false_iff, Bool.true_and, Bool.and_true, beq_self_eq_true, Bool.or_eq_true, Bool.or_eq_false_iff] at h1
      refine XO.pu (Pu.fieldAddr 23 1 0 rfl Try.underlying29 rfl Try.sizeOf23) ?_
      refine XO.ld Try.isAgg23 ?_
      refine XO.pu (Pu.fieldAddr 23 1 0 rfl Try.underlying29 rfl Try.sizeOf23) ?_
      refine XO.ld Try.isAgg23 ?_
      refine XO.cR Try.call40 (Equal_ok (hs.le leA) (ht.le leA) hL) ?_
      refine XO.pu (Pu.pickT rfl rfl) ?_
      exact XO.fin M1 ⟨andT g1, congrArg (fun x => some (Value.bool x)) g1.symm, rfl, rfl, rfl, trivial⟩
    · skip
      intro g1 M1; have h1 := g1; try simp only [decide_eq_true_eq, decide_eq_false_iff_not, bne_iff_ne, beq_iff_eq, ne_eq, bne_eq_false_iff_eq, beq_eq_false_iff_ne, Bool.not_eq_true', Bool.not_eq_false', Int.not_lt, Int.not_le, Bool.not_not, Bool.and_eq_true, Bool.and_eq_false_iff, Bool.true_and, Bool.and_true, beq_self_eq_true, Bool.or_eq_true, Bool.or_eq_false_iff] at h1
      refine XO.pass rfl ?_
      refine XO.pass rfl ?_
      refine XO.pass rfl ?_
      refine XO.pass rfl ?_
      refine XO.pass rfl ?_
      refine XO.pu (Pu.pickF rfl rfl) ?_
      exact XO.fin M1 ⟨andF g1, congrArg (fun x => some (Value.bool x)) g1.symm, rfl, rfl, rfl, trivial⟩
    · skip
      refine XO.pu (Pu.assign rfl) ?_
      refine XO.nil ?_
      refine X.sub (p' := [(4, _)]) ⟨rfl, trivial⟩ ?_
      refine X.retL (q) Try.func27 (res1 Try.results27 rfl) ⟨_, rfl, congrArg Value.bool (by rw [Bool.eq_iff_iff]; simp only [Bool.and_eq_true, decide_eq_true_eq, beq_iff_eq, Prod.ext_iff, Bool.and_true]; constructor <;> (intro h; simp_all)), rfl⟩
theorem RSame_ok (hs : Sees q a (t.turns.flatMap tcs)) (ht : Sees q b (u.turns.flatMap tcs)) (hL : t.turns.length ≤ 1000000000) : CallF Try.prog G 19 [t.v a c, u.v b d] q (Ret fun v q' => v = .bool (decide (t.hash = u.hash ∧ t.turns = u.turns ∧ t.e = u.e)) ∧ q' = q) := by
  refine CallF.of Try.func19 Try.ntmps19 rfl (fun F cs => ?_)
  refine X.sub (p' := [(0, _), (1, _)]) ⟨rfl, rfl, trivial⟩ ?_
  unfold Tkn.v Tkn.cs
  refine X.seq ?_
  refine X.region ?_
  refine XO.ef (Ef.box rfl) ?_
  rintro _ _ ⟨n1, rfl, rfl⟩
  refine XO.ef (Ef.box rfl) ?_
  rintro _ _ ⟨n2, rfl, rfl⟩
  refine XO.pu (Pu.assign rfl) ?_
  refine XO.nil ?_
  refine X.sub (p' := [(4, _), (3, _), (2, _)]) ⟨rfl, rfl, rfl, trivial⟩ ?_
  refine X.seq ?_
  refine X.region ?_
  refine XO.pu (Pu.fieldAddr 22 0 0 rfl Try.underlying29 rfl Try.sizeOf22) ?_
  refine XO.ld Try.isAgg22 ?_
  refine XO.pu (Pu.fieldAddr 22 0 0 rfl Try.underlying29 rfl Try.sizeOf22) ?_
  refine XO.ld Try.isAgg22 ?_
  refine XO.pu (Pu.eql rfl rfl) ?_
  refine XO.pu (Pu.move rfl) ?_
  refine XO.sub (p' := [(10, _), (4, _), (3, _), (2, _)]) ⟨rfl, rfl, rfl, rfl, trivial⟩ ?_
  apply XO.cutAnd 6 16 10 rfl
  · skip
    intro g1 M1; have h1 := g1; try simp only [decide_eq_true_eq, decide_eq_false_iff_not, bne_iff_ne, beq_iff_eq, ne_eq, bne_eq_false_iff_eq, beq_eq_false_iff_ne, Bool.not_eq_true', Bool.not_eq_false', Int.not_lt, Int.not_le, Bool.not_not, Bool.and_eq_true, Bool.and_eq_false_iff, Bool.true_and, Bool.and_true, beq_self_eq_true, Bool.or_eq_true, Bool.or_eq_false_iff] at h1
    refine XO.pu (Pu.fieldAddr 23 1 0 rfl Try.underlying29 rfl Try.sizeOf23) ?_
    refine XO.ld Try.isAgg23 ?_
    refine XO.pu (Pu.fieldAddr 23 1 0 rfl Try.underlying29 rfl Try.sizeOf23) ?_
    refine XO.ld Try.isAgg23 ?_
    refine XO.cR Try.call25 (SameTurns_ok (hs.le leA) (ht.le leA) hL) ?_
    refine XO.pu (Pu.pickT rfl rfl) ?_
    exact XO.fin M1 ⟨andT g1, congrArg (fun x => some (Value.bool x)) g1.symm, rfl, rfl, rfl, trivial⟩
  · skip
    intro g1 M1; have h1 := g1; try simp only [decide_eq_true_eq, decide_eq_false_iff_not, bne_iff_ne, beq_iff_eq, ne_eq, bne_eq_false_iff_eq, beq_eq_false_iff_ne, Bool.not_eq_true', Bool.not_eq_false', Int.not_lt, Int.not_le, Bool.not_not, Bool.and_eq_true, Bool.and_eq_false_iff, Bool.true_and, Bool.and_true, beq_self_eq_true, Bool.or_eq_true, Bool.or_eq_false_iff] at h1
    refine XO.pass rfl ?_
    refine XO.pass rfl ?_
    refine XO.pass rfl ?_
    refine XO.pass rfl ?_
    refine XO.pass rfl ?_
    refine XO.pu (Pu.pickF rfl rfl) ?_
    exact XO.fin M1 ⟨andF g1, congrArg (fun x => some (Value.bool x)) g1.symm, rfl, rfl, rfl, trivial⟩
  · skip
    refine XO.pu (Pu.move rfl) ?_
    refine XO.sub (p' := [(17, _), (4, _), (3, _), (2, _)]) ⟨rfl, rfl, rfl, rfl, trivial⟩ ?_
    apply XO.cutAnd 6 23 17 rfl
    · skip
      intro g1 M1; have h1 := g1; try simp only [decide_eq_true_eq, decide_eq_false_iff_not, bne_iff_ne, beq_iff_eq, ne_eq, bne_eq_false_iff_eq, beq_eq_false_iff_ne, Bool.not_eq_true', Bool.not_eq_false', Int.not_lt, Int.not_le, Bool.not_not, Bool.and_eq_true, Bool.and_eq_false_iff, Bool.true_and, Bool.and_true, beq_self_eq_true, Bool.or_eq_true, Bool.or_eq_false_iff] at h1
      refine XO.pu (Pu.fieldAddr 27 2 3 rfl Try.underlying29 rfl Try.sizeOf27) ?_
      refine XO.ldA Try.isAgg27 Try.sizeOf27 ?_
      refine XO.pu (Pu.fieldAddr 27 2 3 rfl Try.underlying29 rfl Try.sizeOf27) ?_
      refine XO.ldA Try.isAgg27 Try.sizeOf27 ?_
      refine XO.pu (Pu.eqlA rfl rfl (by kernel_rfl) (EqV.struct Try.underlying27 (by kernel_rfl) (by kernel_rfl) ⟨_, _, _, _, rfl, rfl, Try.isAgg24, (EqV.int Try.underlying24 _ _), ⟨_, _, _, _, rfl, rfl, Try.isAgg25, (EqV.int Try.underlying25 _ _), ⟨_, _, _, _, rfl, rfl, Try.isAgg3, (EqV.int Try.underlying3 _ _), ⟨_, _, _, _, rfl, rfl, Try.isAgg3, (EqV.int Try.underlying3 _ _), rfl, rfl⟩, rfl⟩, rfl⟩, rfl⟩)) ?_
      refine XO.pu (Pu.pickT rfl rfl) ?_
      exact XO.fin M1 ⟨andT g1, congrArg (fun x => some (Value.bool x)) g1.symm, rfl, rfl, rfl, trivial⟩
    · skip
      intro g1 M1; have h1 := g1; try simp only [decide_eq_true_eq, decide_eq_false_iff_not, bne_iff_ne, beq_iff_eq, ne_eq, bne_eq_false_iff_eq, beq_eq_false_iff_ne, Bool.not_eq_true', Bool.not_eq_false', Int.not_lt, Int.not_le, Bool.not_not, Bool.and_eq_true, Bool.and_eq_false_iff, Bool.true_and, Bool.and_true, beq_self_eq_true, Bool.or_eq_true, Bool.or_eq_false_iff] at h1
      refine XO.pass rfl ?_
      refine XO.pass rfl ?_
      refine XO.pass rfl ?_
      refine XO.pass rfl ?_
      refine XO.pass rfl ?_
      refine XO.pu (Pu.pickF rfl rfl) ?_
      exact XO.fin M1 ⟨andF g1, congrArg (fun x => some (Value.bool x)) g1.symm, rfl, rfl, rfl, trivial⟩
    · skip
      refine XO.pu (Pu.assign rfl) ?_
      refine XO.nil ?_
      refine X.sub (p' := [(4, _)]) ⟨rfl, trivial⟩ ?_
      refine X.retL (q) Try.func19 (res1 Try.results19 rfl) ⟨_, rfl, congrArg Value.bool (by rw [Bool.eq_iff_iff]; simp only [Bool.and_eq_true, decide_eq_true_eq, beq_iff_eq, Prod.ext_iff, Bool.and_true]; constructor <;> (intro h; simp_all)), rfl⟩
theorem Clone_ok (hs : Sees q a (l.flatMap tcs)) (hL : l.length ≤ 1000000000) : CallF Try.prog G 41 [.slice a l.length c] q (Ret fun v q' => ∃ a' c', v = .slice a' l.length c' ∧ q' = rsH tcs 2 57 a' c' l :: q) := by
  refine CallF.of Try.func41 Try.ntmps41 rfl (fun F cs => ?_)
  refine X.sub (p' := [(0, _)]) ⟨rfl, trivial⟩ ?_
  have hlen := flatMap_len (f := tcs) (sz := 2) (fun _ => rfl) l
  rcases Nat.eq_zero_or_pos l.length with hl0 | hl0
  · skip
    obtain rfl := List.eq_nil_of_length_eq_zero hl0
    refine X.seq ?_
    refine X.region ?_
    refine XO.pu (Pu.assign rfl) ?_
    refine XO.nil ?_
    refine X.sub (p' := [(2, _), (0, _)]) ⟨rfl, rfl, trivial⟩ ?_
    refine X.seq ?_
    refine X.seq ?_
    refine X.region ?_
    refine XO.pu (Pu.move rfl) ?_
    refine XO.pu (Pu.eqlSNil rfl Try.underlying23) ?_
    refine XO.nil ?_
    refine X.sub (p' := [(4, _), (2, _), (0, _)]) ⟨rfl, rfl, rfl, trivial⟩ ?_
    refine X.part 4 rfl (fun h1 => ?_) (fun h1 => ?_)
    · skip
      refine X.condT rfl ?_
      refine X.seq ?_
      refine X.region ?_
      refine XO.pu (Pu.assign rfl) ?_
      refine XO.nil ?_
      refine X.sub (p' := [(2, _), (0, _)]) ⟨rfl, rfl, trivial⟩ ?_
      refine X.retL (rsH tcs 2 57 none 0 [] :: q) Try.func41 (res1 Try.results41 rfl) ⟨_, rfl, none, 0, rfl, rfl⟩ ((leA).trans (Le.rsH_nil _ _ _ _))
    · skip
      refine X.condF rfl ?_
      refine X.skip ?_
      refine X.seq ?_
      refine X.region ?_
      refine XO.ef (Ef.litR0 tcs Try.underlying23 Try.info57) ?_
      rintro _ _ ⟨g, rfl, rfl⟩
      refine XO.pu (Pu.move rfl) ?_
      refine XO.ef (Ef.appRA (l := []) (m := []) Try.underlying23 Try.info57 rfl rfl (fun _ => rfl) rfl rfl fndA (hs.le leA) (fun _ => rfl) (by simp; try omega) (by simp; try omega)) ?_
      rintro _ _ ⟨a2, c2, rfl, rfl⟩
      refine XO.pu (Pu.assign rfl) ?_
      refine XO.nil ?_
      refine X.sub (p' := [(2, _)]) ⟨rfl, trivial⟩ ?_
      refine X.retL (rsH tcs 2 57 a2 c2 [] :: q) Try.func41 (res1 Try.results41 rfl) ⟨_, rfl, a2, c2, by simp, rfl⟩
  · skip
    refine X.adr hs (by rw [hlen]; omega) (fun b1 o1 e_ => ?_); subst e_
    refine X.seq ?_
    refine X.region ?_
    refine XO.pu (Pu.assign rfl) ?_
    refine XO.nil ?_
    refine X.sub (p' := [(2, _), (0, _)]) ⟨rfl, rfl, trivial⟩ ?_
    refine X.seq ?_
    refine X.seq ?_
    refine X.region ?_
    refine XO.pu (Pu.move rfl) ?_
    refine XO.pu (Pu.eqlSNil rfl Try.underlying23) ?_
    refine XO.nil ?_
    refine X.sub (p' := [(4, _), (2, _), (0, _)]) ⟨rfl, rfl, rfl, trivial⟩ ?_
    refine X.know 4 (.bool false) rfl (congrArg Value.bool (rfl)) ?_
    refine X.condF rfl ?_
    refine X.skip ?_
    refine X.seq ?_
    refine X.region ?_
    refine XO.ef (Ef.litR0 tcs Try.underlying23 Try.info57) ?_
    rintro _ _ ⟨g, rfl, rfl⟩
    refine XO.pu (Pu.move rfl) ?_
    refine XO.ef (Ef.appRA (l := []) (m := l) Try.underlying23 Try.info57 rfl rfl (fun _ => rfl) rfl rfl fndA (hs.le leA) (fun _ => rfl) (by simp; try omega) (by simp; try omega)) ?_
    rintro _ _ ⟨a2, c2, rfl, rfl⟩
    refine XO.pu (Pu.assign rfl) ?_
    refine XO.nil ?_
    refine X.sub (p' := [(2, _)]) ⟨rfl, trivial⟩ ?_
    refine X.retL (rsH tcs 2 57 a2 c2 l :: q) Try.func41 (res1 Try.results41 rfl) ⟨_, rfl, a2, c2, by simp, rfl⟩
end
section
variable {G : World} {q : List HP} {a b : Option Addr} {c d : Nat} {l m : List Int} {n : Nat}
theorem Sum_ok (hs : Sees q a (l.map (Value.int .u8))) (hb : Bs l) (hL : l.length ≤ 1000000000) : CallF Try.prog G 21 [.slice a l.length c] q (Ret fun v q' => v = .int .u32 (sumB l) ∧ q' = q) := by
  refine CallF.of Try.func21 Try.ntmps21 rfl (fun F cs => ?_)
  refine X.sub (p' := [(0, _)]) ⟨rfl, trivial⟩ ?_
  refine X.seq ?_
  refine X.region ?_
  refine XO.pu (Pu.assign rfl) ?_
  refine XO.nil ?_
  refine X.sub (p' := [(2, _), (0, _)]) ⟨rfl, rfl, trivial⟩ ?_
  refine X.seq ?_
  refine X.region ?_
  refine XO.pu (Pu.assign rfl) ?_
  refine XO.nil ?_
  refine X.sub (p' := [(3, _), (2, _), (0, _)]) ⟨rfl, rfl, rfl, trivial⟩ ?_
  refine X.seq ?_
  refine X.seq ?_
  refine X.region ?_
  refine XO.pu (Pu.move rfl) ?_
  refine XO.pu (Pu.len rfl Try.underlying31) ?_
  refine XO.pu (Pu.move rfl) ?_
  refine XO.nil ?_
  refine X.sub (p' := [(8, _), (7, _), (6, _), (3, _), (2, _)]) ⟨rfl, rfl, rfl, rfl, rfl, trivial⟩ ?_
  refine X.block ?_
  refine X.at (X.loop (fun (s : Nat) => s ≤ l.length) (fun s => [(3, .int .u32 (sumB (l.take s))), (6, .slice a l.length c), (7, .int .i64 (l.length : Int)), (8, .int .i64 (s : Int))]) (fun s => q ++ F) (fun s => l.length - s) (fun s hi_ ih => ?_) 0 (by omega)) ⟨(by first | rfl | exact congrArg some (congrArg (Value.int _) (by omega)) | (show some _ = some _; simp; done) | (show some _ = some _; simp; omega)), (by first | rfl | exact congrArg some (congrArg (Value.int _) (by omega)) | (show some _ = some _; simp; done) | (show some _ = some _; simp; omega)), (by first | rfl | exact congrArg some (congrArg (Value.int _) (by omega)) | (show some _ = some _; simp; done) | (show some _ = some _; simp; omega)), (by first | rfl | exact congrArg some (congrArg (Value.int _) (by omega)) | (show some _ = some _; simp; done) | (show some _ = some _; simp; omega)), trivial⟩ leA
  try dsimp only at hi_ ih ⊢
  obtain hi := hi_
  refine X.seq ?_
  refine X.region ?_
  refine XO.pu (Pu.lss rfl rfl) ?_
  refine XO.nil ?_
  refine X.sub (p' := [(9, _), (3, _), (6, _), (7, _), (8, _)]) ⟨rfl, rfl, rfl, rfl, rfl, trivial⟩ ?_
  refine X.seq ?_
  refine X.part 9 rfl (fun h0 => ?_) (fun h0 => ?_)
  · skip
    have h0 := of_decide_eq_true h0; have hi0 : s < l.length := by omega
    refine X.adr hs (by simp; omega) (fun b1 o1 e_ => ?_); subst e_
    refine X.condT rfl ?_
    refine X.skip ?_
    refine X.seq ?_
    refine X.block ?_
    refine X.seq ?_
    refine X.region ?_
    refine XO.pu (Pu.indexAddr rfl rfl Try.underlying31 Try.sizeOf5 (by omega) (by omega)) ?_
    refine XO.ld Try.isAgg5 ?_
    refine XO.pu (Pu.assign rfl) ?_
    refine XO.nil ?_
    refine X.sub (p' := [(5, _), (3, _), (6, _), (7, _), (8, _)]) ⟨rfl, rfl, rfl, rfl, rfl, trivial⟩ ?_
    refine X.region ?_
    refine XO.pu (Pu.move rfl) ?_
    refine XO.pu (Pu.mulW rfl rfl) ?_
    refine XO.pu (Pu.move rfl) ?_
    refine XO.pu (Pu.convW rfl Try.underlying5 Try.underlying22) ?_
    refine XO.pu (Pu.addW rfl rfl) ?_
    refine XO.know 16 (.int .u32 (sumB (l.take (s + 1)))) rfl (congrArg (Value.int .u32) (by rw [sumB_succ hi0]; simp only [wu32]; omega)) ?_
    refine XO.pu (Pu.assign rfl) ?_
    refine XO.nil ?_
    refine X.sub (p' := [(3, _), (6, _), (7, _), (8, _)]) ⟨rfl, rfl, rfl, rfl, trivial⟩ ?_
    refine X.inBlock ?_
    refine X.region ?_
    refine XO.pu (Pu.add rfl rfl (by omega) (by omega)) ?_
    refine XO.pu (Pu.move rfl) ?_
    refine XO.nil ?_
    refine X.sub (p' := [(8, _), (3, _), (6, _), (7, _)]) ⟨rfl, rfl, rfl, rfl, trivial⟩ ?_
    refine X.at (ih (s + 1) (by omega) (by omega)) ⟨(by first | rfl | exact congrArg some (congrArg (Value.int _) (by omega)) | (show some _ = some _; simp; done) | (show some _ = some _; simp; omega)), (by first | rfl | exact congrArg some (congrArg (Value.int _) (by omega)) | (show some _ = some _; simp; done) | (show some _ = some _; simp; omega)), (by first | rfl | exact congrArg some (congrArg (Value.int _) (by omega)) | (show some _ = some _; simp; done) | (show some _ = some _; simp; omega)), (by first | rfl | exact congrArg some (congrArg (Value.int _) (by omega)) | (show some _ = some _; simp; done) | (show some _ = some _; simp; omega)), trivial⟩ leA
  · skip
    have h0 := of_decide_eq_false h0
    refine X.condF rfl ?_
    refine X.exit rfl ?_
    refine X.seq ?_
    refine X.region ?_
    refine XO.pu (Pu.move rfl) ?_
    refine XO.pu (Pu.assign rfl) ?_
    refine XO.nil ?_
    refine X.sub (p' := [(2, _)]) ⟨rfl, trivial⟩ ?_
    refine X.retL (q) Try.func21 (res1 Try.results21 rfl) ⟨_, rfl, by rw [List.take_of_length_le (by omega)], rfl⟩
theorem RSum_ok (hs : Sees q a (l.map (Value.int .u8))) (hb : Bs l) (hL : l.length ≤ 1000000000) : CallF Try.prog G 22 [.slice a l.length c] q (Ret fun v q' => v = .int .u32 (sumB l) ∧ q' = q) := by
  refine CallF.of Try.func22 Try.ntmps22 rfl (fun F cs => ?_)
  refine X.sub (p' := [(0, _)]) ⟨rfl, trivial⟩ ?_
  refine X.seq ?_
  refine X.region ?_
  refine XO.pu (Pu.assign rfl) ?_
  refine XO.nil ?_
  refine X.sub (p' := [(2, _), (0, _)]) ⟨rfl, rfl, trivial⟩ ?_
  refine X.seq ?_
  refine X.region ?_
  refine XO.pu (Pu.assign rfl) ?_
  refine XO.nil ?_
  refine X.sub (p' := [(3, _), (2, _), (0, _)]) ⟨rfl, rfl, rfl, trivial⟩ ?_
  refine X.seq ?_
  refine X.seq ?_
  refine X.region ?_
  refine XO.pu (Pu.assign rfl) ?_
  refine XO.nil ?_
  refine X.sub (p' := [(4, _), (3, _), (2, _), (0, _)]) ⟨rfl, rfl, rfl, rfl, trivial⟩ ?_
  refine X.block ?_
  refine X.at (X.loop (fun (s : Nat) => s ≤ l.length) (fun s => [(3, .int .i64 (sumB (l.take s))), (0, .slice a l.length c), (4, .int .i64 (s : Int))]) (fun s => q ++ F) (fun s => l.length - s) (fun s hi_ ih => ?_) 0 (by omega)) ⟨(by first | rfl | exact congrArg some (congrArg (Value.int _) (by omega)) | (show some _ = some _; simp; done) | (show some _ = some _; simp; omega)), (by first | rfl | exact congrArg some (congrArg (Value.int _) (by omega)) | (show some _ = some _; simp; done) | (show some _ = some _; simp; omega)), (by first | rfl | exact congrArg some (congrArg (Value.int _) (by omega)) | (show some _ = some _; simp; done) | (show some _ = some _; simp; omega)), trivial⟩ leA
  try dsimp only at hi_ ih ⊢
  obtain hi := hi_
  refine X.seq ?_
  refine X.seq ?_
  refine X.region ?_
  refine XO.pu (Pu.move rfl) ?_
  refine XO.pu (Pu.move rfl) ?_
  refine XO.pu (Pu.len rfl Try.underlying31) ?_
  refine XO.pu (Pu.lss rfl rfl) ?_
  refine XO.nil ?_
  refine X.sub (p' := [(8, _), (3, _), (0, _), (4, _)]) ⟨rfl, rfl, rfl, rfl, trivial⟩ ?_
  refine X.part 8 rfl (fun h0 => ?_) (fun h0 => ?_)
  · skip
    have h0 := of_decide_eq_true h0; have hi0 : s < l.length := by omega
    refine X.adr hs (by simp; omega) (fun b1 o1 e_ => ?_); subst e_
    have hr := sumB_rng (l.take s); have hx := hb l[s] (List.getElem_mem hi0)
    refine X.condT rfl ?_
    refine X.skip ?_
    refine X.seq ?_
    refine X.block ?_
    refine X.region ?_
    refine XO.pu (Pu.move rfl) ?_
    refine XO.pu (Pu.mul rfl rfl (by omega) (by omega)) ?_
    refine XO.pu (Pu.move rfl) ?_
    refine XO.pu (Pu.move rfl) ?_
    refine XO.pu (Pu.indexAddr rfl rfl Try.underlying31 Try.sizeOf5 (by omega) (by omega)) ?_
    refine XO.ld Try.isAgg5 ?_
    refine XO.pu (Pu.conv rfl Try.underlying5 Try.underlying2 (wrap64_of (by omega) (by omega))) ?_
    refine XO.pu (Pu.add rfl rfl (by omega) (by omega)) ?_
    refine XO.pu (Pu.rem rfl rfl (by omega)) ?_
    refine XO.know 19 (.int .i64 (sumB (l.take (s + 1)))) rfl (congrArg (Value.int .i64) (by rw [sumB_succ hi0, Int.tmod_eq_emod_of_nonneg (by omega)]; omega)) ?_
    refine XO.pu (Pu.assign rfl) ?_
    refine XO.nil ?_
    refine X.sub (p' := [(3, _), (0, _), (4, _)]) ⟨rfl, rfl, rfl, trivial⟩ ?_
    refine X.inBlock ?_
    refine X.region ?_
    refine XO.pu (Pu.move rfl) ?_
    refine XO.pu (Pu.add rfl rfl (by omega) (by omega)) ?_
    refine XO.pu (Pu.assign rfl) ?_
    refine XO.nil ?_
    refine X.sub (p' := [(4, _), (3, _), (0, _)]) ⟨rfl, rfl, rfl, trivial⟩ ?_
    refine X.at (ih (s + 1) (by omega) (by omega)) ⟨(by first | rfl | exact congrArg some (congrArg (Value.int _) (by omega)) | (show some _ = some _; simp; done) | (show some _ = some _; simp; omega)), (by first | rfl | exact congrArg some (congrArg (Value.int _) (by omega)) | (show some _ = some _; simp; done) | (show some _ = some _; simp; omega)), (by first | rfl | exact congrArg some (congrArg (Value.int _) (by omega)) | (show some _ = some _; simp; done) | (show some _ = some _; simp; omega)), trivial⟩ leA
  · skip
    have h0 := of_decide_eq_false h0
    refine X.condF rfl ?_
    refine X.exit rfl ?_
    refine X.seq ?_
    refine X.region ?_
    refine XO.pu (Pu.move rfl) ?_
    refine XO.pu (Pu.convW rfl Try.underlying2 Try.underlying22) ?_
    refine XO.pu (Pu.assign rfl) ?_
    refine XO.nil ?_
    refine X.sub (p' := [(2, _)]) ⟨rfl, trivial⟩ ?_
    have hr := sumB_rng l
    refine X.retL (q) Try.func22 (res1 Try.results22 rfl) ⟨_, rfl, congrArg (Value.int .u32) (by rw [List.take_of_length_le (by omega), wu32]; omega), rfl⟩
theorem Sealed_ok (hs : Sees q a (l.map (Value.int .u8))) (hb : Bs l) (hL : l.length ≤ 1000000000) : CallF Try.prog G 20 [.slice a l.length c] q (Ret fun v q' => ∃ a' c', v = .slice a' (sealB l).length c' ∧ q' = lsH (Value.int .u8) 5 a' c' (sealB l) :: q) := by
  refine CallF.of Try.func20 Try.ntmps20 rfl (fun F cs => ?_)
  refine X.sub (p' := [(0, _)]) ⟨rfl, trivial⟩ ?_
  refine X.seq ?_
  refine X.region ?_
  refine XO.pu (Pu.assign rfl) ?_
  refine XO.nil ?_
  refine X.sub (p' := [(2, _), (0, _)]) ⟨rfl, rfl, trivial⟩ ?_
  refine X.seq ?_
  refine X.region ?_
  refine XO.pu (Pu.move rfl) ?_
  refine XO.cR Try.call22 (RSum_ok (hs.le leA) hb hL) ?_
  refine XO.pu (Pu.assign rfl) ?_
  refine XO.nil ?_
  refine X.sub (p' := [(3, _), (2, _), (0, _)]) ⟨rfl, rfl, rfl, trivial⟩ ?_
  refine X.seq ?_
  refine X.region ?_
  refine XO.ef (Ef.lit0 (Value.int .u8) Try.underlying31 Try.info5) ?_
  rintro _ _ ⟨g, rfl, rfl⟩
  refine XO.pu (Pu.move rfl) ?_
  refine XO.ef (Ef.appA (f := Value.int .u8) (l := []) (m := l) Try.underlying31 Try.info5 rfl rfl rfl fndA (hs.le leA) (fun _ => rfl) (by simp; omega) (by simp; omega)) ?_
  rintro _ _ ⟨a1, c1, rfl, rfl⟩
  rw [List.nil_append]; have hr := sumB_rng l
  refine XO.pu (Pu.assign rfl) ?_
  refine XO.nil ?_
  refine X.sub (p' := [(4, _), (3, _), (2, _)]) ⟨rfl, rfl, rfl, trivial⟩ ?_
  refine X.seq ?_
  refine X.seq ?_
  refine X.region ?_
  refine XO.pu (Pu.assign rfl) ?_
  refine XO.nil ?_
  refine X.sub (p' := [(5, _), (4, _), (3, _), (2, _)]) ⟨rfl, rfl, rfl, rfl, trivial⟩ ?_
  refine X.block ?_
  refine X.at (X.loop (fun (s : Nat × Option Addr × Nat) => s.1 ≤ 4) (fun s => [(3, .int .u32 (sumB l / 256 ^ s.1)), (4, .slice s.2.1 (l ++ (le4 (sumB l)).take s.1).length s.2.2), (5, .int .i64 (s.1 : Int))]) (fun s => lsH (Value.int .u8) 5 s.2.1 s.2.2 (l ++ (le4 (sumB l)).take s.1) :: (q ++ F)) (fun s => 4 - s.1) (fun s hi_ ih => ?_) (0, a1, c1) (by dsimp only; omega)) ⟨(by first | rfl | exact congrArg some (congrArg (Value.int _) (by omega)) | (show some _ = some _; simp; done) | (show some _ = some _; simp; omega)), (by first | rfl | exact congrArg some (congrArg (Value.int _) (by omega)) | (show some _ = some _; simp; done) | (show some _ = some _; simp; omega)), (by first | rfl | exact congrArg some (congrArg (Value.int _) (by omega)) | (show some _ = some _; simp; done) | (show some _ = some _; simp; omega)), trivial⟩ (by simp; exact leA)
  try dsimp only at hi_ ih ⊢
  obtain hi := hi_
  obtain ⟨i, a2, c2⟩ := s; dsimp only at *
  refine X.seq ?_
  refine X.seq ?_
  refine X.region ?_
  refine XO.pu (Pu.move rfl) ?_
  refine XO.pu (Pu.lss rfl rfl) ?_
  refine XO.nil ?_
  refine X.sub (p' := [(12, _), (3, _), (4, _), (5, _)]) ⟨rfl, rfl, rfl, rfl, trivial⟩ ?_
  refine X.part 12 rfl (fun h0 => ?_) (fun h0 => ?_)
  · skip
    have h0 := of_decide_eq_true h0; have hi0 : i < 4 := by omega
    have hp : 0 ≤ sumB l / 256 ^ i := Int.ediv_nonneg hr.1 (Int.pow_nonneg (by omega))
    have hp2 : sumB l / 256 ^ i < 4294967296 := by have := Int.ediv_le_self (256 ^ i) hr.1; omega
    refine X.condT rfl ?_
    refine X.skip ?_
    refine X.seq ?_
    refine X.block ?_
    refine X.seq ?_
    refine X.region ?_
    refine XO.pu (Pu.move rfl) ?_
    refine XO.pu (Pu.move rfl) ?_
    refine XO.pu (Pu.rem rfl rfl (by omega)) ?_
    refine XO.pu (Pu.convW rfl Try.underlying22 Try.underlying5) ?_
    rw [show IntKind.u8.wrap ((sumB l / 256 ^ i).tmod 256) = (sumB l / 256 ^ i) % 256 by rw [wu8, Int.tmod_eq_emod_of_nonneg hp]; omega]
    refine XO.ef (Ef.lit1 (u := (sumB l / 256 ^ i) % 256) (Value.int .u8) Try.underlying31 Try.info5 rfl rfl) ?_
    rintro _ _ ⟨g2, rfl, rfl⟩
    refine XO.ef (Ef.appA (f := Value.int .u8) (l := l ++ (le4 (sumB l)).take i) (m := [(sumB l / 256 ^ i) % 256]) Try.underlying31 Try.info5 rfl rfl rfl fndA ((Sees.lsH _).le leA) (fun _ => rfl) (by simp; omega) (by simp; omega)) ?_
    rintro _ _ ⟨a3, c3, rfl, rfl⟩
    refine XO.pu (Pu.assign rfl) ?_
    refine XO.nil ?_
    refine X.sub (p' := [(4, _), (3, _), (5, _)]) ⟨rfl, rfl, rfl, trivial⟩ ?_
    refine X.region ?_
    refine XO.pu (Pu.move rfl) ?_
    refine XO.pu (Pu.quoW rfl rfl (by omega)) ?_
    refine XO.know 22 (.int .u32 (sumB l / 256 ^ (i + 1))) rfl (congrArg (Value.int .u32) (by rw [pow_step, wu32, Int.tdiv_eq_ediv_of_nonneg hp]; omega)) ?_
    refine XO.pu (Pu.assign rfl) ?_
    refine XO.nil ?_
    refine X.sub (p' := [(3, _), (4, _), (5, _)]) ⟨rfl, rfl, rfl, trivial⟩ ?_
    refine X.inBlock ?_
    refine X.region ?_
    refine XO.pu (Pu.move rfl) ?_
    refine XO.pu (Pu.add rfl rfl (by omega) (by omega)) ?_
    refine XO.pu (Pu.assign rfl) ?_
    refine XO.nil ?_
    refine X.sub (p' := [(5, _), (3, _), (4, _)]) ⟨rfl, rfl, rfl, trivial⟩ ?_
    rw [List.append_assoc, ← le4_take _ _ hi0 hr.1]
    refine X.at (ih (i + 1, a3, c3) (by dsimp only; omega) (by dsimp only; omega)) ⟨(by first | rfl | exact congrArg some (congrArg (Value.int _) (by omega)) | (show some _ = some _; simp; done) | (show some _ = some _; simp; omega)), (by first | rfl | exact congrArg some (congrArg (Value.int _) (by omega)) | (show some _ = some _; simp; done) | (show some _ = some _; simp; omega)), (by first | rfl | exact congrArg some (congrArg (Value.int _) (by omega)) | (show some _ = some _; simp; done) | (show some _ = some _; simp; omega)), trivial⟩ leA
  · skip
    have h0 := of_decide_eq_false h0
    refine X.condF rfl ?_
    refine X.exit rfl ?_
    refine X.seq ?_
    refine X.region ?_
    refine XO.pu (Pu.move rfl) ?_
    refine XO.pu (Pu.assign rfl) ?_
    refine XO.nil ?_
    refine X.sub (p' := [(2, _)]) ⟨rfl, trivial⟩ ?_
    have he : l ++ (le4 (sumB l)).take i = sealB l := by rw [show i = 4 by omega]; rfl
    rw [he]
    refine X.retL (lsH (Value.int .u8) 5 a2 c2 (sealB l) :: q) Try.func20 (res1 Try.results20 rfl) ⟨_, rfl, a2, c2, rfl, rfl⟩
