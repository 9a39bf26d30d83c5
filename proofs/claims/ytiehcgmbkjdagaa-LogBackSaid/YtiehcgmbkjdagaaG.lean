/- What functions of package log, of its references and of its laws do: contracts of calls, proved by walking their code. -/
import Derived.Test.YtiehcgmbkjdagaaF
import Derived.Test.YtiehcgmbkjdagaaWx17
import Derived.KernelRfl
set_option maxRecDepth 100000
set_option linter.unusedVariables false
set_option linter.unusedSimpArgs false
namespace Go.Proofs.Ytiehcgmbkjdagaa
open Go Go.RowKit Wx

/-! ### what was taken, out of bytes -/
def pMag : List Int → List Int → Option (List Int)
  | [], l => some l
  | _ :: _, [] => none
  | c :: cs, x :: r => if x = c then pMag cs r else none
def pTurns : Nat → List Int → Option (List Turn × List Int)
  | 0, l => some ([], l)
  | k + 1, l => match pByte l with
    | none => none
    | some (x, r) => match pNum r with
      | none => none
      | some (n, r') => match pTurns k r' with
        | none => none
        | some (ts, r'') => some ((x, n) :: ts, r'')
def magicL : List Int := [87, 76, 79, 71]
def pEnd (h : Int) (ts : List Turn) (l : List Int) : Option Tkn :=
  match pByte l with
  | none => none
  | some (k, l1) => match pByte l1 with
    | none => none
    | some (tr, l2) => match pByte l2 with
      | none => none
      | some (th, l3) => match pNum l3 with
        | none => none
        | some (st, l4) => if l4 = [] ∧ okT ⟨h, ts, k, tr, th, st⟩ then some ⟨h, ts, k, tr, th, st⟩ else none
def pHead (l : List Int) : Option (Int × Int × List Int) :=
  match pMag magicL l with
  | none => none
  | some l1 => match pWord l1 with
    | none => none
    | some (h, l2) => match pNum l2 with
      | none => none
      | some (n, l3) => some (h, n, l3)
def takenP (l : List Int) : Option Tkn :=
  match pHead l with
  | none => none
  | some (h, n, l3) => if 65536 < n then none else match pTurns n.toNat l3 with
    | none => none
    | some (ts, l4) => pEnd h ts l4
def noTk : Value := .agg [.int .u32 0, .slice none 0 0, .int .i64 0, .int .i64 0, .int .i64 0, .int .i64 0].toArray
section
variable {G : World} {q : List HP} {a b : Option Addr} {c d p n2 n3 : Nat} {l : List Int} {x0 x1 x2 x3 x4 x5 y : Value}
theorem taken1_quiet : Quiet Try.prog G 44 [.pointer (some ⟨n2, 0, none⟩), .pointer (some ⟨n3, 0, none⟩)] := by
  refine Quiet.of Try.func44 Try.ntmps44 rfl (fun F c₀ cs₀ hr => ?_)
  refine X.sub (p' := [(0, _), (1, _)]) ⟨rfl, rfl, trivial⟩ ?_
  refine X.seq ?_
  refine X.region ?_
  refine XO.rcv hr ?_
  refine XO.pu (Pu.assertN rfl Try.underlying89 rfl Try.zeroValue89) ?_
  refine XO.pu (Pu.move rfl) ?_
  refine XO.pu (Pu.extract rfl rfl) ?_
  refine XO.pu (Pu.extract rfl rfl) ?_
  refine XO.ef (Ef.alloc Try.zeroValue89) ?_
  rintro _ _ ⟨n11, rfl, rfl⟩
  refine XO.ef0 (Ef.stA Try.sizeOf89) ?_
  rintro _ _ ⟨rfl, rfl⟩
  refine XO.pu (Pu.assign rfl) ?_
  refine XO.nil ?_
  refine X.sub (p' := [(3, _), (0, _), (1, _)]) ⟨rfl, rfl, rfl, trivial⟩ ?_
  refine X.seq ?_
  refine X.region ?_
  refine XO.pu (Pu.move rfl) ?_
  refine XO.nil ?_
  refine X.sub (p' := [(9, _), (0, _), (1, _)]) ⟨rfl, rfl, rfl, trivial⟩ ?_
  refine X.know 9 (.bool false) rfl rfl ?_
  refine X.condF rfl ?_
  refine X.skip ?_
  exact X.fall ⟨rfl, rfl, .inl rfl, ⟨_, res0 Try.results44⟩, leA⟩
theorem taken1_catches : Catches Try.prog G 44 [.pointer (some ⟨n2, 0, none⟩), .pointer (some ⟨n3, 0, none⟩)] failE [pto n2 (.cells [x0, x1, x2, x3, x4, x5].toArray 29 (0, 0)), pto n3 (.cells [y].toArray 4 (0, 0))] [pto n2 (.cells [.int .u32 0, .slice none 0 0, .int .i64 0, .int .i64 0, .int .i64 0, .int .i64 0].toArray 29 (0, 0)), pto n3 (.cells [.bool false].toArray 4 (0, 0))] := by
  refine Catches.of Try.func44 Try.ntmps44 rfl rfl (fun F c₀ cs₀ hr => ?_)
  refine X.sub (p' := [(0, _), (1, _)]) ⟨rfl, rfl, trivial⟩ ?_
  refine X.seq ?_
  refine X.region ?_
  refine XO.rcv hr ?_
  refine XO.pu (Pu.assertT rfl Try.underlying89 rfl) ?_
  refine XO.pu (Pu.move rfl) ?_
  refine XO.pu (Pu.extract rfl rfl) ?_
  refine XO.pu (Pu.extract rfl rfl) ?_
  refine XO.ef (Ef.alloc Try.zeroValue89) ?_
  rintro _ _ ⟨n11, rfl, rfl⟩
  refine XO.ef0 (Ef.stA Try.sizeOf89) ?_
  rintro _ _ ⟨rfl, rfl⟩
  refine XO.pu (Pu.assign rfl) ?_
  refine XO.nil ?_
  refine X.sub (p' := [(3, _), (0, _), (1, _)]) ⟨rfl, rfl, rfl, trivial⟩ ?_
  refine X.seq ?_
  refine X.region ?_
  refine XO.pu (Pu.move rfl) ?_
  refine XO.nil ?_
  refine X.sub (p' := [(9, _), (0, _), (1, _)]) ⟨rfl, rfl, rfl, trivial⟩ ?_
  refine X.know 9 (.bool true) rfl rfl ?_
  refine X.condT rfl ?_
  refine X.region ?_
  refine XO.pu (Pu.build (cells := [_, _, _, _, _, _]) [(0, 1), (1, 1), (2, 4)] Try.zeroValue29 Try.underlying29 (by kernel_rfl) rfl rfl) ?_
  refine XO.ef0 (Ef.stA Try.sizeOf29) ?_
  rintro _ _ ⟨rfl, rfl⟩
  refine XO.ef0 (Ef.st Try.sizeOf4) ?_
  rintro _ _ ⟨rfl, rfl⟩
  refine XO.nil ?_
  refine X.sub (p' := []) trivial ?_
  exact X.fall ⟨rfl, rfl, .inl rfl, ⟨_, res0 Try.results44⟩, leA⟩
/-- What the reader tells in the end. -/
def takenS (q : List HP) (l : List Int) (v : Value) (q' : List HP) : Prop :=
  (∃ t a' c', takenP l = some t ∧ v = .tuple [t.v a' c', .bool true].toArray ∧ q' = rsH tcs 2 57 a' c' t.turns :: q) ∨ (takenP l = none ∧ v = .tuple [noTk, .bool false].toArray ∧ q' = q)
theorem pByte_of {m r : List Int} {x : Int} (h : pByte m = some (x, r)) : m = x :: r := by
  cases m with
  | nil => cases h
  | cons y s => simp [pByte] at h; rw [h.1, h.2]
theorem magicL_rng : ∀ x ∈ magicL, 0 ≤ x ∧ x ≤ 255 := by decide
theorem takenP_1 {l : List Int} (h : pMag magicL l = none) : takenP l = none := by unfold takenP pHead; rw [h]
theorem takenP_2 {l l1 : List Int} (h : pMag magicL l = some l1) (h2 : pWord l1 = none) : takenP l = none := by unfold takenP pHead; rw [h]; simp [h2]
theorem takenP_3 {l l1 l2 : List Int} {n : Int} (h : pMag magicL l = some l1) (h2 : pWord l1 = some (n, l2)) (h3 : pNum l2 = none) : takenP l = none := by unfold takenP pHead; rw [h]; simp [h2, h3]
theorem pHead_of {l l1 l2 l3 : List Int} {n k : Int} (h : pMag magicL l = some l1) (h2 : pWord l1 = some (n, l2)) (h3 : pNum l2 = some (k, l3)) : pHead l = some (n, k, l3) := by unfold pHead; rw [h]; simp [h2, h3]
theorem takenP_4 {l l3 : List Int} {n k : Int} (h : pHead l = some (n, k, l3)) (hk : 65536 < k) : takenP l = none := by unfold takenP; rw [h]; simp [hk]
theorem takenP_5 {l l3 : List Int} {n k : Int} (h : pHead l = some (n, k, l3)) (h2 : pTurns k.toNat l3 = none) : takenP l = none := by unfold takenP; rw [h]; simp [h2]
theorem takenP_6 {l l3 l4 : List Int} {n k : Int} {ts : List Turn} (h : pHead l = some (n, k, l3)) (hk : ¬ 65536 < k) (h2 : pTurns k.toNat l3 = some (ts, l4)) : takenP l = pEnd n ts l4 := by unfold takenP; rw [h]; simp [hk, h2]
theorem pMag_step {i : Nat} {m : List Int} (h : i < magicL.length) : pMag (magicL.drop i) m = match m with | [] => none | x :: r => if x = magicL[i] then pMag (magicL.drop (i + 1)) r else none := by
  rw [List.drop_eq_getElem_cons h]; cases m <;> rfl
def consT (ts : List Turn) (x : List Turn × List Int) : List Turn × List Int := (ts ++ x.1, x.2)
theorem pTurns_step {k : Nat} {m r r' : List Int} {x n : Int} (ts : List Turn) (h : pByte m = some (x, r)) (h2 : pNum r = some (n, r')) : (pTurns (k + 1) m).map (consT ts) = (pTurns k r').map (consT (ts ++ [(x, n)])) := by
  simp only [pTurns, h, h2]
  cases pTurns k r' with
  | none => rfl
  | some y => simp [consT]
theorem pTurns_no1 {k : Nat} {m : List Int} (ts : List Turn) (h : pByte m = none) : (pTurns (k + 1) m).map (consT ts) = none := by simp [pTurns, h]
theorem pTurns_no2 {k : Nat} {m r : List Int} {x : Int} (ts : List Turn) (h : pByte m = some (x, r)) (h2 : pNum r = none) : (pTurns (k + 1) m).map (consT ts) = none := by simp [pTurns, h, h2]

set_option maxHeartbeats 2000000 in
theorem taken_ok (h : Rd' q a c l) : CallF Try.prog G 34 [.pointer (some ⟨p, 0, none⟩)] (RD p a l.length c :: q) (Ret (takenS q l)) := by
  refine CallF.of Try.func34 Try.ntmps34 rfl (fun F cs => ?_)
  refine X.sub (p' := [(0, _)]) ⟨rfl, trivial⟩ ?_
  refine X.seq ?_
  refine X.region ?_
  refine XO.ef (Ef.alloc Try.zeroValue29) ?_
  rintro _ _ ⟨n1, rfl, rfl⟩
  refine XO.ef (Ef.alloc Try.zeroValue4) ?_
  rintro _ _ ⟨n2, rfl, rfl⟩
  refine XO.nil ?_
  refine X.sub (p' := [(3, _), (2, _), (0, _)]) ⟨rfl, rfl, rfl, trivial⟩ ?_
  refine X.seq ?_
  refine X.region ?_
  refine XO.pu (Pu.makeFunc rfl rfl) ?_
  refine XO.dfr ?_
  have hpan : ∀ (p_ : PE) (qq : List HP) (x0 x1 x2 x3 x4 x5 : Value), lkp p_ 2 = some (.pointer (some ⟨n1, 0, none⟩)) → lkp p_ 3 = some (.pointer (some ⟨n2, 0, none⟩)) → takenP l = none → Le qq (pto n1 (.cells [x0, x1, x2, x3, x4, x5].toArray 29 (0, 0)) :: pto n2 (.cells [.bool false].toArray 4 (0, 0)) :: (q ++ F)) → FQ Try.prog G 34 cs (Ret (takenS q l)) F (.panic [failE]) p_ [Wx.dfr 44 [.pointer (some ⟨n1, 0, none⟩), .pointer (some ⟨n2, 0, none⟩)]] cs qq :=
    fun p_ qq x0 x1 x2 x3 x4 x5 h2 h3 hn hle => ⟨rfl, Lv.catches Try.call44 Try.func34 (taken1_catches (n2 := n1) (n3 := n2) (x0 := x0) (x1 := x1) (x2 := x2) (x3 := x3) (x4 := x4) (x5 := x5) (y := .bool false)) hle rfl (Lv.ret (q' := q) Try.func34 (resC Try.results34 (ResOk.cell h2 (LV.agg Try.isAgg29 Try.sizeOf29 hasA rfl) (ResOk.cell h3 (LV.cell Try.isAgg4 clA) ResOk.nil))) ⟨_, rfl, .inr ⟨hn, rfl, rfl⟩⟩ leA)⟩
  refine XO.nil ?_
  refine X.sub (p' := [(3, _), (2, _), (0, _)]) ⟨rfl, rfl, rfl, trivial⟩ ?_
  refine X.seq ?_
  refine X.seq ?_
  refine X.region ?_
  refine XO.ef (Ef.litL (Value.int .u8) magicL Try.underlying31 Try.info5 rfl rfl rfl rfl rfl rfl (fun _ => rfl)) ?_
  rintro _ _ ⟨g, rfl, rfl⟩
  refine XO.ef (Ef.convSame (vs := magicL.map (Value.int .u8)) rfl Try.underlying31 Try.underlying5 fndA rfl) ?_
  rintro _ _ ⟨rfl, rfl⟩
  refine XO.pu (Pu.len rfl Try.underlying31) ?_
  refine XO.pu (Pu.move rfl) ?_
  refine XO.nil ?_
  refine X.sub (p' := [(12, _), (11, _), (10, _), (3, _), (2, _), (0, _)]) ⟨rfl, rfl, rfl, rfl, rfl, rfl, trivial⟩ ?_
  refine X.block ?_
  have hm : Sees [im g (.cells (magicL.map (Value.int .u8)).toArray 5 (4, 4 + 1))] (some ⟨g, 0, none⟩) (magicL.map (Value.int .u8)) := Sees.im []
  refine X.at (X.loop (fun (s : Nat × List Int × Option Addr × Nat) => s.1 ≤ 4 ∧ pMag magicL l = pMag (magicL.drop s.1) s.2.1 ∧ ∀ q0, Rd' q0 a c l → Rd' q0 s.2.2.1 s.2.2.2 s.2.1) (fun s => [(0, .pointer (some ⟨p, 0, none⟩)), (2, .pointer (some ⟨n1, 0, none⟩)), (3, .pointer (some ⟨n2, 0, none⟩)), (10, .slice (some ⟨g, 0, none⟩) 4 4), (11, .int .i64 4), (12, .int .i64 (s.1 : Int))]) (fun s => RD p s.2.2.1 s.2.1.length s.2.2.2 :: im g (.cells (magicL.map (Value.int .u8)).toArray 5 (4, 4 + 1)) :: pto n1 (.cells [.int .u32 0, .slice none 0 0, .int .i64 0, .int .i64 0, .int .i64 0, .int .i64 0].toArray 29 (0, 0)) :: pto n2 (.cells [.bool false].toArray 4 (0, 0)) :: (q ++ F)) (fun s => 4 - s.1) (fun s hi_ ih => ?_) (0, l, a, c) ⟨by dsimp only; omega, rfl, fun _ h => h⟩) ⟨(by first | rfl | exact congrArg some (congrArg (Value.int _) (by omega)) | (show some _ = some _; simp; done) | (show some _ = some _; simp; omega)), (by first | rfl | exact congrArg some (congrArg (Value.int _) (by omega)) | (show some _ = some _; simp; done) | (show some _ = some _; simp; omega)), (by first | rfl | exact congrArg some (congrArg (Value.int _) (by omega)) | (show some _ = some _; simp; done) | (show some _ = some _; simp; omega)), (by first | rfl | exact congrArg some (congrArg (Value.int _) (by omega)) | (show some _ = some _; simp; done) | (show some _ = some _; simp; omega)), (by first | rfl | exact congrArg some (congrArg (Value.int _) (by omega)) | (show some _ = some _; simp; done) | (show some _ = some _; simp; omega)), (by first | rfl | exact congrArg some (congrArg (Value.int _) (by omega)) | (show some _ = some _; simp; done) | (show some _ = some _; simp; omega)), trivial⟩ leA
  try dsimp only at hi_ ih ⊢
  obtain ⟨h1, h2, h3⟩ := hi_
  obtain ⟨i, m, a', c'⟩ := s; dsimp only at *
  have h4 := h3 q h
  refine X.seq ?_
  refine X.region ?_
  refine XO.pu (Pu.lss rfl rfl) ?_
  refine XO.nil ?_
  refine X.sub (p' := [(13, _), (0, _), (2, _), (3, _), (10, _), (11, _), (12, _)]) ⟨rfl, rfl, rfl, rfl, rfl, rfl, rfl, trivial⟩ ?_
  refine X.seq ?_
  refine X.part 13 rfl (fun h0 => ?_) (fun h0 => ?_)
  · skip
    have h0 := of_decide_eq_true h0; have hi4 : i < 4 := (by omega); have hi0 : i < magicL.length := hi4; have hst := pMag_step (m := m) hi0
    have hmx := magicL_rng _ (List.getElem_mem hi0)
    refine X.condT rfl ?_
    refine X.skip ?_
    refine X.seq ?_
    refine X.block ?_
    refine X.seq ?_
    refine X.region ?_
    refine XO.pu (Pu.indexAddr rfl rfl Try.underlying31 Try.sizeOf5 (by omega) (by omega)) ?_
    refine XO.ld Try.isAgg5 ?_
    refine XO.pu (Pu.assign rfl) ?_
    refine XO.nil ?_
    refine X.sub (p' := [(5, _), (0, _), (2, _), (3, _), (10, _), (11, _), (12, _)]) ⟨rfl, rfl, rfl, rfl, rfl, rfl, rfl, trivial⟩ ?_
    refine X.seq ?_
    refine X.region ?_
    refine XO.pu (Pu.move rfl) ?_
    refine XO.cP Try.call43 fndA (byte1_ok (p := p) ⟨h4.s.le leA, h4.c, h4.b⟩) ?_ ?_
    · rintro _ _ ⟨hb, rfl, a9, n9, c9, rfl⟩
      exact hpan _ _ _ _ _ _ _ _ rfl rfl (takenP_1 (by rw [h2, hst]; cases m with | nil => rfl | cons y r => cases hb)) leA
    rintro _ _ ⟨x, m2, a2, c2, hb, rfl, rfl, h5⟩
    obtain rfl := pByte_of hb
    dsimp only at hst
    refine XO.pu (Pu.move rfl) ?_
    refine XO.pu (Pu.conv rfl Try.underlying5 Try.underlying3 (wrap64_of (by omega) (by omega))) ?_
    refine XO.pu (Pu.neq rfl rfl) ?_
    refine XO.nil ?_
    refine X.sub (p' := [(20, _), (0, _), (2, _), (3, _), (10, _), (11, _), (12, _)]) ⟨rfl, rfl, rfl, rfl, rfl, rfl, rfl, trivial⟩ ?_
    refine X.part 20 rfl (fun h7 => ?_) (fun h7 => ?_)
    · skip
      have h7 : ¬ x = magicL[i] := by simpa using h7
      refine X.condT rfl ?_
      refine X.region ?_
      refine XO.cP Try.call45 (Le.refl _) fail_ok ?_ (fun _ _ h => h.elim)
      rintro _ _ ⟨rfl, rfl⟩
      exact hpan _ _ _ _ _ _ _ _ rfl rfl (takenP_1 (by rw [h2, hst, if_neg h7])) leA
    · skip
      have h7 : x = magicL[i] := by simpa using h7
      refine X.condF rfl ?_
      refine X.skip ?_
      refine X.inBlock ?_
      refine X.region ?_
      refine XO.pu (Pu.add rfl rfl (by omega) (by omega)) ?_
      refine XO.pu (Pu.move rfl) ?_
      refine XO.nil ?_
      refine X.sub (p' := [(12, _), (0, _), (2, _), (3, _), (10, _), (11, _)]) ⟨rfl, rfl, rfl, rfl, rfl, rfl, trivial⟩ ?_
      refine X.at (ih (i + 1, m2, a2, c2) ⟨by dsimp only; omega, by dsimp only; rw [h2, hst, if_pos h7], fun q0 h => h5 q0 (h3 q0 h)⟩ (by dsimp only; omega)) ⟨(by first | rfl | exact congrArg some (congrArg (Value.int _) (by omega)) | (show some _ = some _; simp; done) | (show some _ = some _; simp; omega)), (by first | rfl | exact congrArg some (congrArg (Value.int _) (by omega)) | (show some _ = some _; simp; done) | (show some _ = some _; simp; omega)), (by first | rfl | exact congrArg some (congrArg (Value.int _) (by omega)) | (show some _ = some _; simp; done) | (show some _ = some _; simp; omega)), (by first | rfl | exact congrArg some (congrArg (Value.int _) (by omega)) | (show some _ = some _; simp; done) | (show some _ = some _; simp; omega)), (by first | rfl | exact congrArg some (congrArg (Value.int _) (by omega)) | (show some _ = some _; simp; done) | (show some _ = some _; simp; omega)), (by first | rfl | exact congrArg some (congrArg (Value.int _) (by omega)) | (show some _ = some _; simp; done) | (show some _ = some _; simp; omega)), trivial⟩ leA
  · skip
    have h0 := of_decide_eq_false h0; obtain rfl : i = 4 := by omega
    have hM : pMag magicL l = some m := h2
    refine X.condF rfl ?_
    refine X.exit rfl ?_
    refine X.seq ?_
    refine X.region ?_
    refine XO.pu (Pu.move rfl) ?_
    refine XO.cP Try.call33 fndA (rword_ok (p := p) ⟨h4.s.le leA, h4.c, h4.b⟩) ?_ ?_
    · rintro _ _ ⟨hb, rfl, a9, n9, c9, rfl⟩
      exact hpan _ _ _ _ _ _ _ _ rfl rfl (takenP_2 hM hb) leA
    rintro _ _ ⟨hv, m2, a2, c2, hW, rfl, rfl, h5⟩
    have h6 := h5 q h4
    refine XO.pu (Pu.fieldAddr 22 0 0 rfl Try.underlying29 rfl Try.sizeOf22) ?_
    refine XO.ef0 (Ef.st Try.sizeOf22) ?_
    rintro _ _ ⟨rfl, rfl⟩
    refine XO.nil ?_
    refine X.sub (p' := [(0, _), (2, _), (3, _)]) ⟨rfl, rfl, rfl, trivial⟩ ?_
    refine X.seq ?_
    refine X.region ?_
    refine XO.pu (Pu.move rfl) ?_
    refine XO.cP Try.call46 fndA (rnumber_ok (p := p) ⟨h6.s.le leA, h6.c, h6.b⟩) ?_ ?_
    · rintro _ _ ⟨hb, rfl, a9, n9, c9, rfl⟩
      exact hpan _ _ _ _ _ _ _ _ rfl rfl (takenP_3 hM hW hb) leA
    rintro _ _ ⟨cnt, m3, a3, c3, hN, rfl, rfl, h7⟩
    have h8 := h7 q h6; have hH := pHead_of hM hW hN
    refine XO.pu (Pu.assign rfl) ?_
    refine XO.nil ?_
    refine X.sub (p' := [(6, _), (0, _), (2, _), (3, _)]) ⟨rfl, rfl, rfl, rfl, trivial⟩ ?_
    refine X.seq ?_
    refine X.seq ?_
    refine X.region ?_
    refine XO.pu (Pu.move rfl) ?_
    refine XO.pu (Pu.gtr rfl rfl) ?_
    refine XO.nil ?_
    refine X.sub (p' := [(29, _), (6, _), (0, _), (2, _), (3, _)]) ⟨rfl, rfl, rfl, rfl, rfl, trivial⟩ ?_
    refine X.part 29 rfl (fun h9 => ?_) (fun h9 => ?_)
    · skip
      have h9 := of_decide_eq_true h9
      refine X.condT rfl ?_
      refine X.region ?_
      refine XO.cP Try.call45 (Le.refl _) fail_ok ?_ (fun _ _ h => h.elim)
      rintro _ _ ⟨rfl, rfl⟩
      exact hpan _ _ _ _ _ _ _ _ rfl rfl (takenP_4 hH h9) leA
    · skip
      have h9 := of_decide_eq_false h9
      refine X.condF rfl ?_
      refine X.skip ?_
      refine X.seq ?_
      refine X.seq ?_
      refine X.region ?_
      refine XO.pu (Pu.move rfl) ?_
      refine XO.pu (Pu.move rfl) ?_
      refine XO.nil ?_
      refine X.sub (p' := [(32, _), (31, _), (0, _), (2, _), (3, _)]) ⟨rfl, rfl, rfl, rfl, rfl, trivial⟩ ?_
      refine X.block ?_
      refine X.at (X.loop (fun (s : (Nat × List Turn) × (List Int × Option Addr × Nat) × Option Addr × Nat) => s.1.1 ≤ cnt.toNat ∧ s.1.2.length = s.1.1 ∧ pTurns cnt.toNat m3 = (pTurns (cnt.toNat - s.1.1) s.2.1.1).map (consT s.1.2) ∧ ∀ q0, Rd' q0 a3 c3 m3 → Rd' q0 s.2.1.2.1 s.2.1.2.2 s.2.1.1) (fun s => [(0, .pointer (some ⟨p, 0, none⟩)), (2, .pointer (some ⟨n1, 0, none⟩)), (3, .pointer (some ⟨n2, 0, none⟩)), (31, .int .i64 cnt), (32, .int .i64 (s.1.1 : Int))]) (fun s => RD p s.2.1.2.1 s.2.1.1.length s.2.1.2.2 :: pto n1 (.cells [.int .u32 hv, .slice s.2.2.1 s.1.2.length s.2.2.2, .int .i64 0, .int .i64 0, .int .i64 0, .int .i64 0].toArray 29 (0, 0)) :: pto n2 (.cells [.bool false].toArray 4 (0, 0)) :: rsH tcs 2 57 s.2.2.1 s.2.2.2 s.1.2 :: (q ++ F)) (fun s => cnt.toNat - s.1.1) (fun s hi_ ih => ?_) ((0, []), (m3, a3, c3), none, 0) ⟨by dsimp only; omega, rfl, by dsimp only; rw [Nat.sub_zero, show consT [] = id from funext fun x => rfl]; simp, fun _ h => h⟩) ⟨(by first | rfl | exact congrArg some (congrArg (Value.int _) (by omega)) | (show some _ = some _; simp; done) | (show some _ = some _; simp; omega)), (by first | rfl | exact congrArg some (congrArg (Value.int _) (by omega)) | (show some _ = some _; simp; done) | (show some _ = some _; simp; omega)), (by first | rfl | exact congrArg some (congrArg (Value.int _) (by omega)) | (show some _ = some _; simp; done) | (show some _ = some _; simp; omega)), (by first | rfl | exact congrArg some (congrArg (Value.int _) (by omega)) | (show some _ = some _; simp; done) | (show some _ = some _; simp; omega)), (by first | rfl | exact congrArg some (congrArg (Value.int _) (by omega)) | (show some _ = some _; simp; done) | (show some _ = some _; simp; omega)), trivial⟩ (Le.trans (Le.trans leA (Le.rsH_nil tcs 2 57 _)) leA)
      try dsimp only at hi_ ih ⊢
      obtain ⟨g1, g2, g3, g4⟩ := hi_
      obtain ⟨⟨i, ts⟩, ⟨m4, a4, c4⟩, ta, tc⟩ := s; dsimp only at *
      have g5 := g4 q h8
      refine X.seq ?_
      refine X.region ?_
      refine XO.pu (Pu.lss rfl rfl) ?_
      refine XO.nil ?_
      refine X.sub (p' := [(33, _), (0, _), (2, _), (3, _), (31, _), (32, _)]) ⟨rfl, rfl, rfl, rfl, rfl, rfl, trivial⟩ ?_
      refine X.seq ?_
      refine X.part 33 rfl (fun h0 => ?_) (fun h0 => ?_)
      · skip
        have h0 := of_decide_eq_true h0; have hi0 : i < cnt.toNat := (by omega)
        obtain ⟨k, hk⟩ : ∃ k, cnt.toNat - i = k + 1 := ⟨cnt.toNat - i - 1, by omega⟩
        rw [hk] at g3
        refine X.condT rfl ?_
        refine X.skip ?_
        refine X.seq ?_
        refine X.block ?_
        refine X.seq ?_
        refine X.region ?_
        refine XO.pu (Pu.move rfl) ?_
        refine XO.cP Try.call43 fndA (byte1_ok (p := p) ⟨g5.s.le leA, g5.c, g5.b⟩) ?_ ?_
        · rintro _ _ ⟨hb, rfl, a9, n9, c9, rfl⟩
          exact hpan _ _ _ _ _ _ _ _ rfl rfl (takenP_5 hH (g3.trans (pTurns_no1 _ hb))) leA
        rintro _ _ ⟨x, m5, a5, c5, hx, rfl, rfl, g6⟩
        have g7 := g6 q g5
        refine XO.pu (Pu.assign rfl) ?_
        refine XO.nil ?_
        refine X.sub (p' := [(7, _), (0, _), (2, _), (3, _), (31, _), (32, _)]) ⟨rfl, rfl, rfl, rfl, rfl, rfl, trivial⟩ ?_
        refine X.draw [(2, .pointer (some ⟨n1, 0, none⟩)), (3, .pointer (some ⟨n2, 0, none⟩))] Try.mixed (by kernel_rfl) (by kernel_rfl) rfl ?_
        refine XD.pu 0 rfl (Pu.fieldAddr 23 1 0 rfl Try.underlying29 rfl Try.sizeOf23) ?_
        refine XD.ld 1 Try.isAgg23 ?_
        refine XD.pu 2 rfl (Pu.move rfl) ?_
        refine XD.pu 3 rfl (Pu.move rfl) ?_
        refine XD.cP 4 Try.call46 fndA (rnumber_ok (p := p) ⟨g7.s.le leA, g7.c, g7.b⟩) ?_ ?_ ⟨rfl, rfl, trivial⟩
        · rintro _ _ ⟨hb, rfl, a9, n9, c9, rfl⟩
          exact hpan _ _ _ _ _ _ _ _ rfl rfl (takenP_5 hH (g3.trans (pTurns_no2 _ hx hb))) leA
        rintro _ _ ⟨n, m6, a6, c6, hn, rfl, rfl, g8⟩
        refine ⟨hlA, ?_⟩
        refine XD.pu 5 rfl (Pu.build (cells := [_, _]) [(0, 1), (1, 1)] Try.zeroValue57 Try.underlying57 (by kernel_rfl) rfl rfl) ?_
        refine XD.ef 6 rfl (Ef.litR1 (u := (x, n)) tcs Try.underlying23 Try.info57 rfl rfl (fun _ => rfl) rfl) ?_
        rintro _ _ ⟨g2_, rfl, rfl⟩
        refine ⟨hlA, ?_⟩
        refine XD.ef 7 rfl (Ef.appRA (l := ts) (m := [(x, n)]) Try.underlying23 Try.info57 rfl rfl (fun _ => rfl) rfl rfl fndA ((Sees.rsH _).le leA) (fun _ => rfl) (by simp; omega) (by simp; omega)) ?_
        rintro _ _ ⟨ta2, tc2, rfl, rfl⟩
        refine ⟨trivial, ?_⟩
        refine XD.pu 8 rfl (Pu.fieldAddr 23 1 0 rfl Try.underlying29 rfl Try.sizeOf23) ?_
        refine XD.ef0 9 rfl (Ef.st Try.sizeOf23) ?_
        rintro _ _ ⟨rfl, rfl⟩
        refine ⟨trivial, ?_⟩
        refine XD.nil ?_
        refine X.sub (p' := [(0, _), (2, _), (3, _), (31, _), (32, _)]) ⟨rfl, rfl, rfl, rfl, rfl, trivial⟩ ?_
        refine X.inBlock ?_
        refine X.region ?_
        refine XO.pu (Pu.add rfl rfl (by omega) (by omega)) ?_
        refine XO.pu (Pu.move rfl) ?_
        refine XO.nil ?_
        refine X.sub (p' := [(32, _), (0, _), (2, _), (3, _), (31, _)]) ⟨rfl, rfl, rfl, rfl, rfl, trivial⟩ ?_
        refine X.at (ih ((i + 1, ts ++ [(x, n)]), (m6, a6, c6), ta2, tc2) ⟨by dsimp only; omega, by simp [g2], by dsimp only; rw [g3, show cnt.toNat - (i + 1) = k by omega]; exact pTurns_step ts hx hn, fun q0 h => g8 q0 (g6 q0 (g4 q0 h))⟩ (by dsimp only; omega)) ⟨(by first | rfl | exact congrArg some (congrArg (Value.int _) (by omega)) | (show some _ = some _; simp; done) | (show some _ = some _; simp; omega)), (by first | rfl | exact congrArg some (congrArg (Value.int _) (by omega)) | (show some _ = some _; simp; done) | (show some _ = some _; simp; omega)), (by first | rfl | exact congrArg some (congrArg (Value.int _) (by omega)) | (show some _ = some _; simp; done) | (show some _ = some _; simp; omega)), (by first | rfl | exact congrArg some (congrArg (Value.int _) (by omega)) | (show some _ = some _; simp; done) | (show some _ = some _; simp; omega)), (by first | rfl | exact congrArg some (congrArg (Value.int _) (by omega)) | (show some _ = some _; simp; done) | (show some _ = some _; simp; omega)), trivial⟩ leA
      · skip
        have h0 := of_decide_eq_false h0
        have hT : pTurns cnt.toNat m3 = some (ts, m4) := by rw [g3, show cnt.toNat - i = 0 by omega]; simp [pTurns, consT]
        have hE := takenP_6 hH h9 hT
        refine X.condF rfl ?_
        refine X.exit rfl ?_
        refine X.seq ?_
        refine X.region ?_
        refine XO.pu (Pu.move rfl) ?_
        refine XO.cP Try.call43 fndA (byte1_ok (p := p) ⟨g5.s.le leA, g5.c, g5.b⟩) ?_ ?_
        · rintro _ _ ⟨hb, rfl, a9, n9, c9, rfl⟩
          exact hpan _ _ _ _ _ _ _ _ rfl rfl (by rw [hE]; simp [pEnd, hb]) leA
        rintro _ _ ⟨k, m5, a5, c5, hk, rfl, rfl, g6⟩
        have g6 := g6 q g5
        refine XO.pu (Pu.fieldAddr 27 2 3 rfl Try.underlying29 rfl Try.sizeOf27) ?_
        refine XO.pu (Pu.fieldAddr 24 0 0 rfl Try.underlying27 rfl Try.sizeOf24) ?_
        refine XO.ef0 (Ef.st Try.sizeOf24) ?_
        rintro _ _ ⟨rfl, rfl⟩
        refine XO.nil ?_
        refine X.sub (p' := [(0, _), (2, _), (3, _)]) ⟨rfl, rfl, rfl, trivial⟩ ?_
        refine X.seq ?_
        refine X.region ?_
        refine XO.pu (Pu.move rfl) ?_
        refine XO.cP Try.call43 fndA (byte1_ok (p := p) ⟨g6.s.le leA, g6.c, g6.b⟩) ?_ ?_
        · rintro _ _ ⟨hb, rfl, a9, n9, c9, rfl⟩
          exact hpan _ _ _ _ _ _ _ _ rfl rfl (by rw [hE]; simp [pEnd, hk, hb]) leA
        rintro _ _ ⟨tr, m6, a6, c6, htr, rfl, rfl, g7⟩
        have g7 := g7 q g6
        refine XO.pu (Pu.fieldAddr 27 2 3 rfl Try.underlying29 rfl Try.sizeOf27) ?_
        refine XO.pu (Pu.fieldAddr 25 1 0 rfl Try.underlying27 rfl Try.sizeOf25) ?_
        refine XO.ef0 (Ef.st Try.sizeOf25) ?_
        rintro _ _ ⟨rfl, rfl⟩
        refine XO.nil ?_
        refine X.sub (p' := [(0, _), (2, _), (3, _)]) ⟨rfl, rfl, rfl, trivial⟩ ?_
        refine X.seq ?_
        refine X.region ?_
        refine XO.pu (Pu.move rfl) ?_
        refine XO.cP Try.call43 fndA (byte1_ok (p := p) ⟨g7.s.le leA, g7.c, g7.b⟩) ?_ ?_
        · rintro _ _ ⟨hb, rfl, a9, n9, c9, rfl⟩
          exact hpan _ _ _ _ _ _ _ _ rfl rfl (by rw [hE]; simp [pEnd, hk, htr, hb]) leA
        rintro _ _ ⟨th, m7, a7, c7, hth, rfl, rfl, g8⟩
        have g8 := g8 q g7
        refine XO.pu (Pu.fieldAddr 27 2 3 rfl Try.underlying29 rfl Try.sizeOf27) ?_
        refine XO.pu (Pu.fieldAddr 3 2 0 rfl Try.underlying27 rfl Try.sizeOf3) ?_
        refine XO.ef0 (Ef.st Try.sizeOf3) ?_
        rintro _ _ ⟨rfl, rfl⟩
        refine XO.nil ?_
        refine X.sub (p' := [(0, _), (2, _), (3, _)]) ⟨rfl, rfl, rfl, trivial⟩ ?_
        refine X.seq ?_
        refine X.region ?_
        refine XO.pu (Pu.move rfl) ?_
        refine XO.cP Try.call46 fndA (rnumber_ok (p := p) ⟨g8.s.le leA, g8.c, g8.b⟩) ?_ ?_
        · rintro _ _ ⟨hb, rfl, a9, n9, c9, rfl⟩
          exact hpan _ _ _ _ _ _ _ _ rfl rfl (by rw [hE]; simp [pEnd, hk, htr, hth, hb]) leA
        rintro _ _ ⟨st, m8, a8, c8, hst, rfl, rfl, g9⟩
        have hE2 : takenP l = if m8 = [] ∧ okT ⟨hv, ts, k, tr, th, st⟩ then some ⟨hv, ts, k, tr, th, st⟩ else none := by rw [hE]; simp [pEnd, hk, htr, hth, hst]
        refine XO.pu (Pu.fieldAddr 27 2 3 rfl Try.underlying29 rfl Try.sizeOf27) ?_
        refine XO.pu (Pu.fieldAddr 3 3 0 rfl Try.underlying27 rfl Try.sizeOf3) ?_
        refine XO.ef0 (Ef.st Try.sizeOf3) ?_
        rintro _ _ ⟨rfl, rfl⟩
        refine XO.nil ?_
        refine X.sub (p' := [(0, _), (2, _), (3, _)]) ⟨rfl, rfl, rfl, trivial⟩ ?_
        refine X.seq ?_
        refine X.seq ?_
        refine X.region ?_
        refine XO.pu (Pu.move rfl) ?_
        refine XO.pu (Pu.nilCheck rfl) ?_
        refine XO.pu (Pu.fieldAddr 67 0 0 rfl Try.underlying76 rfl Try.sizeOf67) ?_
        refine XO.pu (Pu.fieldAddr 31 0 0 rfl Try.underlying67 rfl Try.sizeOf31) ?_
        refine XO.ld Try.isAgg31 ?_
        refine XO.pu (Pu.len rfl Try.underlying31) ?_
        refine XO.pu (Pu.gtr rfl rfl) ?_
        refine XO.pu (Pu.move rfl) ?_
        refine XO.sub (p' := [(69, _), (2, _), (3, _)]) ⟨rfl, rfl, rfl, trivial⟩ ?_
        apply XO.cutOr 4 73 69 rfl
        · skip
          intro g1 M1; have h1 := g1; try simp only [decide_eq_true_eq, decide_eq_false_iff_not, bne_iff_ne, beq_iff_eq, ne_eq, bne_eq_false_iff_eq, beq_eq_false_iff_ne, Bool.not_eq_true', Bool.not_eq_false', Int.not_lt, Int.not_le, Bool.not_not, Bool.and_eq_true, Bool.and_eq_false_iff, Bool.true_and, Bool.and_true, beq_self_eq_true, Bool.or_eq_true, Bool.or_eq_false_iff] at h1
          refine XO.ldA Try.isAgg29 Try.sizeOf29 ?_
          refine XO.cR Try.call26 (Check_ok (t := ⟨hv, ts, k, tr, th, st⟩) (a := ta) (c := tc) ((Sees.rsH _).le leA)) ?_
          refine XO.pu (Pu.neq rfl rfl) ?_
          refine XO.pu (Pu.pickF rfl rfl) ?_
          exact XO.fin M1 ⟨orF g1, congrArg (fun x => some (Value.bool x)) g1.symm, rfl, rfl, trivial⟩
        · skip
          intro g1 M1; have h1 := g1; try simp only [decide_eq_true_eq, decide_eq_false_iff_not, bne_iff_ne, beq_iff_eq, ne_eq, bne_eq_false_iff_eq, beq_eq_false_iff_ne, Bool.not_eq_true', Bool.not_eq_false', Int.not_lt, Int.not_le, Bool.not_not, Bool.and_eq_true, Bool.and_eq_false_iff, Bool.true_and, Bool.and_true, beq_self_eq_true, Bool.or_eq_true, Bool.or_eq_false_iff] at h1
          refine XO.pass rfl ?_
          refine XO.pass rfl ?_
          refine XO.pass rfl ?_
          refine XO.pu (Pu.pickT rfl rfl) ?_
          exact XO.fin M1 ⟨orT g1, congrArg (fun x => some (Value.bool x)) g1.symm, rfl, rfl, trivial⟩
        · skip
          refine XO.nil ?_
          refine X.sub (p' := [(73, _), (2, _), (3, _)]) ⟨rfl, rfl, rfl, trivial⟩ ?_
          refine X.part 73 rfl (fun h1 => ?_) (fun h1 => ?_)
          · skip
            try simp only [decide_eq_true_eq, decide_eq_false_iff_not, bne_iff_ne, beq_iff_eq, ne_eq, bne_eq_false_iff_eq, beq_eq_false_iff_ne, Bool.not_eq_true', Bool.not_eq_false', Int.not_lt, Int.not_le, Bool.not_not, Bool.and_eq_true, Bool.and_eq_false_iff, Bool.true_and, Bool.and_true, beq_self_eq_true, Bool.or_eq_true, Bool.or_eq_false_iff] at h1
            refine X.condT rfl ?_
            refine X.region ?_
            have hz : ¬ (m8 = [] ∧ okT ⟨hv, ts, k, tr, th, st⟩) := by rintro ⟨rfl, y⟩; rcases h1 with h1 | h1; simp at h1; rw [chk, if_pos y] at h1; simp at h1
            refine XO.cP Try.call45 (Le.refl _) fail_ok ?_ (fun _ _ h => h.elim)
            rintro _ _ ⟨rfl, rfl⟩
            exact hpan _ _ _ _ _ _ _ _ rfl rfl (by rw [hE2, if_neg hz]) leA
          · skip
            try simp only [decide_eq_true_eq, decide_eq_false_iff_not, bne_iff_ne, beq_iff_eq, ne_eq, bne_eq_false_iff_eq, beq_eq_false_iff_ne, Bool.not_eq_true', Bool.not_eq_false', Int.not_lt, Int.not_le, Bool.not_not, Bool.and_eq_true, Bool.and_eq_false_iff, Bool.true_and, Bool.and_true, beq_self_eq_true, Bool.or_eq_true, Bool.or_eq_false_iff] at h1
            refine X.condF rfl ?_
            refine X.skip ?_
            refine X.seq ?_
            refine X.region ?_
            refine XO.ldA Try.isAgg29 Try.sizeOf29 ?_
            refine XO.ef0 (Ef.stA Try.sizeOf29) ?_
            rintro _ _ ⟨rfl, rfl⟩
            refine XO.ef0 (Ef.st Try.sizeOf4) ?_
            rintro _ _ ⟨rfl, rfl⟩
            refine XO.nil ?_
            refine X.sub (p' := [(2, _), (3, _)]) ⟨rfl, rfl, trivial⟩ ?_
            have hz : m8 = [] ∧ okT ⟨hv, ts, k, tr, th, st⟩ := by obtain ⟨x, y⟩ := h1; exact ⟨List.eq_nil_of_length_eq_zero (by omega), by unfold chk at y; split at y <;> first | assumption | simp at y⟩
            rw [if_pos hz] at hE2
            exact X.ret ⟨rfl, Lv.quiet Try.call44 Try.func34 (taken1_quiet (n2 := n1) (n3 := n2)) (Lv.ret (q' := rsH tcs 2 57 ta tc ts :: q) Try.func34 (resC Try.results34 (ResOk.cell rfl (LV.agg Try.isAgg29 Try.sizeOf29 hasA rfl) (ResOk.cell rfl (LV.cell Try.isAgg4 clA) ResOk.nil))) ⟨_, rfl, .inl ⟨_, ta, tc, hE2, rfl, rfl⟩⟩ leA)⟩
end
end Go.Proofs.Ytiehcgmbkjdagaa

