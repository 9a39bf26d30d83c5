/- What functions of package sync, of its references and of its laws do: contracts of calls, proved by walking their code. -/
import Derived.Test.YtlgnnhpbomfdiaaO
import Derived.KernelRfl
set_option maxRecDepth 100000
set_option linter.unusedVariables false
set_option linter.unusedSimpArgs false
namespace Go.Proofs.Ytlgnnhpbomfdiaa
open Go Go.RowKit Wx
attribute [local irreducible] Wx.lsH Wx.rsH Wx.lsM Wx.rsM Wx.stars

abbrev ActT := Int × Int × Int × Int
def acs (x : ActT) : List Value := [.int .i64 x.1, .int .i64 x.2.1, .int .i64 x.2.2.1, .int .i64 x.2.2.2]
def act1 (s : Sy) (x : ActT) : Sy := actS s x.1 x.2.1 x.2.2.1 x.2.2.2
def playS (s : Sy) (l : List ActT) : Sy := l.foldl act1 s
theorem playS_succ {s : Sy} {l : List ActT} {i : Nat} (h : i < l.length) : playS s (l.take (i + 1)) = act1 (playS s (l.take i)) l[i] := by
  unfold playS; rw [List.take_succ_eq_append_getElem h, List.foldl_append]; rfl
theorem playS_ok {n : Nat} (l : List ActT) : ∀ {s : Sy}, s.ok n → (playS s l).ok (n + l.length) := by
  induction l generalizing n with
  | nil => exact fun h => h
  | cons x r ih =>
    intro s h
    have := ih (n := n + 1) (actS_ok h x.1 x.2.1 x.2.2.1 x.2.2.2)
    rw [show n + (x :: r).length = n + 1 + r.length by simp; omega]
    exact this
theorem playS_ok' {n i : Nat} {l : List ActT} {s : Sy} (h : s.ok n) (hi : i ≤ l.length) : (playS s (l.take i)).ok (n + i) := by
  have := playS_ok (l.take i) h
  rwa [List.length_take, Nat.min_eq_left hi] at this
section
variable {G : World} {q : List HP} {a b : Option Addr} {c d g p i n : Nat} {σ : SyC} {r : RS} {s : Sy} {k t v mm cc : Int} {rooms : List Int} {l : List ActT}
theorem small_no (hrm : Sees q b (rooms.map I64)) (hs : Sees q a (l.flatMap acs)) (ok : ¬ formOk mm cc rooms) : CallF Try.prog G 23 [.agg [.int .i64 mm, .int .i64 cc, .slice b rooms.length d].toArray, .slice a l.length c] q (Ret fun v q' => v = .bool false ∧ q' = q) := by
  refine CallF.of Try.func23 Try.ntmps23 rfl (fun F cs => ?_)
  refine X.sub (p' := [(0, _), (1, _)]) ⟨rfl, rfl, trivial⟩ ?_
  refine X.seq ?_
  refine X.region ?_
  refine XO.ef (Ef.box rfl) ?_
  rintro _ _ ⟨n1, rfl, rfl⟩
  refine XO.pu (Pu.assign rfl) ?_
  refine XO.nil ?_
  refine X.sub (p' := [(4, _), (2, _), (1, _)]) ⟨rfl, rfl, rfl, trivial⟩ ?_
  refine X.seq ?_
  refine X.region ?_
  refine XO.pu (Pu.fieldAddr 3 0 0 rfl Try.underlying48 rfl Try.sizeOf3) ?_
  refine XO.ld Try.isAgg3 ?_
  refine XO.pu (Pu.fieldAddr 3 1 0 rfl Try.underlying48 rfl Try.sizeOf3) ?_
  refine XO.ld Try.isAgg3 ?_
  refine XO.pu (Pu.fieldAddr 29 2 0 rfl Try.underlying48 rfl Try.sizeOf29) ?_
  refine XO.ld Try.isAgg29 ?_
  refine XO.cR Try.call25 (RNew_no (hrm.le leA) ok) ?_
  refine XO.pu (Pu.move rfl) ?_
  refine XO.pu (Pu.extract rfl rfl) ?_
  refine XO.pu (Pu.extract rfl rfl) ?_
  refine XO.ef (Ef.alloc Try.zeroValue53) ?_
  rintro _ _ ⟨n2, rfl, rfl⟩
  refine XO.ef0 (Ef.stA Try.sizeOf53) ?_
  rintro _ _ ⟨rfl, rfl⟩
  refine XO.pu (Pu.assign rfl) ?_
  refine XO.nil ?_
  refine X.sub (p' := [(6, _), (4, _), (1, _)]) ⟨rfl, rfl, rfl, trivial⟩ ?_
  refine X.seq ?_
  refine X.region ?_
  refine XO.pu (Pu.move rfl) ?_
  refine XO.pu (Pu.eql rfl rfl) ?_
  refine XO.pu (Pu.move rfl) ?_
  refine XO.know 19 (.bool false) rfl (congrArg Value.bool (rfl)) ?_
  refine XO.pass rfl ?_
  refine XO.pass rfl ?_
  refine XO.pass rfl ?_
  refine XO.pu (Pu.pickF rfl rfl) ?_
  refine XO.pu (Pu.assign rfl) ?_
  refine XO.nil ?_
  refine X.sub (p' := [(4, _)]) ⟨rfl, trivial⟩ ?_
  refine X.retL (q) Try.func23 (res1 Try.results23 rfl) ⟨_, rfl, rfl, rfl⟩
theorem small_ok (hrm : Sees q b (rooms.map I64)) (hs : Sees q a (l.flatMap acs)) (ok : formOk mm cc rooms) : CallF Try.prog G 23 [.agg [.int .i64 mm, .int .i64 cc, .slice b rooms.length d].toArray, .slice a l.length c] q (Ret fun v q' => v = .bool (decide (l.length ≤ 100)) ∧ q' = q) := by
  refine CallF.of Try.func23 Try.ntmps23 rfl (fun F cs => ?_)
  refine X.sub (p' := [(0, _), (1, _)]) ⟨rfl, rfl, trivial⟩ ?_
  refine X.seq ?_
  refine X.region ?_
  refine XO.ef (Ef.box rfl) ?_
  rintro _ _ ⟨n1, rfl, rfl⟩
  refine XO.pu (Pu.assign rfl) ?_
  refine XO.nil ?_
  refine X.sub (p' := [(4, _), (2, _), (1, _)]) ⟨rfl, rfl, rfl, trivial⟩ ?_
  refine X.seq ?_
  refine X.region ?_
  refine XO.pu (Pu.fieldAddr 3 0 0 rfl Try.underlying48 rfl Try.sizeOf3) ?_
  refine XO.ld Try.isAgg3 ?_
  refine XO.pu (Pu.fieldAddr 3 1 0 rfl Try.underlying48 rfl Try.sizeOf3) ?_
  refine XO.ld Try.isAgg3 ?_
  refine XO.pu (Pu.fieldAddr 29 2 0 rfl Try.underlying48 rfl Try.sizeOf29) ?_
  refine XO.ld Try.isAgg29 ?_
  refine XO.cX Try.call25 (Le.refl _) (RNew_ok (hrm.le leA) ok) ?_
  rintro _ _ ⟨r1, h1, rfl, rfl⟩
  refine XO.pu (Pu.move rfl) ?_
  refine XO.pu (Pu.extract rfl rfl) ?_
  refine XO.pu (Pu.extract rfl rfl) ?_
  refine XO.ef (Ef.alloc Try.zeroValue53) ?_
  rintro _ _ ⟨n2, rfl, rfl⟩
  refine XO.ef0 (Ef.stA Try.sizeOf53) ?_
  rintro _ _ ⟨rfl, rfl⟩
  refine XO.pu (Pu.assign rfl) ?_
  refine XO.nil ?_
  refine X.sub (p' := [(6, _), (4, _), (1, _)]) ⟨rfl, rfl, rfl, trivial⟩ ?_
  refine X.seq ?_
  refine X.region ?_
  refine XO.pu (Pu.move rfl) ?_
  refine XO.pu (Pu.eql rfl rfl) ?_
  refine XO.pu (Pu.move rfl) ?_
  refine XO.know 19 (.bool true) rfl (congrArg Value.bool (rfl)) ?_
  refine XO.pu (Pu.move rfl) ?_
  refine XO.pu (Pu.len rfl Try.underlying22) ?_
  refine XO.pu (Pu.leq rfl rfl) ?_
  refine XO.pu (Pu.pickT rfl rfl) ?_
  refine XO.pu (Pu.assign rfl) ?_
  refine XO.nil ?_
  refine X.sub (p' := [(4, _)]) ⟨rfl, trivial⟩ ?_
  refine X.retL (q) Try.func23 (res1 Try.results23 rfl) ⟨_, rfl, congrArg Value.bool (by simp [decide_eq_decide]; try omega), rfl⟩
set_option maxHeartbeats 1000000 in
theorem played_ok (hrm : Sees q b (rooms.map I64)) (hs : Sees q a (l.flatMap acs)) (ok : formOk mm cc rooms) (hl : l.length ≤ 100) : CallF Try.prog G 24 [.agg [.int .i64 mm, .int .i64 cc, .slice b rooms.length d].toArray, .slice a l.length c] q (Ret fun v q' => ∃ p σ r, Ref r (playS (newS mm.toNat cc.toNat rooms) l) ∧ Real σ (playS (newS mm.toNat cc.toNat rooms) l) ∧ v = .tuple [.pointer (some ⟨p, 0, none⟩), .agg [.slice r.ow.a r.ow.l.length r.ow.c, .slice r.cs.a r.cs.l.length r.cs.c, .slice r.rm.a r.rm.l.length r.rm.c, .slice r.st.a r.st.l.length r.st.c, .slice r.tk.a r.tk.l.length r.tk.c].toArray, .bool true].toArray ∧ q' = refM r :: syH p σ :: q) := by
  refine CallF.of Try.func24 Try.ntmps24 rfl (fun F cs => ?_)
  refine X.sub (p' := [(0, _), (1, _)]) ⟨rfl, rfl, trivial⟩ ?_
  have hlen := flatMap_len (f := acs) (sz := 4) (fun _ => rfl) l
  refine X.seq ?_
  refine X.region ?_
  refine XO.ef (Ef.box rfl) ?_
  rintro _ _ ⟨n1, rfl, rfl⟩
  refine XO.pu (Pu.assign rfl) ?_
  refine XO.ef (Ef.alloc Try.zeroValue53) ?_
  rintro _ _ ⟨n2, rfl, rfl⟩
  refine XO.pu (Pu.assign rfl) ?_
  refine XO.nil ?_
  refine X.sub (p' := [(6, _), (5, _), (4, _), (2, _), (1, _)]) ⟨rfl, rfl, rfl, rfl, rfl, trivial⟩ ?_
  refine X.seq ?_
  refine X.region ?_
  refine XO.pu (Pu.fieldAddr 3 0 0 rfl Try.underlying48 rfl Try.sizeOf3) ?_
  refine XO.ld Try.isAgg3 ?_
  refine XO.pu (Pu.fieldAddr 3 1 0 rfl Try.underlying48 rfl Try.sizeOf3) ?_
  refine XO.ld Try.isAgg3 ?_
  refine XO.pu (Pu.fieldAddr 29 2 0 rfl Try.underlying48 rfl Try.sizeOf29) ?_
  refine XO.ld Try.isAgg29 ?_
  refine XO.cX Try.call12 (Le.refl _) (New_ok (hrm.le leA) ok) ?_
  rintro _ _ ⟨p, σ0, hR0, rfl, rfl⟩
  refine XO.le (Le.syInQ p σ0 _) ?_
  refine XO.pu (Pu.move rfl) ?_
  refine XO.pu (Pu.extract rfl rfl) ?_
  refine XO.pu (Pu.extract rfl rfl) ?_
  refine XO.pu (Pu.assign rfl) ?_
  refine XO.pu (Pu.assign rfl) ?_
  refine XO.nil ?_
  refine X.sub (p' := [(8, _), (7, _), (6, _), (5, _), (4, _), (2, _), (1, _)]) ⟨rfl, rfl, rfl, rfl, rfl, rfl, rfl, trivial⟩ ?_
  refine X.seq ?_
  refine X.region ?_
  refine XO.pu (Pu.fieldAddr 3 0 0 rfl Try.underlying48 rfl Try.sizeOf3) ?_
  refine XO.ld Try.isAgg3 ?_
  refine XO.pu (Pu.fieldAddr 3 1 0 rfl Try.underlying48 rfl Try.sizeOf3) ?_
  refine XO.ld Try.isAgg3 ?_
  refine XO.pu (Pu.fieldAddr 29 2 0 rfl Try.underlying48 rfl Try.sizeOf29) ?_
  refine XO.ld Try.isAgg29 ?_
  refine XO.cX Try.call25 (Le.refl _) (RNew_ok (hrm.le leA) ok) ?_
  rintro _ _ ⟨r0, h0, rfl, rfl⟩
  refine XO.pu (Pu.move rfl) ?_
  refine XO.pu (Pu.extract rfl rfl) ?_
  refine XO.pu (Pu.extract rfl rfl) ?_
  refine XO.ef (Ef.alloc Try.zeroValue53) ?_
  rintro _ _ ⟨n3, rfl, rfl⟩
  refine XO.ef0 (Ef.stA Try.sizeOf53) ?_
  rintro _ _ ⟨rfl, rfl⟩
  refine XO.pu (Pu.assign rfl) ?_
  refine XO.nil ?_
  refine X.sub (p' := [(10, _), (9, _), (8, _), (7, _), (6, _), (5, _), (4, _), (1, _)]) ⟨rfl, rfl, rfl, rfl, rfl, rfl, rfl, rfl, trivial⟩ ?_
  refine X.seq ?_
  refine X.region ?_
  refine XO.pu (Pu.move rfl) ?_
  refine XO.cR Try.call14 (lnum_ok) ?_
  refine XO.pu (Pu.eql rfl rfl) ?_
  refine XO.pu (Pu.move rfl) ?_
  refine XO.know 36 (.bool true) rfl (congrArg Value.bool (rfl)) ?_
  refine XO.pu (Pu.move rfl) ?_
  refine XO.pu (Pu.eql rfl rfl) ?_
  refine XO.pu (Pu.pickT rfl rfl) ?_
  refine XO.pu (Pu.assign rfl) ?_
  refine XO.nil ?_
  refine X.sub (p' := [(11, _), (9, _), (7, _), (6, _), (5, _), (4, _), (1, _)]) ⟨rfl, rfl, rfl, rfl, rfl, rfl, rfl, trivial⟩ ?_
  refine X.seq ?_
  refine X.seq ?_
  refine X.region ?_
  refine XO.pu (Pu.assign rfl) ?_
  refine XO.nil ?_
  refine X.sub (p' := [(12, _), (11, _), (9, _), (7, _), (6, _), (5, _), (4, _), (1, _)]) ⟨rfl, rfl, rfl, rfl, rfl, rfl, rfl, rfl, trivial⟩ ?_
  refine X.block ?_
  refine X.know 11 (.bool true) rfl (rfl) ?_
  refine X.at (X.loop (fun (s : Nat × RS × SyC) => s.1 ≤ l.length ∧ Ref s.2.1 (playS (newS mm.toNat cc.toNat rooms) (l.take s.1)) ∧ Real s.2.2 (playS (newS mm.toNat cc.toNat rooms) (l.take s.1))) (fun s => [(1, .slice a l.length c), (5, .pointer (some ⟨n2, 0, none⟩)), (7, .pointer (some ⟨p, 0, none⟩)), (9, .pointer (some ⟨n3, 0, none⟩)), (11, .bool true), (12, .int .i64 (s.1 : Int))]) (fun s => pto n2 (.cells [.slice none 0 0, .slice none 0 0, .slice none 0 0, .slice none 0 0, .slice none 0 0].toArray 53 (0, 0)) :: pto n3 (.cells [.slice s.2.1.ow.a s.2.1.ow.l.length s.2.1.ow.c, .slice s.2.1.cs.a s.2.1.cs.l.length s.2.1.cs.c, .slice s.2.1.rm.a s.2.1.rm.l.length s.2.1.rm.c, .slice s.2.1.st.a s.2.1.st.l.length s.2.1.st.c, .slice s.2.1.tk.a s.2.1.tk.l.length s.2.1.tk.c].toArray 53 (0, 0)) :: refM s.2.1 :: syH p s.2.2 :: (q ++ F)) (fun s => l.length - s.1) (fun s hi_ ih => ?_) (0, r0, σ0) ⟨by dsimp only; omega, h0, hR0⟩) ⟨(by first | rfl | exact congrArg some (congrArg (Value.int _) (by omega)) | (show some _ = some _; simp; done) | (show some _ = some _; simp; omega)), (by first | rfl | exact congrArg some (congrArg (Value.int _) (by omega)) | (show some _ = some _; simp; done) | (show some _ = some _; simp; omega)), (by first | rfl | exact congrArg some (congrArg (Value.int _) (by omega)) | (show some _ = some _; simp; done) | (show some _ = some _; simp; omega)), (by first | rfl | exact congrArg some (congrArg (Value.int _) (by omega)) | (show some _ = some _; simp; done) | (show some _ = some _; simp; omega)), (by first | rfl | exact congrArg some (congrArg (Value.int _) (by omega)) | (show some _ = some _; simp; done) | (show some _ = some _; simp; omega)), (by first | rfl | exact congrArg some (congrArg (Value.int _) (by omega)) | (show some _ = some _; simp; done) | (show some _ = some _; simp; omega)), trivial⟩ leA
  try dsimp only at hi_ ih ⊢
  obtain ⟨hi1, h5, hR5⟩ := hi_
  obtain ⟨i, r, σ⟩ := s; dsimp only at *
  refine X.seq ?_
  refine X.seq ?_
  refine X.region ?_
  refine XO.pu (Pu.move rfl) ?_
  refine XO.pu (Pu.move rfl) ?_
  refine XO.pu (Pu.len rfl Try.underlying22) ?_
  refine XO.pu (Pu.lss rfl rfl) ?_
  refine XO.pu (Pu.move rfl) ?_
  refine XO.sub (p' := [(44, _), (1, _), (5, _), (7, _), (9, _), (11, _), (12, _)]) ⟨rfl, rfl, rfl, rfl, rfl, rfl, rfl, trivial⟩ ?_
  apply XO.cutAnd 2 46 44 rfl
  · skip
    intro g1 M1; have h1 := g1; try simp only [decide_eq_true_eq, decide_eq_false_iff_not, bne_iff_ne, beq_iff_eq, ne_eq, bne_eq_false_iff_eq, beq_eq_false_iff_ne, Bool.not_eq_true', Bool.not_eq_false', Int.not_lt, Int.not_le, Bool.not_not, Bool.and_eq_true, Bool.and_eq_false_iff, Bool.true_and, Bool.and_true, beq_self_eq_true, Bool.or_eq_true, Bool.or_eq_false_iff] at h1
    refine XO.pu (Pu.move rfl) ?_
    refine XO.pu (Pu.pickT rfl rfl) ?_
    exact XO.fin M1 ⟨andT g1, congrArg (fun x => some (Value.bool x)) g1.symm, rfl, rfl, rfl, rfl, rfl, rfl, trivial⟩
  · skip
    intro g1 M1; have h1 := g1; try simp only [decide_eq_true_eq, decide_eq_false_iff_not, bne_iff_ne, beq_iff_eq, ne_eq, bne_eq_false_iff_eq, beq_eq_false_iff_ne, Bool.not_eq_true', Bool.not_eq_false', Int.not_lt, Int.not_le, Bool.not_not, Bool.and_eq_true, Bool.and_eq_false_iff, Bool.true_and, Bool.and_true, beq_self_eq_true, Bool.or_eq_true, Bool.or_eq_false_iff] at h1
    refine XO.pass rfl ?_
    refine XO.pu (Pu.pickF rfl rfl) ?_
    exact XO.fin M1 ⟨andF g1, congrArg (fun x => some (Value.bool x)) g1.symm, rfl, rfl, rfl, rfl, rfl, rfl, trivial⟩
  · skip
    refine XO.nil ?_
    refine X.sub (p' := [(46, _), (1, _), (5, _), (7, _), (9, _), (11, _), (12, _)]) ⟨rfl, rfl, rfl, rfl, rfl, rfl, rfl, trivial⟩ ?_
    refine X.part 46 rfl (fun h6 => ?_) (fun h6 => ?_)
    · skip
      have h6 : i < l.length := by simpa using h6
      refine X.adr (hs.le leA) (by rw [hlen]; omega) (fun b1 o1 e_ => ?_); subst e_
      have hok := playS_ok' (l := l) (i := i) (newS_ok (m := mm.toNat) (c := cc.toNat) (by rw [Int.toNat_of_nonneg ok.1.1, Int.toNat_of_nonneg ok.2.1.1]; exact ok)) hi1
      refine X.condT rfl ?_
      refine X.skip ?_
      refine X.seq ?_
      refine X.block ?_
      refine X.draw [] Try.mixed (by kernel_rfl) (by kernel_rfl) rfl ?_
      refine XD.pu 0 rfl (Pu.move rfl) ?_
      refine XD.loadA 1 rfl rfl Try.isAgg53 Try.sizeOf53 hasA (by rfl) ?_
      refine XD.pu 2 rfl (Pu.move rfl) ?_
      refine XD.pu 3 rfl (Pu.move rfl) ?_
      refine XD.pu 4 rfl (Pu.indexAddr rfl rfl Try.underlying22 Try.sizeOf31 (by omega) (by omega)) ?_
      refine XD.ldS 5 (m := i) Try.isAgg31 Try.sizeOf31 hs h6 ?_
      refine XD.cF 6 Try.call26 (act_ok (wh := l[i].1) (nn := l[i].2.1) (th := l[i].2.2.1) (vv := l[i].2.2.2) h5 hR5 hok (by omega)) ?_
      rintro _ _ ⟨r5, σ5, h7, hR7, rfl, rfl⟩ _ e_; simp only [ca, na] at e_; subst e_
      refine ⟨trivial, ?_⟩
      refine XD.pu 7 rfl (Pu.move rfl) ?_
      refine XD.pu 8 rfl (Pu.extract rfl rfl) ?_
      refine XD.pu 9 rfl (Pu.extract rfl rfl) ?_
      refine XD.ef0 10 rfl (Ef.stA Try.sizeOf53) ?_
      rintro _ _ ⟨rfl, rfl⟩
      refine ⟨trivial, ?_⟩
      refine XD.pu 11 rfl (Pu.assign rfl) ?_
      refine XD.nil ?_
      refine X.sub (p' := [(11, _), (1, _), (5, _), (7, _), (9, _), (12, _)]) ⟨rfl, rfl, rfl, rfl, rfl, rfl, trivial⟩ ?_
      refine X.inBlock ?_
      refine X.region ?_
      refine XO.pu (Pu.move rfl) ?_
      refine XO.pu (Pu.add rfl rfl (by omega) (by omega)) ?_
      refine XO.pu (Pu.assign rfl) ?_
      refine XO.nil ?_
      refine X.sub (p' := [(12, _), (11, _), (1, _), (5, _), (7, _), (9, _)]) ⟨rfl, rfl, rfl, rfl, rfl, rfl, trivial⟩ ?_
      refine X.at (ih (i + 1, r5, σ5) ⟨by dsimp only; omega, by dsimp only; rw [playS_succ h6]; exact h7, by dsimp only; rw [playS_succ h6]; exact hR7⟩ (by dsimp only; omega)) ⟨(by first | rfl | exact congrArg some (congrArg (Value.int _) (by omega)) | (show some _ = some _; simp; done) | (show some _ = some _; simp; omega)), (by first | rfl | exact congrArg some (congrArg (Value.int _) (by omega)) | (show some _ = some _; simp; done) | (show some _ = some _; simp; omega)), (by first | rfl | exact congrArg some (congrArg (Value.int _) (by omega)) | (show some _ = some _; simp; done) | (show some _ = some _; simp; omega)), (by first | rfl | exact congrArg some (congrArg (Value.int _) (by omega)) | (show some _ = some _; simp; done) | (show some _ = some _; simp; omega)), (by first | rfl | exact congrArg some (congrArg (Value.int _) (by omega)) | (show some _ = some _; simp; done) | (show some _ = some _; simp; omega)), (by first | rfl | exact congrArg some (congrArg (Value.int _) (by omega)) | (show some _ = some _; simp; done) | (show some _ = some _; simp; omega)), trivial⟩ (by simp only [Wx.sub, splice]; exact leA)
    · skip
      have h6 : ¬ i < l.length := by simpa using h6
      obtain rfl : i = l.length := by omega
      rw [List.take_length] at *
      have hok := playS_ok (l := l) (newS_ok (m := mm.toNat) (c := cc.toNat) (by rw [Int.toNat_of_nonneg ok.1.1, Int.toNat_of_nonneg ok.2.1.1]; exact ok))
      refine X.condF rfl ?_
      refine X.exit rfl ?_
      refine X.seq ?_
      refine X.draw [] Try.mixed (by kernel_rfl) (by kernel_rfl) rfl ?_
      refine XD.pu 0 rfl (Pu.move rfl) ?_
      refine XD.loadA 1 rfl rfl Try.isAgg53 Try.sizeOf53 hasA (by rfl) ?_
      refine XD.pu 2 rfl (Pu.move rfl) ?_
      refine XD.pu 3 rfl (Pu.move rfl) ?_
      refine XD.pu 4 rfl (Pu.move rfl) ?_
      refine XD.loadA 5 rfl rfl Try.isAgg53 Try.sizeOf53 hasA (by rfl) ?_
      refine XD.cF 6 Try.call27 (is_ok h5 hR5 hok (by omega)) ?_
      rintro _ _ ⟨rfl, rfl⟩ _ e_; simp only [ca, na] at e_; subst e_
      refine ⟨hlA, ?_⟩
      refine XD.pu 7 rfl (Pu.pickT rfl rfl) ?_
      refine XD.pu 8 rfl (Pu.assign rfl) ?_
      refine XD.ef0 9 rfl (Ef.stA Try.sizeOf53) ?_
      rintro _ _ ⟨rfl, rfl⟩
      refine ⟨trivial, ?_⟩
      refine XD.pu 10 rfl (Pu.assign rfl) ?_
      refine XD.nil ?_
      refine X.sub (p' := [(6, _), (4, _), (5, _)]) ⟨rfl, rfl, rfl, trivial⟩ ?_
      refine X.retL (refM r :: syH p σ :: q) Try.func24 (resC Try.results24 (ResOk.tmp rfl (ResOk.cell rfl (LV.agg Try.isAgg53 Try.sizeOf53 hasA rfl) (ResOk.tmp rfl ResOk.nil)))) ⟨_, rfl, p, σ, r, h5, hR5, by simp [Wx.sub, splice], rfl⟩
theorem plays_ok (hrm : Sees q b (rooms.map I64)) (hs : Sees q a (l.flatMap acs)) : CallF Try.prog G 4 [.agg [.int .i64 mm, .int .i64 cc, .slice b rooms.length d].toArray, .slice a l.length c] q (Ret fun v q' => v = .bool true ∧ ∃ A, q' = A) := by
  refine CallF.of Try.func4 Try.ntmps4 rfl (fun F cs => ?_)
  refine X.sub (p' := [(0, _), (1, _)]) ⟨rfl, rfl, trivial⟩ ?_
  refine X.seq ?_
  refine X.region ?_
  refine XO.ef (Ef.box rfl) ?_
  rintro _ _ ⟨n1, rfl, rfl⟩
  refine XO.pu (Pu.assign rfl) ?_
  refine XO.nil ?_
  refine X.sub (p' := [(4, _), (2, _), (1, _)]) ⟨rfl, rfl, rfl, trivial⟩ ?_
  refine X.seq ?_
  refine X.seq ?_
  refine X.region ?_
  refine XO.ldA Try.isAgg48 Try.sizeOf48 ?_
  refine XO.pu (Pu.move rfl) ?_
  rcases Decidable.em (formOk mm cc rooms) with ok | ok
  · skip
    refine XO.cR Try.call23 (small_ok (hrm.le leA) (hs.le leA) ok) ?_
    refine XO.pu (Pu.not rfl) ?_
    refine XO.nil ?_
    refine X.sub (p' := [(11, _), (4, _), (2, _), (1, _)]) ⟨rfl, rfl, rfl, rfl, trivial⟩ ?_
    rcases Decidable.em (l.length ≤ 100) with hl | hl
    · skip
      refine X.know 11 (.bool false) rfl (congrArg Value.bool (by simp [hl])) ?_
      refine X.condF rfl ?_
      refine X.skip ?_
      refine X.seq ?_
      refine X.region ?_
      refine XO.ldA Try.isAgg48 Try.sizeOf48 ?_
      refine XO.pu (Pu.move rfl) ?_
      refine XO.cX Try.call24 (Le.refl _) (played_ok (hrm.le leA) (hs.le leA) ok hl) ?_
      rintro _ _ ⟨p, σ, r, h5, hR5, rfl, rfl⟩
      refine XO.pu (Pu.move rfl) ?_
      refine XO.pu (Pu.extract rfl rfl) ?_
      refine XO.pu (Pu.extract rfl rfl) ?_
      refine XO.pu (Pu.extract rfl rfl) ?_
      refine XO.ef (Ef.alloc Try.zeroValue53) ?_
      rintro _ _ ⟨n2, rfl, rfl⟩
      refine XO.pu (Pu.assign rfl) ?_
      refine XO.ef0 (Ef.stA Try.sizeOf53) ?_
      rintro _ _ ⟨rfl, rfl⟩
      refine XO.pu (Pu.assign rfl) ?_
      refine XO.nil ?_
      refine X.sub (p' := [(7, _), (4, _)]) ⟨rfl, rfl, trivial⟩ ?_
      refine X.seq ?_
      refine X.region ?_
      refine XO.pu (Pu.move rfl) ?_
      refine XO.pu (Pu.move rfl) ?_
      refine XO.know 21 (.bool true) rfl (congrArg Value.bool (rfl)) ?_
      refine XO.cR Try.call11 (works_ok) ?_
      refine XO.pu (Pu.pickT rfl rfl) ?_
      refine XO.pu (Pu.assign rfl) ?_
      refine XO.nil ?_
      refine X.sub (p' := [(4, _)]) ⟨rfl, trivial⟩ ?_
      refine X.retL (q) Try.func4 (res1 Try.results4 rfl) ⟨_, rfl, rfl, _, rfl⟩
    · skip
      refine X.know 11 (.bool true) rfl (congrArg Value.bool (by simp; omega)) ?_
      refine X.condT rfl ?_
      refine X.seq ?_
      refine X.region ?_
      refine XO.cR Try.call11 (works_ok) ?_
      refine XO.pu (Pu.assign rfl) ?_
      refine XO.nil ?_
      refine X.sub (p' := [(4, _), (2, _), (1, _)]) ⟨rfl, rfl, rfl, trivial⟩ ?_
      refine X.retL (q) Try.func4 (res1 Try.results4 rfl) ⟨_, rfl, rfl, _, rfl⟩
  · skip
    refine XO.cR Try.call23 (small_no (hrm.le leA) (hs.le leA) ok) ?_
    refine XO.pu (Pu.not rfl) ?_
    refine XO.nil ?_
    refine X.sub (p' := [(11, _), (4, _), (2, _), (1, _)]) ⟨rfl, rfl, rfl, rfl, trivial⟩ ?_
    refine X.know 11 (.bool true) rfl (congrArg Value.bool (rfl)) ?_
    refine X.condT rfl ?_
    refine X.seq ?_
    refine X.region ?_
    refine XO.cR Try.call11 (works_ok) ?_
    refine XO.pu (Pu.assign rfl) ?_
    refine XO.nil ?_
    refine X.sub (p' := [(4, _), (2, _), (1, _)]) ⟨rfl, rfl, rfl, trivial⟩ ?_
    refine X.retL (q) Try.func4 (res1 Try.results4 rfl) ⟨_, rfl, rfl, _, rfl⟩
def fixSyncLocks (x : ActT) : ActT := (if x.1 = 0 then x else (1, x.2))
set_option maxHeartbeats 1000000 in
theorem locks_ok (hs : Sees q a (l.flatMap acs)) : CallF Try.prog G 5 [.slice a l.length c] q (Ret fun v q' => v = .bool true ∧ ∃ A, q' = A) := by
  refine CallF.of Try.func5 Try.ntmps5 rfl (fun F cs => ?_)
  refine X.sub (p' := [(0, _)]) ⟨rfl, trivial⟩ ?_
  have hlen := flatMap_len (f := acs) (sz := 4) (fun _ => rfl) l
  refine X.seq ?_
  refine X.region ?_
  refine XO.pu (Pu.assign rfl) ?_
  refine XO.nil ?_
  refine X.sub (p' := [(2, _), (0, _)]) ⟨rfl, rfl, trivial⟩ ?_
  refine X.seq ?_
  refine X.seq ?_
  refine X.region ?_
  refine XO.pu (Pu.move rfl) ?_
  refine XO.pu (Pu.len rfl Try.underlying22) ?_
  refine XO.pu (Pu.gtr rfl rfl) ?_
  refine XO.nil ?_
  refine X.sub (p' := [(13, _), (2, _), (0, _)]) ⟨rfl, rfl, rfl, trivial⟩ ?_
  refine X.part 13 rfl (fun h9 => ?_) (fun h9 => ?_)
  · skip
    refine X.condT rfl ?_
    refine X.seq ?_
    refine X.region ?_
    refine XO.cR Try.call11 (works_ok) ?_
    refine XO.pu (Pu.assign rfl) ?_
    refine XO.nil ?_
    refine X.sub (p' := [(2, _), (0, _)]) ⟨rfl, rfl, trivial⟩ ?_
    refine X.retL (q) Try.func5 (res1 Try.results5 rfl) ⟨_, rfl, rfl, _, rfl⟩
  · skip
    have hl : l.length ≤ 100 := by have h := of_decide_eq_false h9; omega
    refine X.condF rfl ?_
    refine X.skip ?_
    refine X.seq ?_
    refine X.region ?_
    refine XO.cX Try.call12 (Le.refl _) (New_ok (mm := 2) (cc := 0) (rooms := []) (a := none) (c := 0) (Sees.nil _ _) (by decide)) ?_
    rintro _ _ ⟨p, σ0, hR0, rfl, rfl⟩
    refine XO.le (Le.syInQ p σ0 _) ?_
    refine XO.pu (Pu.move rfl) ?_
    refine XO.pu (Pu.extract rfl rfl) ?_
    refine XO.pu (Pu.extract rfl rfl) ?_
    refine XO.pu (Pu.assign rfl) ?_
    refine XO.pu (Pu.assign rfl) ?_
    refine XO.nil ?_
    refine X.sub (p' := [(4, _), (3, _), (2, _), (0, _)]) ⟨rfl, rfl, rfl, rfl, trivial⟩ ?_
    refine X.seq ?_
    refine X.region ?_
    refine XO.cX Try.call25 (Le.refl _) (RNew_ok (mm := 2) (cc := 0) (rooms := []) (a := none) (c := 0) (Sees.nil _ _) (by decide)) ?_
    rintro _ _ ⟨r0, h0, rfl, rfl⟩
    refine XO.pu (Pu.move rfl) ?_
    refine XO.pu (Pu.extract rfl rfl) ?_
    refine XO.pu (Pu.extract rfl rfl) ?_
    refine XO.ef (Ef.alloc Try.zeroValue53) ?_
    rintro _ _ ⟨n1, rfl, rfl⟩
    refine XO.ef0 (Ef.stA Try.sizeOf53) ?_
    rintro _ _ ⟨rfl, rfl⟩
    refine XO.pu (Pu.assign rfl) ?_
    refine XO.nil ?_
    refine X.sub (p' := [(5, _), (4, _), (3, _), (2, _), (0, _)]) ⟨rfl, rfl, rfl, rfl, rfl, trivial⟩ ?_
    refine X.seq ?_
    refine X.seq ?_
    refine X.region ?_
    refine XO.pu (Pu.assign rfl) ?_
    refine XO.nil ?_
    refine X.sub (p' := [(7, _), (5, _), (4, _), (3, _), (2, _), (0, _)]) ⟨rfl, rfl, rfl, rfl, rfl, rfl, trivial⟩ ?_
    refine X.block ?_
    have hfl : (l.map fixSyncLocks).length = l.length := by simp
    refine X.at (X.loop (fun (s : Nat × RS × SyC) => s.1 ≤ l.length ∧ Ref s.2.1 (playS (newS 2 0 []) ((l.map fixSyncLocks).take s.1)) ∧ Real s.2.2 (playS (newS 2 0 []) ((l.map fixSyncLocks).take s.1))) (fun s => [(0, .slice a l.length c), (3, .pointer (some ⟨p, 0, none⟩)), (4, .int .i64 0), (5, .pointer (some ⟨n1, 0, none⟩)), (7, .int .i64 (s.1 : Int))]) (fun s => pto n1 (.cells [.slice s.2.1.ow.a s.2.1.ow.l.length s.2.1.ow.c, .slice s.2.1.cs.a s.2.1.cs.l.length s.2.1.cs.c, .slice s.2.1.rm.a s.2.1.rm.l.length s.2.1.rm.c, .slice s.2.1.st.a s.2.1.st.l.length s.2.1.st.c, .slice s.2.1.tk.a s.2.1.tk.l.length s.2.1.tk.c].toArray 53 (0, 0)) :: refM s.2.1 :: syH p s.2.2 :: (q ++ F)) (fun s => l.length - s.1) (fun s hi_ ih => ?_) (0, r0, σ0) ⟨by dsimp only; omega, h0, hR0⟩) ⟨(by first | rfl | exact congrArg some (congrArg (Value.int _) (by omega)) | (show some _ = some _; simp; done) | (show some _ = some _; simp; omega)), (by first | rfl | exact congrArg some (congrArg (Value.int _) (by omega)) | (show some _ = some _; simp; done) | (show some _ = some _; simp; omega)), (by first | rfl | exact congrArg some (congrArg (Value.int _) (by omega)) | (show some _ = some _; simp; done) | (show some _ = some _; simp; omega)), (by first | rfl | exact congrArg some (congrArg (Value.int _) (by omega)) | (show some _ = some _; simp; done) | (show some _ = some _; simp; omega)), (by first | rfl | exact congrArg some (congrArg (Value.int _) (by omega)) | (show some _ = some _; simp; done) | (show some _ = some _; simp; omega)), trivial⟩ leA
    try dsimp only at hi_ ih ⊢
    obtain ⟨hi1, h5, hR5⟩ := hi_
    obtain ⟨i, r, σ⟩ := s; dsimp only at *
    refine X.seq ?_
    refine X.seq ?_
    refine X.region ?_
    refine XO.pu (Pu.move rfl) ?_
    refine XO.pu (Pu.move rfl) ?_
    refine XO.pu (Pu.len rfl Try.underlying22) ?_
    refine XO.pu (Pu.lss rfl rfl) ?_
    refine XO.nil ?_
    refine X.sub (p' := [(26, _), (0, _), (3, _), (4, _), (5, _), (7, _)]) ⟨rfl, rfl, rfl, rfl, rfl, rfl, trivial⟩ ?_
    refine X.part 26 rfl (fun h6 => ?_) (fun h6 => ?_)
    · skip
      have h6 : i < l.length := by simpa using h6
      refine X.adr (hs.le leA) (by rw [hlen]; omega) (fun b1 o1 e_ => ?_); subst e_
      have hok := playS_ok' (s := (newS 2 0 [])) (n := 0) (l := l.map fixSyncLocks) (i := i) (newS_ok (m := 2) (c := 0) (rooms := []) (by decide)) (by omega)
      have hgf : (l.map fixSyncLocks)[i]'(by omega) = fixSyncLocks l[i] := List.getElem_map _
      refine X.condT rfl ?_
      refine X.skip ?_
      refine X.seq ?_
      refine X.block ?_
      refine X.seq ?_
      refine X.region ?_
      refine XO.pu (Pu.move rfl) ?_
      refine XO.pu (Pu.move rfl) ?_
      refine XO.pu (Pu.indexAddr rfl rfl Try.underlying22 Try.sizeOf31 (by omega) (by omega)) ?_
      refine XO.ldS (n := i) Try.isAgg31 Try.sizeOf31 hs h6 ?_
      refine XO.ef (Ef.alloc Try.zeroValue31) ?_
      rintro _ _ ⟨n2, rfl, rfl⟩
      refine XO.ef0 (Ef.stA Try.sizeOf31) ?_
      rintro _ _ ⟨rfl, rfl⟩
      refine XO.nil ?_
      refine X.sub (p' := [(8, _), (0, _), (3, _), (4, _), (5, _), (7, _)]) ⟨rfl, rfl, rfl, rfl, rfl, rfl, trivial⟩ ?_
      refine X.seq ?_
      refine X.seq ?_
      refine X.region ?_
      refine XO.pu (Pu.fieldAddr 3 0 0 rfl Try.underlying31 rfl Try.sizeOf3) ?_
      refine XO.ld Try.isAgg3 ?_
      refine XO.pu (Pu.neq rfl rfl) ?_
      refine XO.nil ?_
      refine X.sub (p' := [(35, _), (8, _), (0, _), (3, _), (4, _), (5, _), (7, _)]) ⟨rfl, rfl, rfl, rfl, rfl, rfl, rfl, trivial⟩ ?_
      refine X.part 35 rfl (fun h10 => ?_) (fun h10 => ?_)
      · skip
        have h10 : ¬ l[i].1 = 0 := by simpa using h10
        refine X.condT rfl ?_
        refine X.region ?_
        refine XO.pu (Pu.fieldAddr 3 0 0 rfl Try.underlying31 rfl Try.sizeOf3) ?_
        refine XO.ef0 (Ef.st Try.sizeOf3) ?_
        rintro _ _ ⟨rfl, rfl⟩
        refine XO.nil ?_
        refine X.sub (p' := [(8, _), (0, _), (3, _), (4, _), (5, _), (7, _)]) ⟨rfl, rfl, rfl, rfl, rfl, rfl, trivial⟩ ?_
        refine X.seq ?_
        refine X.region ?_
        refine XO.pu (Pu.move rfl) ?_
        refine XO.ldA Try.isAgg53 Try.sizeOf53 ?_
        refine XO.ldA Try.isAgg31 Try.sizeOf31 ?_
        have hfx : fixSyncLocks l[i] = (1, l[i].2) := if_neg h10
        refine XO.cF Try.call26 (act_ok (wh := (1, l[i].2).1) (nn := (1, l[i].2).2.1) (th := (1, l[i].2).2.2.1) (vv := (1, l[i].2).2.2.2) h5 hR5 hok (by omega)) ?_
        rintro _ _ ⟨r5, σ5, h7, hR7, rfl, rfl⟩ _ e_; simp only [ca, na] at e_; subst e_
        have h8 : Ref r5 (playS (newS 2 0 []) ((l.map fixSyncLocks).take (i + 1))) := by rw [playS_succ (by omega), hgf, hfx]; exact h7
        have hR8 : Real σ5 (playS (newS 2 0 []) ((l.map fixSyncLocks).take (i + 1))) := by rw [playS_succ (by omega), hgf, hfx]; exact hR7
        have hok2 := playS_ok' (s := (newS 2 0 [])) (n := 0) (l := l.map fixSyncLocks) (i := i + 1) (newS_ok (m := 2) (c := 0) (rooms := []) (by decide)) (by omega)
        refine XO.pu (Pu.move rfl) ?_
        refine XO.pu (Pu.extract rfl rfl) ?_
        refine XO.pu (Pu.extract rfl rfl) ?_
        refine XO.ef (Ef.alloc Try.zeroValue53) ?_
        rintro _ _ ⟨n3, rfl, rfl⟩
        refine XO.ef0 (Ef.stA Try.sizeOf53) ?_
        rintro _ _ ⟨rfl, rfl⟩
        refine XO.pu (Pu.assign rfl) ?_
        refine XO.nil ?_
        refine X.sub (p' := [(10, _), (9, _), (0, _), (3, _), (4, _), (5, _), (7, _)]) ⟨rfl, rfl, rfl, rfl, rfl, rfl, rfl, trivial⟩ ?_
        refine X.seq ?_
        refine X.region ?_
        refine XO.ldA Try.isAgg53 Try.sizeOf53 ?_
        refine XO.ef0 (Ef.stA Try.sizeOf53) ?_
        rintro _ _ ⟨rfl, rfl⟩
        refine XO.nil ?_
        refine X.sub (p' := [(10, _), (0, _), (3, _), (4, _), (5, _), (7, _)]) ⟨rfl, rfl, rfl, rfl, rfl, rfl, trivial⟩ ?_
        refine X.seq ?_
        refine X.region ?_
        refine XO.pu (Pu.move rfl) ?_
        refine XO.pu (Pu.not rfl) ?_
        refine XO.pu (Pu.move rfl) ?_
        refine XO.know 47 (.bool false) rfl (congrArg Value.bool (rfl)) ?_
        refine XO.pu (Pu.move rfl) ?_
        refine XO.ldA Try.isAgg53 Try.sizeOf53 ?_
        refine XO.cF Try.call27 (is_ok (r := r5) h8 hR8 hok2 (by omega)) ?_
        rintro _ _ ⟨rfl, rfl⟩ _ e_; simp only [ca, na] at e_; subst e_
        refine XO.pu (Pu.not rfl) ?_
        refine XO.pu (Pu.pickF rfl rfl) ?_
        refine XO.nil ?_
        refine X.sub (p' := [(52, _), (0, _), (3, _), (4, _), (5, _), (7, _)]) ⟨rfl, rfl, rfl, rfl, rfl, rfl, trivial⟩ ?_
        refine X.know 52 (.bool false) rfl (congrArg Value.bool (rfl)) ?_
        refine X.condF rfl ?_
        refine X.skip ?_
        refine X.inBlock ?_
        refine X.region ?_
        refine XO.pu (Pu.move rfl) ?_
        refine XO.pu (Pu.add rfl rfl (by omega) (by omega)) ?_
        refine XO.pu (Pu.assign rfl) ?_
        refine XO.nil ?_
        refine X.sub (p' := [(7, _), (0, _), (3, _), (4, _), (5, _)]) ⟨rfl, rfl, rfl, rfl, rfl, trivial⟩ ?_
        refine X.at (ih (i + 1, r5, σ5) ⟨by dsimp only; omega, h8, hR8⟩ (by dsimp only; omega)) ⟨(by first | rfl | exact congrArg some (congrArg (Value.int _) (by omega)) | (show some _ = some _; simp; done) | (show some _ = some _; simp; omega)), (by first | rfl | exact congrArg some (congrArg (Value.int _) (by omega)) | (show some _ = some _; simp; done) | (show some _ = some _; simp; omega)), (by first | rfl | exact congrArg some (congrArg (Value.int _) (by omega)) | (show some _ = some _; simp; done) | (show some _ = some _; simp; omega)), (by first | rfl | exact congrArg some (congrArg (Value.int _) (by omega)) | (show some _ = some _; simp; done) | (show some _ = some _; simp; omega)), (by first | rfl | exact congrArg some (congrArg (Value.int _) (by omega)) | (show some _ = some _; simp; done) | (show some _ = some _; simp; omega)), trivial⟩ (by simp only [Wx.sub, splice]; exact leA)
      · skip
        have h10 : l[i].1 = 0 := by simpa using h10
        refine X.condF rfl ?_
        refine X.skip ?_
        refine X.seq ?_
        refine X.region ?_
        refine XO.pu (Pu.move rfl) ?_
        refine XO.ldA Try.isAgg53 Try.sizeOf53 ?_
        refine XO.ldA Try.isAgg31 Try.sizeOf31 ?_
        have hfx : fixSyncLocks l[i] = l[i] := if_pos h10
        refine XO.cF Try.call26 (act_ok (wh := l[i].1) (nn := l[i].2.1) (th := l[i].2.2.1) (vv := l[i].2.2.2) h5 hR5 hok (by omega)) ?_
        rintro _ _ ⟨r5, σ5, h7, hR7, rfl, rfl⟩ _ e_; simp only [ca, na] at e_; subst e_
        have h8 : Ref r5 (playS (newS 2 0 []) ((l.map fixSyncLocks).take (i + 1))) := by rw [playS_succ (by omega), hgf, hfx]; exact h7
        have hR8 : Real σ5 (playS (newS 2 0 []) ((l.map fixSyncLocks).take (i + 1))) := by rw [playS_succ (by omega), hgf, hfx]; exact hR7
        have hok2 := playS_ok' (s := (newS 2 0 [])) (n := 0) (l := l.map fixSyncLocks) (i := i + 1) (newS_ok (m := 2) (c := 0) (rooms := []) (by decide)) (by omega)
        refine XO.pu (Pu.move rfl) ?_
        refine XO.pu (Pu.extract rfl rfl) ?_
        refine XO.pu (Pu.extract rfl rfl) ?_
        refine XO.ef (Ef.alloc Try.zeroValue53) ?_
        rintro _ _ ⟨n4, rfl, rfl⟩
        refine XO.ef0 (Ef.stA Try.sizeOf53) ?_
        rintro _ _ ⟨rfl, rfl⟩
        refine XO.pu (Pu.assign rfl) ?_
        refine XO.nil ?_
        refine X.sub (p' := [(10, _), (9, _), (0, _), (3, _), (4, _), (5, _), (7, _)]) ⟨rfl, rfl, rfl, rfl, rfl, rfl, rfl, trivial⟩ ?_
        refine X.seq ?_
        refine X.region ?_
        refine XO.ldA Try.isAgg53 Try.sizeOf53 ?_
        refine XO.ef0 (Ef.stA Try.sizeOf53) ?_
        rintro _ _ ⟨rfl, rfl⟩
        refine XO.nil ?_
        refine X.sub (p' := [(10, _), (0, _), (3, _), (4, _), (5, _), (7, _)]) ⟨rfl, rfl, rfl, rfl, rfl, rfl, trivial⟩ ?_
        refine X.seq ?_
        refine X.region ?_
        refine XO.pu (Pu.move rfl) ?_
        refine XO.pu (Pu.not rfl) ?_
        refine XO.pu (Pu.move rfl) ?_
        refine XO.know 47 (.bool false) rfl (congrArg Value.bool (rfl)) ?_
        refine XO.pu (Pu.move rfl) ?_
        refine XO.ldA Try.isAgg53 Try.sizeOf53 ?_
        refine XO.cF Try.call27 (is_ok (r := r5) h8 hR8 hok2 (by omega)) ?_
        rintro _ _ ⟨rfl, rfl⟩ _ e_; simp only [ca, na] at e_; subst e_
        refine XO.pu (Pu.not rfl) ?_
        refine XO.pu (Pu.pickF rfl rfl) ?_
        refine XO.nil ?_
        refine X.sub (p' := [(52, _), (0, _), (3, _), (4, _), (5, _), (7, _)]) ⟨rfl, rfl, rfl, rfl, rfl, rfl, trivial⟩ ?_
        refine X.know 52 (.bool false) rfl (congrArg Value.bool (rfl)) ?_
        refine X.condF rfl ?_
        refine X.skip ?_
        refine X.inBlock ?_
        refine X.region ?_
        refine XO.pu (Pu.move rfl) ?_
        refine XO.pu (Pu.add rfl rfl (by omega) (by omega)) ?_
        refine XO.pu (Pu.assign rfl) ?_
        refine XO.nil ?_
        refine X.sub (p' := [(7, _), (0, _), (3, _), (4, _), (5, _)]) ⟨rfl, rfl, rfl, rfl, rfl, trivial⟩ ?_
        refine X.at (ih (i + 1, r5, σ5) ⟨by dsimp only; omega, h8, hR8⟩ (by dsimp only; omega)) ⟨(by first | rfl | exact congrArg some (congrArg (Value.int _) (by omega)) | (show some _ = some _; simp; done) | (show some _ = some _; simp; omega)), (by first | rfl | exact congrArg some (congrArg (Value.int _) (by omega)) | (show some _ = some _; simp; done) | (show some _ = some _; simp; omega)), (by first | rfl | exact congrArg some (congrArg (Value.int _) (by omega)) | (show some _ = some _; simp; done) | (show some _ = some _; simp; omega)), (by first | rfl | exact congrArg some (congrArg (Value.int _) (by omega)) | (show some _ = some _; simp; done) | (show some _ = some _; simp; omega)), (by first | rfl | exact congrArg some (congrArg (Value.int _) (by omega)) | (show some _ = some _; simp; done) | (show some _ = some _; simp; omega)), trivial⟩ (by simp only [Wx.sub, splice]; exact leA)
    · skip
      refine X.condF rfl ?_
      refine X.exit rfl ?_
      refine X.seq ?_
      refine X.region ?_
      refine XO.pu (Pu.move rfl) ?_
      refine XO.cR Try.call14 (lnum_ok) ?_
      refine XO.pu (Pu.eql rfl rfl) ?_
      refine XO.pu (Pu.move rfl) ?_
      refine XO.know 56 (.bool true) rfl (congrArg Value.bool (rfl)) ?_
      refine XO.cR Try.call11 (works_ok) ?_
      refine XO.pu (Pu.pickT rfl rfl) ?_
      refine XO.pu (Pu.assign rfl) ?_
      refine XO.nil ?_
      refine X.sub (p' := [(2, _)]) ⟨rfl, trivial⟩ ?_
      refine X.retL (q) Try.func5 (res1 Try.results5 rfl) ⟨_, rfl, rfl, _, rfl⟩
def fixSyncConds (x : ActT) : ActT := (if x.1 < 2 ∨ x.1 > 4 then (2, x.2) else x)
set_option maxHeartbeats 1000000 in
theorem conds_ok (hs : Sees q a (l.flatMap acs)) : CallF Try.prog G 8 [.slice a l.length c] q (Ret fun v q' => v = .bool true ∧ ∃ A, q' = A) := by
  refine CallF.of Try.func8 Try.ntmps8 rfl (fun F cs => ?_)
  refine X.sub (p' := [(0, _)]) ⟨rfl, trivial⟩ ?_
  have hlen := flatMap_len (f := acs) (sz := 4) (fun _ => rfl) l
  refine X.seq ?_
  refine X.region ?_
  refine XO.pu (Pu.assign rfl) ?_
  refine XO.nil ?_
  refine X.sub (p' := [(2, _), (0, _)]) ⟨rfl, rfl, trivial⟩ ?_
  refine X.seq ?_
  refine X.seq ?_
  refine X.region ?_
  refine XO.pu (Pu.move rfl) ?_
  refine XO.pu (Pu.len rfl Try.underlying22) ?_
  refine XO.pu (Pu.gtr rfl rfl) ?_
  refine XO.nil ?_
  refine X.sub (p' := [(13, _), (2, _), (0, _)]) ⟨rfl, rfl, rfl, trivial⟩ ?_
  refine X.part 13 rfl (fun h9 => ?_) (fun h9 => ?_)
  · skip
    refine X.condT rfl ?_
    refine X.seq ?_
    refine X.region ?_
    refine XO.cR Try.call11 (works_ok) ?_
    refine XO.pu (Pu.assign rfl) ?_
    refine XO.nil ?_
    refine X.sub (p' := [(2, _), (0, _)]) ⟨rfl, rfl, trivial⟩ ?_
    refine X.retL (q) Try.func8 (res1 Try.results8 rfl) ⟨_, rfl, rfl, _, rfl⟩
  · skip
    have hl : l.length ≤ 100 := by have h := of_decide_eq_false h9; omega
    refine X.condF rfl ?_
    refine X.skip ?_
    refine X.seq ?_
    refine X.region ?_
    refine XO.cX Try.call12 (Le.refl _) (New_ok (mm := 0) (cc := 2) (rooms := []) (a := none) (c := 0) (Sees.nil _ _) (by decide)) ?_
    rintro _ _ ⟨p, σ0, hR0, rfl, rfl⟩
    refine XO.le (Le.syInQ p σ0 _) ?_
    refine XO.pu (Pu.move rfl) ?_
    refine XO.pu (Pu.extract rfl rfl) ?_
    refine XO.pu (Pu.extract rfl rfl) ?_
    refine XO.pu (Pu.assign rfl) ?_
    refine XO.pu (Pu.assign rfl) ?_
    refine XO.nil ?_
    refine X.sub (p' := [(4, _), (3, _), (2, _), (0, _)]) ⟨rfl, rfl, rfl, rfl, trivial⟩ ?_
    refine X.seq ?_
    refine X.region ?_
    refine XO.cX Try.call25 (Le.refl _) (RNew_ok (mm := 0) (cc := 2) (rooms := []) (a := none) (c := 0) (Sees.nil _ _) (by decide)) ?_
    rintro _ _ ⟨r0, h0, rfl, rfl⟩
    refine XO.pu (Pu.move rfl) ?_
    refine XO.pu (Pu.extract rfl rfl) ?_
    refine XO.pu (Pu.extract rfl rfl) ?_
    refine XO.ef (Ef.alloc Try.zeroValue53) ?_
    rintro _ _ ⟨n1, rfl, rfl⟩
    refine XO.ef0 (Ef.stA Try.sizeOf53) ?_
    rintro _ _ ⟨rfl, rfl⟩
    refine XO.pu (Pu.assign rfl) ?_
    refine XO.nil ?_
    refine X.sub (p' := [(5, _), (4, _), (3, _), (2, _), (0, _)]) ⟨rfl, rfl, rfl, rfl, rfl, trivial⟩ ?_
    refine X.seq ?_
    refine X.seq ?_
    refine X.region ?_
    refine XO.pu (Pu.assign rfl) ?_
    refine XO.nil ?_
    refine X.sub (p' := [(7, _), (5, _), (4, _), (3, _), (2, _), (0, _)]) ⟨rfl, rfl, rfl, rfl, rfl, rfl, trivial⟩ ?_
    refine X.block ?_
    have hfl : (l.map fixSyncConds).length = l.length := by simp
    refine X.at (X.loop (fun (s : Nat × RS × SyC) => s.1 ≤ l.length ∧ Ref s.2.1 (playS (newS 0 2 []) ((l.map fixSyncConds).take s.1)) ∧ Real s.2.2 (playS (newS 0 2 []) ((l.map fixSyncConds).take s.1))) (fun s => [(0, .slice a l.length c), (3, .pointer (some ⟨p, 0, none⟩)), (4, .int .i64 0), (5, .pointer (some ⟨n1, 0, none⟩)), (7, .int .i64 (s.1 : Int))]) (fun s => pto n1 (.cells [.slice s.2.1.ow.a s.2.1.ow.l.length s.2.1.ow.c, .slice s.2.1.cs.a s.2.1.cs.l.length s.2.1.cs.c, .slice s.2.1.rm.a s.2.1.rm.l.length s.2.1.rm.c, .slice s.2.1.st.a s.2.1.st.l.length s.2.1.st.c, .slice s.2.1.tk.a s.2.1.tk.l.length s.2.1.tk.c].toArray 53 (0, 0)) :: refM s.2.1 :: syH p s.2.2 :: (q ++ F)) (fun s => l.length - s.1) (fun s hi_ ih => ?_) (0, r0, σ0) ⟨by dsimp only; omega, h0, hR0⟩) ⟨(by first | rfl | exact congrArg some (congrArg (Value.int _) (by omega)) | (show some _ = some _; simp; done) | (show some _ = some _; simp; omega)), (by first | rfl | exact congrArg some (congrArg (Value.int _) (by omega)) | (show some _ = some _; simp; done) | (show some _ = some _; simp; omega)), (by first | rfl | exact congrArg some (congrArg (Value.int _) (by omega)) | (show some _ = some _; simp; done) | (show some _ = some _; simp; omega)), (by first | rfl | exact congrArg some (congrArg (Value.int _) (by omega)) | (show some _ = some _; simp; done) | (show some _ = some _; simp; omega)), (by first | rfl | exact congrArg some (congrArg (Value.int _) (by omega)) | (show some _ = some _; simp; done) | (show some _ = some _; simp; omega)), trivial⟩ leA
    try dsimp only at hi_ ih ⊢
    obtain ⟨hi1, h5, hR5⟩ := hi_
    obtain ⟨i, r, σ⟩ := s; dsimp only at *
    refine X.seq ?_
    refine X.seq ?_
    refine X.region ?_
    refine XO.pu (Pu.move rfl) ?_
    refine XO.pu (Pu.move rfl) ?_
    refine XO.pu (Pu.len rfl Try.underlying22) ?_
    refine XO.pu (Pu.lss rfl rfl) ?_
    refine XO.nil ?_
    refine X.sub (p' := [(26, _), (0, _), (3, _), (4, _), (5, _), (7, _)]) ⟨rfl, rfl, rfl, rfl, rfl, rfl, trivial⟩ ?_
    refine X.part 26 rfl (fun h6 => ?_) (fun h6 => ?_)
    · skip
      have h6 : i < l.length := by simpa using h6
      refine X.adr (hs.le leA) (by rw [hlen]; omega) (fun b1 o1 e_ => ?_); subst e_
      have hok := playS_ok' (s := (newS 0 2 [])) (n := 0) (l := l.map fixSyncConds) (i := i) (newS_ok (m := 0) (c := 2) (rooms := []) (by decide)) (by omega)
      have hgf : (l.map fixSyncConds)[i]'(by omega) = fixSyncConds l[i] := List.getElem_map _
      refine X.condT rfl ?_
      refine X.skip ?_
      refine X.seq ?_
      refine X.block ?_
      refine X.seq ?_
      refine X.region ?_
      refine XO.pu (Pu.move rfl) ?_
      refine XO.pu (Pu.move rfl) ?_
      refine XO.pu (Pu.indexAddr rfl rfl Try.underlying22 Try.sizeOf31 (by omega) (by omega)) ?_
      refine XO.ldS (n := i) Try.isAgg31 Try.sizeOf31 hs h6 ?_
      refine XO.ef (Ef.alloc Try.zeroValue31) ?_
      rintro _ _ ⟨n2, rfl, rfl⟩
      refine XO.ef0 (Ef.stA Try.sizeOf31) ?_
      rintro _ _ ⟨rfl, rfl⟩
      refine XO.nil ?_
      refine X.sub (p' := [(8, _), (0, _), (3, _), (4, _), (5, _), (7, _)]) ⟨rfl, rfl, rfl, rfl, rfl, rfl, trivial⟩ ?_
      refine X.seq ?_
      refine X.seq ?_
      refine X.region ?_
      refine XO.pu (Pu.fieldAddr 3 0 0 rfl Try.underlying31 rfl Try.sizeOf3) ?_
      refine XO.ld Try.isAgg3 ?_
      refine XO.pu (Pu.lss rfl rfl) ?_
      refine XO.pu (Pu.move rfl) ?_
      refine XO.sub (p' := [(36, _), (8, _), (0, _), (3, _), (4, _), (5, _), (7, _)]) ⟨rfl, rfl, rfl, rfl, rfl, rfl, rfl, trivial⟩ ?_
      apply XO.cutOr 4 40 36 rfl
      · skip
        intro g1 M1; have h1 := g1; try simp only [decide_eq_true_eq, decide_eq_false_iff_not, bne_iff_ne, beq_iff_eq, ne_eq, bne_eq_false_iff_eq, beq_eq_false_iff_ne, Bool.not_eq_true', Bool.not_eq_false', Int.not_lt, Int.not_le, Bool.not_not, Bool.and_eq_true, Bool.and_eq_false_iff, Bool.true_and, Bool.and_true, beq_self_eq_true, Bool.or_eq_true, Bool.or_eq_false_iff] at h1
        refine XO.pu (Pu.fieldAddr 3 0 0 rfl Try.underlying31 rfl Try.sizeOf3) ?_
        refine XO.ld Try.isAgg3 ?_
        refine XO.pu (Pu.gtr rfl rfl) ?_
        refine XO.pu (Pu.pickF rfl rfl) ?_
        exact XO.fin M1 ⟨orF g1, congrArg (fun x => some (Value.bool x)) g1.symm, rfl, rfl, rfl, rfl, rfl, rfl, trivial⟩
      · skip
        intro g1 M1; have h1 := g1; try simp only [decide_eq_true_eq, decide_eq_false_iff_not, bne_iff_ne, beq_iff_eq, ne_eq, bne_eq_false_iff_eq, beq_eq_false_iff_ne, Bool.not_eq_true', Bool.not_eq_false', Int.not_lt, Int.not_le, Bool.not_not, Bool.and_eq_true, Bool.and_eq_false_iff, Bool.true_and, Bool.and_true, beq_self_eq_true, Bool.or_eq_true, Bool.or_eq_false_iff] at h1
        refine XO.pass rfl ?_
        refine XO.pass rfl ?_
        refine XO.pass rfl ?_
        refine XO.pu (Pu.pickT rfl rfl) ?_
        exact XO.fin M1 ⟨orT g1, congrArg (fun x => some (Value.bool x)) g1.symm, rfl, rfl, rfl, rfl, rfl, rfl, trivial⟩
      · skip
        refine XO.nil ?_
        refine X.sub (p' := [(40, _), (8, _), (0, _), (3, _), (4, _), (5, _), (7, _)]) ⟨rfl, rfl, rfl, rfl, rfl, rfl, rfl, trivial⟩ ?_
        refine X.part 40 rfl (fun h10 => ?_) (fun h10 => ?_)
        · skip
          have h10 : l[i].1 < 2 ∨ l[i].1 > 4 := by simpa using h10
          refine X.condT rfl ?_
          refine X.region ?_
          refine XO.pu (Pu.fieldAddr 3 0 0 rfl Try.underlying31 rfl Try.sizeOf3) ?_
          refine XO.ef0 (Ef.st Try.sizeOf3) ?_
          rintro _ _ ⟨rfl, rfl⟩
          refine XO.nil ?_
          refine X.sub (p' := [(8, _), (0, _), (3, _), (4, _), (5, _), (7, _)]) ⟨rfl, rfl, rfl, rfl, rfl, rfl, trivial⟩ ?_
          refine X.seq ?_
          refine X.region ?_
          refine XO.pu (Pu.move rfl) ?_
          refine XO.ldA Try.isAgg53 Try.sizeOf53 ?_
          refine XO.ldA Try.isAgg31 Try.sizeOf31 ?_
          have hfx : fixSyncConds l[i] = (2, l[i].2) := if_pos h10
          refine XO.cF Try.call26 (act_ok (wh := (2, l[i].2).1) (nn := (2, l[i].2).2.1) (th := (2, l[i].2).2.2.1) (vv := (2, l[i].2).2.2.2) h5 hR5 hok (by omega)) ?_
          rintro _ _ ⟨r5, σ5, h7, hR7, rfl, rfl⟩ _ e_; simp only [ca, na] at e_; subst e_
          have h8 : Ref r5 (playS (newS 0 2 []) ((l.map fixSyncConds).take (i + 1))) := by rw [playS_succ (by omega), hgf, hfx]; exact h7
          have hR8 : Real σ5 (playS (newS 0 2 []) ((l.map fixSyncConds).take (i + 1))) := by rw [playS_succ (by omega), hgf, hfx]; exact hR7
          have hok2 := playS_ok' (s := (newS 0 2 [])) (n := 0) (l := l.map fixSyncConds) (i := i + 1) (newS_ok (m := 0) (c := 2) (rooms := []) (by decide)) (by omega)
          refine XO.pu (Pu.move rfl) ?_
          refine XO.pu (Pu.extract rfl rfl) ?_
          refine XO.pu (Pu.extract rfl rfl) ?_
          refine XO.ef (Ef.alloc Try.zeroValue53) ?_
          rintro _ _ ⟨n3, rfl, rfl⟩
          refine XO.ef0 (Ef.stA Try.sizeOf53) ?_
          rintro _ _ ⟨rfl, rfl⟩
          refine XO.pu (Pu.assign rfl) ?_
          refine XO.nil ?_
          refine X.sub (p' := [(10, _), (9, _), (0, _), (3, _), (4, _), (5, _), (7, _)]) ⟨rfl, rfl, rfl, rfl, rfl, rfl, rfl, trivial⟩ ?_
          refine X.seq ?_
          refine X.region ?_
          refine XO.ldA Try.isAgg53 Try.sizeOf53 ?_
          refine XO.ef0 (Ef.stA Try.sizeOf53) ?_
          rintro _ _ ⟨rfl, rfl⟩
          refine XO.nil ?_
          refine X.sub (p' := [(10, _), (0, _), (3, _), (4, _), (5, _), (7, _)]) ⟨rfl, rfl, rfl, rfl, rfl, rfl, trivial⟩ ?_
          refine X.seq ?_
          refine X.region ?_
          refine XO.pu (Pu.move rfl) ?_
          refine XO.pu (Pu.not rfl) ?_
          refine XO.pu (Pu.move rfl) ?_
          refine XO.know 52 (.bool false) rfl (congrArg Value.bool (rfl)) ?_
          refine XO.pu (Pu.move rfl) ?_
          refine XO.ldA Try.isAgg53 Try.sizeOf53 ?_
          refine XO.cF Try.call27 (is_ok (r := r5) h8 hR8 hok2 (by omega)) ?_
          rintro _ _ ⟨rfl, rfl⟩ _ e_; simp only [ca, na] at e_; subst e_
          refine XO.pu (Pu.not rfl) ?_
          refine XO.pu (Pu.pickF rfl rfl) ?_
          refine XO.nil ?_
          refine X.sub (p' := [(57, _), (0, _), (3, _), (4, _), (5, _), (7, _)]) ⟨rfl, rfl, rfl, rfl, rfl, rfl, trivial⟩ ?_
          refine X.know 57 (.bool false) rfl (congrArg Value.bool (rfl)) ?_
          refine X.condF rfl ?_
          refine X.skip ?_
          refine X.inBlock ?_
          refine X.region ?_
          refine XO.pu (Pu.move rfl) ?_
          refine XO.pu (Pu.add rfl rfl (by omega) (by omega)) ?_
          refine XO.pu (Pu.assign rfl) ?_
          refine XO.nil ?_
          refine X.sub (p' := [(7, _), (0, _), (3, _), (4, _), (5, _)]) ⟨rfl, rfl, rfl, rfl, rfl, trivial⟩ ?_
          refine X.at (ih (i + 1, r5, σ5) ⟨by dsimp only; omega, h8, hR8⟩ (by dsimp only; omega)) ⟨(by first | rfl | exact congrArg some (congrArg (Value.int _) (by omega)) | (show some _ = some _; simp; done) | (show some _ = some _; simp; omega)), (by first | rfl | exact congrArg some (congrArg (Value.int _) (by omega)) | (show some _ = some _; simp; done) | (show some _ = some _; simp; omega)), (by first | rfl | exact congrArg some (congrArg (Value.int _) (by omega)) | (show some _ = some _; simp; done) | (show some _ = some _; simp; omega)), (by first | rfl | exact congrArg some (congrArg (Value.int _) (by omega)) | (show some _ = some _; simp; done) | (show some _ = some _; simp; omega)), (by first | rfl | exact congrArg some (congrArg (Value.int _) (by omega)) | (show some _ = some _; simp; done) | (show some _ = some _; simp; omega)), trivial⟩ (by simp only [Wx.sub, splice]; exact leA)
        · skip
          have h10 : ¬ (l[i].1 < 2 ∨ l[i].1 > 4) := by simpa using h10
          refine X.condF rfl ?_
          refine X.skip ?_
          refine X.seq ?_
          refine X.region ?_
          refine XO.pu (Pu.move rfl) ?_
          refine XO.ldA Try.isAgg53 Try.sizeOf53 ?_
          refine XO.ldA Try.isAgg31 Try.sizeOf31 ?_
          have hfx : fixSyncConds l[i] = l[i] := if_neg h10
          refine XO.cF Try.call26 (act_ok (wh := l[i].1) (nn := l[i].2.1) (th := l[i].2.2.1) (vv := l[i].2.2.2) h5 hR5 hok (by omega)) ?_
          rintro _ _ ⟨r5, σ5, h7, hR7, rfl, rfl⟩ _ e_; simp only [ca, na] at e_; subst e_
          have h8 : Ref r5 (playS (newS 0 2 []) ((l.map fixSyncConds).take (i + 1))) := by rw [playS_succ (by omega), hgf, hfx]; exact h7
          have hR8 : Real σ5 (playS (newS 0 2 []) ((l.map fixSyncConds).take (i + 1))) := by rw [playS_succ (by omega), hgf, hfx]; exact hR7
          have hok2 := playS_ok' (s := (newS 0 2 [])) (n := 0) (l := l.map fixSyncConds) (i := i + 1) (newS_ok (m := 0) (c := 2) (rooms := []) (by decide)) (by omega)
          refine XO.pu (Pu.move rfl) ?_
          refine XO.pu (Pu.extract rfl rfl) ?_
          refine XO.pu (Pu.extract rfl rfl) ?_
          refine XO.ef (Ef.alloc Try.zeroValue53) ?_
          rintro _ _ ⟨n4, rfl, rfl⟩
          refine XO.ef0 (Ef.stA Try.sizeOf53) ?_
          rintro _ _ ⟨rfl, rfl⟩
          refine XO.pu (Pu.assign rfl) ?_
          refine XO.nil ?_
          refine X.sub (p' := [(10, _), (9, _), (0, _), (3, _), (4, _), (5, _), (7, _)]) ⟨rfl, rfl, rfl, rfl, rfl, rfl, rfl, trivial⟩ ?_
          refine X.seq ?_
          refine X.region ?_
          refine XO.ldA Try.isAgg53 Try.sizeOf53 ?_
          refine XO.ef0 (Ef.stA Try.sizeOf53) ?_
          rintro _ _ ⟨rfl, rfl⟩
          refine XO.nil ?_
          refine X.sub (p' := [(10, _), (0, _), (3, _), (4, _), (5, _), (7, _)]) ⟨rfl, rfl, rfl, rfl, rfl, rfl, trivial⟩ ?_
          refine X.seq ?_
          refine X.region ?_
          refine XO.pu (Pu.move rfl) ?_
          refine XO.pu (Pu.not rfl) ?_
          refine XO.pu (Pu.move rfl) ?_
          refine XO.know 52 (.bool false) rfl (congrArg Value.bool (rfl)) ?_
          refine XO.pu (Pu.move rfl) ?_
          refine XO.ldA Try.isAgg53 Try.sizeOf53 ?_
          refine XO.cF Try.call27 (is_ok (r := r5) h8 hR8 hok2 (by omega)) ?_
          rintro _ _ ⟨rfl, rfl⟩ _ e_; simp only [ca, na] at e_; subst e_
          refine XO.pu (Pu.not rfl) ?_
          refine XO.pu (Pu.pickF rfl rfl) ?_
          refine XO.nil ?_
          refine X.sub (p' := [(57, _), (0, _), (3, _), (4, _), (5, _), (7, _)]) ⟨rfl, rfl, rfl, rfl, rfl, rfl, trivial⟩ ?_
          refine X.know 57 (.bool false) rfl (congrArg Value.bool (rfl)) ?_
          refine X.condF rfl ?_
          refine X.skip ?_
          refine X.inBlock ?_
          refine X.region ?_
          refine XO.pu (Pu.move rfl) ?_
          refine XO.pu (Pu.add rfl rfl (by omega) (by omega)) ?_
          refine XO.pu (Pu.assign rfl) ?_
          refine XO.nil ?_
          refine X.sub (p' := [(7, _), (0, _), (3, _), (4, _), (5, _)]) ⟨rfl, rfl, rfl, rfl, rfl, trivial⟩ ?_
          refine X.at (ih (i + 1, r5, σ5) ⟨by dsimp only; omega, h8, hR8⟩ (by dsimp only; omega)) ⟨(by first | rfl | exact congrArg some (congrArg (Value.int _) (by omega)) | (show some _ = some _; simp; done) | (show some _ = some _; simp; omega)), (by first | rfl | exact congrArg some (congrArg (Value.int _) (by omega)) | (show some _ = some _; simp; done) | (show some _ = some _; simp; omega)), (by first | rfl | exact congrArg some (congrArg (Value.int _) (by omega)) | (show some _ = some _; simp; done) | (show some _ = some _; simp; omega)), (by first | rfl | exact congrArg some (congrArg (Value.int _) (by omega)) | (show some _ = some _; simp; done) | (show some _ = some _; simp; omega)), (by first | rfl | exact congrArg some (congrArg (Value.int _) (by omega)) | (show some _ = some _; simp; done) | (show some _ = some _; simp; omega)), trivial⟩ (by simp only [Wx.sub, splice]; exact leA)
    · skip
      refine X.condF rfl ?_
      refine X.exit rfl ?_
      refine X.seq ?_
      refine X.region ?_
      refine XO.pu (Pu.move rfl) ?_
      refine XO.cR Try.call14 (lnum_ok) ?_
      refine XO.pu (Pu.eql rfl rfl) ?_
      refine XO.pu (Pu.move rfl) ?_
      refine XO.know 61 (.bool true) rfl (congrArg Value.bool (rfl)) ?_
      refine XO.cR Try.call11 (works_ok) ?_
      refine XO.pu (Pu.pickT rfl rfl) ?_
      refine XO.pu (Pu.assign rfl) ?_
      refine XO.nil ?_
      refine X.sub (p' := [(2, _)]) ⟨rfl, trivial⟩ ?_
      refine X.retL (q) Try.func8 (res1 Try.results8 rfl) ⟨_, rfl, rfl, _, rfl⟩
end
end Go.Proofs.Ytlgnnhpbomfdiaa

