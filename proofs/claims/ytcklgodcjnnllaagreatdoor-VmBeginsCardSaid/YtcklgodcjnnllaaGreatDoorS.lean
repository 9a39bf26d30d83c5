/- What functions of package vm, of its references and of its laws do: contracts of calls, proved by walking their code. -/
import Derived.Test.YtcklgodcjnnllaaGreatDoorR
import Derived.Test.YtcklgodcjnnllaaGreatDoorWd
import Derived.KernelRfl
set_option maxRecDepth 100000
set_option linter.unusedVariables false
set_option linter.unusedSimpArgs false
namespace Go.Proofs.YtcklgodcjnnllaaGreatDoor
open Go Go.RowKit Wx
attribute [local irreducible] Wx.lsH Wx.rsH Wx.lsM Wx.rsM Wx.stars

/-- What is thrown: a trap. -/
def trapE (k : Int) : PanicEntry := { v := .iface 136 (.agg [.int .i64 k].toArray), recovered := false }
/-- The cells of an instruction's work: the stack's slice, the module, the frame, the cells. -/
def wkC (it : Value) (pm : Nat) (code pc : Int) (lo old ce : Value) : List Value := [it, .pointer (some ⟨pm, 0, none⟩), .int .i64 code, .int .i64 pc, lo, old, ce]
/-- What is made of the last two values: the value, a trap. -/
def mkS (c a b : Int) : Int × Int := if c = 8 then (if val (-b) then (-b, 0) else (0, 2)) else if c = 9 then (truthS (decide (b = 0)), 0) else if c = 22 then (truthS (decide (b ≠ 0)), 0) else twoS (c - 7) a b

section
variable {G : World} {q pre : List HP} {a b A : Option Addr} {c d C p p0 p1 p2 i : Nat} {lo hi n cd dep : Int} {fv : Value} {x y : Ins} {t : Cod} {m : Mdl} {at_ : Int}
variable {l cells : List Int} {idx arr z k u : Int} {x1 x2 x3 x4 x5 x6 : Value} {pm : Nat} {bb : Bool}
theorem pop_ok (h0 : 0 < l.length) : CallF Tryz.prog G 65 [.pointer (some ⟨p, 0, none⟩)] ([pto p (.cells [.slice a (l).length c, x1, x2, x3, x4, x5, x6].toArray 106 (0, 0)), lsH I64 2 a c (l)]) (Ret fun v q' => v = .int .i64 (l.getD (l.length - 1) 0) ∧ q' = [pto p (.cells [.slice a (l.take (l.length - 1)).length c, x1, x2, x3, x4, x5, x6].toArray 106 (0, 0)), lsH I64 2 a c (l.take (l.length - 1))]) := by
 refine CallF.of Tryz.func65 Tryz.ntmps65 rfl (fun F cs => ?_)
 refine X.lsadr (l := l) h0 (fun g e_ => ?_); subst e_
 refine X.lscap (l := l) (fun hcap => ?_)
 refine X.lsmax (l := l) (fun hmx => ?_)
 refine xx 5 ?_
 refine drw ?_
 refine dd [0, 1, 2] ?_
 refine ldD 3 ?_
 refine dd [4, 5, 6] ?_
 refine ldD 7 ?_
 refine dd [8, 9, 10] ?_
 refine ldD 11 ?_ (hc := (Cl.e1z (Sees.lsH _) fndA h0))
 refine dd [12] ?_
 refine XD.nil ?_
 refine xx 1 ?_
 refine drw ?_
 refine dd [0, 1, 2, 3] ?_
 refine ldD 4 ?_
 refine dd [5, 6, 7] ?_
 refine ldD 8 ?_
 refine dd [9, 10, 11, 12, 13] ?_
 refine XD.know 27 (.slice (some ⟨g, 0, none⟩) (l.take (l.length - 1)).length c) rfl (by rw [List.length_take]; congr 1; omega) ?_
 refine stD 14 ?_
 refine XD.nil ?_
 refine xx 5 ?_
 refine X.sb [2] ?_
 refine X.retL [pto p (.cells [.slice (some ⟨g, 0, none⟩) (l.take (l.length - 1)).length c, x1, x2, x3, x4, x5, x6].toArray 106 (0, 0)), lsH I64 2 (some ⟨g, 0, none⟩) c (l.take (l.length - 1))] Tryz.func65 (res1 Tryz.results65 rfl) ⟨_, rfl, by rw [getD_lt (by omega)], rfl⟩ (Le.pick fndA ((leA).trans (Le.lsH_take _ _ _ _ _ _ _)))
theorem push_ok (hL : l.length ≤ 1000000) : CallF Tryz.prog G 66 [.pointer (some ⟨p, 0, none⟩), .int .i64 z] ([pto p (.cells [.slice a (l).length c, x1, x2, x3, x4, x5, x6].toArray 106 (0, 0)), lsH I64 2 a c (l)]) (Ret fun v q' => ∃ a' c', q' = [pto p (.cells [.slice a' (l ++ [z]).length c', x1, x2, x3, x4, x5, x6].toArray 106 (0, 0)), lsH I64 2 a' c' (l ++ [z])]) := by
 refine CallF.of Tryz.func66 Tryz.ntmps66 rfl (fun F cs => ?_)
 refine xo 5 ?_
 refine ld ?_
 refine oo 1 ?_
 refine XO.ef (Ef.litL I64 [z] Tryz.underlying22 Tryz.info2 rfl rfl rfl rfl rfl rfl (fun _ => rfl)) ?_
 rintro _ _ ⟨g1, rfl, rfl⟩
 refine XO.ef (Ef.appA (l := l) (m := [z]) Tryz.underlying22 Tryz.info2 rfl rfl rfl fndA ((Sees.lsH _).le fndA) (fun _ => rfl) (by simp; omega) (by simp; omega)) ?_
 rintro _ _ ⟨a1, c1, rfl, rfl⟩
 refine oo 2 ?_
 refine st ?_
 refine ox 1 ?_
 refine X.fallL [pto p (.cells [.slice a1 (l ++ [z]).length c1, x1, x2, x3, x4, x5, x6].toArray 106 (0, 0)), lsH I64 2 a1 c1 (l ++ [z])] Tryz.func66 (res0 Tryz.results66) ⟨_, rfl, a1, c1, rfl⟩
theorem fail_ok  : CallF Tryz.prog G 144 [.int .i64 k] (q) (RP (fun _ _ => False) (fun ch q' => ch = [trapE k] ∧ q' = q)) := by
 refine CallF.of Tryz.func144 Tryz.ntmps144 rfl (fun F cs => ?_)
 refine xo 4 ?_
 exact XO.pn (Pn.panic rfl) (FQ.panic Tryz.func144 (RP.thr ⟨rfl, rfl⟩))
theorem whole_ok  : CallF Tryz.prog G 96 [.int .i64 z] (q) (RP (fun v q' => val z ∧ v = .int .i64 z ∧ q' = q) (fun ch q' => ¬ val z ∧ ch = [trapE 2] ∧ q' = q)) := by
 refine CallF.of Tryz.func96 Tryz.ntmps96 rfl (fun F cs => ?_)
 refine xo 10 ?_
 refine XO.sb [5, 2, 0] ?_
 apply XO.cutOr 3 8 5 rfl
 · skip
   intro g1 M1; have h1 := sp g1
   refine oo 3 ?_
   exact XO.fin M1 ⟨orF g1, subB⟩
 · skip
   intro g1 M1; have h1 := sp g1
   refine oo 3 ?_
   exact XO.fin M1 ⟨orT g1, subB⟩
 · skip
   refine ox 1 ?_
   refine X.part 8 rfl (fun h1 => ?_) (fun h1 => ?_)
   · skip
     replace h1 := sp h1
     refine xo 2 ?_
     refine XO.cP Tryz.call144 (Le.refl _) (fail_ok) ?_ ?_
     · rintro _ _ ⟨rfl, rfl⟩
       exact FQ.panic Tryz.func96 (RP.thr ⟨(by unfold val; omega), rfl, rfl⟩)
     rintro _ _ ⟨⟩
   · skip
     replace h1 := sp h1
     refine xx 7 ?_
     refine X.retL (q) Tryz.func96 (res1 Tryz.results96 rfl) (RP.ret ⟨(by unfold val; omega), rfl, rfl⟩)
theorem divisor_ok  : CallF Tryz.prog G 108 [.int .i64 z] (q) (RP (fun v q' => z ≠ 0 ∧ v = .int .i64 z ∧ q' = q) (fun ch q' => z = 0 ∧ ch = [trapE 1] ∧ q' = q)) := by
 refine CallF.of Tryz.func108 Tryz.ntmps108 rfl (fun F cs => ?_)
 refine xx 10 ?_
 refine X.part 4 rfl (fun h1 => ?_) (fun h1 => ?_)
 · skip
   replace h1 := sp h1
   refine xo 2 ?_
   refine XO.cP Tryz.call144 (Le.refl _) (fail_ok) ?_ ?_
   · rintro _ _ ⟨rfl, rfl⟩
     exact FQ.panic Tryz.func108 (RP.thr ⟨(by omega), rfl, rfl⟩)
   rintro _ _ ⟨⟩
 · skip
   replace h1 := sp h1
   refine xx 7 ?_
   refine X.retL (q) Tryz.func108 (res1 Tryz.results108 rfl) (RP.ret ⟨(by omega), rfl, rfl⟩)
theorem truth_ok  : CallF Tryz.prog G 98 [.bool bb] (q) (Ret fun v q' => v = .int .i64 (truthS bb) ∧ q' = q) := by
 refine CallF.of Tryz.func98 Tryz.ntmps98 rfl (fun F cs => ?_)
 refine xx 9 ?_
 refine X.part 3 rfl (fun h0 => ?_) (fun h0 => ?_)
 · skip
   refine xx 5 ?_
   refine X.retL (q) Tryz.func98 (res1 Tryz.results98 rfl) ⟨_, rfl, by rw [show bb = true by simpa using h0]; rfl, rfl⟩
 · skip
   refine xx 6 ?_
   refine X.retL (q) Tryz.func98 (res1 Tryz.results98 rfl) ⟨_, rfl, by rw [show bb = false by simpa using h0]; rfl, rfl⟩
theorem val_mul {a b : Int} (ha : val a) (hb : val b) : -4611686018427387904 ≤ a * b ∧ a * b ≤ 4611686018427387904 := by
  unfold val at ha hb
  have h1 : a * b ≤ a.natAbs * b.natAbs := by rw [← Int.natCast_mul, ← Int.natAbs_mul]; omega
  have h2 : -(a.natAbs * b.natAbs : Int) ≤ a * b := by rw [← Int.natCast_mul, ← Int.natAbs_mul]; omega
  have h3 : (a.natAbs : Int) * b.natAbs ≤ 2147483648 * 2147483648 := by
    rw [← Int.natCast_mul]
    have : a.natAbs * b.natAbs ≤ 2147483648 * 2147483648 := Nat.mul_le_mul (by omega) (by omega)
    omega
  omega
theorem val_div {a b : Int} (ha : val a) : -2147483648 ≤ a.tdiv b ∧ a.tdiv b ≤ 2147483648 := by
  unfold val at ha
  have h := Int.natAbs_tdiv_le_natAbs a b
  omega
theorem val_mod {a b : Int} (ha : val a) : -2147483648 ≤ a.tmod b ∧ a.tmod b ≤ 2147483648 := by
  unfold val at ha
  have h : (a.tmod b).natAbs ≤ a.natAbs := by rw [Int.natAbs_tmod]; exact Nat.mod_le _ _
  omega
theorem maker8 (hu : val u) (hz : val z) : CallF Tryz.prog G 95 [.int .i64 u, .int .i64 z] (q) (RP (fun v q' => (mkS 8 u z).2 = 0 ∧ v = .int .i64 (mkS 8 u z).1 ∧ q' = q) (fun ch q' => (mkS 8 u z).2 ≠ 0 ∧ ch = [trapE (mkS 8 u z).2] ∧ q' = q)) := by
 refine CallF.of Tryz.func95 Tryz.ntmps95 rfl (fun F cs => ?_)
 have hu2 := hu; have hz2 := hz; unfold val at hu2 hz2
 refine xo 7 ?_
 refine XO.pu (Pu.negW rfl) ?_
 refine XO.know 6 (.int .i64 (-z)) rfl (congrArg (Value.int .i64) ((wrap64_of (by omega) (by omega)).trans (by omega) : IntKind.i64.wrap (0 - z) = -z)) ?_
 refine XO.cP Tryz.call96 (Le.refl _) (whole_ok (z := (-z)) (q := q ++ F)) ?_ ?_
 · rintro _ _ ⟨h0, rfl, rfl⟩
   exact FQ.panic Tryz.func95 (RP.thr ⟨by simp [mkS, twoS, h0], by simp [mkS, twoS, h0], rfl⟩)
 rintro _ _ ⟨hv, rfl, rfl⟩
 refine ox 2 ?_
 refine X.retL (q) Tryz.func95 (res1 Tryz.results95 rfl) (RP.ret ⟨by simp [mkS, twoS, hv], by simp [mkS, twoS, hv], rfl⟩)
theorem maker9 (hu : val u) (hz : val z) : CallF Tryz.prog G 97 [.int .i64 u, .int .i64 z] (q) (RP (fun v q' => (mkS 9 u z).2 = 0 ∧ v = .int .i64 (mkS 9 u z).1 ∧ q' = q) (fun ch q' => (mkS 9 u z).2 ≠ 0 ∧ ch = [trapE (mkS 9 u z).2] ∧ q' = q)) := by
 refine CallF.of Tryz.func97 Tryz.ntmps97 rfl (fun F cs => ?_)
 have hu2 := hu; have hz2 := hz; unfold val at hu2 hz2
 refine xo 8 ?_
 refine XO.cR Tryz.call98 (truth_ok) ?_
 refine ox 2 ?_
 refine X.retL (q) Tryz.func97 (res1 Tryz.results97 rfl) (RP.ret ⟨by simp [mkS, twoS], by simp [mkS, twoS] <;> first | rfl | (congr 1; rw [Bool.eq_iff_iff]; simp), rfl⟩)
theorem maker22 (hu : val u) (hz : val z) : CallF Tryz.prog G 99 [.int .i64 u, .int .i64 z] (q) (RP (fun v q' => (mkS 22 u z).2 = 0 ∧ v = .int .i64 (mkS 22 u z).1 ∧ q' = q) (fun ch q' => (mkS 22 u z).2 ≠ 0 ∧ ch = [trapE (mkS 22 u z).2] ∧ q' = q)) := by
 refine CallF.of Tryz.func99 Tryz.ntmps99 rfl (fun F cs => ?_)
 have hu2 := hu; have hz2 := hz; unfold val at hu2 hz2
 refine xo 8 ?_
 refine XO.cR Tryz.call98 (truth_ok) ?_
 refine ox 2 ?_
 refine X.retL (q) Tryz.func99 (res1 Tryz.results99 rfl) (RP.ret ⟨by simp [mkS, twoS], by simp [mkS, twoS] <;> first | rfl | (congr 1; rw [Bool.eq_iff_iff]; simp), rfl⟩)
theorem maker10 (hu : val u) (hz : val z) : CallF Tryz.prog G 100 [.int .i64 u, .int .i64 z] (q) (RP (fun v q' => (mkS 10 u z).2 = 0 ∧ v = .int .i64 (mkS 10 u z).1 ∧ q' = q) (fun ch q' => (mkS 10 u z).2 ≠ 0 ∧ ch = [trapE (mkS 10 u z).2] ∧ q' = q)) := by
 refine CallF.of Tryz.func100 Tryz.ntmps100 rfl (fun F cs => ?_)
 have hu2 := hu; have hz2 := hz; unfold val at hu2 hz2
 refine xo 9 ?_
 refine XO.cR Tryz.call98 (truth_ok) ?_
 refine ox 2 ?_
 refine X.retL (q) Tryz.func100 (res1 Tryz.results100 rfl) (RP.ret ⟨by simp [mkS, twoS], by simp [mkS, twoS] <;> first | rfl | (congr 1; rw [Bool.eq_iff_iff]; simp), rfl⟩)
theorem maker11 (hu : val u) (hz : val z) : CallF Tryz.prog G 101 [.int .i64 u, .int .i64 z] (q) (RP (fun v q' => (mkS 11 u z).2 = 0 ∧ v = .int .i64 (mkS 11 u z).1 ∧ q' = q) (fun ch q' => (mkS 11 u z).2 ≠ 0 ∧ ch = [trapE (mkS 11 u z).2] ∧ q' = q)) := by
 refine CallF.of Tryz.func101 Tryz.ntmps101 rfl (fun F cs => ?_)
 have hu2 := hu; have hz2 := hz; unfold val at hu2 hz2
 refine xo 9 ?_
 refine XO.cR Tryz.call98 (truth_ok) ?_
 refine ox 2 ?_
 refine X.retL (q) Tryz.func101 (res1 Tryz.results101 rfl) (RP.ret ⟨by simp [mkS, twoS], by simp [mkS, twoS] <;> first | rfl | (congr 1; rw [Bool.eq_iff_iff]; simp), rfl⟩)
theorem maker12 (hu : val u) (hz : val z) : CallF Tryz.prog G 102 [.int .i64 u, .int .i64 z] (q) (RP (fun v q' => (mkS 12 u z).2 = 0 ∧ v = .int .i64 (mkS 12 u z).1 ∧ q' = q) (fun ch q' => (mkS 12 u z).2 ≠ 0 ∧ ch = [trapE (mkS 12 u z).2] ∧ q' = q)) := by
 refine CallF.of Tryz.func102 Tryz.ntmps102 rfl (fun F cs => ?_)
 have hu2 := hu; have hz2 := hz; unfold val at hu2 hz2
 refine xo 9 ?_
 refine XO.cR Tryz.call98 (truth_ok) ?_
 refine ox 2 ?_
 refine X.retL (q) Tryz.func102 (res1 Tryz.results102 rfl) (RP.ret ⟨by simp [mkS, twoS], by simp [mkS, twoS] <;> first | rfl | (congr 1; rw [Bool.eq_iff_iff]; simp), rfl⟩)
theorem maker13 (hu : val u) (hz : val z) : CallF Tryz.prog G 103 [.int .i64 u, .int .i64 z] (q) (RP (fun v q' => (mkS 13 u z).2 = 0 ∧ v = .int .i64 (mkS 13 u z).1 ∧ q' = q) (fun ch q' => (mkS 13 u z).2 ≠ 0 ∧ ch = [trapE (mkS 13 u z).2] ∧ q' = q)) := by
 refine CallF.of Tryz.func103 Tryz.ntmps103 rfl (fun F cs => ?_)
 have hu2 := hu; have hz2 := hz; unfold val at hu2 hz2
 refine xo 9 ?_
 refine XO.cR Tryz.call98 (truth_ok) ?_
 refine ox 2 ?_
 refine X.retL (q) Tryz.func103 (res1 Tryz.results103 rfl) (RP.ret ⟨by simp [mkS, twoS], by simp [mkS, twoS] <;> first | rfl | (congr 1; rw [Bool.eq_iff_iff]; simp), rfl⟩)
theorem maker14 (hu : val u) (hz : val z) : CallF Tryz.prog G 104 [.int .i64 u, .int .i64 z] (q) (RP (fun v q' => (mkS 14 u z).2 = 0 ∧ v = .int .i64 (mkS 14 u z).1 ∧ q' = q) (fun ch q' => (mkS 14 u z).2 ≠ 0 ∧ ch = [trapE (mkS 14 u z).2] ∧ q' = q)) := by
 refine CallF.of Tryz.func104 Tryz.ntmps104 rfl (fun F cs => ?_)
 have hu2 := hu; have hz2 := hz; unfold val at hu2 hz2
 refine xo 9 ?_
 refine XO.cP Tryz.call96 (Le.refl _) (whole_ok (z := (u + z)) (q := q ++ F)) ?_ ?_
 · rintro _ _ ⟨h0, rfl, rfl⟩
   exact FQ.panic Tryz.func104 (RP.thr ⟨by simp [mkS, twoS, h0], by simp [mkS, twoS, h0], rfl⟩)
 rintro _ _ ⟨hv, rfl, rfl⟩
 refine ox 2 ?_
 refine X.retL (q) Tryz.func104 (res1 Tryz.results104 rfl) (RP.ret ⟨by simp [mkS, twoS, hv], by simp [mkS, twoS, hv], rfl⟩)
theorem maker15 (hu : val u) (hz : val z) : CallF Tryz.prog G 105 [.int .i64 u, .int .i64 z] (q) (RP (fun v q' => (mkS 15 u z).2 = 0 ∧ v = .int .i64 (mkS 15 u z).1 ∧ q' = q) (fun ch q' => (mkS 15 u z).2 ≠ 0 ∧ ch = [trapE (mkS 15 u z).2] ∧ q' = q)) := by
 refine CallF.of Tryz.func105 Tryz.ntmps105 rfl (fun F cs => ?_)
 have hu2 := hu; have hz2 := hz; unfold val at hu2 hz2
 refine xo 9 ?_
 refine XO.cP Tryz.call96 (Le.refl _) (whole_ok (z := (u - z)) (q := q ++ F)) ?_ ?_
 · rintro _ _ ⟨h0, rfl, rfl⟩
   exact FQ.panic Tryz.func105 (RP.thr ⟨by simp [mkS, twoS, h0], by simp [mkS, twoS, h0], rfl⟩)
 rintro _ _ ⟨hv, rfl, rfl⟩
 refine ox 2 ?_
 refine X.retL (q) Tryz.func105 (res1 Tryz.results105 rfl) (RP.ret ⟨by simp [mkS, twoS, hv], by simp [mkS, twoS, hv], rfl⟩)
theorem maker16 (hu : val u) (hz : val z) : CallF Tryz.prog G 106 [.int .i64 u, .int .i64 z] (q) (RP (fun v q' => (mkS 16 u z).2 = 0 ∧ v = .int .i64 (mkS 16 u z).1 ∧ q' = q) (fun ch q' => (mkS 16 u z).2 ≠ 0 ∧ ch = [trapE (mkS 16 u z).2] ∧ q' = q)) := by
 refine CallF.of Tryz.func106 Tryz.ntmps106 rfl (fun F cs => ?_)
 have hu2 := hu; have hz2 := hz; unfold val at hu2 hz2
 have hm := val_mul hu hz
 refine xo 8 ?_
 refine XO.pu (Pu.mul rfl rfl (by omega) (by omega)) ?_
 refine XO.cP Tryz.call96 (Le.refl _) (whole_ok (z := (u * z)) (q := q ++ F)) ?_ ?_
 · rintro _ _ ⟨h0, rfl, rfl⟩
   exact FQ.panic Tryz.func106 (RP.thr ⟨by simp [mkS, twoS, h0], by simp [mkS, twoS, h0], rfl⟩)
 rintro _ _ ⟨hv, rfl, rfl⟩
 refine ox 2 ?_
 refine X.retL (q) Tryz.func106 (res1 Tryz.results106 rfl) (RP.ret ⟨by simp [mkS, twoS, hv], by simp [mkS, twoS, hv], rfl⟩)
theorem maker17 (hu : val u) (hz : val z) : CallF Tryz.prog G 107 [.int .i64 u, .int .i64 z] (q) (RP (fun v q' => (mkS 17 u z).2 = 0 ∧ v = .int .i64 (mkS 17 u z).1 ∧ q' = q) (fun ch q' => (mkS 17 u z).2 ≠ 0 ∧ ch = [trapE (mkS 17 u z).2] ∧ q' = q)) := by
 refine CallF.of Tryz.func107 Tryz.ntmps107 rfl (fun F cs => ?_)
 have hu2 := hu; have hz2 := hz; unfold val at hu2 hz2
 have hm := val_div (b := z) hu
 refine xo 8 ?_
 refine XO.cP Tryz.call108 (Le.refl _) (divisor_ok (q := q ++ F)) ?_ ?_
 · rintro _ _ ⟨h0, rfl, rfl⟩
   exact FQ.panic Tryz.func107 (RP.thr ⟨by simp [mkS, twoS, h0], by simp [mkS, twoS, h0], rfl⟩)
 rintro _ _ ⟨hd, rfl, rfl⟩
 refine XO.pu (Pu.quoW rfl rfl (by omega)) ?_
 refine XO.know 8 (.int .i64 (u.tdiv z)) rfl (congrArg (Value.int .i64) (show IntKind.i64.wrap (u.tdiv z) = u.tdiv z from wrap64_of (by omega) (by omega))) ?_
 refine XO.cP Tryz.call96 (Le.refl _) (whole_ok (z := (u.tdiv z)) (q := q ++ F)) ?_ ?_
 · rintro _ _ ⟨h0, rfl, rfl⟩
   exact FQ.panic Tryz.func107 (RP.thr ⟨by simp [mkS, twoS, h0, hd], by simp [mkS, twoS, h0, hd], rfl⟩)
 rintro _ _ ⟨hv, rfl, rfl⟩
 refine ox 2 ?_
 refine X.retL (q) Tryz.func107 (res1 Tryz.results107 rfl) (RP.ret ⟨by simp [mkS, twoS, hv, hd], by simp [mkS, twoS, hv, hd], rfl⟩)
theorem maker18 (hu : val u) (hz : val z) : CallF Tryz.prog G 109 [.int .i64 u, .int .i64 z] (q) (RP (fun v q' => (mkS 18 u z).2 = 0 ∧ v = .int .i64 (mkS 18 u z).1 ∧ q' = q) (fun ch q' => (mkS 18 u z).2 ≠ 0 ∧ ch = [trapE (mkS 18 u z).2] ∧ q' = q)) := by
 refine CallF.of Tryz.func109 Tryz.ntmps109 rfl (fun F cs => ?_)
 have hu2 := hu; have hz2 := hz; unfold val at hu2 hz2
 have hm := val_mod (b := z) hu
 refine xo 8 ?_
 refine XO.cP Tryz.call108 (Le.refl _) (divisor_ok (q := q ++ F)) ?_ ?_
 · rintro _ _ ⟨h0, rfl, rfl⟩
   exact FQ.panic Tryz.func109 (RP.thr ⟨by simp [mkS, twoS, h0], by simp [mkS, twoS, h0], rfl⟩)
 rintro _ _ ⟨hd, rfl, rfl⟩
 refine XO.pu (Pu.rem rfl rfl (by omega)) ?_
 refine XO.cP Tryz.call96 (Le.refl _) (whole_ok (z := (u.tmod z)) (q := q ++ F)) ?_ ?_
 · rintro _ _ ⟨h0, rfl, rfl⟩
   exact FQ.panic Tryz.func109 (RP.thr ⟨by simp [mkS, twoS, h0, hd], by simp [mkS, twoS, h0, hd], rfl⟩)
 rintro _ _ ⟨hv, rfl, rfl⟩
 refine ox 2 ?_
 refine X.retL (q) Tryz.func109 (res1 Tryz.results109 rfl) (RP.ret ⟨by simp [mkS, twoS, hv, hd], by simp [mkS, twoS, hv, hd], rfl⟩)
end
end Go.Proofs.YtcklgodcjnnllaaGreatDoor

