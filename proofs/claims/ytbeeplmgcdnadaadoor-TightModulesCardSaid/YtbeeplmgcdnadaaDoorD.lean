/- What functions of package ops, of its references and of its laws do: contracts of calls, proved by walking their code. -/
import Derived.Test.YtbeeplmgcdnadaaDoorC
import Derived.KernelRfl
set_option maxRecDepth 100000
set_option linter.unusedVariables false
set_option linter.unusedSimpArgs false
namespace Go.Proofs.YtbeeplmgcdnadaaDoor
open Go Go.RowKit Wx
attribute [local irreducible] Wx.lsH Wx.rsH Wx.lsM Wx.rsM Wx.stars

section
variable {G : World} {q : List HP} {a b A : Option Addr} {c d C p p0 p1 p2 i : Nat} {lo hi n cd : Int} {fv : Value} {x : Ins} {t : Cod} {m : Mdl}
set_option maxHeartbeats 2000000 in
theorem threadMay_ok (g : GC q) (hq : CodQ q t) : CallF Tryd.prog G 50 [.agg (codC t).toArray] (q) (Ret fun v q' => v = .bool (decide (codOk t)) ∧ q' = q) := by
 refine CallF.of Tryd.func50 Tryd.ntmps50 rfl (fun F cs => ?_)
 have hn := hq.n; have hni := hq.ni; have hnl := hq.nl
 refine xo 2 ?_
 refine XO.bx fun n1 => ?_
 refine ox 3 ?_
 refine drw ?_
 refine dd [1] ?_
 refine ldD 2 ?_
 refine dd [3] ?_
 refine XD.cF 0 Tryd.call45 (within_ok) ?_
 rintro _ _ ⟨pa1, pb1, rfl, rfl⟩ _ e_; simp only [ca, na] at e_; subst e_
 refine ⟨hlA, ?_⟩
 refine XD.cRV 4 (CallV.c12 Tryd.call62 (within1_ok (p1 := pa1) (p2 := pb1) (lo := 1) (hi := 16) (Cl.of (l := [.int .i64 1]) hasA rfl) (Cl.of (l := [.int .i64 16]) hasA rfl))) ?_
 refine dd [5] ?_
 refine XD.part 8 rfl (fun h1 => ?_) (fun h1 => ?_)
 · skip
   replace h1 := sp h1
   refine dd [7] ?_
   refine ldD 8 ?_
   refine XD.cF 6 Tryd.call45 (within_ok) ?_
   rintro _ _ ⟨pa2, pb2, rfl, rfl⟩ _ e_; simp only [ca, na] at e_; subst e_
   refine ⟨hlA, ?_⟩
   refine XD.cRV 9 (CallV.c12 Tryd.call62 (within1_ok (p1 := pa2) (p2 := pb2) (lo := 0) (hi := 32) (Cl.of (l := [.int .i64 0]) hasA rfl) (Cl.of (l := [.int .i64 32]) hasA rfl))) ?_
   refine dd [10, 11] ?_
   refine XD.part 14 rfl (fun h2 => ?_) (fun h2 => ?_)
   · skip
     replace h2 := sp h2
     refine dd [12] ?_
     refine ldD 13 ?_
     refine dd [14, 15] ?_
     refine ldD 16 ?_
     refine dd [17, 18, 19, 20] ?_
     refine XD.part 23 rfl (fun h3 => ?_) (fun h3 => ?_)
     · skip
       replace h3 := sp h3
       refine dd [21] ?_
       refine ldD 22 ?_
       refine XD.cRL 23 Tryd.call69 (allIns_ok (u := fun x => decide (insOk x)) (hq.i.le leA) hq.ni ((insMay_rdr g).le leA) rfl) ?_
       refine dd [24, 25] ?_
       refine XD.part 28 rfl (fun h4 => ?_) (fun h4 => ?_)
       · skip
         replace h4 := sp h4
         refine dd [26] ?_
         refine ldD 27 ?_
         refine XD.cF 28 Tryd.call45 (within_ok) ?_
         rintro _ _ ⟨pa3, pb3, rfl, rfl⟩ _ e_; simp only [ca, na] at e_; subst e_
         refine ⟨hlA, ?_⟩
         refine XD.cRL 29 Tryd.call48 (allint_ok (u := fun x => decide (within x 0 65536)) (hq.l.le leA) hq.nl (within_rdr (p1 := pa3) (p2 := pb3) (lo := 0) (hi := 65536) (Cl.of (l := [.int .i64 0]) hasA rfl) (Cl.of (l := [.int .i64 65536]) hasA rfl)) rfl) ?_
         refine dd [30, 31] ?_
         refine XD.nil ?_
         refine X.retL (q) Tryd.func50 (res1 Tryd.results50 rfl) ⟨_, rfl, congrArg Value.bool (by first | (rw [Bool.eq_iff_iff]; simp only [decide_eq_true_eq, Bool.false_eq_true, codOk]; simp_all; done) | ((first | (symm; rw [decide_eq_false_iff_not]; done) | (rw [decide_eq_false_iff_not]) | (symm; rw [decide_eq_false_iff_not])); rintro ⟨k1, k2, k3, k4, k5⟩; exact absurd k4 (by assumption))), rfl⟩
       · skip
         replace h4 := sp h4
         refine dd [26, 27, 28, 29, 30, 31] ?_
         refine XD.nil ?_
         refine X.retL (q) Tryd.func50 (res1 Tryd.results50 rfl) ⟨_, rfl, congrArg Value.bool (by first | (rw [Bool.eq_iff_iff]; simp only [decide_eq_true_eq, Bool.false_eq_true, codOk]; simp_all; done) | ((first | (symm; rw [decide_eq_false_iff_not]; done) | (rw [decide_eq_false_iff_not]) | (symm; rw [decide_eq_false_iff_not])); rintro ⟨k1, k2, k3, k4, k5⟩; exact absurd k4 (by assumption))), rfl⟩
     · skip
       replace h3 := sp h3
       refine dd [21, 22, 23, 24, 25, 26, 27, 28, 29, 30, 31] ?_
       refine XD.nil ?_
       refine X.retL (q) Tryd.func50 (res1 Tryd.results50 rfl) ⟨_, rfl, congrArg Value.bool (by first | (rw [Bool.eq_iff_iff]; simp only [decide_eq_true_eq, Bool.false_eq_true, codOk]; simp_all; done) | ((first | (symm; rw [decide_eq_false_iff_not]; done) | (rw [decide_eq_false_iff_not]) | (symm; rw [decide_eq_false_iff_not])); rintro ⟨k1, k2, k3, k4, k5⟩; exact absurd k4 (by assumption))), rfl⟩
   · skip
     replace h2 := sp h2
     refine dd [12, 13, 14, 15, 16, 17, 18, 19, 20, 21, 22, 23, 24, 25, 26, 27, 28, 29, 30, 31] ?_
     refine XD.nil ?_
     refine X.retL (q) Tryd.func50 (res1 Tryd.results50 rfl) ⟨_, rfl, congrArg Value.bool (by first | (rw [Bool.eq_iff_iff]; simp only [decide_eq_true_eq, Bool.false_eq_true, codOk]; simp_all; done) | ((first | (symm; rw [decide_eq_false_iff_not]; done) | (rw [decide_eq_false_iff_not]) | (symm; rw [decide_eq_false_iff_not])); rintro ⟨k1, k2, k3, k4, k5⟩; exact absurd k4 (by assumption))), rfl⟩
 · skip
   replace h1 := sp h1
   refine dd [6, 7, 8, 9, 10, 11, 12, 13, 14, 15, 16, 17, 18, 19, 20, 21, 22, 23, 24, 25, 26, 27, 28, 29, 30, 31] ?_
   refine XD.nil ?_
   refine X.retL (q) Tryd.func50 (res1 Tryd.results50 rfl) ⟨_, rfl, congrArg Value.bool (by first | (rw [Bool.eq_iff_iff]; simp only [decide_eq_true_eq, Bool.false_eq_true, codOk]; simp_all; done) | ((first | (symm; rw [decide_eq_false_iff_not]; done) | (rw [decide_eq_false_iff_not]) | (symm; rw [decide_eq_false_iff_not])); rintro ⟨k1, k2, k3, k4, k5⟩; exact absurd k4 (by assumption))), rfl⟩
set_option maxHeartbeats 4000000 in
theorem Check_ok (g : GC q) (hq : MdlQ q m) : CallF Tryd.prog G 31 [.agg (mdlC m).toArray] (q) (Ret fun v q' => v = .int .i64 (mchk m) ∧ q' = q) := by
 refine CallF.of Tryd.func31 Tryd.ntmps31 rfl (fun F cs => ?_)
 have hnv := hq.nv; have hna := hq.na; have hnc := hq.nc; have hnt := hq.nt
 refine xo 2 ?_
 refine XO.bx fun n1 => ?_
 refine oo 4 ?_
 refine XO.cF Tryd.call45 (within_ok) ?_
 rintro _ _ ⟨pa4, pb4, rfl, rfl⟩ _ e_; simp only [ca, na] at e_; subst e_
 refine ox 4 ?_
 refine drw ?_
 refine dd [0, 1] ?_
 refine ldD 2 ?_
 refine XD.cRV 3 (CallV.c12 Tryd.call62 (within1_ok (p1 := pa4) (p2 := pb4) (lo := 0) (hi := 64) (Cl.of (l := [.int .i64 0]) hasA rfl) (Cl.of (l := [.int .i64 64]) hasA rfl))) ?_
 refine XD.pu 4 rfl (Pu.not rfl) ?_
 refine dd [5] ?_
 refine XD.part 10 rfl (fun h1 => ?_) (fun h1 => ?_)
 · skip
   replace h1 := sp h1
   refine dd [6, 7, 8, 9, 10, 11, 12, 13, 14, 15, 16, 17, 18, 19, 20, 21, 22, 23, 24, 25, 26, 27, 28, 29, 30, 31, 32, 33, 34, 35, 36, 37] ?_
   refine XD.nil ?_
   refine xx 5 ?_
   refine X.sb [2] ?_
   refine X.retL (q) Tryd.func31 (res1 Tryd.results31 rfl) ⟨_, rfl, congrArg (Value.int _) (by unfold mchk; split <;> (rename_i hm; unfold mdlOk at hm; simp_all)), rfl⟩
 · skip
   replace h1 := sp h1
   refine dd [6, 7] ?_
   refine ldD 8 ?_
   refine XD.cRV 9 (CallV.c12 Tryd.call62 (within1_ok (p1 := pa4) (p2 := pb4) (lo := 0) (hi := 64) (Cl.of (l := [.int .i64 0]) hasA rfl) (Cl.of (l := [.int .i64 64]) hasA rfl))) ?_
   refine XD.pu 10 rfl (Pu.not rfl) ?_
   refine dd [11, 12] ?_
   refine XD.part 17 rfl (fun h2 => ?_) (fun h2 => ?_)
   · skip
     replace h2 := sp h2
     refine dd [13, 14, 15, 16, 17, 18, 19, 20, 21, 22, 23, 24, 25, 26, 27, 28, 29, 30, 31, 32, 33, 34, 35, 36, 37] ?_
     refine XD.nil ?_
     refine xx 5 ?_
     refine X.sb [2] ?_
     refine X.retL (q) Tryd.func31 (res1 Tryd.results31 rfl) ⟨_, rfl, congrArg (Value.int _) (by unfold mchk; split <;> (rename_i hm; unfold mdlOk at hm; simp_all)), rfl⟩
   · skip
     replace h2 := sp h2
     refine dd [13] ?_
     refine ldD 14 ?_
     refine XD.cRL 15 Tryd.call46 (allint64_ok (u := fun x => decide (within x (-2147483648) 2147483647)) (hq.v.le leA) hq.nv valueMay_rdr rfl) ?_
     refine XD.pu 16 rfl (Pu.not rfl) ?_
     refine dd [17, 18] ?_
     refine XD.part 23 rfl (fun h3 => ?_) (fun h3 => ?_)
     · skip
       replace h3 := sp h3
       refine dd [19, 20, 21, 22, 23, 24, 25, 26, 27, 28, 29, 30, 31, 32, 33, 34, 35, 36, 37] ?_
       refine XD.nil ?_
       refine xx 5 ?_
       refine X.sb [2] ?_
       refine X.retL (q) Tryd.func31 (res1 Tryd.results31 rfl) ⟨_, rfl, congrArg (Value.int _) (by unfold mchk; split <;> (rename_i hm; unfold mdlOk at hm; simp_all)), rfl⟩
     · skip
       replace h3 := sp h3
       refine dd [19] ?_
       refine ldD 20 ?_
       refine XD.cF 21 Tryd.call45 (within_ok) ?_
       rintro _ _ ⟨pa5, pb5, rfl, rfl⟩ _ e_; simp only [ca, na] at e_; subst e_
       refine ⟨hlA, ?_⟩
       refine XD.cRL 22 Tryd.call48 (allint_ok (u := fun x => decide (within x 0 256)) (hq.a.le leA) hq.na (within_rdr (p1 := pa5) (p2 := pb5) (lo := 0) (hi := 256) (Cl.of (l := [.int .i64 0]) hasA rfl) (Cl.of (l := [.int .i64 256]) hasA rfl)) rfl) ?_
       refine XD.pu 23 rfl (Pu.not rfl) ?_
       refine dd [24, 25] ?_
       refine XD.part 30 rfl (fun h4 => ?_) (fun h4 => ?_)
       · skip
         replace h4 := sp h4
         refine dd [26, 27, 28, 29, 30, 31, 32, 33, 34, 35, 36, 37] ?_
         refine XD.nil ?_
         refine xx 5 ?_
         refine X.sb [2] ?_
         refine X.retL (q) Tryd.func31 (res1 Tryd.results31 rfl) ⟨_, rfl, congrArg (Value.int _) (by unfold mchk; split <;> (rename_i hm; unfold mdlOk at hm; simp_all)), rfl⟩
       · skip
         replace h4 := sp h4
         refine dd [26] ?_
         refine ldD 27 ?_
         refine XD.cF 28 Tryd.call45 (within_ok) ?_
         rintro _ _ ⟨pa6, pb6, rfl, rfl⟩ _ e_; simp only [ca, na] at e_; subst e_
         refine ⟨hlA, ?_⟩
         refine XD.cRL 29 Tryd.call48 (allint_ok (u := fun x => decide (within x 1 16)) (hq.c.le leA) hq.nc (within_rdr (p1 := pa6) (p2 := pb6) (lo := 1) (hi := 16) (Cl.of (l := [.int .i64 1]) hasA rfl) (Cl.of (l := [.int .i64 16]) hasA rfl)) rfl) ?_
         refine XD.pu 30 rfl (Pu.not rfl) ?_
         refine dd [31, 32] ?_
         refine XD.part 37 rfl (fun h5 => ?_) (fun h5 => ?_)
         · skip
           replace h5 := sp h5
           refine dd [33, 34, 35, 36, 37] ?_
           refine XD.nil ?_
           refine xx 5 ?_
           refine X.sb [2] ?_
           refine X.retL (q) Tryd.func31 (res1 Tryd.results31 rfl) ⟨_, rfl, congrArg (Value.int _) (by unfold mchk; split <;> (rename_i hm; unfold mdlOk at hm; simp_all)), rfl⟩
         · skip
           replace h5 := sp h5
           refine dd [33] ?_
           refine ldD 34 ?_
           refine XD.cRL 35 Tryd.call49 (allCode_ok (u := fun x => decide (codOk x)) (hq.t.le leA) hq.nt (fun q1 h1 x hx => CallV.c10 Tryd.call50 (threadMay_ok (g.le (h1.trans leA)) ((hq.x x hx).le (h1.trans leA)))) rfl) ?_
           refine XD.pu 36 rfl (Pu.not rfl) ?_
           refine dd [37] ?_
           refine XD.nil ?_
           refine X.part 42 rfl (fun h6 => ?_) (fun h6 => ?_)
           · skip
             replace h6 := sp h6
             refine xx 5 ?_
             refine X.sb [2] ?_
             refine X.retL (q) Tryd.func31 (res1 Tryd.results31 rfl) ⟨_, rfl, congrArg (Value.int _) (by unfold mchk; split <;> (rename_i hm; unfold mdlOk at hm; simp_all)), rfl⟩
           · skip
             replace h6 := sp h6
             refine xx 6 ?_
             refine X.sb [2] ?_
             refine X.retL (q) Tryd.func31 (res1 Tryd.results31 rfl) ⟨_, rfl, congrArg (Value.int _) (by unfold mchk; split <;> (rename_i hm; unfold mdlOk at hm; simp_all)), rfl⟩
end
end Go.Proofs.YtbeeplmgcdnadaaDoor

