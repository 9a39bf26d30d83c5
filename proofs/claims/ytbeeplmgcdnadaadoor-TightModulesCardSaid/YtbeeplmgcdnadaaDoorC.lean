/- What functions of package ops, of its references and of its laws do: contracts of calls, proved by walking their code. -/
import Derived.Test.YtbeeplmgcdnadaaDoorB
import Derived.KernelRfl
set_option maxRecDepth 100000
set_option linter.unusedVariables false
set_option linter.unusedSimpArgs false
namespace Go.Proofs.YtbeeplmgcdnadaaDoor
open Go Go.RowKit Wx
attribute [local irreducible] Wx.lsH Wx.rsH Wx.lsM Wx.rsM Wx.stars

section
variable {G : World} {q : List HP} {a b A : Option Addr} {c d C p p0 p1 p2 i : Nat} {lo hi n cd : Int} {fv : Value} {x : Ins} {t : Cod} {m : Mdl}
theorem what_at {L : List (ByteArray × Int)} (h : L.map (·.2) = whatL) {k : Nat} (hk : k < L.length) (h1 : 1 ≤ k) : k < 35 ∧ ((L[k].2 == 1 || L[k].2 == 2) = nmA k) ∧ ((L[k].2 == 2) = decide ((k : Int) = 26)) ∧ ((L[k].2 == 3) = decide ((k : Int) = 1)) := by
  have hl : L.length = 35 := by rw [← List.length_map (f := fun x : ByteArray × Int => x.2), h]; rfl
  have hk2 : k < 35 := by omega
  have e : L[k].2 = whatL[k]'hk2 := by
    have := List.getElem_map (fun x : ByteArray × Int => x.2) (l := L) (i := k) (h := by simpa using hk)
    rw [← this]; simp only [h]; rfl
  rw [e]
  exact ⟨hk2, whatL_at ⟨k, hk2⟩ h1⟩
theorem partMay_ok {bb : Bool} : CallF Tryd.prog G 86 [.int .i64 n, .bool bb] (q) (Ret fun v q' => v = .bool (decide (if bb = true then 0 ≤ n ∧ n ≤ 65535 else n = 0)) ∧ q' = q) := by
 refine CallF.of Tryd.func86 Tryd.ntmps86 rfl (fun F cs => ?_)
 refine xx 9 ?_
 refine X.part 5 rfl (fun h1 => ?_) (fun h1 => ?_)
 · skip
   replace h1 := sp h1
   refine xo 6 ?_
   refine XO.sb [8, 4, 0] ?_
   apply XO.cutAnd 3 11 8 rfl
   · skip
     intro g2 M2; have h2 := sp g2
     refine oo 3 ?_
     exact XO.fin M2 ⟨andT g2, subB⟩
   · skip
     intro g2 M2; have h2 := sp g2
     refine oo 3 ?_
     exact XO.fin M2 ⟨andF g2, subB⟩
   · skip
     refine ox 2 ?_
     refine X.retL (q) Tryd.func86 (res1 Tryd.results86 rfl) ⟨_, rfl, congrArg Value.bool (by rw [Bool.eq_iff_iff, decide_eq_true_iff]; simp_all), rfl⟩
 · skip
   replace h1 := sp h1
   refine xx 8 ?_
   refine X.retL (q) Tryd.func86 (res1 Tryd.results86 rfl) ⟨_, rfl, congrArg Value.bool (by rw [Bool.eq_iff_iff, decide_eq_true_iff]; simp_all), rfl⟩
set_option maxHeartbeats 1000000 in
theorem formOf_ok (g : GC q) : CallF Tryd.prog G 85 [.int .i64 cd] (q) (Ret fun v q' => ((¬ (1 ≤ cd ∧ cd ≤ 34) ∧ v = .tuple [.agg #[.string ⟨#[]⟩, .bool false, .bool false, .bool false], .bool false].toArray) ∨ ((1 ≤ cd ∧ cd ≤ 34) ∧ ∃ s, v = .tuple [.agg [.string s, .bool (nmA cd), .bool (decide (cd = 26)), .bool (decide (cd = 1))].toArray, .bool true].toArray)) ∧ q' = q) := by
 refine CallF.of Tryd.func85 Tryd.ntmps85 rfl (fun F cs => ?_)
 obtain ⟨L, hL, hs⟩ := g
 have hl : L.length = 35 := by rw [← List.length_map (f := fun x : ByteArray × Int => x.2), hL]; rfl
 refine xo 2 ?_
 refine XO.al Tryd.zeroValue140 fun n1 => ?_
 refine oo 8 ?_
 refine XO.sb [7, 3, 2, 0] ?_
 apply XO.cutOr 3 10 7 rfl
 · skip
   intro g1 M1; have h1 := sp g1
   refine oo 3 ?_
   exact XO.fin M1 ⟨orF g1, subB⟩
 · skip
   intro g1 M1; have h1 := sp g1
   refine oo 3 ?_
   exact XO.fin M1 ⟨orT g1, subB⟩
 · skip
   refine ox 1 ?_
   refine X.part 10 rfl (fun h1 => ?_) (fun h1 => ?_)
   · skip
     replace h1 := sp h1
     refine xo 4 ?_
     refine stA ?_
     refine ox 2 ?_
     refine X.retL (q) Tryd.func85 (resC Tryd.results85 (ResOk.cell rfl (LV.agg Tryd.isAgg140 Tryd.sizeOf140 hasA rfl) (ResOk.tmp rfl ResOk.nil))) ⟨_, rfl, .inl ⟨by omega, rfl⟩, rfl⟩
   · skip
     replace h1 := sp h1
     refine xo 5 ?_
     have hr : 1 ≤ cd ∧ cd ≤ 34 := (by omega)
     obtain ⟨_, w1, w2, w3⟩ := what_at hL (k := cd.toNat) (by omega) (by omega); rw [show ((cd.toNat : Nat) : Int) = cd by omega] at w1 w2 w3
     refine XO.pu (Pu.indexAddrA rfl rfl Tryd.underlying152 Tryd.sizeOf151 (by omega) (by omega)) ?_
     refine XO.ldS (n := cd.toNat) Tryd.isAgg151 Tryd.sizeOf151 hs (by omega) ?_
     refine XO.al Tryd.zeroValue151 fun n2 => ?_
     refine stA ?_
     refine oo 4 ?_
     refine ld ?_
     refine oo 1 ?_
     refine ld ?_
     refine oo 2 ?_
     refine XO.sb [20, 16, 4, 3, 2] ?_
     apply XO.cutOr 4 24 20 rfl
     · skip
       intro g2 M2; have h2 := sp g2
       refine oo 1 ?_
       refine ld ?_
       refine oo 2 ?_
       exact XO.fin M2 ⟨orF g2, subB⟩
     · skip
       intro g2 M2; have h2 := sp g2
       refine oo 4 ?_
       exact XO.fin M2 ⟨orT g2, subB⟩
     · skip
       refine oo 1 ?_
       refine ld ?_
       refine oo 2 ?_
       refine ld ?_
       refine oo 2 ?_
       refine stA ?_
       refine ox 2 ?_
       refine X.sb [3, 2] ?_
       refine X.retL (q) Tryd.func85 (resC Tryd.results85 (ResOk.cell rfl (LV.agg Tryd.isAgg140 Tryd.sizeOf140 hasA rfl) (ResOk.tmp rfl ResOk.nil))) ⟨_, rfl, .inr ⟨hr, (L[cd.toNat]'(by omega)).1, by rw [← w1, ← w2, ← w3]; rfl⟩, rfl⟩
set_option maxHeartbeats 2000000 in
theorem insMay_ok (g : GC q) : CallF Tryd.prog G 70 [.agg (insC x).toArray] (q) (Ret fun v q' => v = .bool (decide (insOk x)) ∧ q' = q) := by
 refine CallF.of Tryd.func70 Tryd.ntmps70 rfl (fun F cs => ?_)
 obtain ⟨xc, xa, xb, xn⟩ := x; simp only [insC]
 refine xo 2 ?_
 refine XO.bx fun n1 => ?_
 refine oo 5 ?_
 refine ld ?_
 refine XO.cX Tryd.call85 (Le.refl _) (formOf_ok (cd := xc) (g.le leA)) ?_
 rintro _ _ ⟨(⟨hr, rfl⟩ | ⟨hr, s, rfl⟩), rfl⟩
 · skip
   refine oo 3 ?_
   refine XO.al Tryd.zeroValue140 fun n2 => ?_
   refine stA ?_
   refine oo 6 ?_
   refine XO.pu (Pu.not rfl) ?_
   refine oo 1 ?_
   refine XO.sb [13, 3, 2, 1] ?_
   apply XO.cutOr 7 20 13 rfl
   · skip
     intro g1 M1; have h1 := sp g1
     refine oo 1 ?_
     refine ld ?_
     refine oo 1 ?_
     refine ld ?_
     refine XO.cR Tryd.call86 (partMay_ok) ?_
     refine XO.pu (Pu.not rfl) ?_
     refine oo 1 ?_
     exact XO.fin M1 ⟨orF g1, subB⟩
   · skip
     intro g1 M1; have h1 := sp g1
     refine oo 7 ?_
     exact XO.fin M1 ⟨orT g1, subB⟩
   · skip
     refine oo 1 ?_
     refine XO.sb [21, 3, 2, 1] ?_
     apply XO.cutOr 7 28 21 rfl
     · skip
       intro g1 M1; have h1 := sp g1
       refine oo 1 ?_
       refine ld ?_
       refine oo 1 ?_
       refine ld ?_
       refine XO.cR Tryd.call86 (partMay_ok) ?_
       refine XO.pu (Pu.not rfl) ?_
       refine oo 1 ?_
       exact XO.fin M1 ⟨orF g1, subB⟩
     · skip
       intro g1 M1; have h1 := sp g1
       refine oo 7 ?_
       exact XO.fin M1 ⟨orT g1, subB⟩
     · skip
       refine ox 1 ?_
       refine X.part 28 rfl (fun h1 => ?_) (fun h1 => ?_)
       · skip
         replace h1 := sp h1
         refine xx 5 ?_
         refine X.retL (q) Tryd.func70 (res1 Tryd.results70 rfl) ⟨_, rfl, congrArg Value.bool (by rw [Bool.eq_iff_iff]; simp only [decide_eq_true_eq, Bool.false_eq_true, insOk]; first | (simp_all; done) | (simp_all; omega) | (simp; intro k; exact absurd k hr)), rfl⟩
       · skip
         replace h1 := sp h1
         refine xo 6 ?_
         refine ld ?_
         refine ox 1 ?_
         refine X.sb [30, 2, 1] ?_
         refine X.part 30 rfl (fun h2 => ?_) (fun h2 => ?_)
         · skip
           replace h2 := sp h2
           refine xo 4 ?_
           refine ld ?_
           refine XO.cR Tryd.call47 (valueMay_ok) ?_
           refine ox 2 ?_
           refine X.retL (q) Tryd.func70 (res1 Tryd.results70 rfl) ⟨_, rfl, congrArg Value.bool (by rw [Bool.eq_iff_iff]; simp only [decide_eq_true_eq, Bool.false_eq_true, insOk]; first | (simp_all; done) | (simp_all; omega) | (simp; intro k; exact absurd k hr)), rfl⟩
         · skip
           replace h2 := sp h2
           refine xo 5 ?_
           refine ld ?_
           refine ox 3 ?_
           refine X.retL (q) Tryd.func70 (res1 Tryd.results70 rfl) ⟨_, rfl, congrArg Value.bool (by rw [Bool.eq_iff_iff]; simp only [decide_eq_true_eq, Bool.false_eq_true, insOk]; first | (simp_all; done) | (simp_all; omega) | (simp; intro k; exact absurd k hr)), rfl⟩
 · skip
   refine oo 3 ?_
   refine XO.al Tryd.zeroValue140 fun n3 => ?_
   refine stA ?_
   refine oo 6 ?_
   refine XO.pu (Pu.not rfl) ?_
   refine oo 1 ?_
   refine XO.sb [13, 3, 2, 1] ?_
   apply XO.cutOr 7 20 13 rfl
   · skip
     intro g1 M1; have h1 := sp g1
     refine oo 1 ?_
     refine ld ?_
     refine oo 1 ?_
     refine ld ?_
     refine XO.cR Tryd.call86 (partMay_ok) ?_
     refine XO.pu (Pu.not rfl) ?_
     refine oo 1 ?_
     exact XO.fin M1 ⟨orF g1, subB⟩
   · skip
     intro g1 M1; have h1 := sp g1
     refine oo 7 ?_
     exact XO.fin M1 ⟨orT g1, subB⟩
   · skip
     refine oo 1 ?_
     refine XO.sb [21, 3, 2, 1] ?_
     apply XO.cutOr 7 28 21 rfl
     · skip
       intro g1 M1; have h1 := sp g1
       refine oo 1 ?_
       refine ld ?_
       refine oo 1 ?_
       refine ld ?_
       refine XO.cR Tryd.call86 (partMay_ok) ?_
       refine XO.pu (Pu.not rfl) ?_
       refine oo 1 ?_
       exact XO.fin M1 ⟨orF g1, subB⟩
     · skip
       intro g1 M1; have h1 := sp g1
       refine oo 7 ?_
       exact XO.fin M1 ⟨orT g1, subB⟩
     · skip
       refine ox 1 ?_
       refine X.part 28 rfl (fun h1 => ?_) (fun h1 => ?_)
       · skip
         replace h1 := sp h1
         refine xx 5 ?_
         refine X.retL (q) Tryd.func70 (res1 Tryd.results70 rfl) ⟨_, rfl, congrArg Value.bool (by rw [Bool.eq_iff_iff]; simp only [decide_eq_true_eq, Bool.false_eq_true, insOk]; first | (simp_all [within]; done) | (by_cases e1 : nmA xc = true <;> by_cases e2 : xc = 26 <;> by_cases e3 : xc = 1 <;> simp_all [within] <;> omega)), rfl⟩
       · skip
         replace h1 := sp h1
         refine xo 6 ?_
         refine ld ?_
         refine ox 1 ?_
         refine X.sb [30, 2, 1] ?_
         refine X.part 30 rfl (fun h2 => ?_) (fun h2 => ?_)
         · skip
           replace h2 := sp h2
           refine xo 4 ?_
           refine ld ?_
           refine XO.cR Tryd.call47 (valueMay_ok) ?_
           refine ox 2 ?_
           refine X.retL (q) Tryd.func70 (res1 Tryd.results70 rfl) ⟨_, rfl, congrArg Value.bool (by rw [Bool.eq_iff_iff]; simp only [decide_eq_true_eq, Bool.false_eq_true, insOk]; first | (simp_all [within]; done) | (by_cases e1 : nmA xc = true <;> by_cases e2 : xc = 26 <;> by_cases e3 : xc = 1 <;> simp_all [within] <;> omega)), rfl⟩
         · skip
           replace h2 := sp h2
           refine xo 5 ?_
           refine ld ?_
           refine ox 3 ?_
           refine X.retL (q) Tryd.func70 (res1 Tryd.results70 rfl) ⟨_, rfl, congrArg Value.bool (by rw [Bool.eq_iff_iff]; simp only [decide_eq_true_eq, Bool.false_eq_true, insOk]; first | (simp_all [within]; done) | (by_cases e1 : nmA xc = true <;> by_cases e2 : xc = 26 <;> by_cases e3 : xc = 1 <;> simp_all [within] <;> omega)), rfl⟩
theorem insMay_rdr {l : List Ins} (g : GC q) : Rdr Tryd.prog G (.func (.func 70) #[] #[]) (fun x => .agg (insC x).toArray) (fun x => .bool (decide (insOk x))) q l :=
  fun q1 h x _ => CallV.c10 Tryd.call70 (insMay_ok (g.le h))
end
end Go.Proofs.YtbeeplmgcdnadaaDoor

