/- What functions of package vm, of its references and of its laws do: contracts of calls, proved by walking their code. -/
import Derived.Test.YtcklgodcjnnllaaGreatDoorRc
import Derived.KernelRfl
set_option maxRecDepth 100000
set_option linter.unusedVariables false
set_option linter.unusedSimpArgs false
namespace Go.Proofs.YtcklgodcjnnllaaGreatDoor
open Go Go.RowKit Wx
attribute [local irreducible] Wx.lsH Wx.rsH Wx.lsM Wx.rsM Wx.stars

theorem wrap_neg {z : Int} (h : -2147483648 ≤ z ∧ z ≤ 2147483648) : IntKind.i64.wrap (0 - z) = -z := by
  rw [wrap64_of (by omega) (by omega)]; omega
theorem mkS_bin {c a b : Int} (h : 10 ≤ c ∧ c ≤ 18) : mkS c a b = twoS (c - 7) a b := by unfold mkS; rw [if_neg (by omega), if_neg (by omega), if_neg (by omega)]
section
variable {G : World} {q pre : List HP} {a b A : Option Addr} {c d C p p0 p1 p2 i : Nat} {lo hi n cd dep : Int} {fv : Value} {x y : Ins} {t : Cod} {m : Mdl} {at_ : Int}
variable {l cells loc : List Int} {idx arr z k u pc code : Int} {x1 x2 x3 x4 x5 x6 old : Value} {pm cc lc n1 n2 : Nat} {la cda : Option Addr}
variable {f f2 : Frm} {last : Int} {kk : Nat}
set_option maxHeartbeats 32000000 in
theorem RDo_ok (hq : MdlQ q m) (hf : FrmQ q f) (hc : Sees q cda (cells.map I64)) (hm : mayS m f 0) (hcnt : (cells.length : Int) = cntS m) (hcap : f.stk.length ≤ f.sc) : CallF Tryz.prog G 28 [.agg (mdlC m).toArray, .agg (frmC f).toArray, .slice cda cells.length cc] (q) (Ret fun v q' => ∃ la lc sa sc W, v = .tuple [.agg (frmC ⟨f.code, (doAt m f cells).1.1, (doAt m f cells).1.2.1, (doAt m f cells).1.2.2, la, lc, sa, sc⟩).toArray, .agg (didC (doAt m f cells).2).toArray].toArray ∧ FrmW W f la sa (doAt m f cells).1.2.1 (doAt m f cells).1.2.2 ∧ q' = W :: q) := by
  refine CallF.of Tryz.func28 Tryz.ntmps28 rfl (fun F cs => ?_)
  obtain ⟨hS, hl32, hs27⟩ := may_step hm hcnt; have hm0 := hm; obtain ⟨hm1, hm2, hth, hm3, hm4, hm5⟩ := hm0
  have hlen := flatMap_len (f := codC) (sz := 4) (fun _ => rfl) m.threads; have hnt := hq.nt
  have hpc : f.pc.toNat < m.threads[f.code.toNat].ins.length := by omega
  have hql := hq.x _ (List.getElem_mem hth); have hni := hql.ni; have hsi := hql.i; have hlen2 := flatMap_len (f := insC) (sz := 4) (fun _ => rfl) m.threads[f.code.toNat].ins
  have hxe : insAt m f = m.threads[f.code.toNat].ins[f.pc.toNat] := by unfold insAt; rw [show thrAt m f.code = m.threads[f.code.toNat] from getD_lt hth]; exact getD_lt hpc
  have hp65 := (vOk hm1 hth).2.1
  have hdep := hS.dep; have hxc := hS.ins.1; have hcel := hS.cel; have hsm := sumI_take_le hS.ok m.arrays.length; rw [List.take_length] at hsm; have hmv := hS.ok.2.2.1.1
  refine xo 2 ?_
  refine XO.ef (Ef.box rfl) ?_
  rintro _ _ ⟨n1, rfl, rfl⟩
  refine XO.ef (Ef.box rfl) ?_
  rintro _ _ ⟨n2, rfl, rfl⟩
  refine XO.ef (Ef.alloc Tryz.zeroValue28) ?_
  rintro _ _ ⟨n3, rfl, rfl⟩
  refine XO.ef (Ef.alloc Tryz.zeroValue74) ?_
  rintro _ _ ⟨n4, rfl, rfl⟩
  refine ox 2 ?_
  refine X.draw [] Tryz.mixed (by kernel_rfl) (by kernel_rfl) rfl ?_
  refine dd [0] ?_
  refine XD.ld 1 Tryz.isAgg24 ?_
  refine dd [2] ?_
  refine XD.ld 3 Tryz.isAgg3 ?_
  refine XD.adr hq.t (by rw [hlen]; omega) (fun b1 o1 e1 => ?_)
  have hs1 := hq.t; rw [e1] at hs1
  refine XD.know 20 (.slice (some ⟨b1, o1, none⟩) m.threads.length m.tc) rfl (by rw [e1]) ?_
  refine dd [4, 5] ?_
  refine XD.ld 6 Tryz.isAgg44 ?_ (hc := (Cl.row (j := f.code) hs1 leA (fun _ => rfl) hth (by omega) 2 _ rfl))
  refine dd [7] ?_
  refine XD.ld 8 Tryz.isAgg3 ?_
  refine XD.adr hsi (by rw [hlen2]; omega) (fun b2 o2 e2 => ?_)
  have hs2 := hsi; rw [e2] at hs2
  refine XD.know 25 (.slice (some ⟨b2, o2, none⟩) m.threads[f.code.toNat].ins.length m.threads[f.code.toNat].ic) rfl (by rw [e2]) ?_
  refine dd [9] ?_
  refine XD.ldS 10 (m := f.pc.toNat) Tryz.isAgg52 Tryz.sizeOf52 hs2 hpc ?_
  refine XD.know 29 (.agg (insC (insAt m f)).toArray) rfl (by rw [hxe]) ?_
  refine XD.ef 11 rfl (Ef.alloc Tryz.zeroValue52) ?_
  rintro _ _ ⟨n5, rfl, rfl⟩
  refine ⟨(hlA (h := by repeat first | exact trivial | refine ⟨clA, ?_⟩ | refine ⟨(Cl.row (j := f.code) hs1 leA (fun _ => rfl) hth (by omega) 2 _ rfl), ?_⟩ | refine ⟨Cl.e1 hsc leA hlt (by omega), ?_⟩ | refine ⟨Cl.e1 hsl leA hlt (by omega), ?_⟩ | refine ⟨Cl.row (j := f.pc) (sz := 4) hs2 leA (fun _ => rfl) hpc (by omega) 0 _ rfl, ?_⟩ | refine ⟨Cl.row (j := f.pc) (sz := 4) hs2 leA (fun _ => rfl) hpc (by omega) 1 _ rfl, ?_⟩ | refine ⟨Cl.row (j := f.pc) (sz := 4) hs2 leA (fun _ => rfl) hpc (by omega) 2 _ rfl, ?_⟩ | refine ⟨Cl.row (j := f.pc) (sz := 4) hs2 leA (fun _ => rfl) hpc (by omega) 3 _ rfl, ?_⟩)), ?_⟩
  refine XD.ef0 12 rfl (Ef.stA Tryz.sizeOf52) ?_
  rintro _ _ ⟨rfl, rfl⟩
  refine ⟨trivial, ?_⟩
  refine XD.nil ?_
  refine xo 2 ?_
  refine XO.ldA Tryz.isAgg28 Tryz.sizeOf28 ?_
  refine XO.ef (Ef.alloc Tryz.zeroValue28) ?_
  rintro _ _ ⟨n6, rfl, rfl⟩
  refine XO.ef0 (Ef.stA Tryz.sizeOf28) ?_
  rintro _ _ ⟨rfl, rfl⟩
  refine oo 4 ?_
  refine XO.ld Tryz.isAgg3 ?_
  refine oo 2 ?_
  refine XO.ef0 (Ef.st Tryz.sizeOf3) ?_
  rintro _ _ ⟨rfl, rfl⟩
  refine ox 2 ?_
  refine X.sb [9, 8, 7, 6, 4, 3, 2] ?_
  refine X.draw [] Tryz.mixed (by kernel_rfl) (by kernel_rfl) rfl ?_
  refine dd [0] ?_
  refine XD.ld 1 Tryz.isAgg50 ?_
  refine dd [2] ?_
  refine XD.ld 3 Tryz.isAgg22 ?_
  refine dd [4, 5, 6] ?_
  refine XD.nil ?_
  refine xo 3 ?_
  refine XO.ef (Ef.alloc Tryz.zeroValue74) ?_
  rintro _ _ ⟨n7, rfl, rfl⟩
  refine XO.ef0 (Ef.stA Tryz.sizeOf74) ?_
  rintro _ _ ⟨rfl, rfl⟩
  refine ox 12 ?_
  try clear hlen2
  try clear hlen
  try clear hxe
  try clear hsi
  try clear hni
  try clear hql
  try clear hs2
  try clear hs1
  try clear e2
  try clear e1
  try clear hp65
  try clear hnt
  try clear hpc
  try clear hm4
  try clear hm3
  try clear hm5
  have hcase : (insAt m f).c = 1 ∨ (insAt m f).c = 2 ∨ (insAt m f).c = 3 ∨ (insAt m f).c = 4 ∨ (insAt m f).c = 5 ∨ (insAt m f).c = 6 ∨ (insAt m f).c = 7 ∨ (insAt m f).c = 8 ∨ (insAt m f).c = 9 ∨ (10 ≤ (insAt m f).c ∧ (insAt m f).c ≤ 18) ∨ (19 ≤ (insAt m f).c ∧ (insAt m f).c ≤ 34) := by omega
  rcases hcase with hx | hx | hx | hx | hx | hx | hx | hx | hx | hx | hx
  · skip
    have hdx : (0 : Int) ≤ f.stk.length := by omega
    refine X.part 42 rfl (fun hn1 => ?_) (fun hn1 => ?_)
    · skip
      replace hn1 := sp hn1
      refine xo 3 ?_
      refine XO.ld Tryz.isAgg22 ?_
      refine oo 2 ?_
      refine XO.adr hf.s (by simp; omega) (fun bs os es => ?_)
      have hss := hf.s; rw [es] at hss
      refine XO.know 44 (.slice (some ⟨bs, os, none⟩) f.stk.length f.sc) rfl (by rw [es]) ?_
      refine oo 1 ?_
      refine XO.ld Tryz.isAgg2 ?_ (hc := (Cl.e1 (n := f.stk.length - 1) hss leA (by omega) (by omega)))
      refine XO.know 48 (.int .i64 (lastS f.stk)) rfl (congrArg (Value.int .i64) (getD_lt (by omega)).symm) ?_
      refine ox 8 ?_
      refine X.sb [50, 13, 14, 12, 11, 10, 9, 8, 7, 6, 4, 3, 2] ?_
      refine X.part 50 rfl (fun hn2 => ?_) (fun hn2 => ?_)
      · skip
        replace hn2 := sp hn2
        refine xo 3 ?_
        refine XO.ld Tryz.isAgg22 ?_
        refine oo 2 ?_
        refine XO.know 52 (.slice (some ⟨bs, os, none⟩) f.stk.length f.sc) rfl (by rw [es]) ?_
        refine oo 1 ?_
        refine XO.ld Tryz.isAgg2 ?_ (hc := (Cl.e1 (n := f.stk.length - 2) hss leA (by omega) (by omega)))
        refine XO.know 56 (.int .i64 (aheadS f.stk)) rfl (congrArg (Value.int .i64) (getD_lt (by omega)).symm) ?_
        refine ox 10 ?_
        refine X.know 57 (.bool true) rfl (congrArg Value.bool (by first | exact decide_eq_true (by omega) | exact decide_eq_false (by omega) | (rw [beq_iff_eq]; omega) | (rw [beq_eq_false_iff_ne]; omega) | (rw [bne_iff_ne]; omega) | (rw [bne_eq_false_iff_eq]; omega))) ?_
        refine xo 3 ?_
        refine XO.ldA Tryz.isAgg28 Tryz.sizeOf28 ?_
        refine oo 1 ?_
        refine XO.ld Tryz.isAgg2 ?_
        refine XO.cX Tryz.call43 (Le.refl _) (put_ok (f := f) (kk := 0) (z := (insAt m f).n) (hf.le leA) (by omega) hcap (by omega)) ?_
        rintro _ _ ⟨a1, c1, rfl, rfl⟩
        refine oo 1 ?_
        refine XO.ef0 (Ef.st Tryz.sizeOf22) ?_
        rintro _ _ ⟨rfl, rfl⟩
        refine ox 2 ?_
        refine X.sb [13, 12, 9, 8, 7, 6, 4, 3] ?_
        refine X.draw [] Tryz.mixed (by kernel_rfl) (by kernel_rfl) rfl ?_
        refine XD.loadA 0 rfl rfl Tryz.isAgg28 Tryz.sizeOf28 hasA (by rfl) ?_
        refine XD.loadA 1 rfl rfl Tryz.isAgg74 Tryz.sizeOf74 hasA (by rfl) ?_
        refine XD.ef0 2 rfl (Ef.stA Tryz.sizeOf28) ?_
        rintro _ _ ⟨rfl, rfl⟩
        refine ⟨(hlA (h := by repeat first | exact trivial | refine ⟨clA, ?_⟩ | refine ⟨(Cl.row (j := f.code) hs1 leA (fun _ => rfl) hth (by omega) 2 _ rfl), ?_⟩ | refine ⟨Cl.e1 hsc leA hlt (by omega), ?_⟩ | refine ⟨Cl.e1 hsl leA hlt (by omega), ?_⟩ | refine ⟨Cl.row (j := f.pc) (sz := 4) hs2 leA (fun _ => rfl) hpc (by omega) 0 _ rfl, ?_⟩ | refine ⟨Cl.row (j := f.pc) (sz := 4) hs2 leA (fun _ => rfl) hpc (by omega) 1 _ rfl, ?_⟩ | refine ⟨Cl.row (j := f.pc) (sz := 4) hs2 leA (fun _ => rfl) hpc (by omega) 2 _ rfl, ?_⟩ | refine ⟨Cl.row (j := f.pc) (sz := 4) hs2 leA (fun _ => rfl) hpc (by omega) 3 _ rfl, ?_⟩)), ?_⟩
        refine XD.ef0 3 rfl (Ef.stA Tryz.sizeOf74) ?_
        rintro _ _ ⟨rfl, rfl⟩
        refine ⟨trivial, ?_⟩
        refine XD.nil ?_
        have hD : doAt m f cells = ((f.pc + 1, f.loc, f.stk ++ [(insAt m f).n]), dPlain) := by unfold doAt doS; rw [if_neg (by omega), if_neg (by omega), if_neg (by omega), if_neg (by omega), if_neg (by omega), if_neg (by omega), if_neg (by omega)]; unfold plainS; rw [if_pos hx]
        have hst0 : f.stk.take (f.stk.length - 0) = f.stk := List.take_of_length_le (by omega)
        rw [hst0]
        refine X.retL (lsH I64 2 a1 c1 (f.stk ++ [(insAt m f).n]) :: q) Tryz.func28 (resC Tryz.results28 (ResOk.cell rfl (LV.agg Tryz.isAgg28 Tryz.sizeOf28 hasA rfl) (ResOk.cell rfl (LV.agg Tryz.isAgg74 Tryz.sizeOf74 hasA rfl) ResOk.nil))) ⟨_, rfl, f.la, f.lc, a1, c1, _, by rw [hD]; rfl, by rw [hD]; exact ⟨.inl ⟨rfl, rfl⟩, .inr (Sees.lsH [])⟩, rfl⟩
      · skip
        replace hn2 := sp hn2
        refine xx 10 ?_
        refine X.know 57 (.bool true) rfl (congrArg Value.bool (by first | exact decide_eq_true (by omega) | exact decide_eq_false (by omega) | (rw [beq_iff_eq]; omega) | (rw [beq_eq_false_iff_ne]; omega) | (rw [bne_iff_ne]; omega) | (rw [bne_eq_false_iff_eq]; omega))) ?_
        refine xo 3 ?_
        refine XO.ldA Tryz.isAgg28 Tryz.sizeOf28 ?_
        refine oo 1 ?_
        refine XO.ld Tryz.isAgg2 ?_
        refine XO.cX Tryz.call43 (Le.refl _) (put_ok (f := f) (kk := 0) (z := (insAt m f).n) (hf.le leA) (by omega) hcap (by omega)) ?_
        rintro _ _ ⟨a1, c1, rfl, rfl⟩
        refine oo 1 ?_
        refine XO.ef0 (Ef.st Tryz.sizeOf22) ?_
        rintro _ _ ⟨rfl, rfl⟩
        refine ox 2 ?_
        refine X.draw [] Tryz.mixed (by kernel_rfl) (by kernel_rfl) rfl ?_
        refine XD.loadA 0 rfl rfl Tryz.isAgg28 Tryz.sizeOf28 hasA (by rfl) ?_
        refine XD.loadA 1 rfl rfl Tryz.isAgg74 Tryz.sizeOf74 hasA (by rfl) ?_
        refine XD.ef0 2 rfl (Ef.stA Tryz.sizeOf28) ?_
        rintro _ _ ⟨rfl, rfl⟩
        refine ⟨(hlA (h := by repeat first | exact trivial | refine ⟨clA, ?_⟩ | refine ⟨(Cl.row (j := f.code) hs1 leA (fun _ => rfl) hth (by omega) 2 _ rfl), ?_⟩ | refine ⟨Cl.e1 hsc leA hlt (by omega), ?_⟩ | refine ⟨Cl.e1 hsl leA hlt (by omega), ?_⟩ | refine ⟨Cl.row (j := f.pc) (sz := 4) hs2 leA (fun _ => rfl) hpc (by omega) 0 _ rfl, ?_⟩ | refine ⟨Cl.row (j := f.pc) (sz := 4) hs2 leA (fun _ => rfl) hpc (by omega) 1 _ rfl, ?_⟩ | refine ⟨Cl.row (j := f.pc) (sz := 4) hs2 leA (fun _ => rfl) hpc (by omega) 2 _ rfl, ?_⟩ | refine ⟨Cl.row (j := f.pc) (sz := 4) hs2 leA (fun _ => rfl) hpc (by omega) 3 _ rfl, ?_⟩)), ?_⟩
        refine XD.ef0 3 rfl (Ef.stA Tryz.sizeOf74) ?_
        rintro _ _ ⟨rfl, rfl⟩
        refine ⟨trivial, ?_⟩
        refine XD.nil ?_
        have hD : doAt m f cells = ((f.pc + 1, f.loc, f.stk ++ [(insAt m f).n]), dPlain) := by unfold doAt doS; rw [if_neg (by omega), if_neg (by omega), if_neg (by omega), if_neg (by omega), if_neg (by omega), if_neg (by omega), if_neg (by omega)]; unfold plainS; rw [if_pos hx]
        have hst0 : f.stk.take (f.stk.length - 0) = f.stk := List.take_of_length_le (by omega)
        rw [hst0]
        refine X.retL (lsH I64 2 a1 c1 (f.stk ++ [(insAt m f).n]) :: q) Tryz.func28 (resC Tryz.results28 (ResOk.cell rfl (LV.agg Tryz.isAgg28 Tryz.sizeOf28 hasA rfl) (ResOk.cell rfl (LV.agg Tryz.isAgg74 Tryz.sizeOf74 hasA rfl) ResOk.nil))) ⟨_, rfl, f.la, f.lc, a1, c1, _, by rw [hD]; rfl, by rw [hD]; exact ⟨.inl ⟨rfl, rfl⟩, .inr (Sees.lsH [])⟩, rfl⟩
    · skip
      replace hn1 := sp hn1
      have hnil : f.stk = [] := List.eq_nil_of_length_eq_zero (by omega)
      refine X.know 13 (.int .i64 (lastS f.stk)) rfl (by rw [hnil]; rfl) ?_
      refine xx 8 ?_
      refine X.sb [50, 13, 14, 12, 11, 10, 9, 8, 7, 6, 4, 3, 2] ?_
      refine X.know 50 (.bool false) rfl (congrArg Value.bool (by first | exact decide_eq_true (by omega) | exact decide_eq_false (by omega) | (rw [beq_iff_eq]; omega) | (rw [beq_eq_false_iff_ne]; omega) | (rw [bne_iff_ne]; omega) | (rw [bne_eq_false_iff_eq]; omega))) ?_
      refine xx 10 ?_
      refine X.know 57 (.bool true) rfl (congrArg Value.bool (by first | exact decide_eq_true (by omega) | exact decide_eq_false (by omega) | (rw [beq_iff_eq]; omega) | (rw [beq_eq_false_iff_ne]; omega) | (rw [bne_iff_ne]; omega) | (rw [bne_eq_false_iff_eq]; omega))) ?_
      refine xo 3 ?_
      refine XO.ldA Tryz.isAgg28 Tryz.sizeOf28 ?_
      refine oo 1 ?_
      refine XO.ld Tryz.isAgg2 ?_
      refine XO.cX Tryz.call43 (Le.refl _) (put_ok (f := f) (kk := 0) (z := (insAt m f).n) (hf.le leA) (by omega) hcap (by omega)) ?_
      rintro _ _ ⟨a1, c1, rfl, rfl⟩
      refine oo 1 ?_
      refine XO.ef0 (Ef.st Tryz.sizeOf22) ?_
      rintro _ _ ⟨rfl, rfl⟩
      refine ox 2 ?_
      refine X.draw [] Tryz.mixed (by kernel_rfl) (by kernel_rfl) rfl ?_
      refine XD.loadA 0 rfl rfl Tryz.isAgg28 Tryz.sizeOf28 hasA (by rfl) ?_
      refine XD.loadA 1 rfl rfl Tryz.isAgg74 Tryz.sizeOf74 hasA (by rfl) ?_
      refine XD.ef0 2 rfl (Ef.stA Tryz.sizeOf28) ?_
      rintro _ _ ⟨rfl, rfl⟩
      refine ⟨(hlA (h := by repeat first | exact trivial | refine ⟨clA, ?_⟩ | refine ⟨(Cl.row (j := f.code) hs1 leA (fun _ => rfl) hth (by omega) 2 _ rfl), ?_⟩ | refine ⟨Cl.e1 hsc leA hlt (by omega), ?_⟩ | refine ⟨Cl.e1 hsl leA hlt (by omega), ?_⟩ | refine ⟨Cl.row (j := f.pc) (sz := 4) hs2 leA (fun _ => rfl) hpc (by omega) 0 _ rfl, ?_⟩ | refine ⟨Cl.row (j := f.pc) (sz := 4) hs2 leA (fun _ => rfl) hpc (by omega) 1 _ rfl, ?_⟩ | refine ⟨Cl.row (j := f.pc) (sz := 4) hs2 leA (fun _ => rfl) hpc (by omega) 2 _ rfl, ?_⟩ | refine ⟨Cl.row (j := f.pc) (sz := 4) hs2 leA (fun _ => rfl) hpc (by omega) 3 _ rfl, ?_⟩)), ?_⟩
      refine XD.ef0 3 rfl (Ef.stA Tryz.sizeOf74) ?_
      rintro _ _ ⟨rfl, rfl⟩
      refine ⟨trivial, ?_⟩
      refine XD.nil ?_
      have hD : doAt m f cells = ((f.pc + 1, f.loc, f.stk ++ [(insAt m f).n]), dPlain) := by unfold doAt doS; rw [if_neg (by omega), if_neg (by omega), if_neg (by omega), if_neg (by omega), if_neg (by omega), if_neg (by omega), if_neg (by omega)]; unfold plainS; rw [if_pos hx]
      have hst0 : f.stk.take (f.stk.length - 0) = f.stk := List.take_of_length_le (by omega)
      rw [hst0]
      refine X.retL (lsH I64 2 a1 c1 (f.stk ++ [(insAt m f).n]) :: q) Tryz.func28 (resC Tryz.results28 (ResOk.cell rfl (LV.agg Tryz.isAgg28 Tryz.sizeOf28 hasA rfl) (ResOk.cell rfl (LV.agg Tryz.isAgg74 Tryz.sizeOf74 hasA rfl) ResOk.nil))) ⟨_, rfl, f.la, f.lc, a1, c1, _, by rw [hD]; rfl, by rw [hD]; exact ⟨.inl ⟨rfl, rfl⟩, .inr (Sees.lsH [])⟩, rfl⟩
  · skip
    have hdx : (0 : Int) ≤ f.stk.length := by omega
    have hv := hS.var (by omega); have hlt : (insAt m f).a.toNat < cells.length := by unfold cntS at hcel; omega
    refine X.part 42 rfl (fun hn1 => ?_) (fun hn1 => ?_)
    · skip
      replace hn1 := sp hn1
      refine xo 3 ?_
      refine XO.ld Tryz.isAgg22 ?_
      refine oo 2 ?_
      refine XO.adr hf.s (by simp; omega) (fun bs os es => ?_)
      have hss := hf.s; rw [es] at hss
      refine XO.know 44 (.slice (some ⟨bs, os, none⟩) f.stk.length f.sc) rfl (by rw [es]) ?_
      refine oo 1 ?_
      refine XO.ld Tryz.isAgg2 ?_ (hc := (Cl.e1 (n := f.stk.length - 1) hss leA (by omega) (by omega)))
      refine XO.know 48 (.int .i64 (lastS f.stk)) rfl (congrArg (Value.int .i64) (getD_lt (by omega)).symm) ?_
      refine ox 8 ?_
      refine X.sb [50, 13, 14, 12, 11, 10, 9, 8, 7, 6, 4, 3, 2] ?_
      refine X.part 50 rfl (fun hn2 => ?_) (fun hn2 => ?_)
      · skip
        replace hn2 := sp hn2
        refine xo 3 ?_
        refine XO.ld Tryz.isAgg22 ?_
        refine oo 2 ?_
        refine XO.know 52 (.slice (some ⟨bs, os, none⟩) f.stk.length f.sc) rfl (by rw [es]) ?_
        refine oo 1 ?_
        refine XO.ld Tryz.isAgg2 ?_ (hc := (Cl.e1 (n := f.stk.length - 2) hss leA (by omega) (by omega)))
        refine XO.know 56 (.int .i64 (aheadS f.stk)) rfl (congrArg (Value.int .i64) (getD_lt (by omega)).symm) ?_
        refine ox 10 ?_
        refine X.know 57 (.bool false) rfl (congrArg Value.bool (by first | exact decide_eq_true (by omega) | exact decide_eq_false (by omega) | (rw [beq_iff_eq]; omega) | (rw [beq_eq_false_iff_ne]; omega) | (rw [bne_iff_ne]; omega) | (rw [bne_eq_false_iff_eq]; omega))) ?_
        refine xx 7 ?_
        refine X.sb [67, 14, 13, 12, 10, 9, 8, 7, 6, 4, 3, 2] ?_
        refine X.know 67 (.bool true) rfl (congrArg Value.bool (by first | exact decide_eq_true (by omega) | exact decide_eq_false (by omega) | (rw [beq_iff_eq]; omega) | (rw [beq_eq_false_iff_ne]; omega) | (rw [bne_iff_ne]; omega) | (rw [bne_eq_false_iff_eq]; omega))) ?_
        refine xx 2 ?_
        refine X.draw [] Tryz.mixed (by kernel_rfl) (by kernel_rfl) rfl ?_
        refine XD.loadA 0 rfl rfl Tryz.isAgg28 Tryz.sizeOf28 hasA (by rfl) ?_
        refine dd [1, 2] ?_
        refine XD.ld 3 Tryz.isAgg3 ?_
        refine XD.adr hc (by simp; omega) (fun bc oc ec => ?_)
        have hsc := hc; rw [ec] at hsc
        refine XD.know 71 (.slice (some ⟨bc, oc, none⟩) cells.length cc) rfl (by rw [ec]) ?_
        refine dd [4] ?_
        refine XD.ld 5 Tryz.isAgg2 ?_ (hc := (Cl.e1 hsc leA hlt (by omega)))
        refine XD.cX 6 Tryz.call43 (Le.refl _) (put_ok (f := f) (kk := 0) (z := cells[(insAt m f).a.toNat]) (hf.le leA) (by omega) hcap (by omega)) ?_
        rintro _ _ ⟨a1, c1, rfl, rfl⟩
        refine ⟨(hlA (h := by repeat first | exact trivial | refine ⟨clA, ?_⟩ | refine ⟨(Cl.row (j := f.code) hs1 leA (fun _ => rfl) hth (by omega) 2 _ rfl), ?_⟩ | refine ⟨Cl.e1 hsc leA hlt (by omega), ?_⟩ | refine ⟨Cl.e1 hsl leA hlt (by omega), ?_⟩ | refine ⟨Cl.row (j := f.pc) (sz := 4) hs2 leA (fun _ => rfl) hpc (by omega) 0 _ rfl, ?_⟩ | refine ⟨Cl.row (j := f.pc) (sz := 4) hs2 leA (fun _ => rfl) hpc (by omega) 1 _ rfl, ?_⟩ | refine ⟨Cl.row (j := f.pc) (sz := 4) hs2 leA (fun _ => rfl) hpc (by omega) 2 _ rfl, ?_⟩ | refine ⟨Cl.row (j := f.pc) (sz := 4) hs2 leA (fun _ => rfl) hpc (by omega) 3 _ rfl, ?_⟩)), ?_⟩
        refine dd [7] ?_
        refine XD.ef0 8 rfl (Ef.st Tryz.sizeOf22) ?_
        rintro _ _ ⟨rfl, rfl⟩
        refine ⟨trivial, ?_⟩
        refine XD.nil ?_
        refine xx 1 ?_
        refine X.draw [] Tryz.mixed (by kernel_rfl) (by kernel_rfl) rfl ?_
        refine XD.loadA 0 rfl rfl Tryz.isAgg28 Tryz.sizeOf28 hasA (by rfl) ?_
        refine dd [1] ?_
        refine XD.ld 2 Tryz.isAgg3 ?_
        refine dd [3, 4] ?_
        refine XD.ld 5 Tryz.isAgg3 ?_
        refine XD.know 81 (.slice (some ⟨bc, oc, none⟩) cells.length cc) rfl (by rw [ec]) ?_
        refine dd [6] ?_
        refine XD.ld 7 Tryz.isAgg2 ?_ (hc := (Cl.e1 hsc leA hlt (by omega)))
        refine dd [8, 9] ?_
        refine XD.ef0 10 rfl (Ef.stA Tryz.sizeOf28) ?_
        rintro _ _ ⟨rfl, rfl⟩
        refine ⟨(hlA (h := by repeat first | exact trivial | refine ⟨clA, ?_⟩ | refine ⟨(Cl.row (j := f.code) hs1 leA (fun _ => rfl) hth (by omega) 2 _ rfl), ?_⟩ | refine ⟨Cl.e1 hsc leA hlt (by omega), ?_⟩ | refine ⟨Cl.e1 hsl leA hlt (by omega), ?_⟩ | refine ⟨Cl.row (j := f.pc) (sz := 4) hs2 leA (fun _ => rfl) hpc (by omega) 0 _ rfl, ?_⟩ | refine ⟨Cl.row (j := f.pc) (sz := 4) hs2 leA (fun _ => rfl) hpc (by omega) 1 _ rfl, ?_⟩ | refine ⟨Cl.row (j := f.pc) (sz := 4) hs2 leA (fun _ => rfl) hpc (by omega) 2 _ rfl, ?_⟩ | refine ⟨Cl.row (j := f.pc) (sz := 4) hs2 leA (fun _ => rfl) hpc (by omega) 3 _ rfl, ?_⟩)), ?_⟩
        refine XD.ef0 11 rfl (Ef.stA Tryz.sizeOf74) ?_
        rintro _ _ ⟨rfl, rfl⟩
        refine ⟨trivial, ?_⟩
        refine XD.nil ?_
        have hD : doAt m f cells = ((f.pc + 1, f.loc, f.stk ++ [cells[(insAt m f).a.toNat]]), dAcc (insAt m f).a false cells[(insAt m f).a.toNat]) := by unfold doAt doS; rw [if_neg (by omega), if_neg (by omega), if_pos (by omega)]; rw [show accS m (insAt m f) f.stk cells = some (((insAt m f).a, false, cells[(insAt m f).a.toNat]), f.stk ++ [cells[(insAt m f).a.toNat]]) from by unfold accS; rw [if_pos hx, getD_lt hlt]]
        have hst0 : f.stk.take (f.stk.length - 0) = f.stk := List.take_of_length_le (by omega)
        rw [hst0]
        refine X.retL (lsH I64 2 a1 c1 (f.stk ++ [cells[(insAt m f).a.toNat]]) :: q) Tryz.func28 (resC Tryz.results28 (ResOk.cell rfl (LV.agg Tryz.isAgg28 Tryz.sizeOf28 hasA rfl) (ResOk.cell rfl (LV.agg Tryz.isAgg74 Tryz.sizeOf74 hasA rfl) ResOk.nil))) ⟨_, rfl, f.la, f.lc, a1, c1, _, by rw [hD]; rfl, by rw [hD]; exact ⟨.inl ⟨rfl, rfl⟩, .inr (Sees.lsH [])⟩, rfl⟩
      · skip
        replace hn2 := sp hn2
        refine xx 10 ?_
        refine X.know 57 (.bool false) rfl (congrArg Value.bool (by first | exact decide_eq_true (by omega) | exact decide_eq_false (by omega) | (rw [beq_iff_eq]; omega) | (rw [beq_eq_false_iff_ne]; omega) | (rw [bne_iff_ne]; omega) | (rw [bne_eq_false_iff_eq]; omega))) ?_
        refine xx 7 ?_
        refine X.know 67 (.bool true) rfl (congrArg Value.bool (by first | exact decide_eq_true (by omega) | exact decide_eq_false (by omega) | (rw [beq_iff_eq]; omega) | (rw [beq_eq_false_iff_ne]; omega) | (rw [bne_iff_ne]; omega) | (rw [bne_eq_false_iff_eq]; omega))) ?_
        refine xx 2 ?_
        refine X.draw [] Tryz.mixed (by kernel_rfl) (by kernel_rfl) rfl ?_
        refine XD.loadA 0 rfl rfl Tryz.isAgg28 Tryz.sizeOf28 hasA (by rfl) ?_
        refine dd [1, 2] ?_
        refine XD.ld 3 Tryz.isAgg3 ?_
        refine XD.adr hc (by simp; omega) (fun bc oc ec => ?_)
        have hsc := hc; rw [ec] at hsc
        refine XD.know 71 (.slice (some ⟨bc, oc, none⟩) cells.length cc) rfl (by rw [ec]) ?_
        refine dd [4] ?_
        refine XD.ld 5 Tryz.isAgg2 ?_ (hc := (Cl.e1 hsc leA hlt (by omega)))
        refine XD.cX 6 Tryz.call43 (Le.refl _) (put_ok (f := f) (kk := 0) (z := cells[(insAt m f).a.toNat]) (hf.le leA) (by omega) hcap (by omega)) ?_
        rintro _ _ ⟨a1, c1, rfl, rfl⟩
        refine ⟨(hlA (h := by repeat first | exact trivial | refine ⟨clA, ?_⟩ | refine ⟨(Cl.row (j := f.code) hs1 leA (fun _ => rfl) hth (by omega) 2 _ rfl), ?_⟩ | refine ⟨Cl.e1 hsc leA hlt (by omega), ?_⟩ | refine ⟨Cl.e1 hsl leA hlt (by omega), ?_⟩ | refine ⟨Cl.row (j := f.pc) (sz := 4) hs2 leA (fun _ => rfl) hpc (by omega) 0 _ rfl, ?_⟩ | refine ⟨Cl.row (j := f.pc) (sz := 4) hs2 leA (fun _ => rfl) hpc (by omega) 1 _ rfl, ?_⟩ | refine ⟨Cl.row (j := f.pc) (sz := 4) hs2 leA (fun _ => rfl) hpc (by omega) 2 _ rfl, ?_⟩ | refine ⟨Cl.row (j := f.pc) (sz := 4) hs2 leA (fun _ => rfl) hpc (by omega) 3 _ rfl, ?_⟩)), ?_⟩
        refine dd [7] ?_
        refine XD.ef0 8 rfl (Ef.st Tryz.sizeOf22) ?_
        rintro _ _ ⟨rfl, rfl⟩
        refine ⟨trivial, ?_⟩
        refine XD.nil ?_
        refine xx 1 ?_
        refine X.sb [13, 9, 8, 7, 6, 4, 3, 2] ?_
        refine X.draw [] Tryz.mixed (by kernel_rfl) (by kernel_rfl) rfl ?_
        refine XD.loadA 0 rfl rfl Tryz.isAgg28 Tryz.sizeOf28 hasA (by rfl) ?_
        refine dd [1] ?_
        refine XD.ld 2 Tryz.isAgg3 ?_
        refine dd [3, 4] ?_
        refine XD.ld 5 Tryz.isAgg3 ?_
        refine XD.know 81 (.slice (some ⟨bc, oc, none⟩) cells.length cc) rfl (by rw [ec]) ?_
        refine dd [6] ?_
        refine XD.ld 7 Tryz.isAgg2 ?_ (hc := (Cl.e1 hsc leA hlt (by omega)))
        refine dd [8, 9] ?_
        refine XD.ef0 10 rfl (Ef.stA Tryz.sizeOf28) ?_
        rintro _ _ ⟨rfl, rfl⟩
        refine ⟨(hlA (h := by repeat first | exact trivial | refine ⟨clA, ?_⟩ | refine ⟨(Cl.row (j := f.code) hs1 leA (fun _ => rfl) hth (by omega) 2 _ rfl), ?_⟩ | refine ⟨Cl.e1 hsc leA hlt (by omega), ?_⟩ | refine ⟨Cl.e1 hsl leA hlt (by omega), ?_⟩ | refine ⟨Cl.row (j := f.pc) (sz := 4) hs2 leA (fun _ => rfl) hpc (by omega) 0 _ rfl, ?_⟩ | refine ⟨Cl.row (j := f.pc) (sz := 4) hs2 leA (fun _ => rfl) hpc (by omega) 1 _ rfl, ?_⟩ | refine ⟨Cl.row (j := f.pc) (sz := 4) hs2 leA (fun _ => rfl) hpc (by omega) 2 _ rfl, ?_⟩ | refine ⟨Cl.row (j := f.pc) (sz := 4) hs2 leA (fun _ => rfl) hpc (by omega) 3 _ rfl, ?_⟩)), ?_⟩
        refine XD.ef0 11 rfl (Ef.stA Tryz.sizeOf74) ?_
        rintro _ _ ⟨rfl, rfl⟩
        refine ⟨trivial, ?_⟩
        refine XD.nil ?_
        have hD : doAt m f cells = ((f.pc + 1, f.loc, f.stk ++ [cells[(insAt m f).a.toNat]]), dAcc (insAt m f).a false cells[(insAt m f).a.toNat]) := by unfold doAt doS; rw [if_neg (by omega), if_neg (by omega), if_pos (by omega)]; rw [show accS m (insAt m f) f.stk cells = some (((insAt m f).a, false, cells[(insAt m f).a.toNat]), f.stk ++ [cells[(insAt m f).a.toNat]]) from by unfold accS; rw [if_pos hx, getD_lt hlt]]
        have hst0 : f.stk.take (f.stk.length - 0) = f.stk := List.take_of_length_le (by omega)
        rw [hst0]
        refine X.retL (lsH I64 2 a1 c1 (f.stk ++ [cells[(insAt m f).a.toNat]]) :: q) Tryz.func28 (resC Tryz.results28 (ResOk.cell rfl (LV.agg Tryz.isAgg28 Tryz.sizeOf28 hasA rfl) (ResOk.cell rfl (LV.agg Tryz.isAgg74 Tryz.sizeOf74 hasA rfl) ResOk.nil))) ⟨_, rfl, f.la, f.lc, a1, c1, _, by rw [hD]; rfl, by rw [hD]; exact ⟨.inl ⟨rfl, rfl⟩, .inr (Sees.lsH [])⟩, rfl⟩
    · skip
      replace hn1 := sp hn1
      have hnil : f.stk = [] := List.eq_nil_of_length_eq_zero (by omega)
      refine X.know 13 (.int .i64 (lastS f.stk)) rfl (by rw [hnil]; rfl) ?_
      refine xx 8 ?_
      refine X.sb [50, 13, 14, 12, 11, 10, 9, 8, 7, 6, 4, 3, 2] ?_
      refine X.know 50 (.bool false) rfl (congrArg Value.bool (by first | exact decide_eq_true (by omega) | exact decide_eq_false (by omega) | (rw [beq_iff_eq]; omega) | (rw [beq_eq_false_iff_ne]; omega) | (rw [bne_iff_ne]; omega) | (rw [bne_eq_false_iff_eq]; omega))) ?_
      refine xx 10 ?_
      refine X.know 57 (.bool false) rfl (congrArg Value.bool (by first | exact decide_eq_true (by omega) | exact decide_eq_false (by omega) | (rw [beq_iff_eq]; omega) | (rw [beq_eq_false_iff_ne]; omega) | (rw [bne_iff_ne]; omega) | (rw [bne_eq_false_iff_eq]; omega))) ?_
      refine xx 7 ?_
      refine X.know 67 (.bool true) rfl (congrArg Value.bool (by first | exact decide_eq_true (by omega) | exact decide_eq_false (by omega) | (rw [beq_iff_eq]; omega) | (rw [beq_eq_false_iff_ne]; omega) | (rw [bne_iff_ne]; omega) | (rw [bne_eq_false_iff_eq]; omega))) ?_
      refine xx 2 ?_
      refine X.draw [] Tryz.mixed (by kernel_rfl) (by kernel_rfl) rfl ?_
      refine XD.loadA 0 rfl rfl Tryz.isAgg28 Tryz.sizeOf28 hasA (by rfl) ?_
      refine dd [1, 2] ?_
      refine XD.ld 3 Tryz.isAgg3 ?_
      refine XD.adr hc (by simp; omega) (fun bc oc ec => ?_)
      have hsc := hc; rw [ec] at hsc
      refine XD.know 71 (.slice (some ⟨bc, oc, none⟩) cells.length cc) rfl (by rw [ec]) ?_
      refine dd [4] ?_
      refine XD.ld 5 Tryz.isAgg2 ?_ (hc := (Cl.e1 hsc leA hlt (by omega)))
      refine XD.cX 6 Tryz.call43 (Le.refl _) (put_ok (f := f) (kk := 0) (z := cells[(insAt m f).a.toNat]) (hf.le leA) (by omega) hcap (by omega)) ?_
      rintro _ _ ⟨a1, c1, rfl, rfl⟩
      refine ⟨(hlA (h := by repeat first | exact trivial | refine ⟨clA, ?_⟩ | refine ⟨(Cl.row (j := f.code) hs1 leA (fun _ => rfl) hth (by omega) 2 _ rfl), ?_⟩ | refine ⟨Cl.e1 hsc leA hlt (by omega), ?_⟩ | refine ⟨Cl.e1 hsl leA hlt (by omega), ?_⟩ | refine ⟨Cl.row (j := f.pc) (sz := 4) hs2 leA (fun _ => rfl) hpc (by omega) 0 _ rfl, ?_⟩ | refine ⟨Cl.row (j := f.pc) (sz := 4) hs2 leA (fun _ => rfl) hpc (by omega) 1 _ rfl, ?_⟩ | refine ⟨Cl.row (j := f.pc) (sz := 4) hs2 leA (fun _ => rfl) hpc (by omega) 2 _ rfl, ?_⟩ | refine ⟨Cl.row (j := f.pc) (sz := 4) hs2 leA (fun _ => rfl) hpc (by omega) 3 _ rfl, ?_⟩)), ?_⟩
      refine dd [7] ?_
      refine XD.ef0 8 rfl (Ef.st Tryz.sizeOf22) ?_
      rintro _ _ ⟨rfl, rfl⟩
      refine ⟨trivial, ?_⟩
      refine XD.nil ?_
      refine xx 1 ?_
      refine X.sb [13, 9, 8, 7, 6, 4, 3, 2] ?_
      refine X.draw [] Tryz.mixed (by kernel_rfl) (by kernel_rfl) rfl ?_
      refine XD.loadA 0 rfl rfl Tryz.isAgg28 Tryz.sizeOf28 hasA (by rfl) ?_
      refine dd [1] ?_
      refine XD.ld 2 Tryz.isAgg3 ?_
      refine dd [3, 4] ?_
      refine XD.ld 5 Tryz.isAgg3 ?_
      refine XD.know 81 (.slice (some ⟨bc, oc, none⟩) cells.length cc) rfl (by rw [ec]) ?_
      refine dd [6] ?_
      refine XD.ld 7 Tryz.isAgg2 ?_ (hc := (Cl.e1 hsc leA hlt (by omega)))
      refine dd [8, 9] ?_
      refine XD.ef0 10 rfl (Ef.stA Tryz.sizeOf28) ?_
      rintro _ _ ⟨rfl, rfl⟩
      refine ⟨(hlA (h := by repeat first | exact trivial | refine ⟨clA, ?_⟩ | refine ⟨(Cl.row (j := f.code) hs1 leA (fun _ => rfl) hth (by omega) 2 _ rfl), ?_⟩ | refine ⟨Cl.e1 hsc leA hlt (by omega), ?_⟩ | refine ⟨Cl.e1 hsl leA hlt (by omega), ?_⟩ | refine ⟨Cl.row (j := f.pc) (sz := 4) hs2 leA (fun _ => rfl) hpc (by omega) 0 _ rfl, ?_⟩ | refine ⟨Cl.row (j := f.pc) (sz := 4) hs2 leA (fun _ => rfl) hpc (by omega) 1 _ rfl, ?_⟩ | refine ⟨Cl.row (j := f.pc) (sz := 4) hs2 leA (fun _ => rfl) hpc (by omega) 2 _ rfl, ?_⟩ | refine ⟨Cl.row (j := f.pc) (sz := 4) hs2 leA (fun _ => rfl) hpc (by omega) 3 _ rfl, ?_⟩)), ?_⟩
      refine XD.ef0 11 rfl (Ef.stA Tryz.sizeOf74) ?_
      rintro _ _ ⟨rfl, rfl⟩
      refine ⟨trivial, ?_⟩
      refine XD.nil ?_
      have hD : doAt m f cells = ((f.pc + 1, f.loc, f.stk ++ [cells[(insAt m f).a.toNat]]), dAcc (insAt m f).a false cells[(insAt m f).a.toNat]) := by unfold doAt doS; rw [if_neg (by omega), if_neg (by omega), if_pos (by omega)]; rw [show accS m (insAt m f) f.stk cells = some (((insAt m f).a, false, cells[(insAt m f).a.toNat]), f.stk ++ [cells[(insAt m f).a.toNat]]) from by unfold accS; rw [if_pos hx, getD_lt hlt]]
      have hst0 : f.stk.take (f.stk.length - 0) = f.stk := List.take_of_length_le (by omega)
      rw [hst0]
      refine X.retL (lsH I64 2 a1 c1 (f.stk ++ [cells[(insAt m f).a.toNat]]) :: q) Tryz.func28 (resC Tryz.results28 (ResOk.cell rfl (LV.agg Tryz.isAgg28 Tryz.sizeOf28 hasA rfl) (ResOk.cell rfl (LV.agg Tryz.isAgg74 Tryz.sizeOf74 hasA rfl) ResOk.nil))) ⟨_, rfl, f.la, f.lc, a1, c1, _, by rw [hD]; rfl, by rw [hD]; exact ⟨.inl ⟨rfl, rfl⟩, .inr (Sees.lsH [])⟩, rfl⟩
  · skip
    have hdx : (0 : Int) ≤ f.stk.length := by omega
    have hv := hS.loc (by omega); have hlt : (insAt m f).a.toNat < f.loc.length := by omega
    refine X.part 42 rfl (fun hn1 => ?_) (fun hn1 => ?_)
    · skip
      replace hn1 := sp hn1
      refine xo 3 ?_
      refine XO.ld Tryz.isAgg22 ?_
      refine oo 2 ?_
      refine XO.adr hf.s (by simp; omega) (fun bs os es => ?_)
      have hss := hf.s; rw [es] at hss
      refine XO.know 44 (.slice (some ⟨bs, os, none⟩) f.stk.length f.sc) rfl (by rw [es]) ?_
      refine oo 1 ?_
      refine XO.ld Tryz.isAgg2 ?_ (hc := (Cl.e1 (n := f.stk.length - 1) hss leA (by omega) (by omega)))
      refine XO.know 48 (.int .i64 (lastS f.stk)) rfl (congrArg (Value.int .i64) (getD_lt (by omega)).symm) ?_
      refine ox 8 ?_
      refine X.sb [50, 13, 14, 12, 11, 10, 9, 8, 7, 6, 4, 3, 2] ?_
      refine X.part 50 rfl (fun hn2 => ?_) (fun hn2 => ?_)
      · skip
        replace hn2 := sp hn2
        refine xo 3 ?_
        refine XO.ld Tryz.isAgg22 ?_
        refine oo 2 ?_
        refine XO.know 52 (.slice (some ⟨bs, os, none⟩) f.stk.length f.sc) rfl (by rw [es]) ?_
        refine oo 1 ?_
        refine XO.ld Tryz.isAgg2 ?_ (hc := (Cl.e1 (n := f.stk.length - 2) hss leA (by omega) (by omega)))
        refine XO.know 56 (.int .i64 (aheadS f.stk)) rfl (congrArg (Value.int .i64) (getD_lt (by omega)).symm) ?_
        refine ox 10 ?_
        refine X.know 57 (.bool false) rfl (congrArg Value.bool (by first | exact decide_eq_true (by omega) | exact decide_eq_false (by omega) | (rw [beq_iff_eq]; omega) | (rw [beq_eq_false_iff_ne]; omega) | (rw [bne_iff_ne]; omega) | (rw [bne_eq_false_iff_eq]; omega))) ?_
        refine xx 7 ?_
        refine X.sb [67, 14, 13, 12, 10, 9, 8, 7, 6, 4, 3, 2] ?_
        refine X.know 67 (.bool false) rfl (congrArg Value.bool (by first | exact decide_eq_true (by omega) | exact decide_eq_false (by omega) | (rw [beq_iff_eq]; omega) | (rw [beq_eq_false_iff_ne]; omega) | (rw [bne_iff_ne]; omega) | (rw [bne_eq_false_iff_eq]; omega))) ?_
        refine xx 7 ?_
        refine X.know 88 (.bool true) rfl (congrArg Value.bool (by first | exact decide_eq_true (by omega) | exact decide_eq_false (by omega) | (rw [beq_iff_eq]; omega) | (rw [beq_eq_false_iff_ne]; omega) | (rw [bne_iff_ne]; omega) | (rw [bne_eq_false_iff_eq]; omega))) ?_
        refine xx 2 ?_
        refine X.draw [] Tryz.mixed (by kernel_rfl) (by kernel_rfl) rfl ?_
        refine XD.loadA 0 rfl rfl Tryz.isAgg28 Tryz.sizeOf28 hasA (by rfl) ?_
        refine dd [1] ?_
        refine XD.ld 2 Tryz.isAgg22 ?_
        refine dd [3] ?_
        refine XD.ld 4 Tryz.isAgg3 ?_
        refine XD.adr hf.l (by simp; omega) (fun bl ol el => ?_)
        have hsl := hf.l; rw [el] at hsl
        refine XD.know 93 (.slice (some ⟨bl, ol, none⟩) f.loc.length f.lc) rfl (by rw [el]) ?_
        refine dd [5] ?_
        refine XD.ld 6 Tryz.isAgg2 ?_ (hc := (Cl.e1 hsl leA hlt (by omega)))
        refine XD.cX 7 Tryz.call43 (Le.refl _) (put_ok (f := f) (kk := 0) (z := f.loc[(insAt m f).a.toNat]) (hf.le leA) (by omega) hcap (by omega)) ?_
        rintro _ _ ⟨a1, c1, rfl, rfl⟩
        refine ⟨(hlA (h := by repeat first | exact trivial | refine ⟨clA, ?_⟩ | refine ⟨(Cl.row (j := f.code) hs1 leA (fun _ => rfl) hth (by omega) 2 _ rfl), ?_⟩ | refine ⟨Cl.e1 hsc leA hlt (by omega), ?_⟩ | refine ⟨Cl.e1 hsl leA hlt (by omega), ?_⟩ | refine ⟨Cl.row (j := f.pc) (sz := 4) hs2 leA (fun _ => rfl) hpc (by omega) 0 _ rfl, ?_⟩ | refine ⟨Cl.row (j := f.pc) (sz := 4) hs2 leA (fun _ => rfl) hpc (by omega) 1 _ rfl, ?_⟩ | refine ⟨Cl.row (j := f.pc) (sz := 4) hs2 leA (fun _ => rfl) hpc (by omega) 2 _ rfl, ?_⟩ | refine ⟨Cl.row (j := f.pc) (sz := 4) hs2 leA (fun _ => rfl) hpc (by omega) 3 _ rfl, ?_⟩)), ?_⟩
        refine dd [8] ?_
        refine XD.ef0 9 rfl (Ef.st Tryz.sizeOf22) ?_
        rintro _ _ ⟨rfl, rfl⟩
        refine ⟨trivial, ?_⟩
        refine XD.nil ?_
        refine xx 1 ?_
        refine X.draw [] Tryz.mixed (by kernel_rfl) (by kernel_rfl) rfl ?_
        refine XD.loadA 0 rfl rfl Tryz.isAgg28 Tryz.sizeOf28 hasA (by rfl) ?_
        refine XD.loadA 1 rfl rfl Tryz.isAgg74 Tryz.sizeOf74 hasA (by rfl) ?_
        refine XD.ef0 2 rfl (Ef.stA Tryz.sizeOf28) ?_
        rintro _ _ ⟨rfl, rfl⟩
        refine ⟨(hlA (h := by repeat first | exact trivial | refine ⟨clA, ?_⟩ | refine ⟨(Cl.row (j := f.code) hs1 leA (fun _ => rfl) hth (by omega) 2 _ rfl), ?_⟩ | refine ⟨Cl.e1 hsc leA hlt (by omega), ?_⟩ | refine ⟨Cl.e1 hsl leA hlt (by omega), ?_⟩ | refine ⟨Cl.row (j := f.pc) (sz := 4) hs2 leA (fun _ => rfl) hpc (by omega) 0 _ rfl, ?_⟩ | refine ⟨Cl.row (j := f.pc) (sz := 4) hs2 leA (fun _ => rfl) hpc (by omega) 1 _ rfl, ?_⟩ | refine ⟨Cl.row (j := f.pc) (sz := 4) hs2 leA (fun _ => rfl) hpc (by omega) 2 _ rfl, ?_⟩ | refine ⟨Cl.row (j := f.pc) (sz := 4) hs2 leA (fun _ => rfl) hpc (by omega) 3 _ rfl, ?_⟩)), ?_⟩
        refine XD.ef0 3 rfl (Ef.stA Tryz.sizeOf74) ?_
        rintro _ _ ⟨rfl, rfl⟩
        refine ⟨trivial, ?_⟩
        refine XD.nil ?_
        have hD : doAt m f cells = ((f.pc + 1, f.loc, f.stk ++ [f.loc[(insAt m f).a.toNat]]), dPlain) := by unfold doAt doS; rw [if_neg (by omega), if_neg (by omega), if_neg (by omega), if_neg (by omega), if_neg (by omega), if_neg (by omega), if_neg (by omega)]; unfold plainS; rw [if_neg (by omega), if_pos hx]; rw [getD_lt hlt]
        have hst0 : f.stk.take (f.stk.length - 0) = f.stk := List.take_of_length_le (by omega)
        rw [hst0]
        refine X.retL (lsH I64 2 a1 c1 (f.stk ++ [f.loc[(insAt m f).a.toNat]]) :: q) Tryz.func28 (resC Tryz.results28 (ResOk.cell rfl (LV.agg Tryz.isAgg28 Tryz.sizeOf28 hasA rfl) (ResOk.cell rfl (LV.agg Tryz.isAgg74 Tryz.sizeOf74 hasA rfl) ResOk.nil))) ⟨_, rfl, f.la, f.lc, a1, c1, _, by rw [hD]; rfl, by rw [hD]; exact ⟨.inl ⟨rfl, rfl⟩, .inr (Sees.lsH [])⟩, rfl⟩
      · skip
        replace hn2 := sp hn2
        refine xx 10 ?_
        refine X.know 57 (.bool false) rfl (congrArg Value.bool (by first | exact decide_eq_true (by omega) | exact decide_eq_false (by omega) | (rw [beq_iff_eq]; omega) | (rw [beq_eq_false_iff_ne]; omega) | (rw [bne_iff_ne]; omega) | (rw [bne_eq_false_iff_eq]; omega))) ?_
        refine xx 7 ?_
        refine X.know 67 (.bool false) rfl (congrArg Value.bool (by first | exact decide_eq_true (by omega) | exact decide_eq_false (by omega) | (rw [beq_iff_eq]; omega) | (rw [beq_eq_false_iff_ne]; omega) | (rw [bne_iff_ne]; omega) | (rw [bne_eq_false_iff_eq]; omega))) ?_
        refine xx 7 ?_
        refine X.know 88 (.bool true) rfl (congrArg Value.bool (by first | exact decide_eq_true (by omega) | exact decide_eq_false (by omega) | (rw [beq_iff_eq]; omega) | (rw [beq_eq_false_iff_ne]; omega) | (rw [bne_iff_ne]; omega) | (rw [bne_eq_false_iff_eq]; omega))) ?_
        refine xx 2 ?_
        refine X.draw [] Tryz.mixed (by kernel_rfl) (by kernel_rfl) rfl ?_
        refine XD.loadA 0 rfl rfl Tryz.isAgg28 Tryz.sizeOf28 hasA (by rfl) ?_
        refine dd [1] ?_
        refine XD.ld 2 Tryz.isAgg22 ?_
        refine dd [3] ?_
        refine XD.ld 4 Tryz.isAgg3 ?_
        refine XD.adr hf.l (by simp; omega) (fun bl ol el => ?_)
        have hsl := hf.l; rw [el] at hsl
        refine XD.know 93 (.slice (some ⟨bl, ol, none⟩) f.loc.length f.lc) rfl (by rw [el]) ?_
        refine dd [5] ?_
        refine XD.ld 6 Tryz.isAgg2 ?_ (hc := (Cl.e1 hsl leA hlt (by omega)))
        refine XD.cX 7 Tryz.call43 (Le.refl _) (put_ok (f := f) (kk := 0) (z := f.loc[(insAt m f).a.toNat]) (hf.le leA) (by omega) hcap (by omega)) ?_
        rintro _ _ ⟨a1, c1, rfl, rfl⟩
        refine ⟨(hlA (h := by repeat first | exact trivial | refine ⟨clA, ?_⟩ | refine ⟨(Cl.row (j := f.code) hs1 leA (fun _ => rfl) hth (by omega) 2 _ rfl), ?_⟩ | refine ⟨Cl.e1 hsc leA hlt (by omega), ?_⟩ | refine ⟨Cl.e1 hsl leA hlt (by omega), ?_⟩ | refine ⟨Cl.row (j := f.pc) (sz := 4) hs2 leA (fun _ => rfl) hpc (by omega) 0 _ rfl, ?_⟩ | refine ⟨Cl.row (j := f.pc) (sz := 4) hs2 leA (fun _ => rfl) hpc (by omega) 1 _ rfl, ?_⟩ | refine ⟨Cl.row (j := f.pc) (sz := 4) hs2 leA (fun _ => rfl) hpc (by omega) 2 _ rfl, ?_⟩ | refine ⟨Cl.row (j := f.pc) (sz := 4) hs2 leA (fun _ => rfl) hpc (by omega) 3 _ rfl, ?_⟩)), ?_⟩
        refine dd [8] ?_
        refine XD.ef0 9 rfl (Ef.st Tryz.sizeOf22) ?_
        rintro _ _ ⟨rfl, rfl⟩
        refine ⟨trivial, ?_⟩
        refine XD.nil ?_
        refine xx 1 ?_
        refine X.sb [13, 12, 9, 8, 7, 6, 4, 3] ?_
        refine X.draw [] Tryz.mixed (by kernel_rfl) (by kernel_rfl) rfl ?_
        refine XD.loadA 0 rfl rfl Tryz.isAgg28 Tryz.sizeOf28 hasA (by rfl) ?_
        refine XD.loadA 1 rfl rfl Tryz.isAgg74 Tryz.sizeOf74 hasA (by rfl) ?_
        refine XD.ef0 2 rfl (Ef.stA Tryz.sizeOf28) ?_
        rintro _ _ ⟨rfl, rfl⟩
        refine ⟨(hlA (h := by repeat first | exact trivial | refine ⟨clA, ?_⟩ | refine ⟨(Cl.row (j := f.code) hs1 leA (fun _ => rfl) hth (by omega) 2 _ rfl), ?_⟩ | refine ⟨Cl.e1 hsc leA hlt (by omega), ?_⟩ | refine ⟨Cl.e1 hsl leA hlt (by omega), ?_⟩ | refine ⟨Cl.row (j := f.pc) (sz := 4) hs2 leA (fun _ => rfl) hpc (by omega) 0 _ rfl, ?_⟩ | refine ⟨Cl.row (j := f.pc) (sz := 4) hs2 leA (fun _ => rfl) hpc (by omega) 1 _ rfl, ?_⟩ | refine ⟨Cl.row (j := f.pc) (sz := 4) hs2 leA (fun _ => rfl) hpc (by omega) 2 _ rfl, ?_⟩ | refine ⟨Cl.row (j := f.pc) (sz := 4) hs2 leA (fun _ => rfl) hpc (by omega) 3 _ rfl, ?_⟩)), ?_⟩
        refine XD.ef0 3 rfl (Ef.stA Tryz.sizeOf74) ?_
        rintro _ _ ⟨rfl, rfl⟩
        refine ⟨trivial, ?_⟩
        refine XD.nil ?_
        have hD : doAt m f cells = ((f.pc + 1, f.loc, f.stk ++ [f.loc[(insAt m f).a.toNat]]), dPlain) := by unfold doAt doS; rw [if_neg (by omega), if_neg (by omega), if_neg (by omega), if_neg (by omega), if_neg (by omega), if_neg (by omega), if_neg (by omega)]; unfold plainS; rw [if_neg (by omega), if_pos hx]; rw [getD_lt hlt]
        have hst0 : f.stk.take (f.stk.length - 0) = f.stk := List.take_of_length_le (by omega)
        rw [hst0]
        refine X.retL (lsH I64 2 a1 c1 (f.stk ++ [f.loc[(insAt m f).a.toNat]]) :: q) Tryz.func28 (resC Tryz.results28 (ResOk.cell rfl (LV.agg Tryz.isAgg28 Tryz.sizeOf28 hasA rfl) (ResOk.cell rfl (LV.agg Tryz.isAgg74 Tryz.sizeOf74 hasA rfl) ResOk.nil))) ⟨_, rfl, f.la, f.lc, a1, c1, _, by rw [hD]; rfl, by rw [hD]; exact ⟨.inl ⟨rfl, rfl⟩, .inr (Sees.lsH [])⟩, rfl⟩
    · skip
      replace hn1 := sp hn1
      have hnil : f.stk = [] := List.eq_nil_of_length_eq_zero (by omega)
      refine X.know 13 (.int .i64 (lastS f.stk)) rfl (by rw [hnil]; rfl) ?_
      refine xx 8 ?_
      refine X.sb [50, 13, 14, 12, 11, 10, 9, 8, 7, 6, 4, 3, 2] ?_
      refine X.know 50 (.bool false) rfl (congrArg Value.bool (by first | exact decide_eq_true (by omega) | exact decide_eq_false (by omega) | (rw [beq_iff_eq]; omega) | (rw [beq_eq_false_iff_ne]; omega) | (rw [bne_iff_ne]; omega) | (rw [bne_eq_false_iff_eq]; omega))) ?_
      refine xx 10 ?_
      refine X.know 57 (.bool false) rfl (congrArg Value.bool (by first | exact decide_eq_true (by omega) | exact decide_eq_false (by omega) | (rw [beq_iff_eq]; omega) | (rw [beq_eq_false_iff_ne]; omega) | (rw [bne_iff_ne]; omega) | (rw [bne_eq_false_iff_eq]; omega))) ?_
      refine xx 7 ?_
      refine X.know 67 (.bool false) rfl (congrArg Value.bool (by first | exact decide_eq_true (by omega) | exact decide_eq_false (by omega) | (rw [beq_iff_eq]; omega) | (rw [beq_eq_false_iff_ne]; omega) | (rw [bne_iff_ne]; omega) | (rw [bne_eq_false_iff_eq]; omega))) ?_
      refine xx 7 ?_
      refine X.know 88 (.bool true) rfl (congrArg Value.bool (by first | exact decide_eq_true (by omega) | exact decide_eq_false (by omega) | (rw [beq_iff_eq]; omega) | (rw [beq_eq_false_iff_ne]; omega) | (rw [bne_iff_ne]; omega) | (rw [bne_eq_false_iff_eq]; omega))) ?_
      refine xx 2 ?_
      refine X.draw [] Tryz.mixed (by kernel_rfl) (by kernel_rfl) rfl ?_
      refine XD.loadA 0 rfl rfl Tryz.isAgg28 Tryz.sizeOf28 hasA (by rfl) ?_
      refine dd [1] ?_
      refine XD.ld 2 Tryz.isAgg22 ?_
      refine dd [3] ?_
      refine XD.ld 4 Tryz.isAgg3 ?_
      refine XD.adr hf.l (by simp; omega) (fun bl ol el => ?_)
      have hsl := hf.l; rw [el] at hsl
      refine XD.know 93 (.slice (some ⟨bl, ol, none⟩) f.loc.length f.lc) rfl (by rw [el]) ?_
      refine dd [5] ?_
      refine XD.ld 6 Tryz.isAgg2 ?_ (hc := (Cl.e1 hsl leA hlt (by omega)))
      refine XD.cX 7 Tryz.call43 (Le.refl _) (put_ok (f := f) (kk := 0) (z := f.loc[(insAt m f).a.toNat]) (hf.le leA) (by omega) hcap (by omega)) ?_
      rintro _ _ ⟨a1, c1, rfl, rfl⟩
      refine ⟨(hlA (h := by repeat first | exact trivial | refine ⟨clA, ?_⟩ | refine ⟨(Cl.row (j := f.code) hs1 leA (fun _ => rfl) hth (by omega) 2 _ rfl), ?_⟩ | refine ⟨Cl.e1 hsc leA hlt (by omega), ?_⟩ | refine ⟨Cl.e1 hsl leA hlt (by omega), ?_⟩ | refine ⟨Cl.row (j := f.pc) (sz := 4) hs2 leA (fun _ => rfl) hpc (by omega) 0 _ rfl, ?_⟩ | refine ⟨Cl.row (j := f.pc) (sz := 4) hs2 leA (fun _ => rfl) hpc (by omega) 1 _ rfl, ?_⟩ | refine ⟨Cl.row (j := f.pc) (sz := 4) hs2 leA (fun _ => rfl) hpc (by omega) 2 _ rfl, ?_⟩ | refine ⟨Cl.row (j := f.pc) (sz := 4) hs2 leA (fun _ => rfl) hpc (by omega) 3 _ rfl, ?_⟩)), ?_⟩
      refine dd [8] ?_
      refine XD.ef0 9 rfl (Ef.st Tryz.sizeOf22) ?_
      rintro _ _ ⟨rfl, rfl⟩
      refine ⟨trivial, ?_⟩
      refine XD.nil ?_
      refine xx 1 ?_
      refine X.sb [13, 12, 9, 8, 7, 6, 4, 3] ?_
      refine X.draw [] Tryz.mixed (by kernel_rfl) (by kernel_rfl) rfl ?_
      refine XD.loadA 0 rfl rfl Tryz.isAgg28 Tryz.sizeOf28 hasA (by rfl) ?_
      refine XD.loadA 1 rfl rfl Tryz.isAgg74 Tryz.sizeOf74 hasA (by rfl) ?_
      refine XD.ef0 2 rfl (Ef.stA Tryz.sizeOf28) ?_
      rintro _ _ ⟨rfl, rfl⟩
      refine ⟨(hlA (h := by repeat first | exact trivial | refine ⟨clA, ?_⟩ | refine ⟨(Cl.row (j := f.code) hs1 leA (fun _ => rfl) hth (by omega) 2 _ rfl), ?_⟩ | refine ⟨Cl.e1 hsc leA hlt (by omega), ?_⟩ | refine ⟨Cl.e1 hsl leA hlt (by omega), ?_⟩ | refine ⟨Cl.row (j := f.pc) (sz := 4) hs2 leA (fun _ => rfl) hpc (by omega) 0 _ rfl, ?_⟩ | refine ⟨Cl.row (j := f.pc) (sz := 4) hs2 leA (fun _ => rfl) hpc (by omega) 1 _ rfl, ?_⟩ | refine ⟨Cl.row (j := f.pc) (sz := 4) hs2 leA (fun _ => rfl) hpc (by omega) 2 _ rfl, ?_⟩ | refine ⟨Cl.row (j := f.pc) (sz := 4) hs2 leA (fun _ => rfl) hpc (by omega) 3 _ rfl, ?_⟩)), ?_⟩
      refine XD.ef0 3 rfl (Ef.stA Tryz.sizeOf74) ?_
      rintro _ _ ⟨rfl, rfl⟩
      refine ⟨trivial, ?_⟩
      refine XD.nil ?_
      have hD : doAt m f cells = ((f.pc + 1, f.loc, f.stk ++ [f.loc[(insAt m f).a.toNat]]), dPlain) := by unfold doAt doS; rw [if_neg (by omega), if_neg (by omega), if_neg (by omega), if_neg (by omega), if_neg (by omega), if_neg (by omega), if_neg (by omega)]; unfold plainS; rw [if_neg (by omega), if_pos hx]; rw [getD_lt hlt]
      have hst0 : f.stk.take (f.stk.length - 0) = f.stk := List.take_of_length_le (by omega)
      rw [hst0]
      refine X.retL (lsH I64 2 a1 c1 (f.stk ++ [f.loc[(insAt m f).a.toNat]]) :: q) Tryz.func28 (resC Tryz.results28 (ResOk.cell rfl (LV.agg Tryz.isAgg28 Tryz.sizeOf28 hasA rfl) (ResOk.cell rfl (LV.agg Tryz.isAgg74 Tryz.sizeOf74 hasA rfl) ResOk.nil))) ⟨_, rfl, f.la, f.lc, a1, c1, _, by rw [hD]; rfl, by rw [hD]; exact ⟨.inl ⟨rfl, rfl⟩, .inr (Sees.lsH [])⟩, rfl⟩
  · skip
    have hdx : (1 : Int) ≤ f.stk.length := by have h := hdep; rw [hx] at h; exact h
    have hv := hS.arr (by omega)
    refine X.know 42 (.bool true) rfl (congrArg Value.bool (by first | exact decide_eq_true (by omega) | exact decide_eq_false (by omega) | (rw [beq_iff_eq]; omega) | (rw [beq_eq_false_iff_ne]; omega) | (rw [bne_iff_ne]; omega) | (rw [bne_eq_false_iff_eq]; omega))) ?_
    refine xo 3 ?_
    refine XO.ld Tryz.isAgg22 ?_
    refine oo 2 ?_
    refine XO.adr hf.s (by simp; omega) (fun bs os es => ?_)
    have hss := hf.s; rw [es] at hss
    refine XO.know 44 (.slice (some ⟨bs, os, none⟩) f.stk.length f.sc) rfl (by rw [es]) ?_
    refine oo 1 ?_
    refine XO.ld Tryz.isAgg2 ?_ (hc := (Cl.e1 (n := f.stk.length - 1) hss leA (by omega) (by omega)))
    refine XO.know 48 (.int .i64 (lastS f.stk)) rfl (congrArg (Value.int .i64) (getD_lt (by omega)).symm) ?_
    refine ox 8 ?_
    refine X.sb [50, 13, 14, 12, 11, 10, 9, 8, 7, 6, 4, 3, 2] ?_
    refine X.part 50 rfl (fun hn2 => ?_) (fun hn2 => ?_)
    · skip
      replace hn2 := sp hn2
      refine xo 3 ?_
      refine XO.ld Tryz.isAgg22 ?_
      refine oo 2 ?_
      refine XO.know 52 (.slice (some ⟨bs, os, none⟩) f.stk.length f.sc) rfl (by rw [es]) ?_
      refine oo 1 ?_
      refine XO.ld Tryz.isAgg2 ?_ (hc := (Cl.e1 (n := f.stk.length - 2) hss leA (by omega) (by omega)))
      refine XO.know 56 (.int .i64 (aheadS f.stk)) rfl (congrArg (Value.int .i64) (getD_lt (by omega)).symm) ?_
      refine ox 10 ?_
      refine X.know 57 (.bool false) rfl (congrArg Value.bool (by first | exact decide_eq_true (by omega) | exact decide_eq_false (by omega) | (rw [beq_iff_eq]; omega) | (rw [beq_eq_false_iff_ne]; omega) | (rw [bne_iff_ne]; omega) | (rw [bne_eq_false_iff_eq]; omega))) ?_
      refine xx 7 ?_
      refine X.sb [67, 14, 13, 12, 10, 9, 8, 7, 6, 4, 3, 2] ?_
      refine X.know 67 (.bool false) rfl (congrArg Value.bool (by first | exact decide_eq_true (by omega) | exact decide_eq_false (by omega) | (rw [beq_iff_eq]; omega) | (rw [beq_eq_false_iff_ne]; omega) | (rw [bne_iff_ne]; omega) | (rw [bne_eq_false_iff_eq]; omega))) ?_
      refine xx 7 ?_
      refine X.know 88 (.bool false) rfl (congrArg Value.bool (by first | exact decide_eq_true (by omega) | exact decide_eq_false (by omega) | (rw [beq_iff_eq]; omega) | (rw [beq_eq_false_iff_ne]; omega) | (rw [bne_iff_ne]; omega) | (rw [bne_eq_false_iff_eq]; omega))) ?_
      refine xx 7 ?_
      refine X.know 102 (.bool true) rfl (congrArg Value.bool (by first | exact decide_eq_true (by omega) | exact decide_eq_false (by omega) | (rw [beq_iff_eq]; omega) | (rw [beq_eq_false_iff_ne]; omega) | (rw [bne_iff_ne]; omega) | (rw [bne_eq_false_iff_eq]; omega))) ?_
      refine xo 3 ?_
      refine XO.ldA Tryz.isAgg26 Tryz.sizeOf26 ?_
      refine oo 1 ?_
      refine XO.ld Tryz.isAgg3 ?_
      refine oo 1 ?_
      refine XO.cR Tryz.call44 (RCell_ok (arr := (insAt m f).a) (idx := lastS f.stk) (hq.le leA) hS.ok hv (vals_getD hS.vl _)) ?_
      refine ox 8 ?_
      refine X.sb [111, 15, 13, 9, 8, 7, 6, 4, 3, 2] ?_
      refine X.part 111 rfl (fun ht => ?_) (fun ht => ?_)
      · skip
        replace ht := sp ht
        refine xo 3 ?_
        refine XO.ldA Tryz.isAgg28 Tryz.sizeOf28 ?_
        refine XO.cR Tryz.call45 (RTrap_ok (f := f)) ?_
        refine oo 2 ?_
        refine XO.ef0 (Ef.stA Tryz.sizeOf28) ?_
        rintro _ _ ⟨rfl, rfl⟩
        refine XO.ef0 (Ef.stA Tryz.sizeOf74) ?_
        rintro _ _ ⟨rfl, rfl⟩
        refine ox 1 ?_
        have hD : doAt m f cells = ((f.pc, f.loc, f.stk), dTrap 3) := by unfold doAt doS; rw [if_neg (by omega), if_neg (by omega), if_pos (by omega)]; rw [show accS m (insAt m f) f.stk cells = none from by unfold accS; rw [if_neg (by omega), if_neg (by omega), if_pos hx, if_pos ht]]
        refine X.retL (stars [] :: q) Tryz.func28 (resC Tryz.results28 (ResOk.cell rfl (LV.agg Tryz.isAgg28 Tryz.sizeOf28 hasA rfl) (ResOk.cell rfl (LV.agg Tryz.isAgg74 Tryz.sizeOf74 hasA rfl) ResOk.nil))) ⟨_, rfl, f.la, f.lc, f.sa, f.sc, _, by rw [hD]; rfl, by rw [hD]; exact ⟨.inl ⟨rfl, rfl⟩, .inl ⟨rfl, rfl⟩⟩, rfl⟩ (Le.trans leA (Le.stars_nil _))
      · skip
        replace ht := sp ht
        have hcr := cellS_rng hS.ok (a := (insAt m f).a) (i := lastS f.stk) hv; have hlt : (cellS m (insAt m f).a (lastS f.stk)).toNat < cells.length := by omega
        refine xx 3 ?_
        refine X.draw [] Tryz.mixed (by kernel_rfl) (by kernel_rfl) rfl ?_
        refine XD.loadA 0 rfl rfl Tryz.isAgg28 Tryz.sizeOf28 hasA (by rfl) ?_
        refine dd [1, 2] ?_
        refine XD.adr hc (by simp; omega) (fun bc oc ec => ?_)
        have hsc := hc; rw [ec] at hsc
        refine XD.know 117 (.slice (some ⟨bc, oc, none⟩) cells.length cc) rfl (by rw [ec]) ?_
        refine dd [3] ?_
        refine XD.ld 4 Tryz.isAgg2 ?_ (hc := (Cl.e1 hsc leA hlt (by omega)))
        refine XD.cX 5 Tryz.call43 (Le.refl _) (put_ok (f := f) (kk := 1) (z := cells[(cellS m (insAt m f).a (lastS f.stk)).toNat]) (hf.le leA) (by omega) hcap (by omega)) ?_
        rintro _ _ ⟨a1, c1, rfl, rfl⟩
        refine ⟨trivial, ?_⟩
        refine dd [6] ?_
        refine XD.ef0 7 rfl (Ef.st Tryz.sizeOf22) ?_
        rintro _ _ ⟨rfl, rfl⟩
        refine ⟨trivial, ?_⟩
        refine XD.nil ?_
        refine xx 1 ?_
        refine X.draw [] Tryz.mixed (by kernel_rfl) (by kernel_rfl) rfl ?_
        refine XD.loadA 0 rfl rfl Tryz.isAgg28 Tryz.sizeOf28 hasA (by rfl) ?_
        refine dd [1, 2, 3] ?_
        refine XD.know 125 (.slice (some ⟨bc, oc, none⟩) cells.length cc) rfl (by rw [ec]) ?_
        refine dd [4] ?_
        refine XD.ld 5 Tryz.isAgg2 ?_ (hc := (Cl.e1 hsc leA hlt (by omega)))
        refine dd [6, 7] ?_
        refine XD.ef0 8 rfl (Ef.stA Tryz.sizeOf28) ?_
        rintro _ _ ⟨rfl, rfl⟩
        refine ⟨(hlA (h := by repeat first | exact trivial | refine ⟨clA, ?_⟩ | refine ⟨(Cl.row (j := f.code) hs1 leA (fun _ => rfl) hth (by omega) 2 _ rfl), ?_⟩ | refine ⟨Cl.e1 hsc leA hlt (by omega), ?_⟩ | refine ⟨Cl.e1 hsl leA hlt (by omega), ?_⟩ | refine ⟨Cl.row (j := f.pc) (sz := 4) hs2 leA (fun _ => rfl) hpc (by omega) 0 _ rfl, ?_⟩ | refine ⟨Cl.row (j := f.pc) (sz := 4) hs2 leA (fun _ => rfl) hpc (by omega) 1 _ rfl, ?_⟩ | refine ⟨Cl.row (j := f.pc) (sz := 4) hs2 leA (fun _ => rfl) hpc (by omega) 2 _ rfl, ?_⟩ | refine ⟨Cl.row (j := f.pc) (sz := 4) hs2 leA (fun _ => rfl) hpc (by omega) 3 _ rfl, ?_⟩)), ?_⟩
        refine XD.ef0 9 rfl (Ef.stA Tryz.sizeOf74) ?_
        rintro _ _ ⟨rfl, rfl⟩
        refine ⟨trivial, ?_⟩
        refine XD.nil ?_
        have hD : doAt m f cells = ((f.pc + 1, f.loc, f.stk.take (f.stk.length - 1) ++ [cells[(cellS m (insAt m f).a (lastS f.stk)).toNat]]), dAcc (cellS m (insAt m f).a (lastS f.stk)) false cells[(cellS m (insAt m f).a (lastS f.stk)).toNat]) := by unfold doAt doS; rw [if_neg (by omega), if_neg (by omega), if_pos (by omega)]; rw [show accS m (insAt m f) f.stk cells = some ((cellS m (insAt m f).a (lastS f.stk), false, cells[(cellS m (insAt m f).a (lastS f.stk)).toNat]), f.stk.take (f.stk.length - 1) ++ [cells[(cellS m (insAt m f).a (lastS f.stk)).toNat]]) from by unfold accS; rw [if_neg (by omega), if_neg (by omega), if_pos hx, if_neg (by omega), getD_lt hlt]]
        refine X.retL (lsH I64 2 a1 c1 (f.stk.take (f.stk.length - 1) ++ [cells[(cellS m (insAt m f).a (lastS f.stk)).toNat]]) :: q) Tryz.func28 (resC Tryz.results28 (ResOk.cell rfl (LV.agg Tryz.isAgg28 Tryz.sizeOf28 hasA rfl) (ResOk.cell rfl (LV.agg Tryz.isAgg74 Tryz.sizeOf74 hasA rfl) ResOk.nil))) ⟨_, rfl, f.la, f.lc, a1, c1, _, by rw [hD]; rfl, by rw [hD]; exact ⟨.inl ⟨rfl, rfl⟩, .inr (Sees.lsH [])⟩, rfl⟩
    · skip
      replace hn2 := sp hn2
      refine xx 10 ?_
      refine X.know 57 (.bool false) rfl (congrArg Value.bool (by first | exact decide_eq_true (by omega) | exact decide_eq_false (by omega) | (rw [beq_iff_eq]; omega) | (rw [beq_eq_false_iff_ne]; omega) | (rw [bne_iff_ne]; omega) | (rw [bne_eq_false_iff_eq]; omega))) ?_
      refine xx 7 ?_
      refine X.know 67 (.bool false) rfl (congrArg Value.bool (by first | exact decide_eq_true (by omega) | exact decide_eq_false (by omega) | (rw [beq_iff_eq]; omega) | (rw [beq_eq_false_iff_ne]; omega) | (rw [bne_iff_ne]; omega) | (rw [bne_eq_false_iff_eq]; omega))) ?_
      refine xx 7 ?_
      refine X.know 88 (.bool false) rfl (congrArg Value.bool (by first | exact decide_eq_true (by omega) | exact decide_eq_false (by omega) | (rw [beq_iff_eq]; omega) | (rw [beq_eq_false_iff_ne]; omega) | (rw [bne_iff_ne]; omega) | (rw [bne_eq_false_iff_eq]; omega))) ?_
      refine xx 7 ?_
      refine X.know 102 (.bool true) rfl (congrArg Value.bool (by first | exact decide_eq_true (by omega) | exact decide_eq_false (by omega) | (rw [beq_iff_eq]; omega) | (rw [beq_eq_false_iff_ne]; omega) | (rw [bne_iff_ne]; omega) | (rw [bne_eq_false_iff_eq]; omega))) ?_
      refine xo 3 ?_
      refine XO.ldA Tryz.isAgg26 Tryz.sizeOf26 ?_
      refine oo 1 ?_
      refine XO.ld Tryz.isAgg3 ?_
      refine oo 1 ?_
      refine XO.cR Tryz.call44 (RCell_ok (arr := (insAt m f).a) (idx := lastS f.stk) (hq.le leA) hS.ok hv (vals_getD hS.vl _)) ?_
      refine ox 8 ?_
      refine X.sb [111, 15, 13, 9, 8, 7, 6, 4, 3, 2] ?_
      refine X.part 111 rfl (fun ht => ?_) (fun ht => ?_)
      · skip
        replace ht := sp ht
        refine xo 3 ?_
        refine XO.ldA Tryz.isAgg28 Tryz.sizeOf28 ?_
        refine XO.cR Tryz.call45 (RTrap_ok (f := f)) ?_
        refine oo 2 ?_
        refine XO.ef0 (Ef.stA Tryz.sizeOf28) ?_
        rintro _ _ ⟨rfl, rfl⟩
        refine XO.ef0 (Ef.stA Tryz.sizeOf74) ?_
        rintro _ _ ⟨rfl, rfl⟩
        refine ox 1 ?_
        have hD : doAt m f cells = ((f.pc, f.loc, f.stk), dTrap 3) := by unfold doAt doS; rw [if_neg (by omega), if_neg (by omega), if_pos (by omega)]; rw [show accS m (insAt m f) f.stk cells = none from by unfold accS; rw [if_neg (by omega), if_neg (by omega), if_pos hx, if_pos ht]]
        refine X.retL (stars [] :: q) Tryz.func28 (resC Tryz.results28 (ResOk.cell rfl (LV.agg Tryz.isAgg28 Tryz.sizeOf28 hasA rfl) (ResOk.cell rfl (LV.agg Tryz.isAgg74 Tryz.sizeOf74 hasA rfl) ResOk.nil))) ⟨_, rfl, f.la, f.lc, f.sa, f.sc, _, by rw [hD]; rfl, by rw [hD]; exact ⟨.inl ⟨rfl, rfl⟩, .inl ⟨rfl, rfl⟩⟩, rfl⟩ (Le.trans leA (Le.stars_nil _))
      · skip
        replace ht := sp ht
        have hcr := cellS_rng hS.ok (a := (insAt m f).a) (i := lastS f.stk) hv; have hlt : (cellS m (insAt m f).a (lastS f.stk)).toNat < cells.length := by omega
        refine xx 3 ?_
        refine X.draw [] Tryz.mixed (by kernel_rfl) (by kernel_rfl) rfl ?_
        refine XD.loadA 0 rfl rfl Tryz.isAgg28 Tryz.sizeOf28 hasA (by rfl) ?_
        refine dd [1, 2] ?_
        refine XD.adr hc (by simp; omega) (fun bc oc ec => ?_)
        have hsc := hc; rw [ec] at hsc
        refine XD.know 117 (.slice (some ⟨bc, oc, none⟩) cells.length cc) rfl (by rw [ec]) ?_
        refine dd [3] ?_
        refine XD.ld 4 Tryz.isAgg2 ?_ (hc := (Cl.e1 hsc leA hlt (by omega)))
        refine XD.cX 5 Tryz.call43 (Le.refl _) (put_ok (f := f) (kk := 1) (z := cells[(cellS m (insAt m f).a (lastS f.stk)).toNat]) (hf.le leA) (by omega) hcap (by omega)) ?_
        rintro _ _ ⟨a1, c1, rfl, rfl⟩
        refine ⟨trivial, ?_⟩
        refine dd [6] ?_
        refine XD.ef0 7 rfl (Ef.st Tryz.sizeOf22) ?_
        rintro _ _ ⟨rfl, rfl⟩
        refine ⟨trivial, ?_⟩
        refine XD.nil ?_
        refine xx 1 ?_
        refine X.draw [] Tryz.mixed (by kernel_rfl) (by kernel_rfl) rfl ?_
        refine XD.loadA 0 rfl rfl Tryz.isAgg28 Tryz.sizeOf28 hasA (by rfl) ?_
        refine dd [1, 2, 3] ?_
        refine XD.know 125 (.slice (some ⟨bc, oc, none⟩) cells.length cc) rfl (by rw [ec]) ?_
        refine dd [4] ?_
        refine XD.ld 5 Tryz.isAgg2 ?_ (hc := (Cl.e1 hsc leA hlt (by omega)))
        refine dd [6, 7] ?_
        refine XD.ef0 8 rfl (Ef.stA Tryz.sizeOf28) ?_
        rintro _ _ ⟨rfl, rfl⟩
        refine ⟨(hlA (h := by repeat first | exact trivial | refine ⟨clA, ?_⟩ | refine ⟨(Cl.row (j := f.code) hs1 leA (fun _ => rfl) hth (by omega) 2 _ rfl), ?_⟩ | refine ⟨Cl.e1 hsc leA hlt (by omega), ?_⟩ | refine ⟨Cl.e1 hsl leA hlt (by omega), ?_⟩ | refine ⟨Cl.row (j := f.pc) (sz := 4) hs2 leA (fun _ => rfl) hpc (by omega) 0 _ rfl, ?_⟩ | refine ⟨Cl.row (j := f.pc) (sz := 4) hs2 leA (fun _ => rfl) hpc (by omega) 1 _ rfl, ?_⟩ | refine ⟨Cl.row (j := f.pc) (sz := 4) hs2 leA (fun _ => rfl) hpc (by omega) 2 _ rfl, ?_⟩ | refine ⟨Cl.row (j := f.pc) (sz := 4) hs2 leA (fun _ => rfl) hpc (by omega) 3 _ rfl, ?_⟩)), ?_⟩
        refine XD.ef0 9 rfl (Ef.stA Tryz.sizeOf74) ?_
        rintro _ _ ⟨rfl, rfl⟩
        refine ⟨trivial, ?_⟩
        refine XD.nil ?_
        have hD : doAt m f cells = ((f.pc + 1, f.loc, f.stk.take (f.stk.length - 1) ++ [cells[(cellS m (insAt m f).a (lastS f.stk)).toNat]]), dAcc (cellS m (insAt m f).a (lastS f.stk)) false cells[(cellS m (insAt m f).a (lastS f.stk)).toNat]) := by unfold doAt doS; rw [if_neg (by omega), if_neg (by omega), if_pos (by omega)]; rw [show accS m (insAt m f) f.stk cells = some ((cellS m (insAt m f).a (lastS f.stk), false, cells[(cellS m (insAt m f).a (lastS f.stk)).toNat]), f.stk.take (f.stk.length - 1) ++ [cells[(cellS m (insAt m f).a (lastS f.stk)).toNat]]) from by unfold accS; rw [if_neg (by omega), if_neg (by omega), if_pos hx, if_neg (by omega), getD_lt hlt]]
        refine X.retL (lsH I64 2 a1 c1 (f.stk.take (f.stk.length - 1) ++ [cells[(cellS m (insAt m f).a (lastS f.stk)).toNat]]) :: q) Tryz.func28 (resC Tryz.results28 (ResOk.cell rfl (LV.agg Tryz.isAgg28 Tryz.sizeOf28 hasA rfl) (ResOk.cell rfl (LV.agg Tryz.isAgg74 Tryz.sizeOf74 hasA rfl) ResOk.nil))) ⟨_, rfl, f.la, f.lc, a1, c1, _, by rw [hD]; rfl, by rw [hD]; exact ⟨.inl ⟨rfl, rfl⟩, .inr (Sees.lsH [])⟩, rfl⟩
  · skip
    have hdx : (1 : Int) ≤ f.stk.length := by have h := hdep; rw [hx] at h; exact h
    have hv := hS.var (by omega); have hlt : (insAt m f).a.toNat < cells.length := by unfold cntS at hcel; omega
    refine X.know 42 (.bool true) rfl (congrArg Value.bool (by first | exact decide_eq_true (by omega) | exact decide_eq_false (by omega) | (rw [beq_iff_eq]; omega) | (rw [beq_eq_false_iff_ne]; omega) | (rw [bne_iff_ne]; omega) | (rw [bne_eq_false_iff_eq]; omega))) ?_
    refine xo 3 ?_
    refine XO.ld Tryz.isAgg22 ?_
    refine oo 2 ?_
    refine XO.adr hf.s (by simp; omega) (fun bs os es => ?_)
    have hss := hf.s; rw [es] at hss
    refine XO.know 44 (.slice (some ⟨bs, os, none⟩) f.stk.length f.sc) rfl (by rw [es]) ?_
    refine oo 1 ?_
    refine XO.ld Tryz.isAgg2 ?_ (hc := (Cl.e1 (n := f.stk.length - 1) hss leA (by omega) (by omega)))
    refine XO.know 48 (.int .i64 (lastS f.stk)) rfl (congrArg (Value.int .i64) (getD_lt (by omega)).symm) ?_
    refine ox 8 ?_
    refine X.sb [50, 13, 14, 12, 11, 10, 9, 8, 7, 6, 4, 3, 2] ?_
    refine X.part 50 rfl (fun hn2 => ?_) (fun hn2 => ?_)
    · skip
      replace hn2 := sp hn2
      refine xo 3 ?_
      refine XO.ld Tryz.isAgg22 ?_
      refine oo 2 ?_
      refine XO.know 52 (.slice (some ⟨bs, os, none⟩) f.stk.length f.sc) rfl (by rw [es]) ?_
      refine oo 1 ?_
      refine XO.ld Tryz.isAgg2 ?_ (hc := (Cl.e1 (n := f.stk.length - 2) hss leA (by omega) (by omega)))
      refine XO.know 56 (.int .i64 (aheadS f.stk)) rfl (congrArg (Value.int .i64) (getD_lt (by omega)).symm) ?_
      refine ox 10 ?_
      refine X.know 57 (.bool false) rfl (congrArg Value.bool (by first | exact decide_eq_true (by omega) | exact decide_eq_false (by omega) | (rw [beq_iff_eq]; omega) | (rw [beq_eq_false_iff_ne]; omega) | (rw [bne_iff_ne]; omega) | (rw [bne_eq_false_iff_eq]; omega))) ?_
      refine xx 7 ?_
      refine X.sb [67, 14, 13, 12, 10, 9, 8, 7, 6, 4, 3, 2] ?_
      refine X.know 67 (.bool false) rfl (congrArg Value.bool (by first | exact decide_eq_true (by omega) | exact decide_eq_false (by omega) | (rw [beq_iff_eq]; omega) | (rw [beq_eq_false_iff_ne]; omega) | (rw [bne_iff_ne]; omega) | (rw [bne_eq_false_iff_eq]; omega))) ?_
      refine xx 7 ?_
      refine X.know 88 (.bool false) rfl (congrArg Value.bool (by first | exact decide_eq_true (by omega) | exact decide_eq_false (by omega) | (rw [beq_iff_eq]; omega) | (rw [beq_eq_false_iff_ne]; omega) | (rw [bne_iff_ne]; omega) | (rw [bne_eq_false_iff_eq]; omega))) ?_
      refine xx 7 ?_
      refine X.know 102 (.bool false) rfl (congrArg Value.bool (by first | exact decide_eq_true (by omega) | exact decide_eq_false (by omega) | (rw [beq_iff_eq]; omega) | (rw [beq_eq_false_iff_ne]; omega) | (rw [bne_iff_ne]; omega) | (rw [bne_eq_false_iff_eq]; omega))) ?_
      refine xx 7 ?_
      refine X.know 131 (.bool true) rfl (congrArg Value.bool (by first | exact decide_eq_true (by omega) | exact decide_eq_false (by omega) | (rw [beq_iff_eq]; omega) | (rw [beq_eq_false_iff_ne]; omega) | (rw [bne_iff_ne]; omega) | (rw [bne_eq_false_iff_eq]; omega))) ?_
      refine xo 3 ?_
      refine XO.ldA Tryz.isAgg28 Tryz.sizeOf28 ?_
      refine XO.cX Tryz.call46 (Le.refl _) (take_ok (f := f) (kk := 1) (hf.le leA) (by omega) hcap (by omega)) ?_
      rintro _ _ ⟨a1, c1, rfl, rfl⟩
      refine oo 1 ?_
      refine XO.ef0 (Ef.st Tryz.sizeOf22) ?_
      rintro _ _ ⟨rfl, rfl⟩
      refine ox 2 ?_
      refine X.draw [] Tryz.mixed (by kernel_rfl) (by kernel_rfl) rfl ?_
      refine XD.loadA 0 rfl rfl Tryz.isAgg28 Tryz.sizeOf28 hasA (by rfl) ?_
      refine dd [1] ?_
      refine XD.ld 2 Tryz.isAgg3 ?_
      refine dd [3, 4, 5] ?_
      refine XD.ef0 6 rfl (Ef.stA Tryz.sizeOf28) ?_
      rintro _ _ ⟨rfl, rfl⟩
      refine ⟨(hlA (h := by repeat first | exact trivial | refine ⟨clA, ?_⟩ | refine ⟨(Cl.row (j := f.code) hs1 leA (fun _ => rfl) hth (by omega) 2 _ rfl), ?_⟩ | refine ⟨Cl.e1 hsc leA hlt (by omega), ?_⟩ | refine ⟨Cl.e1 hsl leA hlt (by omega), ?_⟩ | refine ⟨Cl.row (j := f.pc) (sz := 4) hs2 leA (fun _ => rfl) hpc (by omega) 0 _ rfl, ?_⟩ | refine ⟨Cl.row (j := f.pc) (sz := 4) hs2 leA (fun _ => rfl) hpc (by omega) 1 _ rfl, ?_⟩ | refine ⟨Cl.row (j := f.pc) (sz := 4) hs2 leA (fun _ => rfl) hpc (by omega) 2 _ rfl, ?_⟩ | refine ⟨Cl.row (j := f.pc) (sz := 4) hs2 leA (fun _ => rfl) hpc (by omega) 3 _ rfl, ?_⟩)), ?_⟩
      refine XD.ef0 7 rfl (Ef.stA Tryz.sizeOf74) ?_
      rintro _ _ ⟨rfl, rfl⟩
      refine ⟨trivial, ?_⟩
      refine XD.nil ?_
      have hD : doAt m f cells = ((f.pc + 1, f.loc, f.stk.take (f.stk.length - 1)), dAcc (insAt m f).a true (lastS f.stk)) := by unfold doAt doS; rw [if_neg (by omega), if_neg (by omega), if_pos (by omega)]; rw [show accS m (insAt m f) f.stk cells = some (((insAt m f).a, true, lastS f.stk), f.stk.take (f.stk.length - 1)) from by unfold accS; rw [if_neg (by omega), if_pos hx]]
      refine X.retL (lsH I64 2 a1 c1 (f.stk.take (f.stk.length - 1)) :: q) Tryz.func28 (resC Tryz.results28 (ResOk.cell rfl (LV.agg Tryz.isAgg28 Tryz.sizeOf28 hasA rfl) (ResOk.cell rfl (LV.agg Tryz.isAgg74 Tryz.sizeOf74 hasA rfl) ResOk.nil))) ⟨_, rfl, f.la, f.lc, a1, c1, _, by rw [hD]; rfl, by rw [hD]; exact ⟨.inl ⟨rfl, rfl⟩, .inr (Sees.lsH [])⟩, rfl⟩
    · skip
      replace hn2 := sp hn2
      refine xx 10 ?_
      refine X.know 57 (.bool false) rfl (congrArg Value.bool (by first | exact decide_eq_true (by omega) | exact decide_eq_false (by omega) | (rw [beq_iff_eq]; omega) | (rw [beq_eq_false_iff_ne]; omega) | (rw [bne_iff_ne]; omega) | (rw [bne_eq_false_iff_eq]; omega))) ?_
      refine xx 7 ?_
      refine X.know 67 (.bool false) rfl (congrArg Value.bool (by first | exact decide_eq_true (by omega) | exact decide_eq_false (by omega) | (rw [beq_iff_eq]; omega) | (rw [beq_eq_false_iff_ne]; omega) | (rw [bne_iff_ne]; omega) | (rw [bne_eq_false_iff_eq]; omega))) ?_
      refine xx 7 ?_
      refine X.know 88 (.bool false) rfl (congrArg Value.bool (by first | exact decide_eq_true (by omega) | exact decide_eq_false (by omega) | (rw [beq_iff_eq]; omega) | (rw [beq_eq_false_iff_ne]; omega) | (rw [bne_iff_ne]; omega) | (rw [bne_eq_false_iff_eq]; omega))) ?_
      refine xx 7 ?_
      refine X.know 102 (.bool false) rfl (congrArg Value.bool (by first | exact decide_eq_true (by omega) | exact decide_eq_false (by omega) | (rw [beq_iff_eq]; omega) | (rw [beq_eq_false_iff_ne]; omega) | (rw [bne_iff_ne]; omega) | (rw [bne_eq_false_iff_eq]; omega))) ?_
      refine xx 7 ?_
      refine X.sb [131, 13, 14, 12, 10, 9, 8, 7, 6, 4, 3] ?_
      refine X.know 131 (.bool true) rfl (congrArg Value.bool (by first | exact decide_eq_true (by omega) | exact decide_eq_false (by omega) | (rw [beq_iff_eq]; omega) | (rw [beq_eq_false_iff_ne]; omega) | (rw [bne_iff_ne]; omega) | (rw [bne_eq_false_iff_eq]; omega))) ?_
      refine xo 3 ?_
      refine XO.ldA Tryz.isAgg28 Tryz.sizeOf28 ?_
      refine XO.cX Tryz.call46 (Le.refl _) (take_ok (f := f) (kk := 1) (hf.le leA) (by omega) hcap (by omega)) ?_
      rintro _ _ ⟨a1, c1, rfl, rfl⟩
      refine oo 1 ?_
      refine XO.ef0 (Ef.st Tryz.sizeOf22) ?_
      rintro _ _ ⟨rfl, rfl⟩
      refine ox 2 ?_
      refine X.draw [] Tryz.mixed (by kernel_rfl) (by kernel_rfl) rfl ?_
      refine XD.loadA 0 rfl rfl Tryz.isAgg28 Tryz.sizeOf28 hasA (by rfl) ?_
      refine dd [1] ?_
      refine XD.ld 2 Tryz.isAgg3 ?_
      refine dd [3, 4, 5] ?_
      refine XD.ef0 6 rfl (Ef.stA Tryz.sizeOf28) ?_
      rintro _ _ ⟨rfl, rfl⟩
      refine ⟨(hlA (h := by repeat first | exact trivial | refine ⟨clA, ?_⟩ | refine ⟨(Cl.row (j := f.code) hs1 leA (fun _ => rfl) hth (by omega) 2 _ rfl), ?_⟩ | refine ⟨Cl.e1 hsc leA hlt (by omega), ?_⟩ | refine ⟨Cl.e1 hsl leA hlt (by omega), ?_⟩ | refine ⟨Cl.row (j := f.pc) (sz := 4) hs2 leA (fun _ => rfl) hpc (by omega) 0 _ rfl, ?_⟩ | refine ⟨Cl.row (j := f.pc) (sz := 4) hs2 leA (fun _ => rfl) hpc (by omega) 1 _ rfl, ?_⟩ | refine ⟨Cl.row (j := f.pc) (sz := 4) hs2 leA (fun _ => rfl) hpc (by omega) 2 _ rfl, ?_⟩ | refine ⟨Cl.row (j := f.pc) (sz := 4) hs2 leA (fun _ => rfl) hpc (by omega) 3 _ rfl, ?_⟩)), ?_⟩
      refine XD.ef0 7 rfl (Ef.stA Tryz.sizeOf74) ?_
      rintro _ _ ⟨rfl, rfl⟩
      refine ⟨trivial, ?_⟩
      refine XD.nil ?_
      have hD : doAt m f cells = ((f.pc + 1, f.loc, f.stk.take (f.stk.length - 1)), dAcc (insAt m f).a true (lastS f.stk)) := by unfold doAt doS; rw [if_neg (by omega), if_neg (by omega), if_pos (by omega)]; rw [show accS m (insAt m f) f.stk cells = some (((insAt m f).a, true, lastS f.stk), f.stk.take (f.stk.length - 1)) from by unfold accS; rw [if_neg (by omega), if_pos hx]]
      refine X.retL (lsH I64 2 a1 c1 (f.stk.take (f.stk.length - 1)) :: q) Tryz.func28 (resC Tryz.results28 (ResOk.cell rfl (LV.agg Tryz.isAgg28 Tryz.sizeOf28 hasA rfl) (ResOk.cell rfl (LV.agg Tryz.isAgg74 Tryz.sizeOf74 hasA rfl) ResOk.nil))) ⟨_, rfl, f.la, f.lc, a1, c1, _, by rw [hD]; rfl, by rw [hD]; exact ⟨.inl ⟨rfl, rfl⟩, .inr (Sees.lsH [])⟩, rfl⟩
  · skip
    have hdx : (1 : Int) ≤ f.stk.length := by have h := hdep; rw [hx] at h; exact h
    have hv := hS.loc (by omega); have hlt : (insAt m f).a.toNat < f.loc.length := by omega
    refine X.know 42 (.bool true) rfl (congrArg Value.bool (by first | exact decide_eq_true (by omega) | exact decide_eq_false (by omega) | (rw [beq_iff_eq]; omega) | (rw [beq_eq_false_iff_ne]; omega) | (rw [bne_iff_ne]; omega) | (rw [bne_eq_false_iff_eq]; omega))) ?_
    refine xo 3 ?_
    refine XO.ld Tryz.isAgg22 ?_
    refine oo 2 ?_
    refine XO.adr hf.s (by simp; omega) (fun bs os es => ?_)
    have hss := hf.s; rw [es] at hss
    refine XO.know 44 (.slice (some ⟨bs, os, none⟩) f.stk.length f.sc) rfl (by rw [es]) ?_
    refine oo 1 ?_
    refine XO.ld Tryz.isAgg2 ?_ (hc := (Cl.e1 (n := f.stk.length - 1) hss leA (by omega) (by omega)))
    refine XO.know 48 (.int .i64 (lastS f.stk)) rfl (congrArg (Value.int .i64) (getD_lt (by omega)).symm) ?_
    refine ox 8 ?_
    refine X.sb [50, 13, 14, 12, 11, 10, 9, 8, 7, 6, 4, 3, 2] ?_
    refine X.part 50 rfl (fun hn2 => ?_) (fun hn2 => ?_)
    · skip
      replace hn2 := sp hn2
      refine xo 3 ?_
      refine XO.ld Tryz.isAgg22 ?_
      refine oo 2 ?_
      refine XO.know 52 (.slice (some ⟨bs, os, none⟩) f.stk.length f.sc) rfl (by rw [es]) ?_
      refine oo 1 ?_
      refine XO.ld Tryz.isAgg2 ?_ (hc := (Cl.e1 (n := f.stk.length - 2) hss leA (by omega) (by omega)))
      refine XO.know 56 (.int .i64 (aheadS f.stk)) rfl (congrArg (Value.int .i64) (getD_lt (by omega)).symm) ?_
      refine ox 10 ?_
      refine X.know 57 (.bool false) rfl (congrArg Value.bool (by first | exact decide_eq_true (by omega) | exact decide_eq_false (by omega) | (rw [beq_iff_eq]; omega) | (rw [beq_eq_false_iff_ne]; omega) | (rw [bne_iff_ne]; omega) | (rw [bne_eq_false_iff_eq]; omega))) ?_
      refine xx 7 ?_
      refine X.sb [67, 14, 13, 12, 10, 9, 8, 7, 6, 4, 3, 2] ?_
      refine X.know 67 (.bool false) rfl (congrArg Value.bool (by first | exact decide_eq_true (by omega) | exact decide_eq_false (by omega) | (rw [beq_iff_eq]; omega) | (rw [beq_eq_false_iff_ne]; omega) | (rw [bne_iff_ne]; omega) | (rw [bne_eq_false_iff_eq]; omega))) ?_
      refine xx 7 ?_
      refine X.know 88 (.bool false) rfl (congrArg Value.bool (by first | exact decide_eq_true (by omega) | exact decide_eq_false (by omega) | (rw [beq_iff_eq]; omega) | (rw [beq_eq_false_iff_ne]; omega) | (rw [bne_iff_ne]; omega) | (rw [bne_eq_false_iff_eq]; omega))) ?_
      refine xx 7 ?_
      refine X.know 102 (.bool false) rfl (congrArg Value.bool (by first | exact decide_eq_true (by omega) | exact decide_eq_false (by omega) | (rw [beq_iff_eq]; omega) | (rw [beq_eq_false_iff_ne]; omega) | (rw [bne_iff_ne]; omega) | (rw [bne_eq_false_iff_eq]; omega))) ?_
      refine xx 7 ?_
      refine X.know 131 (.bool false) rfl (congrArg Value.bool (by first | exact decide_eq_true (by omega) | exact decide_eq_false (by omega) | (rw [beq_iff_eq]; omega) | (rw [beq_eq_false_iff_ne]; omega) | (rw [bne_iff_ne]; omega) | (rw [bne_eq_false_iff_eq]; omega))) ?_
      refine xx 7 ?_
      refine X.know 143 (.bool true) rfl (congrArg Value.bool (by first | exact decide_eq_true (by omega) | exact decide_eq_false (by omega) | (rw [beq_iff_eq]; omega) | (rw [beq_eq_false_iff_ne]; omega) | (rw [bne_iff_ne]; omega) | (rw [bne_eq_false_iff_eq]; omega))) ?_
      refine xo 3 ?_
      refine XO.ldA Tryz.isAgg28 Tryz.sizeOf28 ?_
      refine XO.cX Tryz.call46 (Le.refl _) (take_ok (f := f) (kk := 1) (hf.le leA) (by omega) hcap (by omega)) ?_
      rintro _ _ ⟨a1, c1, rfl, rfl⟩
      refine oo 1 ?_
      refine XO.ef0 (Ef.st Tryz.sizeOf22) ?_
      rintro _ _ ⟨rfl, rfl⟩
      refine oo 4 ?_
      refine XO.ld Tryz.isAgg22 ?_
      refine XO.le (q' := lsH I64 2 none 0 [] :: _) (Le.lsH_nil _ _ _) ?_
      refine XO.ef (Ef.appA (f := I64) (l := []) (m := f.loc) Tryz.underlying22 Tryz.info2 rfl rfl rfl fndA (hf.l.le leA) (fun _ => rfl) (by simp; omega) (by simp; omega)) ?_
      rintro _ _ ⟨a2, c2, rfl, rfl⟩
      rw [List.nil_append]
      refine oo 1 ?_
      refine XO.ef0 (Ef.st Tryz.sizeOf22) ?_
      rintro _ _ ⟨rfl, rfl⟩
      refine oo 4 ?_
      refine XO.ld Tryz.isAgg22 ?_
      refine oo 1 ?_
      refine XO.ld Tryz.isAgg3 ?_
      refine oo 1 ?_
      refine XO.lsadr (l := f.loc) (a := a2) (by omega) (fun gl e_ => ?_); subst e_
      refine oo 1 ?_
      refine XO.ef0 (Ef.setL (l := f.loc) (n := (insAt m f).a.toNat) (u := lastS f.stk) rfl rfl Tryz.sizeOf2 (by omega) hlt rfl rfl fndA) ?_
      rintro _ _ ⟨rfl, rfl⟩
      refine ox 2 ?_
      refine X.sb [13, 12, 9, 8, 7, 6, 4, 3] ?_
      refine X.draw [] Tryz.mixed (by kernel_rfl) (by kernel_rfl) rfl ?_
      refine XD.loadA 0 rfl rfl Tryz.isAgg28 Tryz.sizeOf28 hasA (by rfl) ?_
      refine XD.loadA 1 rfl rfl Tryz.isAgg74 Tryz.sizeOf74 hasA (by rfl) ?_
      refine XD.ef0 2 rfl (Ef.stA Tryz.sizeOf28) ?_
      rintro _ _ ⟨rfl, rfl⟩
      refine ⟨(hlA (h := by repeat first | exact trivial | refine ⟨clA, ?_⟩ | refine ⟨(Cl.row (j := f.code) hs1 leA (fun _ => rfl) hth (by omega) 2 _ rfl), ?_⟩ | refine ⟨Cl.e1 hsc leA hlt (by omega), ?_⟩ | refine ⟨Cl.e1 hsl leA hlt (by omega), ?_⟩ | refine ⟨Cl.row (j := f.pc) (sz := 4) hs2 leA (fun _ => rfl) hpc (by omega) 0 _ rfl, ?_⟩ | refine ⟨Cl.row (j := f.pc) (sz := 4) hs2 leA (fun _ => rfl) hpc (by omega) 1 _ rfl, ?_⟩ | refine ⟨Cl.row (j := f.pc) (sz := 4) hs2 leA (fun _ => rfl) hpc (by omega) 2 _ rfl, ?_⟩ | refine ⟨Cl.row (j := f.pc) (sz := 4) hs2 leA (fun _ => rfl) hpc (by omega) 3 _ rfl, ?_⟩)), ?_⟩
      refine XD.ef0 3 rfl (Ef.stA Tryz.sizeOf74) ?_
      rintro _ _ ⟨rfl, rfl⟩
      refine ⟨trivial, ?_⟩
      refine XD.nil ?_
      have hD : doAt m f cells = ((f.pc + 1, (f.loc.set (insAt m f).a.toNat (lastS f.stk)), f.stk.take (f.stk.length - 1)), dPlain) := by unfold doAt doS; rw [if_neg (by omega), if_neg (by omega), if_neg (by omega), if_neg (by omega), if_neg (by omega), if_neg (by omega), if_neg (by omega)]; unfold plainS; rw [if_neg (by omega), if_neg (by omega), if_pos hx]
      refine X.retL (stars [lsH I64 2 a1 c1 (f.stk.take (f.stk.length - 1)), lsH I64 2 (some ⟨gl, 0, none⟩) c2 ((f.loc.set (insAt m f).a.toNat (lastS f.stk)))] :: q) Tryz.func28 (resC Tryz.results28 (ResOk.cell rfl (LV.agg Tryz.isAgg28 Tryz.sizeOf28 hasA rfl) (ResOk.cell rfl (LV.agg Tryz.isAgg74 Tryz.sizeOf74 hasA rfl) ResOk.nil))) ⟨_, rfl, _, c2, a1, c1, _, by rw [hD]; simp only [frmC, List.length_set]; rfl, by rw [hD]; exact ⟨.inr ((Sees.lsH _).le (Le.trans (Le.stars_out [_, _] []) fndA)), .inr ((Sees.lsH _).le (Le.trans (Le.stars_out [_, _] []) fndA))⟩, rfl⟩ (Le.trans (Le.pick fndA (Le.pick fndA leA)) (Le.stars_in [_, _] _))
    · skip
      replace hn2 := sp hn2
      refine xx 10 ?_
      refine X.know 57 (.bool false) rfl (congrArg Value.bool (by first | exact decide_eq_true (by omega) | exact decide_eq_false (by omega) | (rw [beq_iff_eq]; omega) | (rw [beq_eq_false_iff_ne]; omega) | (rw [bne_iff_ne]; omega) | (rw [bne_eq_false_iff_eq]; omega))) ?_
      refine xx 7 ?_
      refine X.know 67 (.bool false) rfl (congrArg Value.bool (by first | exact decide_eq_true (by omega) | exact decide_eq_false (by omega) | (rw [beq_iff_eq]; omega) | (rw [beq_eq_false_iff_ne]; omega) | (rw [bne_iff_ne]; omega) | (rw [bne_eq_false_iff_eq]; omega))) ?_
      refine xx 7 ?_
      refine X.know 88 (.bool false) rfl (congrArg Value.bool (by first | exact decide_eq_true (by omega) | exact decide_eq_false (by omega) | (rw [beq_iff_eq]; omega) | (rw [beq_eq_false_iff_ne]; omega) | (rw [bne_iff_ne]; omega) | (rw [bne_eq_false_iff_eq]; omega))) ?_
      refine xx 7 ?_
      refine X.know 102 (.bool false) rfl (congrArg Value.bool (by first | exact decide_eq_true (by omega) | exact decide_eq_false (by omega) | (rw [beq_iff_eq]; omega) | (rw [beq_eq_false_iff_ne]; omega) | (rw [bne_iff_ne]; omega) | (rw [bne_eq_false_iff_eq]; omega))) ?_
      refine xx 7 ?_
      refine X.sb [131, 13, 14, 12, 10, 9, 8, 7, 6, 4, 3] ?_
      refine X.know 131 (.bool false) rfl (congrArg Value.bool (by first | exact decide_eq_true (by omega) | exact decide_eq_false (by omega) | (rw [beq_iff_eq]; omega) | (rw [beq_eq_false_iff_ne]; omega) | (rw [bne_iff_ne]; omega) | (rw [bne_eq_false_iff_eq]; omega))) ?_
      refine xx 7 ?_
      refine X.know 143 (.bool true) rfl (congrArg Value.bool (by first | exact decide_eq_true (by omega) | exact decide_eq_false (by omega) | (rw [beq_iff_eq]; omega) | (rw [beq_eq_false_iff_ne]; omega) | (rw [bne_iff_ne]; omega) | (rw [bne_eq_false_iff_eq]; omega))) ?_
      refine xo 3 ?_
      refine XO.ldA Tryz.isAgg28 Tryz.sizeOf28 ?_
      refine XO.cX Tryz.call46 (Le.refl _) (take_ok (f := f) (kk := 1) (hf.le leA) (by omega) hcap (by omega)) ?_
      rintro _ _ ⟨a1, c1, rfl, rfl⟩
      refine oo 1 ?_
      refine XO.ef0 (Ef.st Tryz.sizeOf22) ?_
      rintro _ _ ⟨rfl, rfl⟩
      refine oo 4 ?_
      refine XO.ld Tryz.isAgg22 ?_
      refine XO.le (q' := lsH I64 2 none 0 [] :: _) (Le.lsH_nil _ _ _) ?_
      refine XO.ef (Ef.appA (f := I64) (l := []) (m := f.loc) Tryz.underlying22 Tryz.info2 rfl rfl rfl fndA (hf.l.le leA) (fun _ => rfl) (by simp; omega) (by simp; omega)) ?_
      rintro _ _ ⟨a2, c2, rfl, rfl⟩
      rw [List.nil_append]
      refine oo 1 ?_
      refine XO.ef0 (Ef.st Tryz.sizeOf22) ?_
      rintro _ _ ⟨rfl, rfl⟩
      refine oo 4 ?_
      refine XO.ld Tryz.isAgg22 ?_
      refine oo 1 ?_
      refine XO.ld Tryz.isAgg3 ?_
      refine oo 1 ?_
      refine XO.lsadr (l := f.loc) (a := a2) (by omega) (fun gl e_ => ?_); subst e_
      refine oo 1 ?_
      refine XO.ef0 (Ef.setL (l := f.loc) (n := (insAt m f).a.toNat) (u := lastS f.stk) rfl rfl Tryz.sizeOf2 (by omega) hlt rfl rfl fndA) ?_
      rintro _ _ ⟨rfl, rfl⟩
      refine ox 2 ?_
      refine X.sb [13, 12, 9, 8, 7, 6, 4, 3] ?_
      refine X.draw [] Tryz.mixed (by kernel_rfl) (by kernel_rfl) rfl ?_
      refine XD.loadA 0 rfl rfl Tryz.isAgg28 Tryz.sizeOf28 hasA (by rfl) ?_
      refine XD.loadA 1 rfl rfl Tryz.isAgg74 Tryz.sizeOf74 hasA (by rfl) ?_
      refine XD.ef0 2 rfl (Ef.stA Tryz.sizeOf28) ?_
      rintro _ _ ⟨rfl, rfl⟩
      refine ⟨(hlA (h := by repeat first | exact trivial | refine ⟨clA, ?_⟩ | refine ⟨(Cl.row (j := f.code) hs1 leA (fun _ => rfl) hth (by omega) 2 _ rfl), ?_⟩ | refine ⟨Cl.e1 hsc leA hlt (by omega), ?_⟩ | refine ⟨Cl.e1 hsl leA hlt (by omega), ?_⟩ | refine ⟨Cl.row (j := f.pc) (sz := 4) hs2 leA (fun _ => rfl) hpc (by omega) 0 _ rfl, ?_⟩ | refine ⟨Cl.row (j := f.pc) (sz := 4) hs2 leA (fun _ => rfl) hpc (by omega) 1 _ rfl, ?_⟩ | refine ⟨Cl.row (j := f.pc) (sz := 4) hs2 leA (fun _ => rfl) hpc (by omega) 2 _ rfl, ?_⟩ | refine ⟨Cl.row (j := f.pc) (sz := 4) hs2 leA (fun _ => rfl) hpc (by omega) 3 _ rfl, ?_⟩)), ?_⟩
      refine XD.ef0 3 rfl (Ef.stA Tryz.sizeOf74) ?_
      rintro _ _ ⟨rfl, rfl⟩
      refine ⟨trivial, ?_⟩
      refine XD.nil ?_
      have hD : doAt m f cells = ((f.pc + 1, (f.loc.set (insAt m f).a.toNat (lastS f.stk)), f.stk.take (f.stk.length - 1)), dPlain) := by unfold doAt doS; rw [if_neg (by omega), if_neg (by omega), if_neg (by omega), if_neg (by omega), if_neg (by omega), if_neg (by omega), if_neg (by omega)]; unfold plainS; rw [if_neg (by omega), if_neg (by omega), if_pos hx]
      refine X.retL (stars [lsH I64 2 a1 c1 (f.stk.take (f.stk.length - 1)), lsH I64 2 (some ⟨gl, 0, none⟩) c2 ((f.loc.set (insAt m f).a.toNat (lastS f.stk)))] :: q) Tryz.func28 (resC Tryz.results28 (ResOk.cell rfl (LV.agg Tryz.isAgg28 Tryz.sizeOf28 hasA rfl) (ResOk.cell rfl (LV.agg Tryz.isAgg74 Tryz.sizeOf74 hasA rfl) ResOk.nil))) ⟨_, rfl, _, c2, a1, c1, _, by rw [hD]; simp only [frmC, List.length_set]; rfl, by rw [hD]; exact ⟨.inr ((Sees.lsH _).le (Le.trans (Le.stars_out [_, _] []) fndA)), .inr ((Sees.lsH _).le (Le.trans (Le.stars_out [_, _] []) fndA))⟩, rfl⟩ (Le.trans (Le.pick fndA (Le.pick fndA leA)) (Le.stars_in [_, _] _))
  · skip
    have hdx : (2 : Int) ≤ f.stk.length := by have h := hdep; rw [hx] at h; exact h
    have hv := hS.arr (by omega)
    refine X.know 42 (.bool true) rfl (congrArg Value.bool (by first | exact decide_eq_true (by omega) | exact decide_eq_false (by omega) | (rw [beq_iff_eq]; omega) | (rw [beq_eq_false_iff_ne]; omega) | (rw [bne_iff_ne]; omega) | (rw [bne_eq_false_iff_eq]; omega))) ?_
    refine xo 3 ?_
    refine XO.ld Tryz.isAgg22 ?_
    refine oo 2 ?_
    refine XO.adr hf.s (by simp; omega) (fun bs os es => ?_)
    have hss := hf.s; rw [es] at hss
    refine XO.know 44 (.slice (some ⟨bs, os, none⟩) f.stk.length f.sc) rfl (by rw [es]) ?_
    refine oo 1 ?_
    refine XO.ld Tryz.isAgg2 ?_ (hc := (Cl.e1 (n := f.stk.length - 1) hss leA (by omega) (by omega)))
    refine XO.know 48 (.int .i64 (lastS f.stk)) rfl (congrArg (Value.int .i64) (getD_lt (by omega)).symm) ?_
    refine ox 8 ?_
    refine X.sb [50, 13, 14, 12, 11, 10, 9, 8, 7, 6, 4, 3, 2] ?_
    refine X.know 50 (.bool true) rfl (congrArg Value.bool (by first | exact decide_eq_true (by omega) | exact decide_eq_false (by omega) | (rw [beq_iff_eq]; omega) | (rw [beq_eq_false_iff_ne]; omega) | (rw [bne_iff_ne]; omega) | (rw [bne_eq_false_iff_eq]; omega))) ?_
    refine xo 3 ?_
    refine XO.ld Tryz.isAgg22 ?_
    refine oo 2 ?_
    refine XO.know 52 (.slice (some ⟨bs, os, none⟩) f.stk.length f.sc) rfl (by rw [es]) ?_
    refine oo 1 ?_
    refine XO.ld Tryz.isAgg2 ?_ (hc := (Cl.e1 (n := f.stk.length - 2) hss leA (by omega) (by omega)))
    refine XO.know 56 (.int .i64 (aheadS f.stk)) rfl (congrArg (Value.int .i64) (getD_lt (by omega)).symm) ?_
    refine ox 10 ?_
    refine X.know 57 (.bool false) rfl (congrArg Value.bool (by first | exact decide_eq_true (by omega) | exact decide_eq_false (by omega) | (rw [beq_iff_eq]; omega) | (rw [beq_eq_false_iff_ne]; omega) | (rw [bne_iff_ne]; omega) | (rw [bne_eq_false_iff_eq]; omega))) ?_
    refine xx 7 ?_
    refine X.sb [67, 14, 13, 12, 10, 9, 8, 7, 6, 4, 3, 2] ?_
    refine X.know 67 (.bool false) rfl (congrArg Value.bool (by first | exact decide_eq_true (by omega) | exact decide_eq_false (by omega) | (rw [beq_iff_eq]; omega) | (rw [beq_eq_false_iff_ne]; omega) | (rw [bne_iff_ne]; omega) | (rw [bne_eq_false_iff_eq]; omega))) ?_
    refine xx 7 ?_
    refine X.know 88 (.bool false) rfl (congrArg Value.bool (by first | exact decide_eq_true (by omega) | exact decide_eq_false (by omega) | (rw [beq_iff_eq]; omega) | (rw [beq_eq_false_iff_ne]; omega) | (rw [bne_iff_ne]; omega) | (rw [bne_eq_false_iff_eq]; omega))) ?_
    refine xx 7 ?_
    refine X.know 102 (.bool false) rfl (congrArg Value.bool (by first | exact decide_eq_true (by omega) | exact decide_eq_false (by omega) | (rw [beq_iff_eq]; omega) | (rw [beq_eq_false_iff_ne]; omega) | (rw [bne_iff_ne]; omega) | (rw [bne_eq_false_iff_eq]; omega))) ?_
    refine xx 7 ?_
    refine X.know 131 (.bool false) rfl (congrArg Value.bool (by first | exact decide_eq_true (by omega) | exact decide_eq_false (by omega) | (rw [beq_iff_eq]; omega) | (rw [beq_eq_false_iff_ne]; omega) | (rw [bne_iff_ne]; omega) | (rw [bne_eq_false_iff_eq]; omega))) ?_
    refine xx 7 ?_
    refine X.know 143 (.bool false) rfl (congrArg Value.bool (by first | exact decide_eq_true (by omega) | exact decide_eq_false (by omega) | (rw [beq_iff_eq]; omega) | (rw [beq_eq_false_iff_ne]; omega) | (rw [bne_iff_ne]; omega) | (rw [bne_eq_false_iff_eq]; omega))) ?_
    refine xx 7 ?_
    refine X.sb [161, 14, 13, 12, 10, 9, 8, 7, 6, 4, 3] ?_
    refine X.know 161 (.bool true) rfl (congrArg Value.bool (by first | exact decide_eq_true (by omega) | exact decide_eq_false (by omega) | (rw [beq_iff_eq]; omega) | (rw [beq_eq_false_iff_ne]; omega) | (rw [bne_iff_ne]; omega) | (rw [bne_eq_false_iff_eq]; omega))) ?_
    refine xo 3 ?_
    refine XO.ldA Tryz.isAgg26 Tryz.sizeOf26 ?_
    refine oo 1 ?_
    refine XO.ld Tryz.isAgg3 ?_
    refine oo 1 ?_
    refine XO.cR Tryz.call44 (RCell_ok (arr := (insAt m f).a) (idx := aheadS f.stk) (hq.le leA) hS.ok hv (vals_getD hS.vl _)) ?_
    refine ox 8 ?_
    refine X.part 170 rfl (fun ht => ?_) (fun ht => ?_)
    · skip
      replace ht := sp ht
      refine xo 3 ?_
      refine XO.ldA Tryz.isAgg28 Tryz.sizeOf28 ?_
      refine XO.cR Tryz.call45 (RTrap_ok (f := f)) ?_
      refine oo 2 ?_
      refine XO.ef0 (Ef.stA Tryz.sizeOf28) ?_
      rintro _ _ ⟨rfl, rfl⟩
      refine XO.ef0 (Ef.stA Tryz.sizeOf74) ?_
      rintro _ _ ⟨rfl, rfl⟩
      refine ox 1 ?_
      have hD : doAt m f cells = ((f.pc, f.loc, f.stk), dTrap 3) := by unfold doAt doS; rw [if_neg (by omega), if_neg (by omega), if_pos (by omega)]; rw [show accS m (insAt m f) f.stk cells = none from by unfold accS; rw [if_neg (by omega), if_neg (by omega), if_neg (by omega), if_pos ht]]
      refine X.retL (stars [] :: q) Tryz.func28 (resC Tryz.results28 (ResOk.cell rfl (LV.agg Tryz.isAgg28 Tryz.sizeOf28 hasA rfl) (ResOk.cell rfl (LV.agg Tryz.isAgg74 Tryz.sizeOf74 hasA rfl) ResOk.nil))) ⟨_, rfl, f.la, f.lc, f.sa, f.sc, _, by rw [hD]; rfl, by rw [hD]; exact ⟨.inl ⟨rfl, rfl⟩, .inl ⟨rfl, rfl⟩⟩, rfl⟩ (Le.trans leA (Le.stars_nil _))
    · skip
      replace ht := sp ht
      have hcr := cellS_rng hS.ok (a := (insAt m f).a) (i := aheadS f.stk) hv; have hlt : (cellS m (insAt m f).a (aheadS f.stk)).toNat < cells.length := by omega
      refine xo 4 ?_
      refine XO.ldA Tryz.isAgg28 Tryz.sizeOf28 ?_
      refine XO.cX Tryz.call46 (Le.refl _) (take_ok (f := f) (kk := 2) (hf.le leA) (by omega) hcap (by omega)) ?_
      rintro _ _ ⟨a1, c1, rfl, rfl⟩
      refine oo 1 ?_
      refine XO.ef0 (Ef.st Tryz.sizeOf22) ?_
      rintro _ _ ⟨rfl, rfl⟩
      refine oo 3 ?_
      refine XO.ldA Tryz.isAgg28 Tryz.sizeOf28 ?_
      refine oo 4 ?_
      refine XO.ef0 (Ef.stA Tryz.sizeOf28) ?_
      rintro _ _ ⟨rfl, rfl⟩
      refine XO.ef0 (Ef.stA Tryz.sizeOf74) ?_
      rintro _ _ ⟨rfl, rfl⟩
      refine ox 1 ?_
      refine X.sb [13, 9, 8, 7, 6, 4, 3] ?_
      have hD : doAt m f cells = ((f.pc + 1, f.loc, f.stk.take (f.stk.length - 2)), dAcc (cellS m (insAt m f).a (aheadS f.stk)) true (lastS f.stk)) := by unfold doAt doS; rw [if_neg (by omega), if_neg (by omega), if_pos (by omega)]; rw [show accS m (insAt m f) f.stk cells = some ((cellS m (insAt m f).a (aheadS f.stk), true, lastS f.stk), f.stk.take (f.stk.length - 2)) from by unfold accS; rw [if_neg (by omega), if_neg (by omega), if_neg (by omega), if_neg (by omega)]]
      refine X.retL (lsH I64 2 a1 c1 (f.stk.take (f.stk.length - 2)) :: q) Tryz.func28 (resC Tryz.results28 (ResOk.cell rfl (LV.agg Tryz.isAgg28 Tryz.sizeOf28 hasA rfl) (ResOk.cell rfl (LV.agg Tryz.isAgg74 Tryz.sizeOf74 hasA rfl) ResOk.nil))) ⟨_, rfl, f.la, f.lc, a1, c1, _, by rw [hD]; rfl, by rw [hD]; exact ⟨.inl ⟨rfl, rfl⟩, .inr (Sees.lsH [])⟩, rfl⟩
  · skip
    have hdx : (1 : Int) ≤ f.stk.length := by have h := hdep; rw [hx] at h; exact h
    have hvl : val (lastS f.stk) := vals_getD hS.vl _; have hva : val (aheadS f.stk) := vals_getD hS.vl _; unfold val at hvl hva
    refine X.know 42 (.bool true) rfl (congrArg Value.bool (by first | exact decide_eq_true (by omega) | exact decide_eq_false (by omega) | (rw [beq_iff_eq]; omega) | (rw [beq_eq_false_iff_ne]; omega) | (rw [bne_iff_ne]; omega) | (rw [bne_eq_false_iff_eq]; omega))) ?_
    refine xo 3 ?_
    refine XO.ld Tryz.isAgg22 ?_
    refine oo 2 ?_
    refine XO.adr hf.s (by simp; omega) (fun bs os es => ?_)
    have hss := hf.s; rw [es] at hss
    refine XO.know 44 (.slice (some ⟨bs, os, none⟩) f.stk.length f.sc) rfl (by rw [es]) ?_
    refine oo 1 ?_
    refine XO.ld Tryz.isAgg2 ?_ (hc := (Cl.e1 (n := f.stk.length - 1) hss leA (by omega) (by omega)))
    refine XO.know 48 (.int .i64 (lastS f.stk)) rfl (congrArg (Value.int .i64) (getD_lt (by omega)).symm) ?_
    refine ox 8 ?_
    refine X.sb [50, 13, 14, 12, 11, 10, 9, 8, 7, 6, 4, 3, 2] ?_
    refine X.part 50 rfl (fun hn2 => ?_) (fun hn2 => ?_)
    · skip
      replace hn2 := sp hn2
      refine xo 3 ?_
      refine XO.ld Tryz.isAgg22 ?_
      refine oo 2 ?_
      refine XO.know 52 (.slice (some ⟨bs, os, none⟩) f.stk.length f.sc) rfl (by rw [es]) ?_
      refine oo 1 ?_
      refine XO.ld Tryz.isAgg2 ?_ (hc := (Cl.e1 (n := f.stk.length - 2) hss leA (by omega) (by omega)))
      refine XO.know 56 (.int .i64 (aheadS f.stk)) rfl (congrArg (Value.int .i64) (getD_lt (by omega)).symm) ?_
      refine ox 10 ?_
      refine X.know 57 (.bool false) rfl (congrArg Value.bool (by first | exact decide_eq_true (by omega) | exact decide_eq_false (by omega) | (rw [beq_iff_eq]; omega) | (rw [beq_eq_false_iff_ne]; omega) | (rw [bne_iff_ne]; omega) | (rw [bne_eq_false_iff_eq]; omega))) ?_
      refine xx 7 ?_
      refine X.sb [67, 14, 13, 12, 10, 9, 8, 7, 6, 4, 3, 2] ?_
      refine X.know 67 (.bool false) rfl (congrArg Value.bool (by first | exact decide_eq_true (by omega) | exact decide_eq_false (by omega) | (rw [beq_iff_eq]; omega) | (rw [beq_eq_false_iff_ne]; omega) | (rw [bne_iff_ne]; omega) | (rw [bne_eq_false_iff_eq]; omega))) ?_
      refine xx 7 ?_
      refine X.know 88 (.bool false) rfl (congrArg Value.bool (by first | exact decide_eq_true (by omega) | exact decide_eq_false (by omega) | (rw [beq_iff_eq]; omega) | (rw [beq_eq_false_iff_ne]; omega) | (rw [bne_iff_ne]; omega) | (rw [bne_eq_false_iff_eq]; omega))) ?_
      refine xx 7 ?_
      refine X.know 102 (.bool false) rfl (congrArg Value.bool (by first | exact decide_eq_true (by omega) | exact decide_eq_false (by omega) | (rw [beq_iff_eq]; omega) | (rw [beq_eq_false_iff_ne]; omega) | (rw [bne_iff_ne]; omega) | (rw [bne_eq_false_iff_eq]; omega))) ?_
      refine xx 7 ?_
      refine X.know 131 (.bool false) rfl (congrArg Value.bool (by first | exact decide_eq_true (by omega) | exact decide_eq_false (by omega) | (rw [beq_iff_eq]; omega) | (rw [beq_eq_false_iff_ne]; omega) | (rw [bne_iff_ne]; omega) | (rw [bne_eq_false_iff_eq]; omega))) ?_
      refine xx 7 ?_
      refine X.know 143 (.bool false) rfl (congrArg Value.bool (by first | exact decide_eq_true (by omega) | exact decide_eq_false (by omega) | (rw [beq_iff_eq]; omega) | (rw [beq_eq_false_iff_ne]; omega) | (rw [bne_iff_ne]; omega) | (rw [bne_eq_false_iff_eq]; omega))) ?_
      refine xx 7 ?_
      refine X.sb [161, 14, 13, 12, 10, 9, 8, 7, 6, 4, 3] ?_
      refine X.know 161 (.bool false) rfl (congrArg Value.bool (by first | exact decide_eq_true (by omega) | exact decide_eq_false (by omega) | (rw [beq_iff_eq]; omega) | (rw [beq_eq_false_iff_ne]; omega) | (rw [bne_iff_ne]; omega) | (rw [bne_eq_false_iff_eq]; omega))) ?_
      refine xx 7 ?_
      refine X.know 183 (.bool true) rfl (congrArg Value.bool (by first | exact decide_eq_true (by omega) | exact decide_eq_false (by omega) | (rw [beq_iff_eq]; omega) | (rw [beq_eq_false_iff_ne]; omega) | (rw [bne_iff_ne]; omega) | (rw [bne_eq_false_iff_eq]; omega))) ?_
      refine xo 5 ?_
      refine XO.pu (Pu.negW rfl) ?_
      refine XO.know 187 (.int .i64 (-lastS f.stk)) rfl (congrArg (Value.int .i64) (wrap_neg ⟨by omega, by omega⟩)) ?_
      refine XO.cR Tryz.call30 (RVal_ok (z := -lastS f.stk)) ?_
      refine XO.pu (Pu.not rfl) ?_
      refine ox 1 ?_
      refine X.part 189 rfl (fun ht => ?_) (fun ht => ?_)
      · skip
        replace ht := sp ht
        refine xo 3 ?_
        refine XO.ldA Tryz.isAgg28 Tryz.sizeOf28 ?_
        refine XO.cR Tryz.call45 (RTrap_ok (f := f)) ?_
        refine oo 2 ?_
        refine XO.ef0 (Ef.stA Tryz.sizeOf28) ?_
        rintro _ _ ⟨rfl, rfl⟩
        refine XO.ef0 (Ef.stA Tryz.sizeOf74) ?_
        rintro _ _ ⟨rfl, rfl⟩
        refine ox 1 ?_
        have hD : doAt m f cells = ((f.pc, f.loc, f.stk), dTrap 2) := by unfold doAt doS; rw [if_neg (by omega), if_pos (by omega)]; simp only [show isUn (insAt m f).c from by omega, if_true]; rw [hx]; unfold mkS; rw [if_pos rfl, if_neg ht]; rfl
        refine X.retL (stars [] :: q) Tryz.func28 (resC Tryz.results28 (ResOk.cell rfl (LV.agg Tryz.isAgg28 Tryz.sizeOf28 hasA rfl) (ResOk.cell rfl (LV.agg Tryz.isAgg74 Tryz.sizeOf74 hasA rfl) ResOk.nil))) ⟨_, rfl, f.la, f.lc, f.sa, f.sc, _, by rw [hD]; rfl, by rw [hD]; exact ⟨.inl ⟨rfl, rfl⟩, .inl ⟨rfl, rfl⟩⟩, rfl⟩ (Le.trans leA (Le.stars_nil _))
      · skip
        replace ht := sp ht
        refine xo 4 ?_
        refine XO.ldA Tryz.isAgg28 Tryz.sizeOf28 ?_
        refine oo 1 ?_
        refine XO.pu (Pu.negW rfl) ?_
        refine XO.know 196 (.int .i64 (-lastS f.stk)) rfl (congrArg (Value.int .i64) (wrap_neg ⟨by omega, by omega⟩)) ?_
        refine XO.cX Tryz.call43 (Le.refl _) (put_ok (f := f) (kk := 1) (z := (-lastS f.stk)) (hf.le leA) (by omega) hcap (by omega)) ?_
        rintro _ _ ⟨a1, c1, rfl, rfl⟩
        refine oo 1 ?_
        refine XO.ef0 (Ef.st Tryz.sizeOf22) ?_
        rintro _ _ ⟨rfl, rfl⟩
        refine ox 2 ?_
        refine X.sb [13, 12, 9, 8, 7, 6, 4, 3] ?_
        refine X.draw [] Tryz.mixed (by kernel_rfl) (by kernel_rfl) rfl ?_
        refine XD.loadA 0 rfl rfl Tryz.isAgg28 Tryz.sizeOf28 hasA (by rfl) ?_
        refine XD.loadA 1 rfl rfl Tryz.isAgg74 Tryz.sizeOf74 hasA (by rfl) ?_
        refine XD.ef0 2 rfl (Ef.stA Tryz.sizeOf28) ?_
        rintro _ _ ⟨rfl, rfl⟩
        refine ⟨(hlA (h := by repeat first | exact trivial | refine ⟨clA, ?_⟩ | refine ⟨(Cl.row (j := f.code) hs1 leA (fun _ => rfl) hth (by omega) 2 _ rfl), ?_⟩ | refine ⟨Cl.e1 hsc leA hlt (by omega), ?_⟩ | refine ⟨Cl.e1 hsl leA hlt (by omega), ?_⟩ | refine ⟨Cl.row (j := f.pc) (sz := 4) hs2 leA (fun _ => rfl) hpc (by omega) 0 _ rfl, ?_⟩ | refine ⟨Cl.row (j := f.pc) (sz := 4) hs2 leA (fun _ => rfl) hpc (by omega) 1 _ rfl, ?_⟩ | refine ⟨Cl.row (j := f.pc) (sz := 4) hs2 leA (fun _ => rfl) hpc (by omega) 2 _ rfl, ?_⟩ | refine ⟨Cl.row (j := f.pc) (sz := 4) hs2 leA (fun _ => rfl) hpc (by omega) 3 _ rfl, ?_⟩)), ?_⟩
        refine XD.ef0 3 rfl (Ef.stA Tryz.sizeOf74) ?_
        rintro _ _ ⟨rfl, rfl⟩
        refine ⟨trivial, ?_⟩
        refine XD.nil ?_
        have hD : doAt m f cells = ((f.pc + 1, f.loc, f.stk.take (f.stk.length - 1) ++ [(-lastS f.stk)]), dPlain) := by unfold doAt doS; rw [if_neg (by omega), if_pos (by omega)]; simp only [show isUn (insAt m f).c from by omega, if_true]; rw [hx]; unfold mkS; rw [if_pos rfl, if_pos ht]; rfl
        refine X.retL (lsH I64 2 a1 c1 (f.stk.take (f.stk.length - 1) ++ [(-lastS f.stk)]) :: q) Tryz.func28 (resC Tryz.results28 (ResOk.cell rfl (LV.agg Tryz.isAgg28 Tryz.sizeOf28 hasA rfl) (ResOk.cell rfl (LV.agg Tryz.isAgg74 Tryz.sizeOf74 hasA rfl) ResOk.nil))) ⟨_, rfl, f.la, f.lc, a1, c1, _, by rw [hD]; rfl, by rw [hD]; exact ⟨.inl ⟨rfl, rfl⟩, .inr (Sees.lsH [])⟩, rfl⟩
    · skip
      replace hn2 := sp hn2
      refine xx 10 ?_
      refine X.know 57 (.bool false) rfl (congrArg Value.bool (by first | exact decide_eq_true (by omega) | exact decide_eq_false (by omega) | (rw [beq_iff_eq]; omega) | (rw [beq_eq_false_iff_ne]; omega) | (rw [bne_iff_ne]; omega) | (rw [bne_eq_false_iff_eq]; omega))) ?_
      refine xx 7 ?_
      refine X.know 67 (.bool false) rfl (congrArg Value.bool (by first | exact decide_eq_true (by omega) | exact decide_eq_false (by omega) | (rw [beq_iff_eq]; omega) | (rw [beq_eq_false_iff_ne]; omega) | (rw [bne_iff_ne]; omega) | (rw [bne_eq_false_iff_eq]; omega))) ?_
      refine xx 7 ?_
      refine X.know 88 (.bool false) rfl (congrArg Value.bool (by first | exact decide_eq_true (by omega) | exact decide_eq_false (by omega) | (rw [beq_iff_eq]; omega) | (rw [beq_eq_false_iff_ne]; omega) | (rw [bne_iff_ne]; omega) | (rw [bne_eq_false_iff_eq]; omega))) ?_
      refine xx 7 ?_
      refine X.know 102 (.bool false) rfl (congrArg Value.bool (by first | exact decide_eq_true (by omega) | exact decide_eq_false (by omega) | (rw [beq_iff_eq]; omega) | (rw [beq_eq_false_iff_ne]; omega) | (rw [bne_iff_ne]; omega) | (rw [bne_eq_false_iff_eq]; omega))) ?_
      refine xx 7 ?_
      refine X.sb [131, 13, 14, 12, 10, 9, 8, 7, 6, 4, 3] ?_
      refine X.know 131 (.bool false) rfl (congrArg Value.bool (by first | exact decide_eq_true (by omega) | exact decide_eq_false (by omega) | (rw [beq_iff_eq]; omega) | (rw [beq_eq_false_iff_ne]; omega) | (rw [bne_iff_ne]; omega) | (rw [bne_eq_false_iff_eq]; omega))) ?_
      refine xx 7 ?_
      refine X.know 143 (.bool false) rfl (congrArg Value.bool (by first | exact decide_eq_true (by omega) | exact decide_eq_false (by omega) | (rw [beq_iff_eq]; omega) | (rw [beq_eq_false_iff_ne]; omega) | (rw [bne_iff_ne]; omega) | (rw [bne_eq_false_iff_eq]; omega))) ?_
      refine xx 7 ?_
      refine X.know 161 (.bool false) rfl (congrArg Value.bool (by first | exact decide_eq_true (by omega) | exact decide_eq_false (by omega) | (rw [beq_iff_eq]; omega) | (rw [beq_eq_false_iff_ne]; omega) | (rw [bne_iff_ne]; omega) | (rw [bne_eq_false_iff_eq]; omega))) ?_
      refine xx 7 ?_
      refine X.know 183 (.bool true) rfl (congrArg Value.bool (by first | exact decide_eq_true (by omega) | exact decide_eq_false (by omega) | (rw [beq_iff_eq]; omega) | (rw [beq_eq_false_iff_ne]; omega) | (rw [bne_iff_ne]; omega) | (rw [bne_eq_false_iff_eq]; omega))) ?_
      refine xo 5 ?_
      refine XO.pu (Pu.negW rfl) ?_
      refine XO.know 187 (.int .i64 (-lastS f.stk)) rfl (congrArg (Value.int .i64) (wrap_neg ⟨by omega, by omega⟩)) ?_
      refine XO.cR Tryz.call30 (RVal_ok (z := -lastS f.stk)) ?_
      refine XO.pu (Pu.not rfl) ?_
      refine ox 1 ?_
      refine X.sb [189, 13, 12, 9, 8, 7, 6, 4, 3] ?_
      refine X.part 189 rfl (fun ht => ?_) (fun ht => ?_)
      · skip
        replace ht := sp ht
        refine xo 3 ?_
        refine XO.ldA Tryz.isAgg28 Tryz.sizeOf28 ?_
        refine XO.cR Tryz.call45 (RTrap_ok (f := f)) ?_
        refine oo 2 ?_
        refine XO.ef0 (Ef.stA Tryz.sizeOf28) ?_
        rintro _ _ ⟨rfl, rfl⟩
        refine XO.ef0 (Ef.stA Tryz.sizeOf74) ?_
        rintro _ _ ⟨rfl, rfl⟩
        refine ox 1 ?_
        have hD : doAt m f cells = ((f.pc, f.loc, f.stk), dTrap 2) := by unfold doAt doS; rw [if_neg (by omega), if_pos (by omega)]; simp only [show isUn (insAt m f).c from by omega, if_true]; rw [hx]; unfold mkS; rw [if_pos rfl, if_neg ht]; rfl
        refine X.retL (stars [] :: q) Tryz.func28 (resC Tryz.results28 (ResOk.cell rfl (LV.agg Tryz.isAgg28 Tryz.sizeOf28 hasA rfl) (ResOk.cell rfl (LV.agg Tryz.isAgg74 Tryz.sizeOf74 hasA rfl) ResOk.nil))) ⟨_, rfl, f.la, f.lc, f.sa, f.sc, _, by rw [hD]; rfl, by rw [hD]; exact ⟨.inl ⟨rfl, rfl⟩, .inl ⟨rfl, rfl⟩⟩, rfl⟩ (Le.trans leA (Le.stars_nil _))
      · skip
        replace ht := sp ht
        refine xo 4 ?_
        refine XO.ldA Tryz.isAgg28 Tryz.sizeOf28 ?_
        refine oo 1 ?_
        refine XO.pu (Pu.negW rfl) ?_
        refine XO.know 196 (.int .i64 (-lastS f.stk)) rfl (congrArg (Value.int .i64) (wrap_neg ⟨by omega, by omega⟩)) ?_
        refine XO.cX Tryz.call43 (Le.refl _) (put_ok (f := f) (kk := 1) (z := (-lastS f.stk)) (hf.le leA) (by omega) hcap (by omega)) ?_
        rintro _ _ ⟨a1, c1, rfl, rfl⟩
        refine oo 1 ?_
        refine XO.ef0 (Ef.st Tryz.sizeOf22) ?_
        rintro _ _ ⟨rfl, rfl⟩
        refine ox 2 ?_
        refine X.draw [] Tryz.mixed (by kernel_rfl) (by kernel_rfl) rfl ?_
        refine XD.loadA 0 rfl rfl Tryz.isAgg28 Tryz.sizeOf28 hasA (by rfl) ?_
        refine XD.loadA 1 rfl rfl Tryz.isAgg74 Tryz.sizeOf74 hasA (by rfl) ?_
        refine XD.ef0 2 rfl (Ef.stA Tryz.sizeOf28) ?_
        rintro _ _ ⟨rfl, rfl⟩
        refine ⟨(hlA (h := by repeat first | exact trivial | refine ⟨clA, ?_⟩ | refine ⟨(Cl.row (j := f.code) hs1 leA (fun _ => rfl) hth (by omega) 2 _ rfl), ?_⟩ | refine ⟨Cl.e1 hsc leA hlt (by omega), ?_⟩ | refine ⟨Cl.e1 hsl leA hlt (by omega), ?_⟩ | refine ⟨Cl.row (j := f.pc) (sz := 4) hs2 leA (fun _ => rfl) hpc (by omega) 0 _ rfl, ?_⟩ | refine ⟨Cl.row (j := f.pc) (sz := 4) hs2 leA (fun _ => rfl) hpc (by omega) 1 _ rfl, ?_⟩ | refine ⟨Cl.row (j := f.pc) (sz := 4) hs2 leA (fun _ => rfl) hpc (by omega) 2 _ rfl, ?_⟩ | refine ⟨Cl.row (j := f.pc) (sz := 4) hs2 leA (fun _ => rfl) hpc (by omega) 3 _ rfl, ?_⟩)), ?_⟩
        refine XD.ef0 3 rfl (Ef.stA Tryz.sizeOf74) ?_
        rintro _ _ ⟨rfl, rfl⟩
        refine ⟨trivial, ?_⟩
        refine XD.nil ?_
        have hD : doAt m f cells = ((f.pc + 1, f.loc, f.stk.take (f.stk.length - 1) ++ [(-lastS f.stk)]), dPlain) := by unfold doAt doS; rw [if_neg (by omega), if_pos (by omega)]; simp only [show isUn (insAt m f).c from by omega, if_true]; rw [hx]; unfold mkS; rw [if_pos rfl, if_pos ht]; rfl
        refine X.retL (lsH I64 2 a1 c1 (f.stk.take (f.stk.length - 1) ++ [(-lastS f.stk)]) :: q) Tryz.func28 (resC Tryz.results28 (ResOk.cell rfl (LV.agg Tryz.isAgg28 Tryz.sizeOf28 hasA rfl) (ResOk.cell rfl (LV.agg Tryz.isAgg74 Tryz.sizeOf74 hasA rfl) ResOk.nil))) ⟨_, rfl, f.la, f.lc, a1, c1, _, by rw [hD]; rfl, by rw [hD]; exact ⟨.inl ⟨rfl, rfl⟩, .inr (Sees.lsH [])⟩, rfl⟩
  · skip
    have hdx : (1 : Int) ≤ f.stk.length := by have h := hdep; rw [hx] at h; exact h
    have hvl : val (lastS f.stk) := vals_getD hS.vl _; have hva : val (aheadS f.stk) := vals_getD hS.vl _; unfold val at hvl hva
    refine X.know 42 (.bool true) rfl (congrArg Value.bool (by first | exact decide_eq_true (by omega) | exact decide_eq_false (by omega) | (rw [beq_iff_eq]; omega) | (rw [beq_eq_false_iff_ne]; omega) | (rw [bne_iff_ne]; omega) | (rw [bne_eq_false_iff_eq]; omega))) ?_
    refine xo 3 ?_
    refine XO.ld Tryz.isAgg22 ?_
    refine oo 2 ?_
    refine XO.adr hf.s (by simp; omega) (fun bs os es => ?_)
    have hss := hf.s; rw [es] at hss
    refine XO.know 44 (.slice (some ⟨bs, os, none⟩) f.stk.length f.sc) rfl (by rw [es]) ?_
    refine oo 1 ?_
    refine XO.ld Tryz.isAgg2 ?_ (hc := (Cl.e1 (n := f.stk.length - 1) hss leA (by omega) (by omega)))
    refine XO.know 48 (.int .i64 (lastS f.stk)) rfl (congrArg (Value.int .i64) (getD_lt (by omega)).symm) ?_
    refine ox 8 ?_
    refine X.sb [50, 13, 14, 12, 11, 10, 9, 8, 7, 6, 4, 3, 2] ?_
    refine X.part 50 rfl (fun hn2 => ?_) (fun hn2 => ?_)
    · skip
      replace hn2 := sp hn2
      refine xo 3 ?_
      refine XO.ld Tryz.isAgg22 ?_
      refine oo 2 ?_
      refine XO.know 52 (.slice (some ⟨bs, os, none⟩) f.stk.length f.sc) rfl (by rw [es]) ?_
      refine oo 1 ?_
      refine XO.ld Tryz.isAgg2 ?_ (hc := (Cl.e1 (n := f.stk.length - 2) hss leA (by omega) (by omega)))
      refine XO.know 56 (.int .i64 (aheadS f.stk)) rfl (congrArg (Value.int .i64) (getD_lt (by omega)).symm) ?_
      refine ox 10 ?_
      refine X.know 57 (.bool false) rfl (congrArg Value.bool (by first | exact decide_eq_true (by omega) | exact decide_eq_false (by omega) | (rw [beq_iff_eq]; omega) | (rw [beq_eq_false_iff_ne]; omega) | (rw [bne_iff_ne]; omega) | (rw [bne_eq_false_iff_eq]; omega))) ?_
      refine xx 7 ?_
      refine X.sb [67, 14, 13, 12, 10, 9, 8, 7, 6, 4, 3, 2] ?_
      refine X.know 67 (.bool false) rfl (congrArg Value.bool (by first | exact decide_eq_true (by omega) | exact decide_eq_false (by omega) | (rw [beq_iff_eq]; omega) | (rw [beq_eq_false_iff_ne]; omega) | (rw [bne_iff_ne]; omega) | (rw [bne_eq_false_iff_eq]; omega))) ?_
      refine xx 7 ?_
      refine X.know 88 (.bool false) rfl (congrArg Value.bool (by first | exact decide_eq_true (by omega) | exact decide_eq_false (by omega) | (rw [beq_iff_eq]; omega) | (rw [beq_eq_false_iff_ne]; omega) | (rw [bne_iff_ne]; omega) | (rw [bne_eq_false_iff_eq]; omega))) ?_
      refine xx 7 ?_
      refine X.know 102 (.bool false) rfl (congrArg Value.bool (by first | exact decide_eq_true (by omega) | exact decide_eq_false (by omega) | (rw [beq_iff_eq]; omega) | (rw [beq_eq_false_iff_ne]; omega) | (rw [bne_iff_ne]; omega) | (rw [bne_eq_false_iff_eq]; omega))) ?_
      refine xx 7 ?_
      refine X.know 131 (.bool false) rfl (congrArg Value.bool (by first | exact decide_eq_true (by omega) | exact decide_eq_false (by omega) | (rw [beq_iff_eq]; omega) | (rw [beq_eq_false_iff_ne]; omega) | (rw [bne_iff_ne]; omega) | (rw [bne_eq_false_iff_eq]; omega))) ?_
      refine xx 7 ?_
      refine X.know 143 (.bool false) rfl (congrArg Value.bool (by first | exact decide_eq_true (by omega) | exact decide_eq_false (by omega) | (rw [beq_iff_eq]; omega) | (rw [beq_eq_false_iff_ne]; omega) | (rw [bne_iff_ne]; omega) | (rw [bne_eq_false_iff_eq]; omega))) ?_
      refine xx 7 ?_
      refine X.sb [161, 14, 13, 12, 10, 9, 8, 7, 6, 4, 3] ?_
      refine X.know 161 (.bool false) rfl (congrArg Value.bool (by first | exact decide_eq_true (by omega) | exact decide_eq_false (by omega) | (rw [beq_iff_eq]; omega) | (rw [beq_eq_false_iff_ne]; omega) | (rw [bne_iff_ne]; omega) | (rw [bne_eq_false_iff_eq]; omega))) ?_
      refine xx 7 ?_
      refine X.know 183 (.bool false) rfl (congrArg Value.bool (by first | exact decide_eq_true (by omega) | exact decide_eq_false (by omega) | (rw [beq_iff_eq]; omega) | (rw [beq_eq_false_iff_ne]; omega) | (rw [bne_iff_ne]; omega) | (rw [bne_eq_false_iff_eq]; omega))) ?_
      refine xx 7 ?_
      refine X.know 201 (.bool true) rfl (congrArg Value.bool (by first | exact decide_eq_true (by omega) | exact decide_eq_false (by omega) | (rw [beq_iff_eq]; omega) | (rw [beq_eq_false_iff_ne]; omega) | (rw [bne_iff_ne]; omega) | (rw [bne_eq_false_iff_eq]; omega))) ?_
      refine xx 2 ?_
      refine X.draw [] Tryz.mixed (by kernel_rfl) (by kernel_rfl) rfl ?_
      refine XD.loadA 0 rfl rfl Tryz.isAgg28 Tryz.sizeOf28 hasA (by rfl) ?_
      refine dd [1, 2] ?_
      refine XD.cRL 3 Tryz.call47 (truth09_ok) ?_ (hL := (hlA (h := by repeat first | exact trivial | refine ⟨clA, ?_⟩ | refine ⟨(Cl.row (j := f.code) hs1 leA (fun _ => rfl) hth (by omega) 2 _ rfl), ?_⟩ | refine ⟨Cl.e1 hsc leA hlt (by omega), ?_⟩ | refine ⟨Cl.e1 hsl leA hlt (by omega), ?_⟩ | refine ⟨Cl.row (j := f.pc) (sz := 4) hs2 leA (fun _ => rfl) hpc (by omega) 0 _ rfl, ?_⟩ | refine ⟨Cl.row (j := f.pc) (sz := 4) hs2 leA (fun _ => rfl) hpc (by omega) 1 _ rfl, ?_⟩ | refine ⟨Cl.row (j := f.pc) (sz := 4) hs2 leA (fun _ => rfl) hpc (by omega) 2 _ rfl, ?_⟩ | refine ⟨Cl.row (j := f.pc) (sz := 4) hs2 leA (fun _ => rfl) hpc (by omega) 3 _ rfl, ?_⟩)))
      refine XD.know 207 (.int .i64 (truthS (decide (lastS f.stk = 0)))) rfl (congrArg (fun b => Value.int .i64 (truthS b)) (by rw [Bool.eq_iff_iff]; simp)) ?_
      refine XD.cX 4 Tryz.call43 (Le.refl _) (put_ok (f := f) (kk := 1) (z := (truthS (decide (lastS f.stk = 0)))) (hf.le leA) (by omega) hcap (by omega)) ?_
      rintro _ _ ⟨a1, c1, rfl, rfl⟩
      refine ⟨trivial, ?_⟩
      refine dd [5] ?_
      refine XD.ef0 6 rfl (Ef.st Tryz.sizeOf22) ?_
      rintro _ _ ⟨rfl, rfl⟩
      refine ⟨trivial, ?_⟩
      refine XD.nil ?_
      refine xx 1 ?_
      refine X.draw [] Tryz.mixed (by kernel_rfl) (by kernel_rfl) rfl ?_
      refine XD.loadA 0 rfl rfl Tryz.isAgg28 Tryz.sizeOf28 hasA (by rfl) ?_
      refine XD.loadA 1 rfl rfl Tryz.isAgg74 Tryz.sizeOf74 hasA (by rfl) ?_
      refine XD.ef0 2 rfl (Ef.stA Tryz.sizeOf28) ?_
      rintro _ _ ⟨rfl, rfl⟩
      refine ⟨(hlA (h := by repeat first | exact trivial | refine ⟨clA, ?_⟩ | refine ⟨(Cl.row (j := f.code) hs1 leA (fun _ => rfl) hth (by omega) 2 _ rfl), ?_⟩ | refine ⟨Cl.e1 hsc leA hlt (by omega), ?_⟩ | refine ⟨Cl.e1 hsl leA hlt (by omega), ?_⟩ | refine ⟨Cl.row (j := f.pc) (sz := 4) hs2 leA (fun _ => rfl) hpc (by omega) 0 _ rfl, ?_⟩ | refine ⟨Cl.row (j := f.pc) (sz := 4) hs2 leA (fun _ => rfl) hpc (by omega) 1 _ rfl, ?_⟩ | refine ⟨Cl.row (j := f.pc) (sz := 4) hs2 leA (fun _ => rfl) hpc (by omega) 2 _ rfl, ?_⟩ | refine ⟨Cl.row (j := f.pc) (sz := 4) hs2 leA (fun _ => rfl) hpc (by omega) 3 _ rfl, ?_⟩)), ?_⟩
      refine XD.ef0 3 rfl (Ef.stA Tryz.sizeOf74) ?_
      rintro _ _ ⟨rfl, rfl⟩
      refine ⟨trivial, ?_⟩
      refine XD.nil ?_
      have hD : doAt m f cells = ((f.pc + 1, f.loc, f.stk.take (f.stk.length - 1) ++ [(truthS (decide (lastS f.stk = 0)))]), dPlain) := by unfold doAt doS; rw [if_neg (by omega), if_pos (by omega)]; simp only [show isUn (insAt m f).c from by omega, if_true]; rw [hx]; rfl
      refine X.retL (lsH I64 2 a1 c1 (f.stk.take (f.stk.length - 1) ++ [(truthS (decide (lastS f.stk = 0)))]) :: q) Tryz.func28 (resC Tryz.results28 (ResOk.cell rfl (LV.agg Tryz.isAgg28 Tryz.sizeOf28 hasA rfl) (ResOk.cell rfl (LV.agg Tryz.isAgg74 Tryz.sizeOf74 hasA rfl) ResOk.nil))) ⟨_, rfl, f.la, f.lc, a1, c1, _, by rw [hD]; rfl, by rw [hD]; exact ⟨.inl ⟨rfl, rfl⟩, .inr (Sees.lsH [])⟩, rfl⟩
    · skip
      replace hn2 := sp hn2
      refine xx 10 ?_
      refine X.know 57 (.bool false) rfl (congrArg Value.bool (by first | exact decide_eq_true (by omega) | exact decide_eq_false (by omega) | (rw [beq_iff_eq]; omega) | (rw [beq_eq_false_iff_ne]; omega) | (rw [bne_iff_ne]; omega) | (rw [bne_eq_false_iff_eq]; omega))) ?_
      refine xx 7 ?_
      refine X.know 67 (.bool false) rfl (congrArg Value.bool (by first | exact decide_eq_true (by omega) | exact decide_eq_false (by omega) | (rw [beq_iff_eq]; omega) | (rw [beq_eq_false_iff_ne]; omega) | (rw [bne_iff_ne]; omega) | (rw [bne_eq_false_iff_eq]; omega))) ?_
      refine xx 7 ?_
      refine X.know 88 (.bool false) rfl (congrArg Value.bool (by first | exact decide_eq_true (by omega) | exact decide_eq_false (by omega) | (rw [beq_iff_eq]; omega) | (rw [beq_eq_false_iff_ne]; omega) | (rw [bne_iff_ne]; omega) | (rw [bne_eq_false_iff_eq]; omega))) ?_
      refine xx 7 ?_
      refine X.know 102 (.bool false) rfl (congrArg Value.bool (by first | exact decide_eq_true (by omega) | exact decide_eq_false (by omega) | (rw [beq_iff_eq]; omega) | (rw [beq_eq_false_iff_ne]; omega) | (rw [bne_iff_ne]; omega) | (rw [bne_eq_false_iff_eq]; omega))) ?_
      refine xx 7 ?_
      refine X.sb [131, 13, 14, 12, 10, 9, 8, 7, 6, 4, 3] ?_
      refine X.know 131 (.bool false) rfl (congrArg Value.bool (by first | exact decide_eq_true (by omega) | exact decide_eq_false (by omega) | (rw [beq_iff_eq]; omega) | (rw [beq_eq_false_iff_ne]; omega) | (rw [bne_iff_ne]; omega) | (rw [bne_eq_false_iff_eq]; omega))) ?_
      refine xx 7 ?_
      refine X.know 143 (.bool false) rfl (congrArg Value.bool (by first | exact decide_eq_true (by omega) | exact decide_eq_false (by omega) | (rw [beq_iff_eq]; omega) | (rw [beq_eq_false_iff_ne]; omega) | (rw [bne_iff_ne]; omega) | (rw [bne_eq_false_iff_eq]; omega))) ?_
      refine xx 7 ?_
      refine X.know 161 (.bool false) rfl (congrArg Value.bool (by first | exact decide_eq_true (by omega) | exact decide_eq_false (by omega) | (rw [beq_iff_eq]; omega) | (rw [beq_eq_false_iff_ne]; omega) | (rw [bne_iff_ne]; omega) | (rw [bne_eq_false_iff_eq]; omega))) ?_
      refine xx 7 ?_
      refine X.know 183 (.bool false) rfl (congrArg Value.bool (by first | exact decide_eq_true (by omega) | exact decide_eq_false (by omega) | (rw [beq_iff_eq]; omega) | (rw [beq_eq_false_iff_ne]; omega) | (rw [bne_iff_ne]; omega) | (rw [bne_eq_false_iff_eq]; omega))) ?_
      refine xx 7 ?_
      refine X.know 201 (.bool true) rfl (congrArg Value.bool (by first | exact decide_eq_true (by omega) | exact decide_eq_false (by omega) | (rw [beq_iff_eq]; omega) | (rw [beq_eq_false_iff_ne]; omega) | (rw [bne_iff_ne]; omega) | (rw [bne_eq_false_iff_eq]; omega))) ?_
      refine xx 2 ?_
      refine X.sb [13, 12, 9, 8, 7, 6, 4, 3] ?_
      refine X.draw [] Tryz.mixed (by kernel_rfl) (by kernel_rfl) rfl ?_
      refine XD.loadA 0 rfl rfl Tryz.isAgg28 Tryz.sizeOf28 hasA (by rfl) ?_
      refine dd [1, 2] ?_
      refine XD.cRL 3 Tryz.call47 (truth09_ok) ?_ (hL := (hlA (h := by repeat first | exact trivial | refine ⟨clA, ?_⟩ | refine ⟨(Cl.row (j := f.code) hs1 leA (fun _ => rfl) hth (by omega) 2 _ rfl), ?_⟩ | refine ⟨Cl.e1 hsc leA hlt (by omega), ?_⟩ | refine ⟨Cl.e1 hsl leA hlt (by omega), ?_⟩ | refine ⟨Cl.row (j := f.pc) (sz := 4) hs2 leA (fun _ => rfl) hpc (by omega) 0 _ rfl, ?_⟩ | refine ⟨Cl.row (j := f.pc) (sz := 4) hs2 leA (fun _ => rfl) hpc (by omega) 1 _ rfl, ?_⟩ | refine ⟨Cl.row (j := f.pc) (sz := 4) hs2 leA (fun _ => rfl) hpc (by omega) 2 _ rfl, ?_⟩ | refine ⟨Cl.row (j := f.pc) (sz := 4) hs2 leA (fun _ => rfl) hpc (by omega) 3 _ rfl, ?_⟩)))
      refine XD.know 207 (.int .i64 (truthS (decide (lastS f.stk = 0)))) rfl (congrArg (fun b => Value.int .i64 (truthS b)) (by rw [Bool.eq_iff_iff]; simp)) ?_
      refine XD.cX 4 Tryz.call43 (Le.refl _) (put_ok (f := f) (kk := 1) (z := (truthS (decide (lastS f.stk = 0)))) (hf.le leA) (by omega) hcap (by omega)) ?_
      rintro _ _ ⟨a1, c1, rfl, rfl⟩
      refine ⟨trivial, ?_⟩
      refine dd [5] ?_
      refine XD.ef0 6 rfl (Ef.st Tryz.sizeOf22) ?_
      rintro _ _ ⟨rfl, rfl⟩
      refine ⟨trivial, ?_⟩
      refine XD.nil ?_
      refine xx 1 ?_
      refine X.draw [] Tryz.mixed (by kernel_rfl) (by kernel_rfl) rfl ?_
      refine XD.loadA 0 rfl rfl Tryz.isAgg28 Tryz.sizeOf28 hasA (by rfl) ?_
      refine XD.loadA 1 rfl rfl Tryz.isAgg74 Tryz.sizeOf74 hasA (by rfl) ?_
      refine XD.ef0 2 rfl (Ef.stA Tryz.sizeOf28) ?_
      rintro _ _ ⟨rfl, rfl⟩
      refine ⟨(hlA (h := by repeat first | exact trivial | refine ⟨clA, ?_⟩ | refine ⟨(Cl.row (j := f.code) hs1 leA (fun _ => rfl) hth (by omega) 2 _ rfl), ?_⟩ | refine ⟨Cl.e1 hsc leA hlt (by omega), ?_⟩ | refine ⟨Cl.e1 hsl leA hlt (by omega), ?_⟩ | refine ⟨Cl.row (j := f.pc) (sz := 4) hs2 leA (fun _ => rfl) hpc (by omega) 0 _ rfl, ?_⟩ | refine ⟨Cl.row (j := f.pc) (sz := 4) hs2 leA (fun _ => rfl) hpc (by omega) 1 _ rfl, ?_⟩ | refine ⟨Cl.row (j := f.pc) (sz := 4) hs2 leA (fun _ => rfl) hpc (by omega) 2 _ rfl, ?_⟩ | refine ⟨Cl.row (j := f.pc) (sz := 4) hs2 leA (fun _ => rfl) hpc (by omega) 3 _ rfl, ?_⟩)), ?_⟩
      refine XD.ef0 3 rfl (Ef.stA Tryz.sizeOf74) ?_
      rintro _ _ ⟨rfl, rfl⟩
      refine ⟨trivial, ?_⟩
      refine XD.nil ?_
      have hD : doAt m f cells = ((f.pc + 1, f.loc, f.stk.take (f.stk.length - 1) ++ [(truthS (decide (lastS f.stk = 0)))]), dPlain) := by unfold doAt doS; rw [if_neg (by omega), if_pos (by omega)]; simp only [show isUn (insAt m f).c from by omega, if_true]; rw [hx]; rfl
      refine X.retL (lsH I64 2 a1 c1 (f.stk.take (f.stk.length - 1) ++ [(truthS (decide (lastS f.stk = 0)))]) :: q) Tryz.func28 (resC Tryz.results28 (ResOk.cell rfl (LV.agg Tryz.isAgg28 Tryz.sizeOf28 hasA rfl) (ResOk.cell rfl (LV.agg Tryz.isAgg74 Tryz.sizeOf74 hasA rfl) ResOk.nil))) ⟨_, rfl, f.la, f.lc, a1, c1, _, by rw [hD]; rfl, by rw [hD]; exact ⟨.inl ⟨rfl, rfl⟩, .inr (Sees.lsH [])⟩, rfl⟩
  · skip
    have hdx : (2 : Int) ≤ f.stk.length := by have h := hdep; unfold effS at h; rw [if_neg (by omega), if_neg (by omega), if_pos (by omega)] at h; exact h
    have hvl : val (lastS f.stk) := vals_getD hS.vl _; have hva : val (aheadS f.stk) := vals_getD hS.vl _; unfold val at hvl hva
    refine X.know 42 (.bool true) rfl (congrArg Value.bool (by first | exact decide_eq_true (by omega) | exact decide_eq_false (by omega) | (rw [beq_iff_eq]; omega) | (rw [beq_eq_false_iff_ne]; omega) | (rw [bne_iff_ne]; omega) | (rw [bne_eq_false_iff_eq]; omega))) ?_
    refine xo 3 ?_
    refine XO.ld Tryz.isAgg22 ?_
    refine oo 2 ?_
    refine XO.adr hf.s (by simp; omega) (fun bs os es => ?_)
    have hss := hf.s; rw [es] at hss
    refine XO.know 44 (.slice (some ⟨bs, os, none⟩) f.stk.length f.sc) rfl (by rw [es]) ?_
    refine oo 1 ?_
    refine XO.ld Tryz.isAgg2 ?_ (hc := (Cl.e1 (n := f.stk.length - 1) hss leA (by omega) (by omega)))
    refine XO.know 48 (.int .i64 (lastS f.stk)) rfl (congrArg (Value.int .i64) (getD_lt (by omega)).symm) ?_
    refine ox 8 ?_
    refine X.sb [50, 13, 14, 12, 11, 10, 9, 8, 7, 6, 4, 3, 2] ?_
    refine X.know 50 (.bool true) rfl (congrArg Value.bool (by first | exact decide_eq_true (by omega) | exact decide_eq_false (by omega) | (rw [beq_iff_eq]; omega) | (rw [beq_eq_false_iff_ne]; omega) | (rw [bne_iff_ne]; omega) | (rw [bne_eq_false_iff_eq]; omega))) ?_
    refine xo 3 ?_
    refine XO.ld Tryz.isAgg22 ?_
    refine oo 2 ?_
    refine XO.know 52 (.slice (some ⟨bs, os, none⟩) f.stk.length f.sc) rfl (by rw [es]) ?_
    refine oo 1 ?_
    refine XO.ld Tryz.isAgg2 ?_ (hc := (Cl.e1 (n := f.stk.length - 2) hss leA (by omega) (by omega)))
    refine XO.know 56 (.int .i64 (aheadS f.stk)) rfl (congrArg (Value.int .i64) (getD_lt (by omega)).symm) ?_
    refine ox 10 ?_
    refine X.know 57 (.bool false) rfl (congrArg Value.bool (by first | exact decide_eq_true (by omega) | exact decide_eq_false (by omega) | (rw [beq_iff_eq]; omega) | (rw [beq_eq_false_iff_ne]; omega) | (rw [bne_iff_ne]; omega) | (rw [bne_eq_false_iff_eq]; omega))) ?_
    refine xx 7 ?_
    refine X.sb [67, 14, 13, 12, 10, 9, 8, 7, 6, 4, 3, 2] ?_
    refine X.know 67 (.bool false) rfl (congrArg Value.bool (by first | exact decide_eq_true (by omega) | exact decide_eq_false (by omega) | (rw [beq_iff_eq]; omega) | (rw [beq_eq_false_iff_ne]; omega) | (rw [bne_iff_ne]; omega) | (rw [bne_eq_false_iff_eq]; omega))) ?_
    refine xx 7 ?_
    refine X.know 88 (.bool false) rfl (congrArg Value.bool (by first | exact decide_eq_true (by omega) | exact decide_eq_false (by omega) | (rw [beq_iff_eq]; omega) | (rw [beq_eq_false_iff_ne]; omega) | (rw [bne_iff_ne]; omega) | (rw [bne_eq_false_iff_eq]; omega))) ?_
    refine xx 7 ?_
    refine X.know 102 (.bool false) rfl (congrArg Value.bool (by first | exact decide_eq_true (by omega) | exact decide_eq_false (by omega) | (rw [beq_iff_eq]; omega) | (rw [beq_eq_false_iff_ne]; omega) | (rw [bne_iff_ne]; omega) | (rw [bne_eq_false_iff_eq]; omega))) ?_
    refine xx 7 ?_
    refine X.know 131 (.bool false) rfl (congrArg Value.bool (by first | exact decide_eq_true (by omega) | exact decide_eq_false (by omega) | (rw [beq_iff_eq]; omega) | (rw [beq_eq_false_iff_ne]; omega) | (rw [bne_iff_ne]; omega) | (rw [bne_eq_false_iff_eq]; omega))) ?_
    refine xx 7 ?_
    refine X.know 143 (.bool false) rfl (congrArg Value.bool (by first | exact decide_eq_true (by omega) | exact decide_eq_false (by omega) | (rw [beq_iff_eq]; omega) | (rw [beq_eq_false_iff_ne]; omega) | (rw [bne_iff_ne]; omega) | (rw [bne_eq_false_iff_eq]; omega))) ?_
    refine xx 7 ?_
    refine X.sb [161, 14, 13, 12, 10, 9, 8, 7, 6, 4, 3] ?_
    refine X.know 161 (.bool false) rfl (congrArg Value.bool (by first | exact decide_eq_true (by omega) | exact decide_eq_false (by omega) | (rw [beq_iff_eq]; omega) | (rw [beq_eq_false_iff_ne]; omega) | (rw [bne_iff_ne]; omega) | (rw [bne_eq_false_iff_eq]; omega))) ?_
    refine xx 7 ?_
    refine X.know 183 (.bool false) rfl (congrArg Value.bool (by first | exact decide_eq_true (by omega) | exact decide_eq_false (by omega) | (rw [beq_iff_eq]; omega) | (rw [beq_eq_false_iff_ne]; omega) | (rw [bne_iff_ne]; omega) | (rw [bne_eq_false_iff_eq]; omega))) ?_
    refine xx 7 ?_
    refine X.know 201 (.bool false) rfl (congrArg Value.bool (by first | exact decide_eq_true (by omega) | exact decide_eq_false (by omega) | (rw [beq_iff_eq]; omega) | (rw [beq_eq_false_iff_ne]; omega) | (rw [bne_iff_ne]; omega) | (rw [bne_eq_false_iff_eq]; omega))) ?_
    refine xo 6 ?_
    refine XO.know 215 (.bool true) rfl (congrArg Value.bool (by first | exact decide_eq_true (by omega) | exact decide_eq_false (by omega) | (rw [beq_iff_eq]; omega) | (rw [beq_eq_false_iff_ne]; omega) | (rw [bne_iff_ne]; omega) | (rw [bne_eq_false_iff_eq]; omega))) ?_
    refine ox 5 ?_
    refine X.sb [212, 14, 13, 12, 10, 9, 8, 7, 6, 4, 3] ?_
    refine X.know 212 (.bool true) rfl (congrArg Value.bool (by first | exact decide_eq_true (by omega) | exact decide_eq_false (by omega) | (rw [beq_iff_eq]; omega) | (rw [beq_eq_false_iff_ne]; omega) | (rw [bne_iff_ne]; omega) | (rw [bne_eq_false_iff_eq]; omega))) ?_
    refine xo 6 ?_
    refine XO.cR Tryz.call48 (RTwo_ok (code := (insAt m f).c) (u := aheadS f.stk) (z := lastS f.stk) hx (vals_getD hS.vl _) (vals_getD hS.vl _)) ?_
    refine ox 12 ?_
    refine X.part 227 rfl (fun ht => ?_) (fun ht => ?_)
    · skip
      replace ht := sp ht
      refine xo 3 ?_
      refine XO.ldA Tryz.isAgg28 Tryz.sizeOf28 ?_
      refine oo 1 ?_
      refine XO.cR Tryz.call45 (RTrap_ok (f := f)) ?_
      refine oo 2 ?_
      refine XO.ef0 (Ef.stA Tryz.sizeOf28) ?_
      rintro _ _ ⟨rfl, rfl⟩
      refine XO.ef0 (Ef.stA Tryz.sizeOf74) ?_
      rintro _ _ ⟨rfl, rfl⟩
      refine ox 1 ?_
      refine X.sb [17, 13, 12, 9, 8, 7, 6, 4, 3] ?_
      have hD : doAt m f cells = ((f.pc, f.loc, f.stk), dTrap (twoS ((insAt m f).c - 7) (aheadS f.stk) (lastS f.stk)).2) := by unfold doAt doS; rw [if_neg (by omega), if_pos (by omega)]; simp only [show ¬ isUn (insAt m f).c from by omega, if_false]; rw [mkS_bin hx]; exact if_pos ht
      refine X.retL (stars [] :: q) Tryz.func28 (resC Tryz.results28 (ResOk.cell rfl (LV.agg Tryz.isAgg28 Tryz.sizeOf28 hasA rfl) (ResOk.cell rfl (LV.agg Tryz.isAgg74 Tryz.sizeOf74 hasA rfl) ResOk.nil))) ⟨_, rfl, f.la, f.lc, f.sa, f.sc, _, by rw [hD]; rfl, by rw [hD]; exact ⟨.inl ⟨rfl, rfl⟩, .inl ⟨rfl, rfl⟩⟩, rfl⟩ (Le.trans leA (Le.stars_nil _))
    · skip
      replace ht := sp ht
      refine xo 4 ?_
      refine XO.ldA Tryz.isAgg28 Tryz.sizeOf28 ?_
      refine oo 1 ?_
      refine XO.cX Tryz.call43 (Le.refl _) (put_ok (f := f) (kk := 2) (z := (twoS ((insAt m f).c - 7) (aheadS f.stk) (lastS f.stk)).1) (hf.le leA) (by omega) hcap (by omega)) ?_
      rintro _ _ ⟨a1, c1, rfl, rfl⟩
      refine oo 1 ?_
      refine XO.ef0 (Ef.st Tryz.sizeOf22) ?_
      rintro _ _ ⟨rfl, rfl⟩
      refine ox 2 ?_
      refine X.sb [13, 12, 9, 8, 7, 6, 4, 3] ?_
      refine X.draw [] Tryz.mixed (by kernel_rfl) (by kernel_rfl) rfl ?_
      refine XD.loadA 0 rfl rfl Tryz.isAgg28 Tryz.sizeOf28 hasA (by rfl) ?_
      refine XD.loadA 1 rfl rfl Tryz.isAgg74 Tryz.sizeOf74 hasA (by rfl) ?_
      refine XD.ef0 2 rfl (Ef.stA Tryz.sizeOf28) ?_
      rintro _ _ ⟨rfl, rfl⟩
      refine ⟨(hlA (h := by repeat first | exact trivial | refine ⟨clA, ?_⟩ | refine ⟨(Cl.row (j := f.code) hs1 leA (fun _ => rfl) hth (by omega) 2 _ rfl), ?_⟩ | refine ⟨Cl.e1 hsc leA hlt (by omega), ?_⟩ | refine ⟨Cl.e1 hsl leA hlt (by omega), ?_⟩ | refine ⟨Cl.row (j := f.pc) (sz := 4) hs2 leA (fun _ => rfl) hpc (by omega) 0 _ rfl, ?_⟩ | refine ⟨Cl.row (j := f.pc) (sz := 4) hs2 leA (fun _ => rfl) hpc (by omega) 1 _ rfl, ?_⟩ | refine ⟨Cl.row (j := f.pc) (sz := 4) hs2 leA (fun _ => rfl) hpc (by omega) 2 _ rfl, ?_⟩ | refine ⟨Cl.row (j := f.pc) (sz := 4) hs2 leA (fun _ => rfl) hpc (by omega) 3 _ rfl, ?_⟩)), ?_⟩
      refine XD.ef0 3 rfl (Ef.stA Tryz.sizeOf74) ?_
      rintro _ _ ⟨rfl, rfl⟩
      refine ⟨trivial, ?_⟩
      refine XD.nil ?_
      have hD : doAt m f cells = ((f.pc + 1, f.loc, f.stk.take (f.stk.length - 2) ++ [(twoS ((insAt m f).c - 7) (aheadS f.stk) (lastS f.stk)).1]), dPlain) := by unfold doAt doS; rw [if_neg (by omega), if_pos (by omega)]; simp only [show ¬ isUn (insAt m f).c from by omega, if_false]; rw [mkS_bin hx]; exact if_neg (fun k => k ht)
      refine X.retL (lsH I64 2 a1 c1 (f.stk.take (f.stk.length - 2) ++ [(twoS ((insAt m f).c - 7) (aheadS f.stk) (lastS f.stk)).1]) :: q) Tryz.func28 (resC Tryz.results28 (ResOk.cell rfl (LV.agg Tryz.isAgg28 Tryz.sizeOf28 hasA rfl) (ResOk.cell rfl (LV.agg Tryz.isAgg74 Tryz.sizeOf74 hasA rfl) ResOk.nil))) ⟨_, rfl, f.la, f.lc, a1, c1, _, by rw [hD]; rfl, by rw [hD]; exact ⟨.inl ⟨rfl, rfl⟩, .inr (Sees.lsH [])⟩, rfl⟩
  · skip
    have hdx : (0 : Int) ≤ f.stk.length := by omega
    refine X.part 42 rfl (fun hn1 => ?_) (fun hn1 => ?_)
    · skip
      replace hn1 := sp hn1
      refine xo 3 ?_
      refine XO.ld Tryz.isAgg22 ?_
      refine oo 2 ?_
      refine XO.adr hf.s (by simp; omega) (fun bs os es => ?_)
      have hss := hf.s; rw [es] at hss
      refine XO.know 44 (.slice (some ⟨bs, os, none⟩) f.stk.length f.sc) rfl (by rw [es]) ?_
      refine oo 1 ?_
      refine XO.ld Tryz.isAgg2 ?_ (hc := (Cl.e1 (n := f.stk.length - 1) hss leA (by omega) (by omega)))
      refine XO.know 48 (.int .i64 (lastS f.stk)) rfl (congrArg (Value.int .i64) (getD_lt (by omega)).symm) ?_
      refine ox 8 ?_
      refine X.sb [50, 13, 14, 12, 11, 10, 9, 8, 7, 6, 4, 3, 2] ?_
      refine X.part 50 rfl (fun hn2 => ?_) (fun hn2 => ?_)
      · skip
        replace hn2 := sp hn2
        refine xo 3 ?_
        refine XO.ld Tryz.isAgg22 ?_
        refine oo 2 ?_
        refine XO.know 52 (.slice (some ⟨bs, os, none⟩) f.stk.length f.sc) rfl (by rw [es]) ?_
        refine oo 1 ?_
        refine XO.ld Tryz.isAgg2 ?_ (hc := (Cl.e1 (n := f.stk.length - 2) hss leA (by omega) (by omega)))
        refine XO.know 56 (.int .i64 (aheadS f.stk)) rfl (congrArg (Value.int .i64) (getD_lt (by omega)).symm) ?_
        refine ox 10 ?_
        refine X.know 57 (.bool false) rfl (congrArg Value.bool (by first | exact decide_eq_true (by omega) | exact decide_eq_false (by omega) | (rw [beq_iff_eq]; omega) | (rw [beq_eq_false_iff_ne]; omega) | (rw [bne_iff_ne]; omega) | (rw [bne_eq_false_iff_eq]; omega))) ?_
        refine xx 7 ?_
        refine X.sb [67, 14, 13, 12, 10, 9, 8, 7, 6, 4, 3, 2] ?_
        refine X.know 67 (.bool false) rfl (congrArg Value.bool (by first | exact decide_eq_true (by omega) | exact decide_eq_false (by omega) | (rw [beq_iff_eq]; omega) | (rw [beq_eq_false_iff_ne]; omega) | (rw [bne_iff_ne]; omega) | (rw [bne_eq_false_iff_eq]; omega))) ?_
        refine xx 7 ?_
        refine X.know 88 (.bool false) rfl (congrArg Value.bool (by first | exact decide_eq_true (by omega) | exact decide_eq_false (by omega) | (rw [beq_iff_eq]; omega) | (rw [beq_eq_false_iff_ne]; omega) | (rw [bne_iff_ne]; omega) | (rw [bne_eq_false_iff_eq]; omega))) ?_
        refine xx 7 ?_
        refine X.know 102 (.bool false) rfl (congrArg Value.bool (by first | exact decide_eq_true (by omega) | exact decide_eq_false (by omega) | (rw [beq_iff_eq]; omega) | (rw [beq_eq_false_iff_ne]; omega) | (rw [bne_iff_ne]; omega) | (rw [bne_eq_false_iff_eq]; omega))) ?_
        refine xx 7 ?_
        refine X.know 131 (.bool false) rfl (congrArg Value.bool (by first | exact decide_eq_true (by omega) | exact decide_eq_false (by omega) | (rw [beq_iff_eq]; omega) | (rw [beq_eq_false_iff_ne]; omega) | (rw [bne_iff_ne]; omega) | (rw [bne_eq_false_iff_eq]; omega))) ?_
        refine xx 7 ?_
        refine X.know 143 (.bool false) rfl (congrArg Value.bool (by first | exact decide_eq_true (by omega) | exact decide_eq_false (by omega) | (rw [beq_iff_eq]; omega) | (rw [beq_eq_false_iff_ne]; omega) | (rw [bne_iff_ne]; omega) | (rw [bne_eq_false_iff_eq]; omega))) ?_
        refine xx 7 ?_
        refine X.sb [161, 14, 13, 12, 10, 9, 8, 7, 6, 4, 3] ?_
        refine X.know 161 (.bool false) rfl (congrArg Value.bool (by first | exact decide_eq_true (by omega) | exact decide_eq_false (by omega) | (rw [beq_iff_eq]; omega) | (rw [beq_eq_false_iff_ne]; omega) | (rw [bne_iff_ne]; omega) | (rw [bne_eq_false_iff_eq]; omega))) ?_
        refine xx 7 ?_
        refine X.know 183 (.bool false) rfl (congrArg Value.bool (by first | exact decide_eq_true (by omega) | exact decide_eq_false (by omega) | (rw [beq_iff_eq]; omega) | (rw [beq_eq_false_iff_ne]; omega) | (rw [bne_iff_ne]; omega) | (rw [bne_eq_false_iff_eq]; omega))) ?_
        refine xx 7 ?_
        refine X.know 201 (.bool false) rfl (congrArg Value.bool (by first | exact decide_eq_true (by omega) | exact decide_eq_false (by omega) | (rw [beq_iff_eq]; omega) | (rw [beq_eq_false_iff_ne]; omega) | (rw [bne_iff_ne]; omega) | (rw [bne_eq_false_iff_eq]; omega))) ?_
        refine xo 6 ?_
        refine XO.know 215 (.bool true) rfl (congrArg Value.bool (by first | exact decide_eq_true (by omega) | exact decide_eq_false (by omega) | (rw [beq_iff_eq]; omega) | (rw [beq_eq_false_iff_ne]; omega) | (rw [bne_iff_ne]; omega) | (rw [bne_eq_false_iff_eq]; omega))) ?_
        refine ox 5 ?_
        refine X.sb [212, 14, 13, 12, 10, 9, 8, 7, 6, 4, 3] ?_
        refine X.know 212 (.bool false) rfl (congrArg Value.bool (by first | exact decide_eq_true (by omega) | exact decide_eq_false (by omega) | (rw [beq_iff_eq]; omega) | (rw [beq_eq_false_iff_ne]; omega) | (rw [bne_iff_ne]; omega) | (rw [bne_eq_false_iff_eq]; omega))) ?_
        refine xo 5 ?_
        refine XO.ldA Tryz.isAgg26 Tryz.sizeOf26 ?_
        refine XO.ldA Tryz.isAgg28 Tryz.sizeOf28 ?_
        refine XO.ldA Tryz.isAgg28 Tryz.sizeOf28 ?_
        refine XO.ldA Tryz.isAgg52 Tryz.sizeOf52 ?_
        refine oo 1 ?_
        refine XO.cX Tryz.call49 (Le.refl _) (flow_ok (m := m) (f := f) (x := (insAt m f)) (cells := cells) (hf.le leA) hS hcap hx) ?_
        rintro _ _ ⟨la2, lc2, sa2, sc2, W2, rfl, hW, rfl⟩
        refine oo 2 ?_
        refine XO.ef0 (Ef.stA Tryz.sizeOf28) ?_
        rintro _ _ ⟨rfl, rfl⟩
        refine XO.ef0 (Ef.stA Tryz.sizeOf74) ?_
        rintro _ _ ⟨rfl, rfl⟩
        refine ox 1 ?_
        refine X.retL (W2 :: q) Tryz.func28 (resC Tryz.results28 (ResOk.cell rfl (LV.agg Tryz.isAgg28 Tryz.sizeOf28 hasA rfl) (ResOk.cell rfl (LV.agg Tryz.isAgg74 Tryz.sizeOf74 hasA rfl) ResOk.nil))) ⟨_, rfl, la2, lc2, sa2, sc2, W2, rfl, hW, rfl⟩
      · skip
        replace hn2 := sp hn2
        refine xx 10 ?_
        refine X.know 57 (.bool false) rfl (congrArg Value.bool (by first | exact decide_eq_true (by omega) | exact decide_eq_false (by omega) | (rw [beq_iff_eq]; omega) | (rw [beq_eq_false_iff_ne]; omega) | (rw [bne_iff_ne]; omega) | (rw [bne_eq_false_iff_eq]; omega))) ?_
        refine xx 7 ?_
        refine X.know 67 (.bool false) rfl (congrArg Value.bool (by first | exact decide_eq_true (by omega) | exact decide_eq_false (by omega) | (rw [beq_iff_eq]; omega) | (rw [beq_eq_false_iff_ne]; omega) | (rw [bne_iff_ne]; omega) | (rw [bne_eq_false_iff_eq]; omega))) ?_
        refine xx 7 ?_
        refine X.know 88 (.bool false) rfl (congrArg Value.bool (by first | exact decide_eq_true (by omega) | exact decide_eq_false (by omega) | (rw [beq_iff_eq]; omega) | (rw [beq_eq_false_iff_ne]; omega) | (rw [bne_iff_ne]; omega) | (rw [bne_eq_false_iff_eq]; omega))) ?_
        refine xx 7 ?_
        refine X.know 102 (.bool false) rfl (congrArg Value.bool (by first | exact decide_eq_true (by omega) | exact decide_eq_false (by omega) | (rw [beq_iff_eq]; omega) | (rw [beq_eq_false_iff_ne]; omega) | (rw [bne_iff_ne]; omega) | (rw [bne_eq_false_iff_eq]; omega))) ?_
        refine xx 7 ?_
        refine X.sb [131, 13, 14, 12, 10, 9, 8, 7, 6, 4, 3] ?_
        refine X.know 131 (.bool false) rfl (congrArg Value.bool (by first | exact decide_eq_true (by omega) | exact decide_eq_false (by omega) | (rw [beq_iff_eq]; omega) | (rw [beq_eq_false_iff_ne]; omega) | (rw [bne_iff_ne]; omega) | (rw [bne_eq_false_iff_eq]; omega))) ?_
        refine xx 7 ?_
        refine X.know 143 (.bool false) rfl (congrArg Value.bool (by first | exact decide_eq_true (by omega) | exact decide_eq_false (by omega) | (rw [beq_iff_eq]; omega) | (rw [beq_eq_false_iff_ne]; omega) | (rw [bne_iff_ne]; omega) | (rw [bne_eq_false_iff_eq]; omega))) ?_
        refine xx 7 ?_
        refine X.know 161 (.bool false) rfl (congrArg Value.bool (by first | exact decide_eq_true (by omega) | exact decide_eq_false (by omega) | (rw [beq_iff_eq]; omega) | (rw [beq_eq_false_iff_ne]; omega) | (rw [bne_iff_ne]; omega) | (rw [bne_eq_false_iff_eq]; omega))) ?_
        refine xx 7 ?_
        refine X.know 183 (.bool false) rfl (congrArg Value.bool (by first | exact decide_eq_true (by omega) | exact decide_eq_false (by omega) | (rw [beq_iff_eq]; omega) | (rw [beq_eq_false_iff_ne]; omega) | (rw [bne_iff_ne]; omega) | (rw [bne_eq_false_iff_eq]; omega))) ?_
        refine xx 7 ?_
        refine X.know 201 (.bool false) rfl (congrArg Value.bool (by first | exact decide_eq_true (by omega) | exact decide_eq_false (by omega) | (rw [beq_iff_eq]; omega) | (rw [beq_eq_false_iff_ne]; omega) | (rw [bne_iff_ne]; omega) | (rw [bne_eq_false_iff_eq]; omega))) ?_
        refine xo 6 ?_
        refine XO.know 215 (.bool true) rfl (congrArg Value.bool (by first | exact decide_eq_true (by omega) | exact decide_eq_false (by omega) | (rw [beq_iff_eq]; omega) | (rw [beq_eq_false_iff_ne]; omega) | (rw [bne_iff_ne]; omega) | (rw [bne_eq_false_iff_eq]; omega))) ?_
        refine ox 5 ?_
        refine X.sb [212, 13, 14, 12, 10, 9, 8, 7, 6, 4, 3] ?_
        refine X.know 212 (.bool false) rfl (congrArg Value.bool (by first | exact decide_eq_true (by omega) | exact decide_eq_false (by omega) | (rw [beq_iff_eq]; omega) | (rw [beq_eq_false_iff_ne]; omega) | (rw [bne_iff_ne]; omega) | (rw [bne_eq_false_iff_eq]; omega))) ?_
        refine xo 5 ?_
        refine XO.ldA Tryz.isAgg26 Tryz.sizeOf26 ?_
        refine XO.ldA Tryz.isAgg28 Tryz.sizeOf28 ?_
        refine XO.ldA Tryz.isAgg28 Tryz.sizeOf28 ?_
        refine XO.ldA Tryz.isAgg52 Tryz.sizeOf52 ?_
        refine oo 1 ?_
        refine XO.cX Tryz.call49 (Le.refl _) (flow_ok (m := m) (f := f) (x := (insAt m f)) (cells := cells) (hf.le leA) hS hcap hx) ?_
        rintro _ _ ⟨la2, lc2, sa2, sc2, W2, rfl, hW, rfl⟩
        refine oo 2 ?_
        refine XO.ef0 (Ef.stA Tryz.sizeOf28) ?_
        rintro _ _ ⟨rfl, rfl⟩
        refine XO.ef0 (Ef.stA Tryz.sizeOf74) ?_
        rintro _ _ ⟨rfl, rfl⟩
        refine ox 1 ?_
        refine X.retL (W2 :: q) Tryz.func28 (resC Tryz.results28 (ResOk.cell rfl (LV.agg Tryz.isAgg28 Tryz.sizeOf28 hasA rfl) (ResOk.cell rfl (LV.agg Tryz.isAgg74 Tryz.sizeOf74 hasA rfl) ResOk.nil))) ⟨_, rfl, la2, lc2, sa2, sc2, W2, rfl, hW, rfl⟩
    · skip
      replace hn1 := sp hn1
      have hnil : f.stk = [] := List.eq_nil_of_length_eq_zero (by omega)
      refine X.know 13 (.int .i64 (lastS f.stk)) rfl (by rw [hnil]; rfl) ?_
      refine xx 8 ?_
      refine X.sb [50, 13, 14, 12, 11, 10, 9, 8, 7, 6, 4, 3, 2] ?_
      refine X.know 50 (.bool false) rfl (congrArg Value.bool (by first | exact decide_eq_true (by omega) | exact decide_eq_false (by omega) | (rw [beq_iff_eq]; omega) | (rw [beq_eq_false_iff_ne]; omega) | (rw [bne_iff_ne]; omega) | (rw [bne_eq_false_iff_eq]; omega))) ?_
      refine xx 10 ?_
      refine X.know 57 (.bool false) rfl (congrArg Value.bool (by first | exact decide_eq_true (by omega) | exact decide_eq_false (by omega) | (rw [beq_iff_eq]; omega) | (rw [beq_eq_false_iff_ne]; omega) | (rw [bne_iff_ne]; omega) | (rw [bne_eq_false_iff_eq]; omega))) ?_
      refine xx 7 ?_
      refine X.know 67 (.bool false) rfl (congrArg Value.bool (by first | exact decide_eq_true (by omega) | exact decide_eq_false (by omega) | (rw [beq_iff_eq]; omega) | (rw [beq_eq_false_iff_ne]; omega) | (rw [bne_iff_ne]; omega) | (rw [bne_eq_false_iff_eq]; omega))) ?_
      refine xx 7 ?_
      refine X.know 88 (.bool false) rfl (congrArg Value.bool (by first | exact decide_eq_true (by omega) | exact decide_eq_false (by omega) | (rw [beq_iff_eq]; omega) | (rw [beq_eq_false_iff_ne]; omega) | (rw [bne_iff_ne]; omega) | (rw [bne_eq_false_iff_eq]; omega))) ?_
      refine xx 7 ?_
      refine X.know 102 (.bool false) rfl (congrArg Value.bool (by first | exact decide_eq_true (by omega) | exact decide_eq_false (by omega) | (rw [beq_iff_eq]; omega) | (rw [beq_eq_false_iff_ne]; omega) | (rw [bne_iff_ne]; omega) | (rw [bne_eq_false_iff_eq]; omega))) ?_
      refine xx 7 ?_
      refine X.sb [131, 13, 14, 12, 10, 9, 8, 7, 6, 4, 3] ?_
      refine X.know 131 (.bool false) rfl (congrArg Value.bool (by first | exact decide_eq_true (by omega) | exact decide_eq_false (by omega) | (rw [beq_iff_eq]; omega) | (rw [beq_eq_false_iff_ne]; omega) | (rw [bne_iff_ne]; omega) | (rw [bne_eq_false_iff_eq]; omega))) ?_
      refine xx 7 ?_
      refine X.know 143 (.bool false) rfl (congrArg Value.bool (by first | exact decide_eq_true (by omega) | exact decide_eq_false (by omega) | (rw [beq_iff_eq]; omega) | (rw [beq_eq_false_iff_ne]; omega) | (rw [bne_iff_ne]; omega) | (rw [bne_eq_false_iff_eq]; omega))) ?_
      refine xx 7 ?_
      refine X.know 161 (.bool false) rfl (congrArg Value.bool (by first | exact decide_eq_true (by omega) | exact decide_eq_false (by omega) | (rw [beq_iff_eq]; omega) | (rw [beq_eq_false_iff_ne]; omega) | (rw [bne_iff_ne]; omega) | (rw [bne_eq_false_iff_eq]; omega))) ?_
      refine xx 7 ?_
      refine X.know 183 (.bool false) rfl (congrArg Value.bool (by first | exact decide_eq_true (by omega) | exact decide_eq_false (by omega) | (rw [beq_iff_eq]; omega) | (rw [beq_eq_false_iff_ne]; omega) | (rw [bne_iff_ne]; omega) | (rw [bne_eq_false_iff_eq]; omega))) ?_
      refine xx 7 ?_
      refine X.know 201 (.bool false) rfl (congrArg Value.bool (by first | exact decide_eq_true (by omega) | exact decide_eq_false (by omega) | (rw [beq_iff_eq]; omega) | (rw [beq_eq_false_iff_ne]; omega) | (rw [bne_iff_ne]; omega) | (rw [bne_eq_false_iff_eq]; omega))) ?_
      refine xo 6 ?_
      refine XO.know 215 (.bool true) rfl (congrArg Value.bool (by first | exact decide_eq_true (by omega) | exact decide_eq_false (by omega) | (rw [beq_iff_eq]; omega) | (rw [beq_eq_false_iff_ne]; omega) | (rw [bne_iff_ne]; omega) | (rw [bne_eq_false_iff_eq]; omega))) ?_
      refine ox 5 ?_
      refine X.sb [212, 13, 14, 12, 10, 9, 8, 7, 6, 4, 3] ?_
      refine X.know 212 (.bool false) rfl (congrArg Value.bool (by first | exact decide_eq_true (by omega) | exact decide_eq_false (by omega) | (rw [beq_iff_eq]; omega) | (rw [beq_eq_false_iff_ne]; omega) | (rw [bne_iff_ne]; omega) | (rw [bne_eq_false_iff_eq]; omega))) ?_
      refine xo 5 ?_
      refine XO.ldA Tryz.isAgg26 Tryz.sizeOf26 ?_
      refine XO.ldA Tryz.isAgg28 Tryz.sizeOf28 ?_
      refine XO.ldA Tryz.isAgg28 Tryz.sizeOf28 ?_
      refine XO.ldA Tryz.isAgg52 Tryz.sizeOf52 ?_
      refine oo 1 ?_
      refine XO.cX Tryz.call49 (Le.refl _) (flow_ok (m := m) (f := f) (x := (insAt m f)) (cells := cells) (hf.le leA) hS hcap hx) ?_
      rintro _ _ ⟨la2, lc2, sa2, sc2, W2, rfl, hW, rfl⟩
      refine oo 2 ?_
      refine XO.ef0 (Ef.stA Tryz.sizeOf28) ?_
      rintro _ _ ⟨rfl, rfl⟩
      refine XO.ef0 (Ef.stA Tryz.sizeOf74) ?_
      rintro _ _ ⟨rfl, rfl⟩
      refine ox 1 ?_
      refine X.retL (W2 :: q) Tryz.func28 (resC Tryz.results28 (ResOk.cell rfl (LV.agg Tryz.isAgg28 Tryz.sizeOf28 hasA rfl) (ResOk.cell rfl (LV.agg Tryz.isAgg74 Tryz.sizeOf74 hasA rfl) ResOk.nil))) ⟨_, rfl, la2, lc2, sa2, sc2, W2, rfl, hW, rfl⟩
end
end Go.Proofs.YtcklgodcjnnllaaGreatDoor

