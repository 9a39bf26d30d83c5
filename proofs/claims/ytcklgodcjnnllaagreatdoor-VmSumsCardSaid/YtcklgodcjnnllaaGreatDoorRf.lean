/- What functions of package vm, of its references and of its laws do: contracts of calls, proved by walking their code. -/
import Derived.Test.YtcklgodcjnnllaaGreatDoorRe
import Derived.KernelRfl
set_option maxRecDepth 100000
set_option linter.unusedVariables false
set_option linter.unusedSimpArgs false
namespace Go.Proofs.YtcklgodcjnnllaaGreatDoor
open Go Go.RowKit Wx
attribute [local irreducible] Wx.lsH Wx.rsH Wx.lsM Wx.rsM Wx.stars

section
variable {G : World} {q pre : List HP} {a b A : Option Addr} {c d C p p0 p1 p2 i : Nat} {lo hi n cd dep : Int} {fv : Value} {x y : Ins} {t : Cod} {m : Mdl} {at_ : Int}
variable {l cells loc : List Int} {idx arr z k u pc code : Int} {x1 x2 x3 x4 x5 x6 old : Value} {pm cc lc n1 n2 : Nat} {la cda : Option Addr}
variable {f f2 : Frm} {last : Int} {kk : Nat}
set_option maxHeartbeats 4000000 in
theorem large_ok (hq : MdlQ q m) (hf : FrmQ q f) (hcl : cells.length ≤ 9223372036854775807) : CallF Tryz.prog G 9 [.agg (mdlC m).toArray, .agg (frmC f).toArray, .slice cda cells.length cc] (q) (Ret fun v q' => ∃ bb, v = .bool bb ∧ (bb = false → f.loc.length ≤ 40 ∧ f.stk.length ≤ 40 ∧ cells.length ≤ 600 ∧ m.threads.length ≤ 4) ∧ q' = q) := by
  refine CallF.of Tryz.func9 Tryz.ntmps9 rfl (fun F cs => ?_)
  have hlen := flatMap_len (f := codC) (sz := 4) (fun _ => rfl) m.threads; have hnt := hq.nt; have hnv := hq.nv; have hna := hq.na; have hnc := hq.nc; have hnl := hf.nl; have hns := hf.ns
  refine xo 2 ?_
  refine XO.ef (Ef.box rfl) ?_
  rintro _ _ ⟨n1, rfl, rfl⟩
  refine XO.ef (Ef.box rfl) ?_
  rintro _ _ ⟨n2, rfl, rfl⟩
  refine oo 6 ?_
  refine XO.ld Tryz.isAgg22 ?_
  refine oo 3 ?_
  refine XO.sb [12, 6, 4, 3, 2] ?_
  apply XO.cutOr 5 17 12 rfl
  · skip
    intro g1 M1; have h1 := sp g1
    refine oo 1 ?_
    refine XO.ld Tryz.isAgg23 ?_
    refine oo 3 ?_
    exact XO.fin M1 ⟨orF g1, subB⟩
  · skip
    intro g1 M1; have h1 := sp g1
    refine oo 5 ?_
    exact XO.fin M1 ⟨orT g1, subB⟩
  · skip
    refine oo 1 ?_
    refine XO.sb [18, 6, 4, 3, 2] ?_
    apply XO.cutOr 5 23 18 rfl
    · skip
      intro g1 M1; have h1 := sp g1
      refine oo 1 ?_
      refine XO.ld Tryz.isAgg23 ?_
      refine oo 3 ?_
      exact XO.fin M1 ⟨orF g1, subB⟩
    · skip
      intro g1 M1; have h1 := sp g1
      refine oo 5 ?_
      exact XO.fin M1 ⟨orT g1, subB⟩
    · skip
      refine oo 1 ?_
      refine XO.sb [24, 6, 4, 3, 2] ?_
      apply XO.cutOr 5 29 24 rfl
      · skip
        intro g1 M1; have h1 := sp g1
        refine oo 1 ?_
        refine XO.ld Tryz.isAgg24 ?_
        refine oo 3 ?_
        exact XO.fin M1 ⟨orF g1, subB⟩
      · skip
        intro g1 M1; have h1 := sp g1
        refine oo 5 ?_
        exact XO.fin M1 ⟨orT g1, subB⟩
      · skip
        refine oo 1 ?_
        refine XO.sb [30, 6, 4, 3, 2] ?_
        apply XO.cutOr 5 35 30 rfl
        · skip
          intro g1 M1; have h1 := sp g1
          refine oo 1 ?_
          refine XO.ld Tryz.isAgg22 ?_
          refine oo 3 ?_
          exact XO.fin M1 ⟨orF g1, subB⟩
        · skip
          intro g1 M1; have h1 := sp g1
          refine oo 5 ?_
          exact XO.fin M1 ⟨orT g1, subB⟩
        · skip
          refine oo 1 ?_
          refine XO.sb [36, 6, 4, 3, 2] ?_
          apply XO.cutOr 5 41 36 rfl
          · skip
            intro g1 M1; have h1 := sp g1
            refine oo 1 ?_
            refine XO.ld Tryz.isAgg22 ?_
            refine oo 3 ?_
            exact XO.fin M1 ⟨orF g1, subB⟩
          · skip
            intro g1 M1; have h1 := sp g1
            refine oo 5 ?_
            exact XO.fin M1 ⟨orT g1, subB⟩
          · skip
            refine oo 1 ?_
            refine XO.sb [42, 6, 3, 2] ?_
            apply XO.cutOr 4 46 42 rfl
            · skip
              intro g1 M1; have h1 := sp g1
              refine oo 4 ?_
              exact XO.fin M1 ⟨orF g1, subB⟩
            · skip
              intro g1 M1; have h1 := sp g1
              refine oo 4 ?_
              exact XO.fin M1 ⟨orT g1, subB⟩
            · skip
              refine ox 1 ?_
              refine X.part 46 rfl (fun h1 => ?_) (fun h1 => ?_)
              · skip
                replace h1 := sp h1
                refine xx 5 ?_
                refine X.retL (q) Tryz.func9 (res1 Tryz.results9 rfl) ⟨_, rfl, _, rfl, (fun h => by cases h), rfl⟩
              · skip
                replace h1 := sp h1
                refine xx 8 ?_
                refine X.at (X.loop (fun (s : Nat) => s ≤ m.threads.length) (fun s => [(7, .int .i64 (s : Int)), (3, .pointer (some ⟨n1, 0, none⟩)), (6, .bool false)]) (fun s => pto n1 (.cells (mdlC m).toArray 26 (0, 0)) :: (q ++ F)) (fun s => m.threads.length - s) (fun s hi_ ih => ?_) 0 (Nat.zero_le _)) subA leA
                try dsimp only at hi_ ih ⊢
                obtain hk := hi_
                refine xo 5 ?_
                refine XO.ld Tryz.isAgg24 ?_
                refine ox 3 ?_
                refine X.part 51 rfl (fun h0 => ?_) (fun h0 => ?_)
                · skip
                  replace h0 := sp h0
                  have hkN : s < m.threads.length := by omega
                  have hql := hq.x _ (List.getElem_mem hkN); have g1 := hql.n; have g2 := hql.ni; have g3 := hql.nl
                  refine xo 7 ?_
                  refine XO.ld Tryz.isAgg24 ?_
                  refine oo 1 ?_
                  refine XO.adr hq.t (by rw [hlen]; omega) (fun b1 o1 e1 => ?_)
                  have hs1 := hq.t; rw [e1] at hs1
                  refine XO.know 55 (.slice (some ⟨b1, o1, none⟩) m.threads.length m.tc) rfl (by rw [e1]) ?_
                  refine oo 2 ?_
                  refine XO.ld Tryz.isAgg44 ?_ (hc := (Cl.row (j := (s : Int)) hs1 leA (fun _ => rfl) hkN rfl 2 _ rfl))
                  refine oo 3 ?_
                  refine XO.sb [62, 7, 3, 6] ?_
                  apply XO.cutOr 9 71 62 rfl
                  · skip
                    intro g1 M1; have h1 := sp g1
                    refine oo 1 ?_
                    refine XO.ld Tryz.isAgg24 ?_
                    refine oo 1 ?_
                    refine XO.know 64 (.slice (some ⟨b1, o1, none⟩) m.threads.length m.tc) rfl (by rw [e1]) ?_
                    refine oo 2 ?_
                    refine XO.ld Tryz.isAgg23 ?_ (hc := (Cl.row (j := (s : Int)) hs1 leA (fun _ => rfl) hkN rfl 3 _ rfl))
                    refine oo 3 ?_
                    exact XO.fin M1 ⟨orF g1, subB⟩
                  · skip
                    intro g1 M1; have h1 := sp g1
                    refine oo 9 ?_
                    exact XO.fin M1 ⟨orT g1, subB⟩
                  · skip
                    refine oo 1 ?_
                    refine XO.sb [72, 7, 3, 6] ?_
                    apply XO.cutOr 9 81 72 rfl
                    · skip
                      intro g1 M1; have h1 := sp g1
                      refine oo 1 ?_
                      refine XO.ld Tryz.isAgg24 ?_
                      refine oo 1 ?_
                      refine XO.know 74 (.slice (some ⟨b1, o1, none⟩) m.threads.length m.tc) rfl (by rw [e1]) ?_
                      refine oo 2 ?_
                      refine XO.ld Tryz.isAgg9 ?_ (hc := (Cl.row (j := (s : Int)) hs1 leA (fun _ => rfl) hkN rfl 0 _ rfl))
                      refine oo 3 ?_
                      exact XO.fin M1 ⟨orF g1, subB⟩
                    · skip
                      intro g1 M1; have h1 := sp g1
                      refine oo 9 ?_
                      exact XO.fin M1 ⟨orT g1, subB⟩
                    · skip
                      refine ox 1 ?_
                      refine X.sb [81, 7, 3, 6] ?_
                      refine X.part 81 rfl (fun h1 => ?_) (fun h1 => ?_)
                      · skip
                        replace h1 := sp h1
                        refine xx 5 ?_
                        refine X.retL (q) Tryz.func9 (res1 Tryz.results9 rfl) ⟨_, rfl, _, rfl, (fun h => by cases h), rfl⟩
                      · skip
                        replace h1 := sp h1
                        refine xx 8 ?_
                        refine X.at (ih (s + 1) (by omega) (by omega)) subA leA
                · skip
                  replace h0 := sp h0
                  refine xx 6 ?_
                  refine X.retL (q) Tryz.func9 (res1 Tryz.results9 rfl) ⟨_, rfl, _, rfl, (fun _ => by omega), rfl⟩
set_option maxHeartbeats 16000000 in
theorem does_ok (gc : GC q) (g : GE q) (hq : MdlQ q m) (hf : FrmQ q f) (hc : Sees q cda (cells.map I64)) (hcap : f.stk.length ≤ f.sc) (hb : f.loc.length ≤ 40 ∧ f.stk.length ≤ 40 ∧ cells.length ≤ 600) : CallF Tryz.prog G 11 [.agg (mdlC m).toArray, .agg (frmC f).toArray, .slice cda cells.length cc] (q) (Ret fun v q' => v = .bool true ∧ q' = q) := by
  refine CallF.of Tryz.func11 Tryz.ntmps11 rfl (fun F cs => ?_)
  have hlen := flatMap_len (f := codC) (sz := 4) (fun _ => rfl) m.threads; have hnt := hq.nt
  have hsplit : ¬ mayS m f 0 ∨ (mayS m f 0 ∧ ¬ (cells.length : Int) = cntS m) ∨ (mayS m f 0 ∧ (cells.length : Int) = cntS m ∧ ¬ vals cells) ∨ (mayS m f 0 ∧ (cells.length : Int) = cntS m ∧ vals cells) := by by_cases a : mayS m f 0 <;> by_cases b : (cells.length : Int) = cntS m <;> by_cases c : vals cells <;> simp [a, b, c]
  rcases hsplit with hm | ⟨hm, hk1⟩ | ⟨hm, hk1, hk2⟩ | ⟨hm, hk1, hk2⟩
  · skip
    refine xo 2 ?_
    refine XO.ef (Ef.box rfl) ?_
    rintro _ _ ⟨n1, rfl, rfl⟩
    refine XO.ef (Ef.box rfl) ?_
    rintro _ _ ⟨n2, rfl, rfl⟩
    refine oo 4 ?_
    refine XO.ldA Tryz.isAgg26 Tryz.sizeOf26 ?_
    refine XO.ldA Tryz.isAgg28 Tryz.sizeOf28 ?_
    refine oo 1 ?_
    refine XO.cX Tryz.call25 (Le.refl _) (VDo_ok (gc.le leA) (g.le leA) (hq.le leA) (hf.le leA) (hc.le leA) (by omega)) ?_
    rintro _ _ (⟨hok, la, lc, sa, sc, rfl, rfl⟩ | ⟨hno, rfl, rfl⟩)
    · exact absurd hok.1 hm
    refine oo 4 ?_
    refine XO.ef (Ef.alloc Tryz.zeroValue28) ?_
    rintro _ _ ⟨n3, rfl, rfl⟩
    refine XO.ef (Ef.alloc Tryz.zeroValue74) ?_
    rintro _ _ ⟨n4, rfl, rfl⟩
    refine XO.ef0 (Ef.stA Tryz.sizeOf28) ?_
    rintro _ _ ⟨rfl, rfl⟩
    refine XO.ef0 (Ef.stA Tryz.sizeOf74) ?_
    rintro _ _ ⟨rfl, rfl⟩
    refine oo 4 ?_
    refine XO.ldA Tryz.isAgg26 Tryz.sizeOf26 ?_
    refine XO.ldA Tryz.isAgg28 Tryz.sizeOf28 ?_
    refine XO.cX Tryz.call27 (Le.refl _) (VNext_ok (gc.le leA) (g.le leA) (hq.le leA) (hf.le leA)) ?_
    rintro _ _ (⟨hy, rfl, rfl⟩ | ⟨hy, rfl, rfl⟩)
    · exact absurd hy hm
    refine oo 3 ?_
    refine XO.ef (Ef.alloc Tryz.zeroValue52) ?_
    rintro _ _ ⟨n5, rfl, rfl⟩
    refine XO.ef0 (Ef.stA Tryz.sizeOf52) ?_
    rintro _ _ ⟨rfl, rfl⟩
    refine oo 4 ?_
    refine XO.ldA Tryz.isAgg26 Tryz.sizeOf26 ?_
    refine XO.ldA Tryz.isAgg28 Tryz.sizeOf28 ?_
    refine XO.cX Tryz.call24 (Le.refl _) (RMay_ok (less := 0) (hq.le leA) (hf.le leA) (by omega) (by omega)) ?_
    rintro _ _ ⟨⟨b1, rfl, hb1⟩, rfl⟩
    obtain rfl : b1 = false := by cases b1; rfl; exact absurd (hb1.1 rfl) hm
    refine ox 4 ?_
    refine X.sb [12, 11, 10, 9, 8, 7, 6, 4, 3, 2] ?_
    refine X.draw [] Tryz.mixed (by kernel_rfl) (by kernel_rfl) rfl ?_
    refine XD.loadA 0 rfl rfl Tryz.isAgg26 Tryz.sizeOf26 hasA (by rfl) ?_
    refine XD.loadA 1 rfl rfl Tryz.isAgg28 Tryz.sizeOf28 hasA (by rfl) ?_
    refine dd [3] ?_
    refine XD.cX 2 Tryz.call26 (Le.refl _) (May_ok (gc.le leA) (g.le leA) (hq.le leA) (hf.le leA)) ?_
    rintro _ _ ⟨⟨b2, rfl, hb2⟩, rfl⟩
    refine ⟨trivial, ?_⟩
    obtain rfl : b2 = false := by cases b2; rfl; exact absurd (hb2.1 rfl) hm
    refine dd [4, 5] ?_
    refine XD.know 37 (.bool false) rfl (congrArg Value.bool (by first | rfl | (simp; done) | (simp [hk1]; done) | (simp [hk2]; done) | (rw [bne_iff_ne]; exact hk1) | (rw [bne_eq_false_iff_eq]; exact hk1))) ?_
    refine dd [6, 7, 8, 9, 10, 11] ?_
    refine XD.know 43 (.bool false) rfl (congrArg Value.bool (by first | rfl | (simp; done) | (simp [hk1]; done) | (simp [hk2]; done) | (rw [bne_iff_ne]; exact hk1) | (rw [bne_eq_false_iff_eq]; exact hk1))) ?_
    refine dd [12, 13] ?_
    refine XD.know 45 (.bool false) rfl (congrArg Value.bool (by first | rfl | (simp; done) | (simp [hk1]; done) | (simp [hk2]; done) | (rw [bne_iff_ne]; exact hk1) | (rw [bne_eq_false_iff_eq]; exact hk1))) ?_
    refine dd [14, 15, 16, 17, 18, 19, 20, 21, 22, 23, 24, 25, 26, 27, 28] ?_
    refine XD.nil ?_
    refine xo 6 ?_
    refine XO.pu (Pu.not rfl) ?_
    refine oo 1 ?_
    refine XO.know 63 (.bool true) rfl (congrArg Value.bool (by first | rfl | (simp; done) | (simp [hk1]; done) | (simp [hk2]; done) | (rw [bne_iff_ne]; exact hk1) | (rw [bne_eq_false_iff_eq]; exact hk1))) ?_
    refine oo 15 ?_
    refine XO.ldA Tryz.isAgg28 Tryz.sizeOf28 ?_
    refine oo 1 ?_
    refine XO.cR Tryz.call22 (Same_ok (f := zFrm) (f2 := zFrm) ⟨Sees.nil _ _, Sees.nil _ _, Nat.zero_le _, Nat.zero_le _⟩ ⟨Sees.nil _ _, Sees.nil _ _, Nat.zero_le _, Nat.zero_le _⟩) ?_
    refine XO.know 77 (.bool true) rfl (congrArg Value.bool (decide_eq_true ⟨rfl, rfl, rfl, rfl⟩)) ?_
    refine oo 1 ?_
    refine XO.know 78 (.bool true) rfl (congrArg Value.bool (by first | rfl | (simp; done) | (simp [hk1]; done) | (simp [hk2]; done) | (rw [bne_iff_ne]; exact hk1) | (rw [bne_eq_false_iff_eq]; exact hk1))) ?_
    refine XO.ldA Tryz.isAgg74 Tryz.sizeOf74 ?_
    refine oo 1 ?_
    refine XO.pu (Pu.eqlA rfl rfl (by kernel_rfl) (EqV.structG Tryz.underlying74 (by kernel_rfl) (by kernel_rfl) ⟨_, _, _, _, (PartV.one rfl Tryz.isAgg69), (PartV.one rfl Tryz.isAgg69), (EqV.int Tryz.underlying69 _ _), ⟨_, _, _, _, (PartV.sub Tryz.isAgg71 Tryz.sizeOf71), (PartV.sub Tryz.isAgg71 Tryz.sizeOf71), (EqV.struct Tryz.underlying71 (by kernel_rfl) (by kernel_rfl) ⟨_, _, _, _, rfl, rfl, Tryz.isAgg3, (EqV.int Tryz.underlying3 _ _), ⟨_, _, _, _, rfl, rfl, Tryz.isAgg4, (EqV.bool Tryz.underlying4 _ _), ⟨_, _, _, _, rfl, rfl, Tryz.isAgg2, (EqV.int Tryz.underlying2 _ _), rfl, rfl⟩, rfl⟩, rfl⟩), ⟨_, _, _, _, (PartV.sub Tryz.isAgg52 Tryz.sizeOf52), (PartV.sub Tryz.isAgg52 Tryz.sizeOf52), (EqV.struct Tryz.underlying52 (by kernel_rfl) (by kernel_rfl) ⟨_, _, _, _, rfl, rfl, Tryz.isAgg50, (EqV.int Tryz.underlying50 _ _), ⟨_, _, _, _, rfl, rfl, Tryz.isAgg3, (EqV.int Tryz.underlying3 _ _), ⟨_, _, _, _, rfl, rfl, Tryz.isAgg3, (EqV.int Tryz.underlying3 _ _), ⟨_, _, _, _, rfl, rfl, Tryz.isAgg2, (EqV.int Tryz.underlying2 _ _), rfl, rfl⟩, rfl⟩, rfl⟩, rfl⟩), ⟨_, _, _, _, (PartV.one rfl Tryz.isAgg2), (PartV.one rfl Tryz.isAgg2), (EqV.int Tryz.underlying2 _ _), ⟨_, _, _, _, (PartV.one rfl Tryz.isAgg72), (PartV.one rfl Tryz.isAgg72), (EqV.int Tryz.underlying72 _ _), rfl, rfl⟩, rfl⟩, rfl⟩, rfl⟩, rfl⟩)) ?_
    refine oo 2 ?_
    refine XO.know 83 (.bool true) rfl (congrArg Value.bool (by first | rfl | (simp; done) | (simp [hk1]; done) | (simp [hk2]; done) | (rw [bne_iff_ne]; exact hk1) | (rw [bne_eq_false_iff_eq]; exact hk1))) ?_
    refine ox 5 ?_
    refine X.sb [6, 9, 8, 7, 4, 3, 2] ?_
    try clear hm
    refine X.retL (q) Tryz.func11 (res1 Tryz.results11 rfl) ⟨_, rfl, by first | rfl | (simp; done), rfl⟩
  · skip
    obtain ⟨hm1, hm2, hth, hm3, hm4, hm5⟩ := id hm
    have hpc : f.pc.toNat < m.threads[f.code.toNat].ins.length := by omega
    have hql := hq.x _ (List.getElem_mem hth); have hni := hql.ni; have hsi := hql.i; have hlen2 := flatMap_len (f := insC) (sz := 4) (fun _ => rfl) m.threads[f.code.toNat].ins
    refine xo 2 ?_
    refine XO.ef (Ef.box rfl) ?_
    rintro _ _ ⟨n6, rfl, rfl⟩
    refine XO.ef (Ef.box rfl) ?_
    rintro _ _ ⟨n7, rfl, rfl⟩
    refine oo 4 ?_
    refine XO.ldA Tryz.isAgg26 Tryz.sizeOf26 ?_
    refine XO.ldA Tryz.isAgg28 Tryz.sizeOf28 ?_
    refine oo 1 ?_
    refine XO.cX Tryz.call25 (Le.refl _) (VDo_ok (gc.le leA) (g.le leA) (hq.le leA) (hf.le leA) (hc.le leA) (by omega)) ?_
    rintro _ _ (⟨hok, la, lc, sa, sc, rfl, rfl⟩ | ⟨hno, rfl, rfl⟩)
    · exact absurd hok.2.1 hk1
    refine oo 4 ?_
    refine XO.ef (Ef.alloc Tryz.zeroValue28) ?_
    rintro _ _ ⟨n8, rfl, rfl⟩
    refine XO.ef (Ef.alloc Tryz.zeroValue74) ?_
    rintro _ _ ⟨n9, rfl, rfl⟩
    refine XO.ef0 (Ef.stA Tryz.sizeOf28) ?_
    rintro _ _ ⟨rfl, rfl⟩
    refine XO.ef0 (Ef.stA Tryz.sizeOf74) ?_
    rintro _ _ ⟨rfl, rfl⟩
    refine oo 4 ?_
    refine XO.ldA Tryz.isAgg26 Tryz.sizeOf26 ?_
    refine XO.ldA Tryz.isAgg28 Tryz.sizeOf28 ?_
    refine XO.cX Tryz.call27 (Le.refl _) (VNext_ok (gc.le leA) (g.le leA) (hq.le leA) (hf.le leA)) ?_
    rintro _ _ (⟨hy, rfl, rfl⟩ | ⟨hy, rfl, rfl⟩)
    rotate_left; · exact absurd hm hy
    refine oo 3 ?_
    refine XO.ef (Ef.alloc Tryz.zeroValue52) ?_
    rintro _ _ ⟨n10, rfl, rfl⟩
    refine XO.ef0 (Ef.stA Tryz.sizeOf52) ?_
    rintro _ _ ⟨rfl, rfl⟩
    refine oo 4 ?_
    refine XO.ldA Tryz.isAgg26 Tryz.sizeOf26 ?_
    refine XO.ldA Tryz.isAgg28 Tryz.sizeOf28 ?_
    refine XO.cX Tryz.call24 (Le.refl _) (RMay_ok (less := 0) (hq.le leA) (hf.le leA) (by omega) (by omega)) ?_
    rintro _ _ ⟨⟨b1, rfl, hb1⟩, rfl⟩
    obtain rfl : b1 = true := hb1.2 hm
    refine ox 4 ?_
    refine X.sb [12, 11, 10, 9, 8, 7, 6, 4, 3, 2] ?_
    refine X.draw [] Tryz.mixed (by kernel_rfl) (by kernel_rfl) rfl ?_
    refine XD.loadA 0 rfl rfl Tryz.isAgg26 Tryz.sizeOf26 hasA (by rfl) ?_
    refine XD.loadA 1 rfl rfl Tryz.isAgg28 Tryz.sizeOf28 hasA (by rfl) ?_
    refine dd [3] ?_
    refine XD.cX 2 Tryz.call26 (Le.refl _) (May_ok (gc.le leA) (g.le leA) (hq.le leA) (hf.le leA)) ?_
    rintro _ _ ⟨⟨b2, rfl, hb2⟩, rfl⟩
    refine ⟨trivial, ?_⟩
    obtain rfl : b2 = true := hb2.2 hm
    refine dd [4, 5] ?_
    refine XD.know 37 (.bool false) rfl (congrArg Value.bool (by first | rfl | (simp; done) | (simp [hk1]; done) | (simp [hk2]; done) | (rw [bne_iff_ne]; exact hk1) | (rw [bne_eq_false_iff_eq]; exact hk1))) ?_
    refine dd [6, 7, 8, 9, 10, 11] ?_
    refine XD.know 43 (.bool false) rfl (congrArg Value.bool (by first | rfl | (simp; done) | (simp [hk1]; done) | (simp [hk2]; done) | (rw [bne_iff_ne]; exact hk1) | (rw [bne_eq_false_iff_eq]; exact hk1))) ?_
    refine dd [12, 13] ?_
    refine XD.know 45 (.bool true) rfl (congrArg Value.bool (by first | rfl | (simp; done) | (simp [hk1]; done) | (simp [hk2]; done) | (rw [bne_iff_ne]; exact hk1) | (rw [bne_eq_false_iff_eq]; exact hk1))) ?_
    refine XD.loadA 14 rfl rfl Tryz.isAgg52 Tryz.sizeOf52 hasA (by rfl) ?_
    refine dd [15] ?_
    refine XD.ld 16 Tryz.isAgg24 ?_
    refine dd [17] ?_
    refine XD.ld 18 Tryz.isAgg3 ?_
    refine XD.adr hq.t (by rw [hlen]; omega) (fun b1 o1 e1 => ?_)
    have hs1 := hq.t; rw [e1] at hs1
    refine XD.know 48 (.slice (some ⟨b1, o1, none⟩) m.threads.length m.tc) rfl (by rw [e1]) ?_
    refine dd [19, 20] ?_
    refine XD.ld 21 Tryz.isAgg44 ?_ (hc := (Cl.row (j := f.code) hs1 leA (fun _ => rfl) hth (by omega) 2 _ rfl))
    refine dd [22] ?_
    refine XD.ld 23 Tryz.isAgg3 ?_
    refine XD.adr hsi (by rw [hlen2]; omega) (fun b2 o2 e2 => ?_)
    have hs2 := hsi; rw [e2] at hs2
    refine XD.know 53 (.slice (some ⟨b2, o2, none⟩) m.threads[f.code.toNat].ins.length m.threads[f.code.toNat].ic) rfl (by rw [e2]) ?_
    refine dd [24] ?_
    refine XD.ldS 25 (m := f.pc.toNat) Tryz.isAgg52 Tryz.sizeOf52 hs2 hpc ?_
    refine XD.know 46 (.agg (insC m.threads[f.code.toNat].ins[f.pc.toNat]).toArray) rfl (by rw [getD_lt hpc]; rfl) ?_
    refine XD.pu 26 rfl (Pu.neqA rfl rfl (by kernel_rfl) (EqV.struct Tryz.underlying52 (by kernel_rfl) (by kernel_rfl) ⟨_, _, _, _, rfl, rfl, Tryz.isAgg50, (EqV.int Tryz.underlying50 _ _), ⟨_, _, _, _, rfl, rfl, Tryz.isAgg3, (EqV.int Tryz.underlying3 _ _), ⟨_, _, _, _, rfl, rfl, Tryz.isAgg3, (EqV.int Tryz.underlying3 _ _), ⟨_, _, _, _, rfl, rfl, Tryz.isAgg2, (EqV.int Tryz.underlying2 _ _), rfl, rfl⟩, rfl⟩, rfl⟩, rfl⟩)) ?_
    refine dd [27, 28] ?_
    refine XD.nil ?_
    refine X.know 60 (.bool false) rfl (congrArg Value.bool (by first | rfl | (simp; done))) ?_
    refine xo 6 ?_
    refine XO.pu (Pu.not rfl) ?_
    refine oo 1 ?_
    refine XO.know 63 (.bool false) rfl (congrArg Value.bool (by first | rfl | (simp; done) | (simp [hk1]; done) | (simp [hk2]; done) | (rw [bne_iff_ne]; exact hk1) | (rw [bne_eq_false_iff_eq]; exact hk1))) ?_
    refine oo 2 ?_
    refine XO.ldA Tryz.isAgg26 Tryz.sizeOf26 ?_
    refine XO.cR Tryz.call15 (RCount_ok (hq.le leA) hm1) ?_
    refine oo 3 ?_
    refine XO.know 70 (.bool true) rfl (congrArg Value.bool (by first | rfl | (simp; done) | (simp [hk1]; done) | (simp [hk2]; done) | (rw [bne_iff_ne]; exact hk1) | (rw [bne_eq_false_iff_eq]; exact hk1))) ?_
    refine oo 8 ?_
    refine XO.ldA Tryz.isAgg28 Tryz.sizeOf28 ?_
    refine oo 1 ?_
    refine XO.cR Tryz.call22 (Same_ok (f := zFrm) (f2 := zFrm) ⟨Sees.nil _ _, Sees.nil _ _, Nat.zero_le _, Nat.zero_le _⟩ ⟨Sees.nil _ _, Sees.nil _ _, Nat.zero_le _, Nat.zero_le _⟩) ?_
    refine XO.know 77 (.bool true) rfl (congrArg Value.bool (decide_eq_true ⟨rfl, rfl, rfl, rfl⟩)) ?_
    refine oo 1 ?_
    refine XO.know 78 (.bool true) rfl (congrArg Value.bool (by first | rfl | (simp; done) | (simp [hk1]; done) | (simp [hk2]; done) | (rw [bne_iff_ne]; exact hk1) | (rw [bne_eq_false_iff_eq]; exact hk1))) ?_
    refine XO.ldA Tryz.isAgg74 Tryz.sizeOf74 ?_
    refine oo 1 ?_
    refine XO.pu (Pu.eqlA rfl rfl (by kernel_rfl) (EqV.structG Tryz.underlying74 (by kernel_rfl) (by kernel_rfl) ⟨_, _, _, _, (PartV.one rfl Tryz.isAgg69), (PartV.one rfl Tryz.isAgg69), (EqV.int Tryz.underlying69 _ _), ⟨_, _, _, _, (PartV.sub Tryz.isAgg71 Tryz.sizeOf71), (PartV.sub Tryz.isAgg71 Tryz.sizeOf71), (EqV.struct Tryz.underlying71 (by kernel_rfl) (by kernel_rfl) ⟨_, _, _, _, rfl, rfl, Tryz.isAgg3, (EqV.int Tryz.underlying3 _ _), ⟨_, _, _, _, rfl, rfl, Tryz.isAgg4, (EqV.bool Tryz.underlying4 _ _), ⟨_, _, _, _, rfl, rfl, Tryz.isAgg2, (EqV.int Tryz.underlying2 _ _), rfl, rfl⟩, rfl⟩, rfl⟩), ⟨_, _, _, _, (PartV.sub Tryz.isAgg52 Tryz.sizeOf52), (PartV.sub Tryz.isAgg52 Tryz.sizeOf52), (EqV.struct Tryz.underlying52 (by kernel_rfl) (by kernel_rfl) ⟨_, _, _, _, rfl, rfl, Tryz.isAgg50, (EqV.int Tryz.underlying50 _ _), ⟨_, _, _, _, rfl, rfl, Tryz.isAgg3, (EqV.int Tryz.underlying3 _ _), ⟨_, _, _, _, rfl, rfl, Tryz.isAgg3, (EqV.int Tryz.underlying3 _ _), ⟨_, _, _, _, rfl, rfl, Tryz.isAgg2, (EqV.int Tryz.underlying2 _ _), rfl, rfl⟩, rfl⟩, rfl⟩, rfl⟩), ⟨_, _, _, _, (PartV.one rfl Tryz.isAgg2), (PartV.one rfl Tryz.isAgg2), (EqV.int Tryz.underlying2 _ _), ⟨_, _, _, _, (PartV.one rfl Tryz.isAgg72), (PartV.one rfl Tryz.isAgg72), (EqV.int Tryz.underlying72 _ _), rfl, rfl⟩, rfl⟩, rfl⟩, rfl⟩, rfl⟩)) ?_
    refine oo 2 ?_
    refine XO.know 83 (.bool true) rfl (congrArg Value.bool (by first | rfl | (simp; done) | (simp [hk1]; done) | (simp [hk2]; done) | (rw [bne_iff_ne]; exact hk1) | (rw [bne_eq_false_iff_eq]; exact hk1))) ?_
    refine ox 5 ?_
    refine X.sb [6, 9, 8, 7, 4, 3, 2] ?_
    try clear hm
    refine X.retL (q) Tryz.func11 (res1 Tryz.results11 rfl) ⟨_, rfl, by first | rfl | (simp; done), rfl⟩
  · skip
    obtain ⟨hm1, hm2, hth, hm3, hm4, hm5⟩ := id hm
    have hpc : f.pc.toNat < m.threads[f.code.toNat].ins.length := by omega
    have hql := hq.x _ (List.getElem_mem hth); have hni := hql.ni; have hsi := hql.i; have hlen2 := flatMap_len (f := insC) (sz := 4) (fun _ => rfl) m.threads[f.code.toNat].ins
    refine xo 2 ?_
    refine XO.ef (Ef.box rfl) ?_
    rintro _ _ ⟨n11, rfl, rfl⟩
    refine XO.ef (Ef.box rfl) ?_
    rintro _ _ ⟨n12, rfl, rfl⟩
    refine oo 4 ?_
    refine XO.ldA Tryz.isAgg26 Tryz.sizeOf26 ?_
    refine XO.ldA Tryz.isAgg28 Tryz.sizeOf28 ?_
    refine oo 1 ?_
    refine XO.cX Tryz.call25 (Le.refl _) (VDo_ok (gc.le leA) (g.le leA) (hq.le leA) (hf.le leA) (hc.le leA) (by omega)) ?_
    rintro _ _ (⟨hok, la, lc, sa, sc, rfl, rfl⟩ | ⟨hno, rfl, rfl⟩)
    · exact absurd hok.2.2 hk2
    refine oo 4 ?_
    refine XO.ef (Ef.alloc Tryz.zeroValue28) ?_
    rintro _ _ ⟨n13, rfl, rfl⟩
    refine XO.ef (Ef.alloc Tryz.zeroValue74) ?_
    rintro _ _ ⟨n14, rfl, rfl⟩
    refine XO.ef0 (Ef.stA Tryz.sizeOf28) ?_
    rintro _ _ ⟨rfl, rfl⟩
    refine XO.ef0 (Ef.stA Tryz.sizeOf74) ?_
    rintro _ _ ⟨rfl, rfl⟩
    refine oo 4 ?_
    refine XO.ldA Tryz.isAgg26 Tryz.sizeOf26 ?_
    refine XO.ldA Tryz.isAgg28 Tryz.sizeOf28 ?_
    refine XO.cX Tryz.call27 (Le.refl _) (VNext_ok (gc.le leA) (g.le leA) (hq.le leA) (hf.le leA)) ?_
    rintro _ _ (⟨hy, rfl, rfl⟩ | ⟨hy, rfl, rfl⟩)
    rotate_left; · exact absurd hm hy
    refine oo 3 ?_
    refine XO.ef (Ef.alloc Tryz.zeroValue52) ?_
    rintro _ _ ⟨n15, rfl, rfl⟩
    refine XO.ef0 (Ef.stA Tryz.sizeOf52) ?_
    rintro _ _ ⟨rfl, rfl⟩
    refine oo 4 ?_
    refine XO.ldA Tryz.isAgg26 Tryz.sizeOf26 ?_
    refine XO.ldA Tryz.isAgg28 Tryz.sizeOf28 ?_
    refine XO.cX Tryz.call24 (Le.refl _) (RMay_ok (less := 0) (hq.le leA) (hf.le leA) (by omega) (by omega)) ?_
    rintro _ _ ⟨⟨b1, rfl, hb1⟩, rfl⟩
    obtain rfl : b1 = true := hb1.2 hm
    refine ox 4 ?_
    refine X.sb [12, 11, 10, 9, 8, 7, 6, 4, 3, 2] ?_
    refine X.draw [] Tryz.mixed (by kernel_rfl) (by kernel_rfl) rfl ?_
    refine XD.loadA 0 rfl rfl Tryz.isAgg26 Tryz.sizeOf26 hasA (by rfl) ?_
    refine XD.loadA 1 rfl rfl Tryz.isAgg28 Tryz.sizeOf28 hasA (by rfl) ?_
    refine dd [3] ?_
    refine XD.cX 2 Tryz.call26 (Le.refl _) (May_ok (gc.le leA) (g.le leA) (hq.le leA) (hf.le leA)) ?_
    rintro _ _ ⟨⟨b2, rfl, hb2⟩, rfl⟩
    refine ⟨trivial, ?_⟩
    obtain rfl : b2 = true := hb2.2 hm
    refine dd [4, 5] ?_
    refine XD.know 37 (.bool false) rfl (congrArg Value.bool (by first | rfl | (simp; done) | (simp [hk1]; done) | (simp [hk2]; done) | (rw [bne_iff_ne]; exact hk1) | (rw [bne_eq_false_iff_eq]; exact hk1))) ?_
    refine dd [6, 7, 8, 9, 10, 11] ?_
    refine XD.know 43 (.bool false) rfl (congrArg Value.bool (by first | rfl | (simp; done) | (simp [hk1]; done) | (simp [hk2]; done) | (rw [bne_iff_ne]; exact hk1) | (rw [bne_eq_false_iff_eq]; exact hk1))) ?_
    refine dd [12, 13] ?_
    refine XD.know 45 (.bool true) rfl (congrArg Value.bool (by first | rfl | (simp; done) | (simp [hk1]; done) | (simp [hk2]; done) | (rw [bne_iff_ne]; exact hk1) | (rw [bne_eq_false_iff_eq]; exact hk1))) ?_
    refine XD.loadA 14 rfl rfl Tryz.isAgg52 Tryz.sizeOf52 hasA (by rfl) ?_
    refine dd [15] ?_
    refine XD.ld 16 Tryz.isAgg24 ?_
    refine dd [17] ?_
    refine XD.ld 18 Tryz.isAgg3 ?_
    refine XD.adr hq.t (by rw [hlen]; omega) (fun b1 o1 e1 => ?_)
    have hs1 := hq.t; rw [e1] at hs1
    refine XD.know 48 (.slice (some ⟨b1, o1, none⟩) m.threads.length m.tc) rfl (by rw [e1]) ?_
    refine dd [19, 20] ?_
    refine XD.ld 21 Tryz.isAgg44 ?_ (hc := (Cl.row (j := f.code) hs1 leA (fun _ => rfl) hth (by omega) 2 _ rfl))
    refine dd [22] ?_
    refine XD.ld 23 Tryz.isAgg3 ?_
    refine XD.adr hsi (by rw [hlen2]; omega) (fun b2 o2 e2 => ?_)
    have hs2 := hsi; rw [e2] at hs2
    refine XD.know 53 (.slice (some ⟨b2, o2, none⟩) m.threads[f.code.toNat].ins.length m.threads[f.code.toNat].ic) rfl (by rw [e2]) ?_
    refine dd [24] ?_
    refine XD.ldS 25 (m := f.pc.toNat) Tryz.isAgg52 Tryz.sizeOf52 hs2 hpc ?_
    refine XD.know 46 (.agg (insC m.threads[f.code.toNat].ins[f.pc.toNat]).toArray) rfl (by rw [getD_lt hpc]; rfl) ?_
    refine XD.pu 26 rfl (Pu.neqA rfl rfl (by kernel_rfl) (EqV.struct Tryz.underlying52 (by kernel_rfl) (by kernel_rfl) ⟨_, _, _, _, rfl, rfl, Tryz.isAgg50, (EqV.int Tryz.underlying50 _ _), ⟨_, _, _, _, rfl, rfl, Tryz.isAgg3, (EqV.int Tryz.underlying3 _ _), ⟨_, _, _, _, rfl, rfl, Tryz.isAgg3, (EqV.int Tryz.underlying3 _ _), ⟨_, _, _, _, rfl, rfl, Tryz.isAgg2, (EqV.int Tryz.underlying2 _ _), rfl, rfl⟩, rfl⟩, rfl⟩, rfl⟩)) ?_
    refine dd [27, 28] ?_
    refine XD.nil ?_
    refine X.know 60 (.bool false) rfl (congrArg Value.bool (by first | rfl | (simp; done))) ?_
    refine xo 6 ?_
    refine XO.pu (Pu.not rfl) ?_
    refine oo 1 ?_
    refine XO.know 63 (.bool false) rfl (congrArg Value.bool (by first | rfl | (simp; done) | (simp [hk1]; done) | (simp [hk2]; done) | (rw [bne_iff_ne]; exact hk1) | (rw [bne_eq_false_iff_eq]; exact hk1))) ?_
    refine oo 2 ?_
    refine XO.ldA Tryz.isAgg26 Tryz.sizeOf26 ?_
    refine XO.cR Tryz.call15 (RCount_ok (hq.le leA) hm1) ?_
    refine oo 3 ?_
    refine XO.know 70 (.bool false) rfl (congrArg Value.bool (by first | rfl | (simp; done) | (simp [hk1]; done) | (simp [hk2]; done) | (rw [bne_iff_ne]; exact hk1) | (rw [bne_eq_false_iff_eq]; exact hk1))) ?_
    refine oo 1 ?_
    refine XO.cR Tryz.call13 (RValues_ok (hc.le leA) (by omega)) ?_
    refine XO.pu (Pu.not rfl) ?_
    refine ox 2 ?_
    refine X.sb [74, 9, 8, 7, 6, 4, 3, 2] ?_
    refine X.know 74 (.bool true) rfl (congrArg Value.bool (by first | rfl | (simp; done) | (simp [hk1]; done) | (simp [hk2]; done) | (rw [bne_iff_ne]; exact hk1) | (rw [bne_eq_false_iff_eq]; exact hk1))) ?_
    refine xo 3 ?_
    refine XO.ldA Tryz.isAgg28 Tryz.sizeOf28 ?_
    refine oo 1 ?_
    refine XO.cR Tryz.call22 (Same_ok (f := zFrm) (f2 := zFrm) ⟨Sees.nil _ _, Sees.nil _ _, Nat.zero_le _, Nat.zero_le _⟩ ⟨Sees.nil _ _, Sees.nil _ _, Nat.zero_le _, Nat.zero_le _⟩) ?_
    refine XO.know 77 (.bool true) rfl (congrArg Value.bool (decide_eq_true ⟨rfl, rfl, rfl, rfl⟩)) ?_
    refine oo 1 ?_
    refine XO.know 78 (.bool true) rfl (congrArg Value.bool (by first | rfl | (simp; done) | (simp [hk1]; done) | (simp [hk2]; done) | (rw [bne_iff_ne]; exact hk1) | (rw [bne_eq_false_iff_eq]; exact hk1))) ?_
    refine XO.ldA Tryz.isAgg74 Tryz.sizeOf74 ?_
    refine oo 1 ?_
    refine XO.pu (Pu.eqlA rfl rfl (by kernel_rfl) (EqV.structG Tryz.underlying74 (by kernel_rfl) (by kernel_rfl) ⟨_, _, _, _, (PartV.one rfl Tryz.isAgg69), (PartV.one rfl Tryz.isAgg69), (EqV.int Tryz.underlying69 _ _), ⟨_, _, _, _, (PartV.sub Tryz.isAgg71 Tryz.sizeOf71), (PartV.sub Tryz.isAgg71 Tryz.sizeOf71), (EqV.struct Tryz.underlying71 (by kernel_rfl) (by kernel_rfl) ⟨_, _, _, _, rfl, rfl, Tryz.isAgg3, (EqV.int Tryz.underlying3 _ _), ⟨_, _, _, _, rfl, rfl, Tryz.isAgg4, (EqV.bool Tryz.underlying4 _ _), ⟨_, _, _, _, rfl, rfl, Tryz.isAgg2, (EqV.int Tryz.underlying2 _ _), rfl, rfl⟩, rfl⟩, rfl⟩), ⟨_, _, _, _, (PartV.sub Tryz.isAgg52 Tryz.sizeOf52), (PartV.sub Tryz.isAgg52 Tryz.sizeOf52), (EqV.struct Tryz.underlying52 (by kernel_rfl) (by kernel_rfl) ⟨_, _, _, _, rfl, rfl, Tryz.isAgg50, (EqV.int Tryz.underlying50 _ _), ⟨_, _, _, _, rfl, rfl, Tryz.isAgg3, (EqV.int Tryz.underlying3 _ _), ⟨_, _, _, _, rfl, rfl, Tryz.isAgg3, (EqV.int Tryz.underlying3 _ _), ⟨_, _, _, _, rfl, rfl, Tryz.isAgg2, (EqV.int Tryz.underlying2 _ _), rfl, rfl⟩, rfl⟩, rfl⟩, rfl⟩), ⟨_, _, _, _, (PartV.one rfl Tryz.isAgg2), (PartV.one rfl Tryz.isAgg2), (EqV.int Tryz.underlying2 _ _), ⟨_, _, _, _, (PartV.one rfl Tryz.isAgg72), (PartV.one rfl Tryz.isAgg72), (EqV.int Tryz.underlying72 _ _), rfl, rfl⟩, rfl⟩, rfl⟩, rfl⟩, rfl⟩)) ?_
    refine oo 2 ?_
    refine XO.know 83 (.bool true) rfl (congrArg Value.bool (by first | rfl | (simp; done) | (simp [hk1]; done) | (simp [hk2]; done) | (rw [bne_iff_ne]; exact hk1) | (rw [bne_eq_false_iff_eq]; exact hk1))) ?_
    refine ox 5 ?_
    refine X.sb [6, 9, 8, 7, 4, 3, 2] ?_
    try clear hm
    refine X.retL (q) Tryz.func11 (res1 Tryz.results11 rfl) ⟨_, rfl, by first | rfl | (simp; done), rfl⟩
  · skip
    obtain ⟨hm1, hm2, hth, hm3, hm4, hm5⟩ := id hm
    have hpc : f.pc.toNat < m.threads[f.code.toNat].ins.length := by omega
    have hql := hq.x _ (List.getElem_mem hth); have hni := hql.ni; have hsi := hql.i; have hlen2 := flatMap_len (f := insC) (sz := 4) (fun _ => rfl) m.threads[f.code.toNat].ins
    refine xo 2 ?_
    refine XO.ef (Ef.box rfl) ?_
    rintro _ _ ⟨n16, rfl, rfl⟩
    refine XO.ef (Ef.box rfl) ?_
    rintro _ _ ⟨n17, rfl, rfl⟩
    refine oo 4 ?_
    refine XO.ldA Tryz.isAgg26 Tryz.sizeOf26 ?_
    refine XO.ldA Tryz.isAgg28 Tryz.sizeOf28 ?_
    refine oo 1 ?_
    refine XO.cX Tryz.call25 (Le.refl _) (VDo_ok (gc.le leA) (g.le leA) (hq.le leA) (hf.le leA) (hc.le leA) (by omega)) ?_
    rintro _ _ (⟨hok, la, lc, sa, sc, rfl, rfl⟩ | ⟨hno, rfl, rfl⟩)
    rotate_left; · exact absurd ⟨hm, hk1, hk2⟩ hno
    refine oo 4 ?_
    refine XO.ef (Ef.alloc Tryz.zeroValue28) ?_
    rintro _ _ ⟨n18, rfl, rfl⟩
    refine XO.ef (Ef.alloc Tryz.zeroValue74) ?_
    rintro _ _ ⟨n19, rfl, rfl⟩
    refine XO.ef0 (Ef.stA Tryz.sizeOf28) ?_
    rintro _ _ ⟨rfl, rfl⟩
    refine XO.ef0 (Ef.stA Tryz.sizeOf74) ?_
    rintro _ _ ⟨rfl, rfl⟩
    refine oo 4 ?_
    refine XO.ldA Tryz.isAgg26 Tryz.sizeOf26 ?_
    refine XO.ldA Tryz.isAgg28 Tryz.sizeOf28 ?_
    refine XO.cX Tryz.call27 (Le.refl _) (VNext_ok (gc.le leA) (g.le leA) (hq.le leA) (hf.le leA)) ?_
    rintro _ _ (⟨hy, rfl, rfl⟩ | ⟨hy, rfl, rfl⟩)
    rotate_left; · exact absurd hm hy
    refine oo 3 ?_
    refine XO.ef (Ef.alloc Tryz.zeroValue52) ?_
    rintro _ _ ⟨n20, rfl, rfl⟩
    refine XO.ef0 (Ef.stA Tryz.sizeOf52) ?_
    rintro _ _ ⟨rfl, rfl⟩
    refine oo 4 ?_
    refine XO.ldA Tryz.isAgg26 Tryz.sizeOf26 ?_
    refine XO.ldA Tryz.isAgg28 Tryz.sizeOf28 ?_
    refine XO.cX Tryz.call24 (Le.refl _) (RMay_ok (less := 0) (hq.le leA) (hf.le leA) (by omega) (by omega)) ?_
    rintro _ _ ⟨⟨b1, rfl, hb1⟩, rfl⟩
    obtain rfl : b1 = true := hb1.2 hm
    refine ox 4 ?_
    refine X.sb [12, 11, 10, 9, 8, 7, 6, 4, 3, 2] ?_
    refine X.draw [] Tryz.mixed (by kernel_rfl) (by kernel_rfl) rfl ?_
    refine XD.loadA 0 rfl rfl Tryz.isAgg26 Tryz.sizeOf26 hasA (by rfl) ?_
    refine XD.loadA 1 rfl rfl Tryz.isAgg28 Tryz.sizeOf28 hasA (by rfl) ?_
    refine dd [3] ?_
    refine XD.cX 2 Tryz.call26 (Le.refl _) (May_ok (gc.le leA) (g.le leA) (hq.le leA) (hf.le leA)) ?_
    rintro _ _ ⟨⟨b2, rfl, hb2⟩, rfl⟩
    refine ⟨trivial, ?_⟩
    obtain rfl : b2 = true := hb2.2 hm
    refine dd [4, 5] ?_
    refine XD.know 37 (.bool false) rfl (congrArg Value.bool (by first | rfl | (simp; done) | (simp [hk1]; done) | (simp [hk2]; done) | (rw [bne_iff_ne]; exact hk1) | (rw [bne_eq_false_iff_eq]; exact hk1))) ?_
    refine dd [6, 7, 8, 9, 10, 11] ?_
    refine XD.know 43 (.bool false) rfl (congrArg Value.bool (by first | rfl | (simp; done) | (simp [hk1]; done) | (simp [hk2]; done) | (rw [bne_iff_ne]; exact hk1) | (rw [bne_eq_false_iff_eq]; exact hk1))) ?_
    refine dd [12, 13] ?_
    refine XD.know 45 (.bool true) rfl (congrArg Value.bool (by first | rfl | (simp; done) | (simp [hk1]; done) | (simp [hk2]; done) | (rw [bne_iff_ne]; exact hk1) | (rw [bne_eq_false_iff_eq]; exact hk1))) ?_
    refine XD.loadA 14 rfl rfl Tryz.isAgg52 Tryz.sizeOf52 hasA (by rfl) ?_
    refine dd [15] ?_
    refine XD.ld 16 Tryz.isAgg24 ?_
    refine dd [17] ?_
    refine XD.ld 18 Tryz.isAgg3 ?_
    refine XD.adr hq.t (by rw [hlen]; omega) (fun b1 o1 e1 => ?_)
    have hs1 := hq.t; rw [e1] at hs1
    refine XD.know 48 (.slice (some ⟨b1, o1, none⟩) m.threads.length m.tc) rfl (by rw [e1]) ?_
    refine dd [19, 20] ?_
    refine XD.ld 21 Tryz.isAgg44 ?_ (hc := (Cl.row (j := f.code) hs1 leA (fun _ => rfl) hth (by omega) 2 _ rfl))
    refine dd [22] ?_
    refine XD.ld 23 Tryz.isAgg3 ?_
    refine XD.adr hsi (by rw [hlen2]; omega) (fun b2 o2 e2 => ?_)
    have hs2 := hsi; rw [e2] at hs2
    refine XD.know 53 (.slice (some ⟨b2, o2, none⟩) m.threads[f.code.toNat].ins.length m.threads[f.code.toNat].ic) rfl (by rw [e2]) ?_
    refine dd [24] ?_
    refine XD.ldS 25 (m := f.pc.toNat) Tryz.isAgg52 Tryz.sizeOf52 hs2 hpc ?_
    refine XD.know 46 (.agg (insC m.threads[f.code.toNat].ins[f.pc.toNat]).toArray) rfl (by rw [getD_lt hpc]; rfl) ?_
    refine XD.pu 26 rfl (Pu.neqA rfl rfl (by kernel_rfl) (EqV.struct Tryz.underlying52 (by kernel_rfl) (by kernel_rfl) ⟨_, _, _, _, rfl, rfl, Tryz.isAgg50, (EqV.int Tryz.underlying50 _ _), ⟨_, _, _, _, rfl, rfl, Tryz.isAgg3, (EqV.int Tryz.underlying3 _ _), ⟨_, _, _, _, rfl, rfl, Tryz.isAgg3, (EqV.int Tryz.underlying3 _ _), ⟨_, _, _, _, rfl, rfl, Tryz.isAgg2, (EqV.int Tryz.underlying2 _ _), rfl, rfl⟩, rfl⟩, rfl⟩, rfl⟩)) ?_
    refine dd [27, 28] ?_
    refine XD.nil ?_
    refine X.know 60 (.bool false) rfl (congrArg Value.bool (by first | rfl | (simp; done))) ?_
    refine xo 6 ?_
    refine XO.pu (Pu.not rfl) ?_
    refine oo 1 ?_
    refine XO.know 63 (.bool false) rfl (congrArg Value.bool (by first | rfl | (simp; done) | (simp [hk1]; done) | (simp [hk2]; done) | (rw [bne_iff_ne]; exact hk1) | (rw [bne_eq_false_iff_eq]; exact hk1))) ?_
    refine oo 2 ?_
    refine XO.ldA Tryz.isAgg26 Tryz.sizeOf26 ?_
    refine XO.cR Tryz.call15 (RCount_ok (hq.le leA) hm1) ?_
    refine oo 3 ?_
    refine XO.know 70 (.bool false) rfl (congrArg Value.bool (by first | rfl | (simp; done) | (simp [hk1]; done) | (simp [hk2]; done) | (rw [bne_iff_ne]; exact hk1) | (rw [bne_eq_false_iff_eq]; exact hk1))) ?_
    refine oo 1 ?_
    refine XO.cR Tryz.call13 (RValues_ok (hc.le leA) (by omega)) ?_
    refine XO.pu (Pu.not rfl) ?_
    refine ox 2 ?_
    refine X.sb [74, 9, 8, 7, 6, 4, 3, 2] ?_
    refine X.know 74 (.bool false) rfl (congrArg Value.bool (by first | rfl | (simp; done) | (simp [hk1]; done) | (simp [hk2]; done) | (rw [bne_iff_ne]; exact hk1) | (rw [bne_eq_false_iff_eq]; exact hk1))) ?_
    refine xo 4 ?_
    refine XO.ldA Tryz.isAgg26 Tryz.sizeOf26 ?_
    refine XO.ldA Tryz.isAgg28 Tryz.sizeOf28 ?_
    refine oo 1 ?_
    refine XO.cX Tryz.call28 (Le.refl _) (RDo_ok (hq.le leA) (hf.le leA) (hc.le leA) hm hk1 hcap) ?_
    rintro _ _ ⟨la2, lc2, sa2, sc2, W2, rfl, hW, rfl⟩
    refine oo 3 ?_
    refine XO.ef (Ef.alloc Tryz.zeroValue28) ?_
    rintro _ _ ⟨n21, rfl, rfl⟩
    refine XO.ef (Ef.alloc Tryz.zeroValue74) ?_
    rintro _ _ ⟨n22, rfl, rfl⟩
    refine XO.ef0 (Ef.stA Tryz.sizeOf28) ?_
    rintro _ _ ⟨rfl, rfl⟩
    refine XO.ef0 (Ef.stA Tryz.sizeOf74) ?_
    rintro _ _ ⟨rfl, rfl⟩
    refine oo 3 ?_
    refine XO.lsmax (fl := I64) (l := (doAt m f cells).1.2.1) (fun hbl => ?_)
    refine XO.lsmax (fl := I64) (l := (doAt m f cells).1.2.2) (fun hbs => ?_)
    refine XO.ldA Tryz.isAgg28 Tryz.sizeOf28 ?_
    refine XO.ldA Tryz.isAgg28 Tryz.sizeOf28 ?_
    refine XO.cR Tryz.call22 (Same_ok (f := ⟨f.code, (doAt m f cells).1.1, (doAt m f cells).1.2.1, (doAt m f cells).1.2.2, la, lc, sa, sc⟩) (f2 := ⟨f.code, (doAt m f cells).1.1, (doAt m f cells).1.2.1, (doAt m f cells).1.2.2, la2, lc2, sa2, sc2⟩) ⟨(Sees.lsH _).le fndA, (Sees.lsH _).le fndA, hbl, hbs⟩ ⟨(hW.locS hf.l).le (Le.pick fndA leA), (hW.stkS hf.s).le (Le.pick fndA leA), hbl, hbs⟩) ?_
    refine XO.know 96 (.bool true) rfl (congrArg Value.bool (decide_eq_true ⟨rfl, rfl, rfl, rfl⟩)) ?_
    refine oo 1 ?_
    refine XO.know 97 (.bool true) rfl (congrArg Value.bool (by first | rfl | (simp; done) | (simp [hk1]; done) | (simp [hk2]; done) | (rw [bne_iff_ne]; exact hk1) | (rw [bne_eq_false_iff_eq]; exact hk1))) ?_
    refine XO.ldA Tryz.isAgg74 Tryz.sizeOf74 ?_
    refine XO.ldA Tryz.isAgg74 Tryz.sizeOf74 ?_
    refine XO.pu (Pu.eqlA rfl rfl (by kernel_rfl) (EqV.structG Tryz.underlying74 (by kernel_rfl) (by kernel_rfl) ⟨_, _, _, _, (PartV.one rfl Tryz.isAgg69), (PartV.one rfl Tryz.isAgg69), (EqV.int Tryz.underlying69 _ _), ⟨_, _, _, _, (PartV.sub Tryz.isAgg71 Tryz.sizeOf71), (PartV.sub Tryz.isAgg71 Tryz.sizeOf71), (EqV.struct Tryz.underlying71 (by kernel_rfl) (by kernel_rfl) ⟨_, _, _, _, rfl, rfl, Tryz.isAgg3, (EqV.int Tryz.underlying3 _ _), ⟨_, _, _, _, rfl, rfl, Tryz.isAgg4, (EqV.bool Tryz.underlying4 _ _), ⟨_, _, _, _, rfl, rfl, Tryz.isAgg2, (EqV.int Tryz.underlying2 _ _), rfl, rfl⟩, rfl⟩, rfl⟩), ⟨_, _, _, _, (PartV.sub Tryz.isAgg52 Tryz.sizeOf52), (PartV.sub Tryz.isAgg52 Tryz.sizeOf52), (EqV.struct Tryz.underlying52 (by kernel_rfl) (by kernel_rfl) ⟨_, _, _, _, rfl, rfl, Tryz.isAgg50, (EqV.int Tryz.underlying50 _ _), ⟨_, _, _, _, rfl, rfl, Tryz.isAgg3, (EqV.int Tryz.underlying3 _ _), ⟨_, _, _, _, rfl, rfl, Tryz.isAgg3, (EqV.int Tryz.underlying3 _ _), ⟨_, _, _, _, rfl, rfl, Tryz.isAgg2, (EqV.int Tryz.underlying2 _ _), rfl, rfl⟩, rfl⟩, rfl⟩, rfl⟩), ⟨_, _, _, _, (PartV.one rfl Tryz.isAgg2), (PartV.one rfl Tryz.isAgg2), (EqV.int Tryz.underlying2 _ _), ⟨_, _, _, _, (PartV.one rfl Tryz.isAgg72), (PartV.one rfl Tryz.isAgg72), (EqV.int Tryz.underlying72 _ _), rfl, rfl⟩, rfl⟩, rfl⟩, rfl⟩, rfl⟩)) ?_
    refine oo 2 ?_
    refine XO.know 102 (.bool true) rfl (congrArg Value.bool (by first | rfl | (simp; done) | (simp [hk1]; done) | (simp [hk2]; done) | (rw [bne_iff_ne]; exact hk1) | (rw [bne_eq_false_iff_eq]; exact hk1))) ?_
    refine ox 5 ?_
    refine X.sb [6] ?_
    try clear hm
    refine X.retL (q) Tryz.func11 (res1 Tryz.results11 rfl) ⟨_, rfl, by first | rfl | (simp; done), rfl⟩
set_option maxHeartbeats 4000000 in
theorem vmDo_ok (gc : GC q) (g : GE q) (hq : MdlQ q m) (hf : FrmQ q f) (hc : Sees q cda (cells.map I64)) (hcap : f.stk.length ≤ f.sc) (hcl : cells.length ≤ 9223372036854775807) : CallF Tryz.prog G 3 [.agg (mdlC m).toArray, .agg (frmC f).toArray, .slice cda cells.length cc] (q) (Ret fun v q' => v = .bool true ∧ q' = q) := by
  refine CallF.of Tryz.func3 Tryz.ntmps3 rfl (fun F cs => ?_)
  refine xo 2 ?_
  refine XO.ef (Ef.box rfl) ?_
  rintro _ _ ⟨n1, rfl, rfl⟩
  refine XO.ef (Ef.box rfl) ?_
  rintro _ _ ⟨n2, rfl, rfl⟩
  refine oo 5 ?_
  refine XO.ldA Tryz.isAgg26 Tryz.sizeOf26 ?_
  refine XO.ldA Tryz.isAgg28 Tryz.sizeOf28 ?_
  refine oo 1 ?_
  refine XO.cX Tryz.call9 (Le.refl _) (large_ok (hq.le leA) (hf.le leA) hcl) ?_
  rintro _ _ ⟨bb, rfl, hbb, rfl⟩
  refine ox 1 ?_
  refine X.part 10 rfl (fun h1 => ?_) (fun h1 => ?_)
  · skip
    replace h1 := sp h1
    refine xo 3 ?_
    refine XO.cR Tryz.call10 (known_ok (gc.le leA) (g.le leA)) ?_
    refine ox 2 ?_
    refine X.retL (q) Tryz.func3 (res1 Tryz.results3 rfl) ⟨_, rfl, rfl, rfl⟩
  · skip
    replace h1 := sp h1
    refine xo 4 ?_
    refine XO.ldA Tryz.isAgg26 Tryz.sizeOf26 ?_
    refine XO.ldA Tryz.isAgg28 Tryz.sizeOf28 ?_
    refine oo 1 ?_
    have hs := hbb (by simpa using h1)
    refine XO.cR Tryz.call11 (does_ok (gc.le leA) (g.le leA) (hq.le leA) (hf.le leA) (hc.le leA) hcap ⟨hs.1, hs.2.1, hs.2.2.1⟩) ?_
    refine oo 1 ?_
    refine XO.cR Tryz.call10 (known_ok (gc.le leA) (g.le leA)) ?_
    refine XO.pu (Pu.pick rfl rfl rfl) ?_
    refine ox 2 ?_
    refine X.retL (q) Tryz.func3 (res1 Tryz.results3 rfl) ⟨_, rfl, rfl, rfl⟩
end
end Go.Proofs.YtcklgodcjnnllaaGreatDoor

