/- What functions of package vm, of its references and of its laws do: contracts of calls, proved by walking their code. -/
import Derived.Test.YtcklgodcjnnllaaGreatDoorY
import Derived.Test.YtcklgodcjnnllaaGreatDoorWd
import Derived.KernelRfl
set_option maxRecDepth 100000
set_option linter.unusedVariables false
set_option linter.unusedSimpArgs false
namespace Go.Proofs.YtcklgodcjnnllaaGreatDoor
open Go Go.RowKit Wx
attribute [local irreducible] Wx.lsH Wx.rsH Wx.lsM Wx.rsM Wx.stars

def zCod : Cod := ⟨⟨#[]⟩, 0, [], [], none, 0, none, 0⟩
abbrev thrAt (m : Mdl) (i : Int) : Cod := m.threads.getD i.toNat zCod
abbrev insAt (m : Mdl) (f : Frm) : Ins := (thrAt m f.code).ins.getD f.pc.toNat zIns
theorem dOf_slots {m : Mdl} {t : Cod} (h : (dOf m t).2 = 0) : ∀ x ∈ t.ins, slotOk m t x := by
  unfold dOf at h
  split at h
  · exact absurd h (by decide)
  · split at h
    · exact absurd h (by decide)
    · rename_i h1; exact Decidable.not_not.1 h1
theorem may_step {m : Mdl} {f : Frm} {cells : List Int} (h : mayS m f 0) (hc : (cells.length : Int) = cntS m) : StepQ m (insAt m f) f.loc f.stk cells ∧ f.loc.length ≤ 32 ∧ f.stk.length ≤ 27 := by
  obtain ⟨h1, h2, hth, h3, h4, h5, h6, h7, h8, h9⟩ := h
  obtain ⟨hin, hL, hd0, _⟩ := vOk h1 hth
  obtain ⟨_, _, _, hG⟩ := dOf_len hin hd0
  have hsl := dOf_slots hd0
  have hpc : f.pc.toNat < m.threads[f.code.toNat].ins.length := by omega
  have e1 : thrAt m f.code = m.threads[f.code.toNat] := getD_lt hth
  have e2 : insAt m f = m.threads[f.code.toNat].ins[f.pc.toNat] := by unfold insAt; rw [e1]; exact getD_lt hpc
  have hix := hin _ (List.getElem_mem hpc)
  have hsx := hsl _ (List.getElem_mem hpc)
  obtain ⟨g1, g2, _, _⟩ := hG _ hpc h8
  have hnn := effS_nn m.threads[f.code.toNat].ins[f.pc.toNat].c
  have hle := effS_le m.threads[f.code.toNat].ins[f.pc.toNat].c
  have hlo := ((mdlOk_of h1).2.2.2.2.2.2 _ (List.getElem_mem hth)).2.1
  unfold within at hlo
  rw [e2]
  generalize m.threads[f.code.toNat].ins[f.pc.toNat] = x at *
  have ha : nmA x.c = true → 0 ≤ x.a := fun hn => by have := hix.2.1; rw [if_pos hn] at this; exact this.1
  have hn : ∀ k, x.c = k → (2 ≤ k ∧ k ≤ 7) → 0 ≤ x.a := fun k hk hr => ha (by unfold nmA; simp only [decide_eq_true_eq]; omega)
  refine ⟨⟨mdlOk_of h1, hix, by omega, fun hk => ?_, fun hk => ?_, fun hk => ?_, h7, by omega, hc⟩, by omega, by omega⟩
  · exact ⟨hn x.c rfl (by omega), hsx.1 _ (by unfold cntOf; rw [if_pos (by omega)])⟩
  · exact ⟨hn x.c rfl (by omega), hsx.1 _ (by unfold cntOf; rw [if_neg (by omega), if_neg (by omega), if_pos (by omega)])⟩
  · exact ⟨hn x.c rfl (by omega), by rw [h5]; exact hsx.1 _ (by unfold cntOf; rw [if_neg (by omega), if_pos (by omega)])⟩
theorem doS_trap {m : Mdl} {x : Ins} {pc : Int} {loc l cells : List Int} (h : (doS m x pc loc l cells).2.kind = 7) : (doS m x pc loc l cells).1 = (pc, loc, l) := by
  unfold doS at h ⊢
  split at h
  · rename_i k; rw [if_pos k]
  · rename_i k1; rw [if_neg k1]
    split at h
    · rename_i k2; rw [if_pos k2]; dsimp only at h ⊢
      generalize (if isUn x.c then (0 : Int) else aheadS l) = a at h ⊢
      generalize (if isUn x.c then 1 else 2) = k at h ⊢
      split at h
      · rename_i k3; rw [if_pos k3]
      · exact absurd h (by show ¬ (1 : Int) = 7; decide)
    · rename_i k2; rw [if_neg k2]
      split at h
      · rename_i k3; rw [if_pos k3]
        split at h
        · rfl
        · exact absurd h (by show ¬ (2 : Int) = 7; decide)
      · (repeat' split at h) <;> exact absurd h (by first | (show ¬ (3 : Int) = 7; decide) | (show ¬ (6 : Int) = 7; decide) | (show ¬ (5 : Int) = 7; decide) | (show ¬ (1 : Int) = 7; decide))
abbrev doAt (m : Mdl) (f : Frm) (cells : List Int) : (Int × List Int × List Int) × Did := doS m (insAt m f) f.pc f.loc f.stk cells
theorem bb_false {bb : Bool} {p : Prop} (h : bb = true ↔ p) (k : bb = false) : ¬ p := fun hp => by rw [h.2 hp] at k; cases k
section
variable {G : World} {q pre : List HP} {a b A : Option Addr} {c d C p p0 p1 p2 i : Nat} {lo hi n cd dep : Int} {fv : Value} {x y : Ins} {t : Cod} {m : Mdl} {at_ : Int}
variable {l cells loc : List Int} {idx arr z k u pc code : Int} {x1 x2 x3 x4 x5 x6 old : Value} {pm cc lc n1 n2 : Nat} {la cda : Option Addr}
variable {f : Frm} {th : Int}
set_option maxHeartbeats 8000000 in
theorem VDo_ok (gc : GC q) (g : GE q) (hq : MdlQ q m) (hf : FrmQ q f) (hc : Sees q cda (cells.map I64)) (hcl : cells.length ≤ 9223372036854775807) : CallF Tryz.prog G 25 [.agg (mdlC m).toArray, .agg (frmC f).toArray, .slice cda cells.length cc] (q) (Ret fun v q' => ((mayS m f 0 ∧ (cells.length : Int) = cntS m ∧ vals cells) ∧ ∃ la lc sa sc, v = .tuple [.agg (frmC ⟨f.code, (doAt m f cells).1.1, (doAt m f cells).1.2.1, (doAt m f cells).1.2.2, la, lc, sa, sc⟩).toArray, .agg (didC (doAt m f cells).2).toArray, .int .i64 0].toArray ∧ q' = lsH I64 2 sa sc ((doAt m f cells).1.2.2) :: lsH I64 2 la lc ((doAt m f cells).1.2.1) :: q) ∨ (¬ (mayS m f 0 ∧ (cells.length : Int) = cntS m ∧ vals cells) ∧ v = .tuple [.agg (frmC zFrm).toArray, .agg (didC zDid).toArray, .int .i64 2].toArray ∧ q' = q)) := by
 refine CallF.of Tryz.func25 Tryz.ntmps25 rfl (fun F cs => ?_)
 have hlen := flatMap_len (f := codC) (sz := 4) (fun _ => rfl) m.threads; have hnt := hq.nt
 refine xo 2 ?_
 refine XO.bx fun n1 => ?_
 refine XO.bx fun n2 => ?_
 refine XO.al Tryz.zeroValue28 fun n3 => ?_
 refine XO.al Tryz.zeroValue74 fun n4 => ?_
 refine oo 5 ?_
 refine ldA ?_
 refine ldA ?_
 refine XO.cX Tryz.call26 (Le.refl _) (May_ok (gc.le leA) (g.le leA) (hq.le leA) (hf.le leA)) ?_
 rintro _ _ ⟨⟨bb, rfl, hbb⟩, rfl⟩
 refine XO.pu (Pu.not rfl) ?_
 refine oo 1 ?_
 refine XO.part 16 rfl (fun h1 => ?_) (fun h1 => ?_)
 · skip
   replace h1 := sp h1
   refine oo 16 ?_
   refine stA ?_
   refine stA ?_
   refine ox 2 ?_
   refine X.sb [8, 7, 6, 4, 3, 2] ?_
   refine X.retL (q) Tryz.func25 (resC Tryz.results25 (ResOk.cell rfl (LV.agg Tryz.isAgg28 Tryz.sizeOf28 hasA rfl) (ResOk.cell rfl (LV.agg Tryz.isAgg74 Tryz.sizeOf74 hasA rfl) (ResOk.tmp rfl ResOk.nil)))) ⟨_, rfl, .inr ⟨by first | exact fun k => bb_false hbb (by simpa using h1) k.1 | (rintro ⟨_, k2, k3⟩; first | omega | simp_all), rfl, rfl⟩⟩
 · skip
   replace h1 := sp h1
   refine oo 2 ?_
   have hm := hbb.1 (by simpa using h1)
   refine XO.cX Tryz.call37 fndA (count_ok (hq.le leA) hm.1) ?_
   rintro _ _ ⟨rfl, rfl⟩
   refine oo 3 ?_
   refine XO.part 22 rfl (fun h2 => ?_) (fun h2 => ?_)
   · skip
     replace h2 := sp h2
     refine oo 10 ?_
     refine stA ?_
     refine stA ?_
     refine ox 2 ?_
     refine X.sb [8, 7, 6, 4, 3, 2] ?_
     refine X.retL (q) Tryz.func25 (resC Tryz.results25 (ResOk.cell rfl (LV.agg Tryz.isAgg28 Tryz.sizeOf28 hasA rfl) (ResOk.cell rfl (LV.agg Tryz.isAgg74 Tryz.sizeOf74 hasA rfl) (ResOk.tmp rfl ResOk.nil)))) ⟨_, rfl, .inr ⟨by first | exact fun k => bb_false hbb (by simpa using h1) k.1 | (rintro ⟨_, k2, k3⟩; first | omega | simp_all), rfl, rfl⟩⟩
   · skip
     replace h2 := sp h2
     refine oo 1 ?_
     refine XO.cR Tryz.call40 (valuesMay_ok (hc.le leA) hcl) ?_
     refine XO.pu (Pu.not rfl) ?_
     refine ox 2 ?_
     refine X.sb [26, 8, 7, 6, 4, 3, 2] ?_
     refine X.part 26 rfl (fun h3 => ?_) (fun h3 => ?_)
     · skip
       replace h3 := sp h3
       refine xo 5 ?_
       refine stA ?_
       refine stA ?_
       refine ox 2 ?_
       refine X.retL (q) Tryz.func25 (resC Tryz.results25 (ResOk.cell rfl (LV.agg Tryz.isAgg28 Tryz.sizeOf28 hasA rfl) (ResOk.cell rfl (LV.agg Tryz.isAgg74 Tryz.sizeOf74 hasA rfl) (ResOk.tmp rfl ResOk.nil)))) ⟨_, rfl, .inr ⟨by first | exact fun k => bb_false hbb (by simpa using h1) k.1 | (rintro ⟨_, k2, k3⟩; first | omega | simp_all), rfl, rfl⟩⟩
     · skip
       replace h3 := sp h3
       refine xo 4 ?_
       refine ldA ?_
       have hcnt : (cells.length : Int) = cntS m := by omega
       obtain ⟨hS, hl32, hs27⟩ := may_step hm hcnt; have hm0 := hm; obtain ⟨hm1, hm2, hth, hm3, hm4, hm5⟩ := hm0
       have hvc : vals cells := by simpa using h3
       have hpc : f.pc.toNat < m.threads[f.code.toNat].ins.length := by omega
       have hql := hq.x _ (List.getElem_mem hth); have hni := hql.ni; have hsi := hql.i; have hlen2 := flatMap_len (f := insC) (sz := 4) (fun _ => rfl) m.threads[f.code.toNat].ins
       have hxe : insAt m f = m.threads[f.code.toNat].ins[f.pc.toNat] := by unfold insAt; rw [show thrAt m f.code = m.threads[f.code.toNat] from getD_lt hth]; exact getD_lt hpc
       have hp65 := (vOk hm1 hth).2.1
       refine XO.cX Tryz.call39 (Le.refl _) (copied_ok (hf.le leA) (by omega) (by omega)) ?_
       rintro _ _ ⟨la, lc, sa, sc, rfl, rfl⟩
       refine XO.al Tryz.zeroValue28 fun n5 => ?_
       refine stA ?_
       refine oo 4 ?_
       refine ld ?_
       refine oo 1 ?_
       refine ldA ?_
       refine oo 2 ?_
       refine XO.bx fun n6 => ?_
       refine ox 3 ?_
       refine drw ?_
       refine dd [0, 1] ?_
       refine ldD 2 ?_
       refine dd [3] ?_
       refine ldD 4 ?_
       refine XD.adr hq.t (by rw [hlen]; omega) (fun b1 o1 e1 => ?_)
       have hs1 := hq.t; rw [e1] at hs1
       refine XD.know 40 (.slice (some ⟨b1, o1, none⟩) m.threads.length m.tc) rfl (by rw [e1]) ?_
       refine dd [5, 6] ?_
       refine ldD 7 ?_ (hc := (Cl.row (j := f.code) hs1 leA (fun _ => rfl) hth (by omega) 2 _ rfl))
       refine dd [8] ?_
       refine ldD 9 ?_
       refine XD.adr hsi (by rw [hlen2]; omega) (fun b2 o2 e2 => ?_)
       have hs2 := hsi; rw [e2] at hs2
       refine XD.know 45 (.slice (some ⟨b2, o2, none⟩) m.threads[f.code.toNat].ins.length m.threads[f.code.toNat].ic) rfl (by rw [e2]) ?_
       refine dd [10] ?_
       refine XD.ldS 11 (m := f.pc.toNat) Tryz.isAgg52 Tryz.sizeOf52 hs2 hpc ?_
       refine XD.know 49 (.agg (insC (insAt m f)).toArray) rfl (by rw [hxe]) ?_
       refine XD.float (fl := [⟨13, 11, fun g => .pointer (some ⟨g, 0, none⟩), fun g => pto g (.cells (didC zDid).toArray 74 (0, 0))⟩]) ?_
       refine XF.cX 12 ⟨⟨_, rfl, rfl, rfl, rfl, rfl, rfl, fun q => Ef.alloc Tryz.zeroValue74⟩, trivial⟩ Tryz.call41 (Le.pick fndA (Le.pick fndA fndA)) (do_ok (m := m) (x := insAt m f) (l := f.stk) (loc := f.loc) (cells := cells) (pc := f.pc) (CellsAt.of hasA) (hq.le leA) (hc.le leA) hS ⟨by omega, by omega⟩) ?_ (hL := (hlA (h := by repeat first | exact trivial | refine ⟨clA, ?_⟩ | refine ⟨(Cl.row (j := f.code) hs1 leA (fun _ => rfl) hth (by omega) 2 _ rfl), ?_⟩ | refine ⟨Cl.row (j := f.pc) hs2 leA (fun _ => rfl) hpc (by omega) 0 _ rfl, ?_⟩ | refine ⟨Cl.row (j := f.pc) hs2 leA (fun _ => rfl) hpc (by omega) 1 _ rfl, ?_⟩ | refine ⟨Cl.row (j := f.pc) hs2 leA (fun _ => rfl) hpc (by omega) 2 _ rfl, ?_⟩ | refine ⟨Cl.row (j := f.pc) hs2 leA (fun _ => rfl) hpc (by omega) 3 _ rfl, ?_⟩)))
       rintro _ _ (⟨hk, rfl, rfl⟩ | ⟨hk, rfl, a2, c2, rfl⟩) <;> refine ⟨(hlA (h := by repeat first | exact trivial | refine ⟨clA, ?_⟩ | refine ⟨(Cl.row (j := f.code) hs1 leA (fun _ => rfl) hth (by omega) 2 _ rfl), ?_⟩ | refine ⟨Cl.row (j := f.pc) hs2 leA (fun _ => rfl) hpc (by omega) 0 _ rfl, ?_⟩ | refine ⟨Cl.row (j := f.pc) hs2 leA (fun _ => rfl) hpc (by omega) 1 _ rfl, ?_⟩ | refine ⟨Cl.row (j := f.pc) hs2 leA (fun _ => rfl) hpc (by omega) 2 _ rfl, ?_⟩ | refine ⟨Cl.row (j := f.pc) hs2 leA (fun _ => rfl) hpc (by omega) 3 _ rfl, ?_⟩)), ?_⟩
       · skip
         refine XF.abs (e0 := ⟨13, 11, fun g => .pointer (some ⟨g, 0, none⟩), fun g => pto g (.cells (didC zDid).toArray 74 (0, 0))⟩) (hnd := by simp) 13 ⟨⟨_, rfl, rfl, rfl, rfl, rfl, rfl, fun q => Ef.alloc Tryz.zeroValue74⟩, trivial⟩ (fun nd => ?_) (hL := (hlA (h := by repeat first | exact trivial | refine ⟨clA, ?_⟩ | refine ⟨(Cl.row (j := f.code) hs1 leA (fun _ => rfl) hth (by omega) 2 _ rfl), ?_⟩ | refine ⟨Cl.row (j := f.pc) hs2 leA (fun _ => rfl) hpc (by omega) 0 _ rfl, ?_⟩ | refine ⟨Cl.row (j := f.pc) hs2 leA (fun _ => rfl) hpc (by omega) 1 _ rfl, ?_⟩ | refine ⟨Cl.row (j := f.pc) hs2 leA (fun _ => rfl) hpc (by omega) 2 _ rfl, ?_⟩ | refine ⟨Cl.row (j := f.pc) hs2 leA (fun _ => rfl) hpc (by omega) 3 _ rfl, ?_⟩)))
         change XF _ _ _ _ _ _ _ [] _ _ _ ((11, .pointer (some ⟨nd, 0, none⟩)) :: _) _ _ (pto nd (.cells (didC zDid).toArray 74 (0, 0)) :: _)
         refine XF.back ?_ (hL := (hlA (h := by repeat first | exact trivial | refine ⟨clA, ?_⟩ | refine ⟨(Cl.row (j := f.code) hs1 leA (fun _ => rfl) hth (by omega) 2 _ rfl), ?_⟩ | refine ⟨Cl.row (j := f.pc) hs2 leA (fun _ => rfl) hpc (by omega) 0 _ rfl, ?_⟩ | refine ⟨Cl.row (j := f.pc) hs2 leA (fun _ => rfl) hpc (by omega) 1 _ rfl, ?_⟩ | refine ⟨Cl.row (j := f.pc) hs2 leA (fun _ => rfl) hpc (by omega) 2 _ rfl, ?_⟩ | refine ⟨Cl.row (j := f.pc) hs2 leA (fun _ => rfl) hpc (by omega) 3 _ rfl, ?_⟩)))
         refine stAD 14 ?_
         refine XD.nil ?_
         refine xo 4 ?_
         refine ld ?_
         refine ox 2 ?_
         refine X.sb [53, 11, 10, 8, 7, 6, 4] ?_
         refine X.know 53 (.bool true) rfl (congrArg Value.bool (by first | (rw [beq_iff_eq]; exact hk) | (rw [beq_eq_false_iff_ne]; exact hk))) ?_
         refine xx 2 ?_
         refine drw ?_
         refine ldAD 0 ?_
         refine ldAD 2 ?_
         refine XD.cX 1 Tryz.call39 (Le.refl _) (copied_ok (hf.le leA) (by omega) (by omega)) ?_
         rintro _ _ ⟨la2, lc2, sa2, sc2, rfl, rfl⟩
         refine ⟨(hlA (h := by repeat first | exact trivial | refine ⟨clA, ?_⟩ | refine ⟨(Cl.row (j := f.code) hs1 leA (fun _ => rfl) hth (by omega) 2 _ rfl), ?_⟩ | refine ⟨Cl.row (j := f.pc) hs2 leA (fun _ => rfl) hpc (by omega) 0 _ rfl, ?_⟩ | refine ⟨Cl.row (j := f.pc) hs2 leA (fun _ => rfl) hpc (by omega) 1 _ rfl, ?_⟩ | refine ⟨Cl.row (j := f.pc) hs2 leA (fun _ => rfl) hpc (by omega) 2 _ rfl, ?_⟩ | refine ⟨Cl.row (j := f.pc) hs2 leA (fun _ => rfl) hpc (by omega) 3 _ rfl, ?_⟩)), ?_⟩
         refine stAD 3 ?_ (hh := (hlA (h := by repeat first | exact trivial | refine ⟨clA, ?_⟩ | refine ⟨(Cl.row (j := f.code) hs1 leA (fun _ => rfl) hth (by omega) 2 _ rfl), ?_⟩ | refine ⟨Cl.row (j := f.pc) hs2 leA (fun _ => rfl) hpc (by omega) 0 _ rfl, ?_⟩ | refine ⟨Cl.row (j := f.pc) hs2 leA (fun _ => rfl) hpc (by omega) 1 _ rfl, ?_⟩ | refine ⟨Cl.row (j := f.pc) hs2 leA (fun _ => rfl) hpc (by omega) 2 _ rfl, ?_⟩ | refine ⟨Cl.row (j := f.pc) hs2 leA (fun _ => rfl) hpc (by omega) 3 _ rfl, ?_⟩)))
         refine stAD 4 ?_
         refine dd [5] ?_
         refine XD.nil ?_
         refine X.retL (lsH I64 2 sa2 sc2 (f.stk) :: lsH I64 2 la2 lc2 (f.loc) :: q) Tryz.func25 (resC Tryz.results25 (ResOk.cell rfl (LV.agg Tryz.isAgg28 Tryz.sizeOf28 hasA rfl) (ResOk.cell rfl (LV.agg Tryz.isAgg74 Tryz.sizeOf74 hasA rfl) (ResOk.tmp rfl ResOk.nil)))) ⟨_, rfl, .inl ⟨⟨hm, hcnt, hvc⟩, la2, lc2, sa2, sc2, by rw [show (doAt m f cells).1 = (f.pc, f.loc, f.stk) from doS_trap hk]; rfl, by rw [show (doAt m f cells).1 = (f.pc, f.loc, f.stk) from doS_trap hk]⟩⟩
       · skip
         refine XF.abs (e0 := ⟨13, 11, fun g => .pointer (some ⟨g, 0, none⟩), fun g => pto g (.cells (didC zDid).toArray 74 (0, 0))⟩) (hnd := by simp) 13 ⟨⟨_, rfl, rfl, rfl, rfl, rfl, rfl, fun q => Ef.alloc Tryz.zeroValue74⟩, trivial⟩ (fun nd => ?_) (hL := (hlA (h := by repeat first | exact trivial | refine ⟨clA, ?_⟩ | refine ⟨(Cl.row (j := f.code) hs1 leA (fun _ => rfl) hth (by omega) 2 _ rfl), ?_⟩ | refine ⟨Cl.row (j := f.pc) hs2 leA (fun _ => rfl) hpc (by omega) 0 _ rfl, ?_⟩ | refine ⟨Cl.row (j := f.pc) hs2 leA (fun _ => rfl) hpc (by omega) 1 _ rfl, ?_⟩ | refine ⟨Cl.row (j := f.pc) hs2 leA (fun _ => rfl) hpc (by omega) 2 _ rfl, ?_⟩ | refine ⟨Cl.row (j := f.pc) hs2 leA (fun _ => rfl) hpc (by omega) 3 _ rfl, ?_⟩)))
         change XF _ _ _ _ _ _ _ [] _ _ _ ((11, .pointer (some ⟨nd, 0, none⟩)) :: _) _ _ (pto nd (.cells (didC zDid).toArray 74 (0, 0)) :: _)
         refine XF.back ?_ (hL := (hlA (h := by repeat first | exact trivial | refine ⟨clA, ?_⟩ | refine ⟨(Cl.row (j := f.code) hs1 leA (fun _ => rfl) hth (by omega) 2 _ rfl), ?_⟩ | refine ⟨Cl.row (j := f.pc) hs2 leA (fun _ => rfl) hpc (by omega) 0 _ rfl, ?_⟩ | refine ⟨Cl.row (j := f.pc) hs2 leA (fun _ => rfl) hpc (by omega) 1 _ rfl, ?_⟩ | refine ⟨Cl.row (j := f.pc) hs2 leA (fun _ => rfl) hpc (by omega) 2 _ rfl, ?_⟩ | refine ⟨Cl.row (j := f.pc) hs2 leA (fun _ => rfl) hpc (by omega) 3 _ rfl, ?_⟩)))
         refine stAD 14 ?_
         refine XD.nil ?_
         refine xo 4 ?_
         refine ld ?_
         refine ox 2 ?_
         refine X.sb [53, 11, 10, 8, 7, 6, 4] ?_
         refine X.know 53 (.bool false) rfl (congrArg Value.bool (by first | (rw [beq_iff_eq]; exact hk) | (rw [beq_eq_false_iff_ne]; exact hk))) ?_
         refine xo 9 ?_
         refine ld ?_
         refine oo 3 ?_
         refine st ?_
         refine ox 2 ?_
         refine drw ?_
         refine dd [0, 1, 2] ?_
         refine ldAD 3 ?_
         refine ldAD 4 ?_
         refine stAD 5 ?_ (hh := (hlA (h := by repeat first | exact trivial | refine ⟨clA, ?_⟩ | refine ⟨(Cl.row (j := f.code) hs1 leA (fun _ => rfl) hth (by omega) 2 _ rfl), ?_⟩ | refine ⟨Cl.row (j := f.pc) hs2 leA (fun _ => rfl) hpc (by omega) 0 _ rfl, ?_⟩ | refine ⟨Cl.row (j := f.pc) hs2 leA (fun _ => rfl) hpc (by omega) 1 _ rfl, ?_⟩ | refine ⟨Cl.row (j := f.pc) hs2 leA (fun _ => rfl) hpc (by omega) 2 _ rfl, ?_⟩ | refine ⟨Cl.row (j := f.pc) hs2 leA (fun _ => rfl) hpc (by omega) 3 _ rfl, ?_⟩)))
         refine stAD 6 ?_
         refine dd [7] ?_
         refine XD.nil ?_
         refine X.retL (lsH I64 2 a2 c2 ((doAt m f cells).1.2.2) :: lsH I64 2 la lc ((doAt m f cells).1.2.1) :: q) Tryz.func25 (resC Tryz.results25 (ResOk.cell rfl (LV.agg Tryz.isAgg28 Tryz.sizeOf28 hasA rfl) (ResOk.cell rfl (LV.agg Tryz.isAgg74 Tryz.sizeOf74 hasA rfl) (ResOk.tmp rfl ResOk.nil)))) ⟨_, rfl, .inl ⟨⟨hm, hcnt, hvc⟩, la, lc, a2, c2, rfl, rfl⟩⟩
end
end Go.Proofs.YtcklgodcjnnllaaGreatDoor

