/- What functions of package verify, of its references and of its laws do: contracts of calls, proved by walking their code. -/
import Derived.Test.YtbeeplmgcdnadaaDoorF
import Derived.Test.YtbeeplmgcdnadaaDoorWc
import Derived.KernelRfl
set_option maxRecDepth 100000
set_option linter.unusedVariables false
set_option linter.unusedSimpArgs false
namespace Go.Proofs.YtbeeplmgcdnadaaDoor
open Go Go.RowKit Wx
attribute [local irreducible] Wx.lsH Wx.rsH Wx.lsM Wx.rsM Wx.stars

/-! ### what instructions name -/
def cntOf (m : Mdl) (t : Cod) (c : Int) : Option Int :=
  if c = 2 ∨ c = 5 then some m.vars.length else if c = 3 ∨ c = 6 then some t.locals else if c = 4 ∨ c = 7 then some m.arrays.length else if c = 19 ∨ c = 20 ∨ c = 21 then some t.ins.length
  else if c = 24 ∨ c = 25 then some m.mutexes else if c = 26 ∨ c = 27 ∨ c = 28 then some m.conds else if c = 29 ∨ c = 30 then some m.chans.length else if c = 31 then some m.threads.length else none
def slotOk (m : Mdl) (t : Cod) (i : Ins) : Prop := (∀ n, cntOf m t i.c = some n → i.a < n) ∧ (i.c = 26 → i.b < m.mutexes)
instance (m : Mdl) (t : Cod) (i : Ins) : Decidable (slotOk m t i) := by
  unfold slotOk
  have : Decidable (∀ n, cntOf m t i.c = some n → i.a < n) := match cntOf m t i.c with
    | none => .isTrue (fun n h => by cases h)
    | some k => if h : i.a < k then .isTrue (fun n e => by cases e; exact h) else .isFalse (fun e => h (e k rfl))
  infer_instance
def cntL : List (Int × Value × Nat) := [(2, .func (.func 87) #[] #[], 0), (5, .func (.func 87) #[] #[], 1), (3, .func (.func 88) #[] #[], 2), (6, .func (.func 88) #[] #[], 3), (4, .func (.func 89) #[] #[], 4), (7, .func (.func 89) #[] #[], 5), (19, .func (.func 90) #[] #[], 6), (20, .func (.func 90) #[] #[], 7), (21, .func (.func 90) #[] #[], 8), (24, .func (.func 91) #[] #[], 9), (25, .func (.func 91) #[] #[], 10), (26, .func (.func 92) #[] #[], 11), (27, .func (.func 92) #[] #[], 12), (28, .func (.func 92) #[] #[], 13), (29, .func (.func 93) #[] #[], 14), (30, .func (.func 93) #[] #[], 15), (31, .func (.func 94) #[] #[], 16)]
def cntE (e : Int × Value × Nat) : MapEntry := { key := .int .i64 e.1, val := e.2.1, born := e.2.2 }
theorem cnt_none {m : Mdl} {t : Cod} {c : Int} (h : ∀ e ∈ cntL, e.1 ≠ c) : cntOf m t c = none := by
  simp only [cntL, List.mem_cons, forall_eq_or_imp, List.not_mem_nil, false_imp_iff, implies_true, and_true] at h
  unfold cntOf
  (repeat' split) <;> first | rfl | omega
section
variable {G : World} {q pre : List HP} {a b A : Option Addr} {c d C p p0 p1 p2 i : Nat} {lo hi n cd dep : Int} {fv : Value} {x y : Ins} {t : Cod} {m : Mdl} {at_ : Int}
variable {pm om pt ot : Nat}
theorem cnt1_ok (hm : CellsAt q pm om (mdlC m)) (ht : CellsAt q pt ot (codC t)) : CallF Tryd.prog G 87 [.pointer (some ⟨pm, om, none⟩), .pointer (some ⟨pt, ot, none⟩)] (q) (Ret fun v q' => v = .int .i64 (m.vars.length : Int) ∧ q' = q) := by
 refine CallF.of Tryd.func87 Tryd.ntmps87 rfl (fun F cs => ?_)
 refine xo 9 ?_
 refine ld ?_ (hc := ((hm 0 _ rfl).le leA))
 refine ox 3 ?_
 refine X.retL (q) Tryd.func87 (res1 Tryd.results87 rfl) ⟨_, rfl, rfl, rfl⟩
theorem cnt2_ok (hm : CellsAt q pm om (mdlC m)) (ht : CellsAt q pt ot (codC t)) : CallF Tryd.prog G 88 [.pointer (some ⟨pm, om, none⟩), .pointer (some ⟨pt, ot, none⟩)] (q) (Ret fun v q' => v = .int .i64 t.locals ∧ q' = q) := by
 refine CallF.of Tryd.func88 Tryd.ntmps88 rfl (fun F cs => ?_)
 refine xo 9 ?_
 refine ld ?_ (hc := ((ht 1 _ rfl).le leA))
 refine ox 2 ?_
 refine X.retL (q) Tryd.func88 (res1 Tryd.results88 rfl) ⟨_, rfl, rfl, rfl⟩
theorem cnt3_ok (hm : CellsAt q pm om (mdlC m)) (ht : CellsAt q pt ot (codC t)) : CallF Tryd.prog G 89 [.pointer (some ⟨pm, om, none⟩), .pointer (some ⟨pt, ot, none⟩)] (q) (Ret fun v q' => v = .int .i64 (m.arrays.length : Int) ∧ q' = q) := by
 refine CallF.of Tryd.func89 Tryd.ntmps89 rfl (fun F cs => ?_)
 refine xo 9 ?_
 refine ld ?_ (hc := ((hm 1 _ rfl).le leA))
 refine ox 3 ?_
 refine X.retL (q) Tryd.func89 (res1 Tryd.results89 rfl) ⟨_, rfl, rfl, rfl⟩
theorem cnt4_ok (hm : CellsAt q pm om (mdlC m)) (ht : CellsAt q pt ot (codC t)) : CallF Tryd.prog G 90 [.pointer (some ⟨pm, om, none⟩), .pointer (some ⟨pt, ot, none⟩)] (q) (Ret fun v q' => v = .int .i64 (t.ins.length : Int) ∧ q' = q) := by
 refine CallF.of Tryd.func90 Tryd.ntmps90 rfl (fun F cs => ?_)
 refine xo 9 ?_
 refine ld ?_ (hc := ((ht 2 _ rfl).le leA))
 refine ox 3 ?_
 refine X.retL (q) Tryd.func90 (res1 Tryd.results90 rfl) ⟨_, rfl, rfl, rfl⟩
theorem cnt5_ok (hm : CellsAt q pm om (mdlC m)) (ht : CellsAt q pt ot (codC t)) : CallF Tryd.prog G 91 [.pointer (some ⟨pm, om, none⟩), .pointer (some ⟨pt, ot, none⟩)] (q) (Ret fun v q' => v = .int .i64 m.mutexes ∧ q' = q) := by
 refine CallF.of Tryd.func91 Tryd.ntmps91 rfl (fun F cs => ?_)
 refine xo 9 ?_
 refine ld ?_ (hc := ((hm 3 _ rfl).le leA))
 refine ox 2 ?_
 refine X.retL (q) Tryd.func91 (res1 Tryd.results91 rfl) ⟨_, rfl, rfl, rfl⟩
theorem cnt6_ok (hm : CellsAt q pm om (mdlC m)) (ht : CellsAt q pt ot (codC t)) : CallF Tryd.prog G 92 [.pointer (some ⟨pm, om, none⟩), .pointer (some ⟨pt, ot, none⟩)] (q) (Ret fun v q' => v = .int .i64 m.conds ∧ q' = q) := by
 refine CallF.of Tryd.func92 Tryd.ntmps92 rfl (fun F cs => ?_)
 refine xo 9 ?_
 refine ld ?_ (hc := ((hm 4 _ rfl).le leA))
 refine ox 2 ?_
 refine X.retL (q) Tryd.func92 (res1 Tryd.results92 rfl) ⟨_, rfl, rfl, rfl⟩
theorem cnt7_ok (hm : CellsAt q pm om (mdlC m)) (ht : CellsAt q pt ot (codC t)) : CallF Tryd.prog G 93 [.pointer (some ⟨pm, om, none⟩), .pointer (some ⟨pt, ot, none⟩)] (q) (Ret fun v q' => v = .int .i64 (m.chans.length : Int) ∧ q' = q) := by
 refine CallF.of Tryd.func93 Tryd.ntmps93 rfl (fun F cs => ?_)
 refine xo 9 ?_
 refine ld ?_ (hc := ((hm 2 _ rfl).le leA))
 refine ox 3 ?_
 refine X.retL (q) Tryd.func93 (res1 Tryd.results93 rfl) ⟨_, rfl, rfl, rfl⟩
theorem cnt8_ok (hm : CellsAt q pm om (mdlC m)) (ht : CellsAt q pt ot (codC t)) : CallF Tryd.prog G 94 [.pointer (some ⟨pm, om, none⟩), .pointer (some ⟨pt, ot, none⟩)] (q) (Ret fun v q' => v = .int .i64 (m.threads.length : Int) ∧ q' = q) := by
 refine CallF.of Tryd.func94 Tryd.ntmps94 rfl (fun F cs => ?_)
 refine xo 9 ?_
 refine ld ?_ (hc := ((hm 5 _ rfl).le leA))
 refine ox 3 ?_
 refine X.retL (q) Tryd.func94 (res1 Tryd.results94 rfl) ⟨_, rfl, rfl, rfl⟩
theorem cnt_mem {e : Int × Value × Nat} (h : e ∈ cntL) : ∃ (f : Nat) (n : Int), e.2.1 = .func (.func f) #[] #[] ∧ cntOf m t e.1 = some n ∧ (CellsAt q pm om (mdlC m) → CellsAt q pt ot (codC t) → CallV Tryd.prog G (.func (.func f) #[] #[]) [.pointer (some ⟨pm, om, none⟩), .pointer (some ⟨pt, ot, none⟩)] q (Ret fun v q' => v = .int .i64 n ∧ q' = q)) := by
  simp only [cntL, List.mem_cons, List.not_mem_nil, or_false] at h
  rcases h with rfl | rfl | rfl | rfl | rfl | rfl | rfl | rfl | rfl | rfl | rfl | rfl | rfl | rfl | rfl | rfl | rfl
  · exact ⟨87, (m.vars.length : Int), rfl, by simp [cntOf], fun h1 h2 => CallV.c20 Tryd.call87 (cnt1_ok h1 h2)⟩
  · exact ⟨87, (m.vars.length : Int), rfl, by simp [cntOf], fun h1 h2 => CallV.c20 Tryd.call87 (cnt1_ok h1 h2)⟩
  · exact ⟨88, t.locals, rfl, by simp [cntOf], fun h1 h2 => CallV.c20 Tryd.call88 (cnt2_ok h1 h2)⟩
  · exact ⟨88, t.locals, rfl, by simp [cntOf], fun h1 h2 => CallV.c20 Tryd.call88 (cnt2_ok h1 h2)⟩
  · exact ⟨89, (m.arrays.length : Int), rfl, by simp [cntOf], fun h1 h2 => CallV.c20 Tryd.call89 (cnt3_ok h1 h2)⟩
  · exact ⟨89, (m.arrays.length : Int), rfl, by simp [cntOf], fun h1 h2 => CallV.c20 Tryd.call89 (cnt3_ok h1 h2)⟩
  · exact ⟨90, (t.ins.length : Int), rfl, by simp [cntOf], fun h1 h2 => CallV.c20 Tryd.call90 (cnt4_ok h1 h2)⟩
  · exact ⟨90, (t.ins.length : Int), rfl, by simp [cntOf], fun h1 h2 => CallV.c20 Tryd.call90 (cnt4_ok h1 h2)⟩
  · exact ⟨90, (t.ins.length : Int), rfl, by simp [cntOf], fun h1 h2 => CallV.c20 Tryd.call90 (cnt4_ok h1 h2)⟩
  · exact ⟨91, m.mutexes, rfl, by simp [cntOf], fun h1 h2 => CallV.c20 Tryd.call91 (cnt5_ok h1 h2)⟩
  · exact ⟨91, m.mutexes, rfl, by simp [cntOf], fun h1 h2 => CallV.c20 Tryd.call91 (cnt5_ok h1 h2)⟩
  · exact ⟨92, m.conds, rfl, by simp [cntOf], fun h1 h2 => CallV.c20 Tryd.call92 (cnt6_ok h1 h2)⟩
  · exact ⟨92, m.conds, rfl, by simp [cntOf], fun h1 h2 => CallV.c20 Tryd.call92 (cnt6_ok h1 h2)⟩
  · exact ⟨92, m.conds, rfl, by simp [cntOf], fun h1 h2 => CallV.c20 Tryd.call92 (cnt6_ok h1 h2)⟩
  · exact ⟨93, (m.chans.length : Int), rfl, by simp [cntOf], fun h1 h2 => CallV.c20 Tryd.call93 (cnt7_ok h1 h2)⟩
  · exact ⟨93, (m.chans.length : Int), rfl, by simp [cntOf], fun h1 h2 => CallV.c20 Tryd.call93 (cnt7_ok h1 h2)⟩
  · exact ⟨94, (m.threads.length : Int), rfl, by simp [cntOf], fun h1 h2 => CallV.c20 Tryd.call94 (cnt8_ok h1 h2)⟩
set_option maxHeartbeats 1000000 in
theorem counts_ok  : CallF Tryd.prog G 71 [] ([]) (Ret fun v q' => ∃ n, v = .map (some n) ∧ q' = [pto n (.map (cntL.map cntE).toArray 17)]) := by
 refine CallF.of Tryd.func71 Tryd.ntmps71 rfl (fun F cs => ?_)
 refine xo 38 ?_
 refine XO.ef (Ef.makeMap) ?_
 rintro _ _ ⟨n1, rfl, rfl⟩
 refine oo 1 ?_
 refine XO.ef0 (Ef.insert (es := []) Tryd.underlying114 Tryd.underlying51 rfl rfl rfl fndA (by rfl)) ?_
 rintro _ _ ⟨rfl, rfl⟩
 refine oo 1 ?_
 refine XO.ef0 (Ef.insert (es := ((cntL.take 1).map cntE)) Tryd.underlying114 Tryd.underlying51 rfl rfl rfl fndA (by rfl)) ?_
 rintro _ _ ⟨rfl, rfl⟩
 refine oo 1 ?_
 refine XO.ef0 (Ef.insert (es := ((cntL.take 2).map cntE)) Tryd.underlying114 Tryd.underlying51 rfl rfl rfl fndA (by rfl)) ?_
 rintro _ _ ⟨rfl, rfl⟩
 refine oo 1 ?_
 refine XO.ef0 (Ef.insert (es := ((cntL.take 3).map cntE)) Tryd.underlying114 Tryd.underlying51 rfl rfl rfl fndA (by rfl)) ?_
 rintro _ _ ⟨rfl, rfl⟩
 refine oo 1 ?_
 refine XO.ef0 (Ef.insert (es := ((cntL.take 4).map cntE)) Tryd.underlying114 Tryd.underlying51 rfl rfl rfl fndA (by rfl)) ?_
 rintro _ _ ⟨rfl, rfl⟩
 refine oo 1 ?_
 refine XO.ef0 (Ef.insert (es := ((cntL.take 5).map cntE)) Tryd.underlying114 Tryd.underlying51 rfl rfl rfl fndA (by rfl)) ?_
 rintro _ _ ⟨rfl, rfl⟩
 refine oo 1 ?_
 refine XO.ef0 (Ef.insert (es := ((cntL.take 6).map cntE)) Tryd.underlying114 Tryd.underlying51 rfl rfl rfl fndA (by rfl)) ?_
 rintro _ _ ⟨rfl, rfl⟩
 refine oo 1 ?_
 refine XO.ef0 (Ef.insert (es := ((cntL.take 7).map cntE)) Tryd.underlying114 Tryd.underlying51 rfl rfl rfl fndA (by rfl)) ?_
 rintro _ _ ⟨rfl, rfl⟩
 refine oo 1 ?_
 refine XO.ef0 (Ef.insert (es := ((cntL.take 8).map cntE)) Tryd.underlying114 Tryd.underlying51 rfl rfl rfl fndA (by rfl)) ?_
 rintro _ _ ⟨rfl, rfl⟩
 refine oo 1 ?_
 refine XO.ef0 (Ef.insert (es := ((cntL.take 9).map cntE)) Tryd.underlying114 Tryd.underlying51 rfl rfl rfl fndA (by rfl)) ?_
 rintro _ _ ⟨rfl, rfl⟩
 refine oo 1 ?_
 refine XO.ef0 (Ef.insert (es := ((cntL.take 10).map cntE)) Tryd.underlying114 Tryd.underlying51 rfl rfl rfl fndA (by rfl)) ?_
 rintro _ _ ⟨rfl, rfl⟩
 refine oo 1 ?_
 refine XO.ef0 (Ef.insert (es := ((cntL.take 11).map cntE)) Tryd.underlying114 Tryd.underlying51 rfl rfl rfl fndA (by rfl)) ?_
 rintro _ _ ⟨rfl, rfl⟩
 refine oo 1 ?_
 refine XO.ef0 (Ef.insert (es := ((cntL.take 12).map cntE)) Tryd.underlying114 Tryd.underlying51 rfl rfl rfl fndA (by rfl)) ?_
 rintro _ _ ⟨rfl, rfl⟩
 refine oo 1 ?_
 refine XO.ef0 (Ef.insert (es := ((cntL.take 13).map cntE)) Tryd.underlying114 Tryd.underlying51 rfl rfl rfl fndA (by rfl)) ?_
 rintro _ _ ⟨rfl, rfl⟩
 refine oo 1 ?_
 refine XO.ef0 (Ef.insert (es := ((cntL.take 14).map cntE)) Tryd.underlying114 Tryd.underlying51 rfl rfl rfl fndA (by rfl)) ?_
 rintro _ _ ⟨rfl, rfl⟩
 refine oo 1 ?_
 refine XO.ef0 (Ef.insert (es := ((cntL.take 15).map cntE)) Tryd.underlying114 Tryd.underlying51 rfl rfl rfl fndA (by rfl)) ?_
 rintro _ _ ⟨rfl, rfl⟩
 refine oo 1 ?_
 refine XO.ef0 (Ef.insert (es := ((cntL.take 16).map cntE)) Tryd.underlying114 Tryd.underlying51 rfl rfl rfl fndA (by rfl)) ?_
 rintro _ _ ⟨rfl, rfl⟩
 refine ox 3 ?_
 refine X.sb [0] ?_
 refine X.retL [pto n1 (.map (cntL.map cntE).toArray 17)] Tryd.func71 (res1 Tryd.results71 rfl) ⟨_, rfl, n1, rfl, rfl⟩
theorem cnt_call {e : Int × Value × Nat} {f : Nat} {n : Int} (h : e ∈ cntL) (h1 : e.2.1 = .func (.func f) #[] #[]) (h2 : cntOf m t e.1 = some n) (h3 : CellsAt q pm om (mdlC m)) (h4 : CellsAt q pt ot (codC t)) : CallV Tryd.prog G (.func (.func f) #[] #[]) [.pointer (some ⟨pm, om, none⟩), .pointer (some ⟨pt, ot, none⟩)] q (Ret fun v q' => v = .int .i64 n ∧ q' = q) := by
  obtain ⟨f', n', k1, k2, k3⟩ := cnt_mem (G := G) (q := q) (m := m) (t := t) (pm := pm) (om := om) (pt := pt) (ot := ot) h
  rw [h2] at k2; obtain rfl := Option.some.inj k2
  have e1 := h1.symm.trans k1
  cases e1; exact k3 h3 h4
set_option maxHeartbeats 2000000 in
theorem namesMay_ok (hm : CellsAt q pm om (mdlC m)) (ht : CellsAt q pt ot (codC t)) (hq : CodQ q t) : CallF Tryd.prog G 51 [.pointer (some ⟨pm, om, none⟩), .pointer (some ⟨pt, ot, none⟩)] (q) (Ret fun v q' => v = .bool (decide (∀ x ∈ t.ins, slotOk m t x)) ∧ q' = q) := by
 refine CallF.of Tryd.func51 Tryd.ntmps51 rfl (fun F cs => ?_)
 have hs := hq.i; have hni := hq.ni; have hlen := flatMap_len (f := insC) (sz := 4) (fun _ => rfl) t.ins
 refine xo 6 ?_
 refine XO.cF Tryd.call71 (counts_ok) ?_
 rintro _ _ ⟨nm, rfl, rfl⟩ _ e_; simp only [ca, na] at e_; subst e_
 refine oo 8 ?_
 refine ld ?_ (hc := ((ht 2 _ rfl).le leA))
 refine ox 4 ?_
 refine X.at (X.loop (fun (s : Nat × Option Addr) => s.1 ≤ t.ins.length ∧ s.2 = t.ia ∧ ∀ i (h : i < t.ins.length), i < s.1 → slotOk m t t.ins[i]) (fun s => [(15, .int .i64 (s.1 : Int)), (13, .slice s.2 t.ins.length t.ic), (14, .int .i64 (t.ins.length : Int)), (0, .pointer (some ⟨pm, om, none⟩)), (1, .pointer (some ⟨pt, ot, none⟩)), (5, .map (some nm))]) (fun s => pto nm (.map (cntL.map cntE).toArray 17) :: (q ++ F)) (fun s => t.ins.length - s.1) (fun s hi_ ih => ?_) (0, t.ia) ⟨by dsimp only; omega, rfl, fun i _ k => by dsimp only at k; omega⟩) subA leA
 try dsimp only at hi_ ih ⊢
 obtain ⟨hi1, hia, hi2⟩ := hi_
 obtain ⟨s, ia⟩ := s; dsimp only at *
 refine xx 5 ?_
 refine X.part 16 rfl (fun h0 => ?_) (fun h0 => ?_)
 · skip
   replace h0 := sp h0; have hi0 : s < t.ins.length := (by omega)
   refine X.adr hs (by rw [hlen]; omega) (fun b1 o1 eA => ?_)
   have hsA := hs; rw [eA] at hsA; obtain rfl : ia = some ⟨b1, o1, none⟩ := hia.trans eA
   refine xo 7 ?_
   refine XO.ldS (n := s) Tryd.isAgg53 Tryd.sizeOf53 hsA hi0 ?_
   refine XO.al Tryd.zeroValue53 fun n1 => ?_
   refine stA ?_
   refine oo 6 ?_
   refine ld ?_
   obtain ⟨aF, hF, hA⟩ := findNow_int (kd := .i64) (c := t.ins[s].c) cntL 0
   refine XO.rd (Rd.lookup (es := cntL.map cntE) (clock := 17) Tryd.underlying114 Tryd.underlying51 rfl rfl fndA Tryd.zeroValue116 hF) ?_
   rcases hA with ⟨rfl, hno⟩ | ⟨jF, eF, rfl, hmem, hec⟩
   · skip
     have hcn := cnt_none (m := m) (t := t) hno
     refine XO.know 22 (.nilFunc) rfl (rfl) ?_
     refine ox 3 ?_
     refine drw ?_
     refine dd [0] ?_
     refine XD.pu 1 rfl (Pu.neqFNil0 rfl Tryd.underlying116) ?_
     refine dd [2, 3, 4, 5, 6, 7, 8, 9, 10] ?_
     refine XD.nil ?_
     refine xx 3 ?_
     refine X.sb [7, 15, 13, 14, 0, 1, 5] ?_
     refine drw ?_
     refine dd [0] ?_
     refine ldD 1 ?_
     refine dd [2, 3] ?_
     refine XD.part 37 rfl (fun h1 => ?_) (fun h1 => ?_)
     · skip
       replace h1 := sp h1
       refine dd [4] ?_
       refine ldD 5 ?_
       refine dd [6, 7, 8] ?_
       refine ldD 9 ?_ (hc := ((hm 3 _ rfl).le leA))
       refine dd [10, 11] ?_
       refine XD.nil ?_
       refine X.part 45 rfl (fun h2 => ?_) (fun h2 => ?_)
       · skip
         replace h2 := sp h2
         refine xx 5 ?_
         refine X.retL (q) Tryd.func51 (res1 Tryd.results51 rfl) ⟨_, rfl, congrArg Value.bool (by symm; rw [decide_eq_false_iff_not]; intro ka; have kk := ka _ (List.getElem_mem hi0); first | (have := kk.2 (by omega); omega) | (have := kk.1 _ hf2; omega)), rfl⟩
       · skip
         replace h2 := sp h2
         refine xx 7 ?_
         have hsl : slotOk m t t.ins[s] := ⟨(fun n e => by rw [hcn] at e; cases e), fun e => by omega⟩
         refine X.at (ih (s + 1, some ⟨b1, o1, none⟩) ⟨by dsimp only; omega, eA.symm, fun i hh k => by rcases Nat.lt_or_ge i s with e | e; exact hi2 i hh e; obtain rfl : i = s := (by dsimp only at k; omega); exact hsl⟩ (by dsimp only; omega)) subA leA
     · skip
       replace h1 := sp h1
       refine dd [4, 5, 6, 7, 8, 9, 10, 11] ?_
       refine XD.nil ?_
       refine xx 7 ?_
       have hsl : slotOk m t t.ins[s] := ⟨(fun n e => by rw [hcn] at e; cases e), fun e => by omega⟩
       refine X.at (ih (s + 1, some ⟨b1, o1, none⟩) ⟨by dsimp only; omega, eA.symm, fun i hh k => by rcases Nat.lt_or_ge i s with e | e; exact hi2 i hh e; obtain rfl : i = s := (by dsimp only at k; omega); exact hsl⟩ (by dsimp only; omega)) subA leA
   · skip
     obtain ⟨fF, nF, hf1, hf2, hf3⟩ := cnt_mem (G := G) (m := m) (t := t) (q := q) (pm := pm) (om := om) (pt := pt) (ot := ot) hmem; rw [hec] at hf2
     refine XO.know 22 (.func (.func fF) #[] #[]) rfl (by exact hf1) ?_
     refine ox 3 ?_
     refine drw ?_
     refine dd [0] ?_
     refine XD.pu 1 rfl (Pu.neqFNil rfl Tryd.underlying116) ?_
     refine dd [2, 3] ?_
     refine ldD 4 ?_
     refine dd [5, 6, 7] ?_
     refine XD.cRV 8 ((cnt_call hmem hf1 (hec ▸ hf2)) (hm.le leA) (ht.le leA)) ?_
     refine dd [9, 10] ?_
     refine XD.nil ?_
     refine X.part 33 rfl (fun h1 => ?_) (fun h1 => ?_)
     · skip
       replace h1 := sp h1
       refine xx 5 ?_
       refine X.sb [4, 7, 15, 13, 14, 0, 1, 5] ?_
       refine X.retL (q) Tryd.func51 (res1 Tryd.results51 rfl) ⟨_, rfl, congrArg Value.bool (by symm; rw [decide_eq_false_iff_not]; intro ka; have kk := ka _ (List.getElem_mem hi0); first | (have := kk.2 (by omega); omega) | (have := kk.1 _ hf2; omega)), rfl⟩
     · skip
       replace h1 := sp h1
       refine xx 3 ?_
       refine X.sb [7, 15, 13, 14, 0, 1, 5] ?_
       refine drw ?_
       refine dd [0] ?_
       refine ldD 1 ?_
       refine dd [2, 3] ?_
       refine XD.part 37 rfl (fun h2 => ?_) (fun h2 => ?_)
       · skip
         replace h2 := sp h2
         refine dd [4] ?_
         refine ldD 5 ?_
         refine dd [6, 7, 8] ?_
         refine ldD 9 ?_ (hc := ((hm 3 _ rfl).le leA))
         refine dd [10, 11] ?_
         refine XD.nil ?_
         refine X.part 45 rfl (fun h3 => ?_) (fun h3 => ?_)
         · skip
           replace h3 := sp h3
           refine xx 5 ?_
           refine X.retL (q) Tryd.func51 (res1 Tryd.results51 rfl) ⟨_, rfl, congrArg Value.bool (by symm; rw [decide_eq_false_iff_not]; intro ka; have kk := ka _ (List.getElem_mem hi0); first | (have := kk.2 (by omega); omega) | (have := kk.1 _ hf2; omega)), rfl⟩
         · skip
           replace h3 := sp h3
           refine xx 7 ?_
           have hsl : slotOk m t t.ins[s] := ⟨(fun n e => by rw [hf2] at e; cases e; omega), fun e => by omega⟩
           refine X.at (ih (s + 1, some ⟨b1, o1, none⟩) ⟨by dsimp only; omega, eA.symm, fun i hh k => by rcases Nat.lt_or_ge i s with e | e; exact hi2 i hh e; obtain rfl : i = s := (by dsimp only at k; omega); exact hsl⟩ (by dsimp only; omega)) subA leA
       · skip
         replace h2 := sp h2
         refine dd [4, 5, 6, 7, 8, 9, 10, 11] ?_
         refine XD.nil ?_
         refine xx 7 ?_
         have hsl : slotOk m t t.ins[s] := ⟨(fun n e => by rw [hf2] at e; cases e; omega), fun e => by omega⟩
         refine X.at (ih (s + 1, some ⟨b1, o1, none⟩) ⟨by dsimp only; omega, eA.symm, fun i hh k => by rcases Nat.lt_or_ge i s with e | e; exact hi2 i hh e; obtain rfl : i = s := (by dsimp only at k; omega); exact hsl⟩ (by dsimp only; omega)) subA leA
 · skip
   replace h0 := sp h0
   refine xx 6 ?_
   refine X.retL (q) Tryd.func51 (res1 Tryd.results51 rfl) ⟨_, rfl, congrArg Value.bool (by symm; rw [decide_eq_true_iff]; intro x hx; obtain ⟨k, hk, rfl⟩ := List.getElem_of_mem hx; exact hi2 k hk (by omega)), rfl⟩
end
end Go.Proofs.YtbeeplmgcdnadaaDoor

