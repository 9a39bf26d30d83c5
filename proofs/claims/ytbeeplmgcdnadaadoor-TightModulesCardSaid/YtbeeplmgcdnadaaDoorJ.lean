/- What functions of package verify, of its references and of its laws do: contracts of calls, proved by walking their code. -/
import Derived.Test.YtbeeplmgcdnadaaDoorG
import Derived.Test.YtbeeplmgcdnadaaDoorWc
import Derived.KernelRfl
set_option maxRecDepth 100000
set_option linter.unusedVariables false
set_option linter.unusedSimpArgs false
namespace Go.Proofs.YtbeeplmgcdnadaaDoor
open Go Go.RowKit Wx
attribute [local irreducible] Wx.lsH Wx.rsH Wx.lsM Wx.rsM Wx.stars

section
variable {G : World} {q pre : List HP} {a b A : Option Addr} {c d C p p0 p1 p2 i : Nat} {lo hi n cd dep : Int} {fv : Value} {x y : Ins} {t : Cod} {m : Mdl} {at_ : Int}
variable {pm om pt ot n : Nat}
theorem effS_le (c : Int) : (effS c).1 ≤ 2 ∧ (effS c).2 ≤ 1 := by
  unfold effS
  (repeat' split) <;> decide

def insT (t : Cod) : List InsT := t.ins.map Ins.t
theorem insT_at {t : Cod} {n : Nat} (h : n < t.ins.length) : (insT t).getD n zI = (t.ins[n]).t := by
  unfold insT; rw [List.getD_eq_getElem?_getD, List.getElem?_map, List.getElem?_eq_getElem h]; rfl
theorem insT_len (t : Cod) : (insT t).length = t.ins.length := by simp [insT]
set_option maxHeartbeats 2000000 in
theorem look_ok (g : GE q) (ht : CellsAt q pt ot (codC t)) (hq : CodQ q t) (hc : ∀ x ∈ t.ins, 1 ≤ x.c ∧ x.c ≤ 34) (hL : t.ins.length ≤ 65536) (hn : n < t.ins.length) (hd : 0 ≤ dep ∧ dep ≤ 1000000) : CallF Tryd.prog G 54 [.pointer (some ⟨pt, ot, none⟩), .int .i64 (n : Int), .int .i64 dep] (q) (Ret fun v q' => v = .tuple [.int .i64 (oneS (insT t) n dep).1, .int .i64 (oneS (insT t) n dep).2].toArray ∧ q' = q) := by
 refine CallF.of Tryd.func54 Tryd.ntmps54 rfl (fun F cs => ?_)
 have hs := hq.i; have hlen := flatMap_len (f := insC) (sz := 4) (fun _ => rfl) t.ins
 have hcx := hc _ (List.getElem_mem hn); have hnn := effS_nn t.ins[n].c
 have hk : t.ins[n].c.toNat < effL.length := by show _ < 35; omega
 have hef : effL[t.ins[n].c.toNat] = effS t.ins[n].c := by
   have e := effL_at ⟨t.ins[n].c.toNat, hk⟩ (by show 1 ≤ t.ins[n].c.toNat; omega)
   have e1 : ((t.ins[n].c.toNat : Nat) : Int) = t.ins[n].c := by omega
   dsimp only at e; rw [e1] at e; exact e
 have hle : (effS t.ins[n].c).1 ≤ 2 ∧ (effS t.ins[n].c).2 ≤ 1 := effS_le _
 refine xo 2 ?_
 refine XO.bx fun n1 => ?_
 refine XO.al Tryd.zeroValue3 fun n2 => ?_
 refine XO.al Tryd.zeroValue29 fun n3 => ?_
 refine oo 3 ?_
 refine ld ?_
 refine oo 2 ?_
 refine ld ?_ (hc := ((ht 2 _ rfl).le leA))
 refine oo 1 ?_
 refine XO.adr hs (by rw [hlen]; omega) (fun b1 o1 e1 => ?_)
 have hs1 := hs; rw [e1] at hs1
 refine XO.know 15 (.slice (some ⟨b1, o1, none⟩) t.ins.length t.ic) rfl (by rw [e1]) ?_
 refine oo 1 ?_
 refine XO.ldS (n := n) Tryd.isAgg53 Tryd.sizeOf53 hs1 hn ?_
 refine XO.al Tryd.zeroValue53 fun n4 => ?_
 refine stA ?_
 refine oo 4 ?_
 refine ld ?_
 refine XO.pu (Pu.indexAddrA rfl rfl Tryd.underlying124 Tryd.sizeOf123 (by omega) (by omega)) ?_
 refine XO.ldS (n := t.ins[n].c.toNat) Tryd.isAgg123 Tryd.sizeOf123 g hk ?_
 refine XO.know 22 (.agg (efC (effS t.ins[n].c)).toArray) rfl (by rw [hef]) ?_
 refine XO.al Tryd.zeroValue123 fun n5 => ?_
 refine stA ?_
 refine oo 5 ?_
 refine ld ?_
 refine oo 2 ?_
 refine ld ?_
 refine oo 8 ?_
 refine ld ?_
 refine oo 2 ?_
 refine XO.sb [34, 10, 8, 7, 6, 3, 1, 2] ?_
 apply XO.cutOr 3 37 34 rfl
 · skip
   intro g1 M1; have h1 := sp g1
   refine oo 3 ?_
   exact XO.fin M1 ⟨orF g1, subB⟩
 · skip
   intro g1 M1; have h1 := sp g1
   refine oo 3 ?_
   exact XO.fin M1 ⟨orT g1, subB⟩
 · skip
   refine ox 1 ?_
   refine X.sb [37, 10, 8, 7, 6, 3, 1, 2] ?_
   refine X.part 37 rfl (fun h1 => ?_) (fun h1 => ?_)
   · skip
     replace h1 := sp h1
     refine xo 3 ?_
     refine st ?_
     refine st ?_
     refine ox 1 ?_
     have hO : oneS (insT t) n dep = (0, 173) := by unfold oneS; rw [insT_at hn]; dsimp only [Ins.t]; rw [if_pos (by omega)]
     refine X.retL (q) Tryd.func54 (resC Tryd.results54 (ResOk.cell rfl (LV.cell Tryd.isAgg3 clA) (ResOk.cell rfl (LV.cell Tryd.isAgg29 clA) ResOk.nil))) ⟨_, rfl, by rw [hO], rfl⟩
   · skip
     replace h1 := sp h1
     refine xo 6 ?_
     refine ld ?_
     refine oo 2 ?_
     refine XO.sb [41, 10, 8, 7, 6, 3, 1, 2] ?_
     apply XO.cutOr 4 45 41 rfl
     · skip
       intro g2 M2; have h2 := sp g2
       refine oo 1 ?_
       refine ld ?_
       refine oo 2 ?_
       exact XO.fin M2 ⟨orF g2, subB⟩
     · skip
       intro g2 M2; have h2 := sp g2
       refine oo 4 ?_
       exact XO.fin M2 ⟨orT g2, subB⟩
     · skip
       refine oo 1 ?_
       refine XO.sb [46, 10, 8, 7, 6, 3, 1, 2] ?_
       apply XO.cutAnd 3 49 46 rfl
       · skip
         intro g2 M2; have h2 := sp g2
         refine oo 3 ?_
         exact XO.fin M2 ⟨andT g2, subB⟩
       · skip
         intro g2 M2; have h2 := sp g2
         refine oo 3 ?_
         exact XO.fin M2 ⟨andF g2, subB⟩
       · skip
         refine ox 1 ?_
         refine X.part 49 rfl (fun h2 => ?_) (fun h2 => ?_)
         · skip
           replace h2 := sp h2
           refine xo 3 ?_
           refine st ?_
           refine st ?_
           refine ox 1 ?_
           have hO : oneS (insT t) n dep = (0, 175) := by unfold oneS; rw [insT_at hn]; dsimp only [Ins.t]; rw [if_neg (by omega), if_pos (by omega)]
           refine X.retL (q) Tryd.func54 (resC Tryd.results54 (ResOk.cell rfl (LV.cell Tryd.isAgg3 clA) (ResOk.cell rfl (LV.cell Tryd.isAgg29 clA) ResOk.nil))) ⟨_, rfl, by rw [hO], rfl⟩
         · skip
           replace h2 := sp h2
           refine xo 5 ?_
           refine ldA ?_
           refine oo 1 ?_
           refine XO.cF Tryd.call55 (behind_ok) ?_
           rintro _ _ ⟨p1, p2, rfl, rfl⟩ _ e_; simp only [ca, na] at e_; subst e_
           refine ox 2 ?_
           refine X.le (q' := pto p1 (.cells (insC t.ins[n]).toArray 53 (0, 0)) :: _) fndA (X.freeze ?_)
           refine X.le (q' := pto p2 (.cells [.int .i64 (n : Int)].toArray 3 (0, 0)) :: _) fndA (X.freeze ?_)
           refine X.range [im p1 (.cells (insC t.ins[n]).toArray 53 (0, 0)), im p2 (.cells [.int .i64 (n : Int)].toArray 3 (0, 0))] (fun k => Wx.pure (∀ j (h : j < (nxt t.ins[n] (n : Int)).length), j < k → (nxt t.ins[n] (n : Int))[j] < t.ins.length) :: pto n1 (.cells [.pointer (some ⟨pt, ot, none⟩)].toArray 75 (0, 0)) :: pto n2 (.cells [.int .i64 (0)].toArray 3 (0, 0)) :: pto n3 (.cells [.int .i64 (0)].toArray 29 (0, 0)) :: pto n4 (.cells (insC t.ins[n]).toArray 53 (0, 0)) :: pto n5 (.cells (efC (effS t.ins[n].c)).toArray 123 (0, 0)) :: q) (fun e qs => e = .ret ∧ qs = Wx.pure (∃ x ∈ nxt t.ins[n] (n : Int), (t.ins.length : Int) ≤ x) :: pto n1 (.cells [.pointer (some ⟨pt, ot, none⟩)].toArray 75 (0, 0)) :: pto n2 (.cells [.int .i64 (0)].toArray 3 (0, 0)) :: pto n3 (.cells [.int .i64 (172)].toArray 29 (0, 0)) :: pto n4 (.cells (insC t.ins[n]).toArray 53 (0, 0)) :: pto n5 (.cells (efC (effS t.ins[n].c)).toArray 123 (0, 0)) :: q) (F := F) (behind_iter (x := t.ins[n]) ⟨by omega, by omega⟩) rfl ?_ (by intro x hx; obtain ⟨y, _, rfl⟩ := List.mem_map.1 hx; rfl) rfl (by rw [Tryd.func54]; rfl) rfl (fun i hi l2 rec F0 cs0 => ?_) (fun r => ?_) (fun r c2 qs2 hJ => ?_)
           · refine Le.trans (b := [im p1 (.cells (insC t.ins[n]).toArray 53 (0, 0)), im p2 (.cells [.int .i64 (n : Int)].toArray 3 (0, 0))] ++ ((Wx.pure (∀ j (h : j < (nxt t.ins[n] (n : Int)).length), j < 0 → (nxt t.ins[n] (n : Int))[j] < t.ins.length) :: pto n1 (.cells [.pointer (some ⟨pt, ot, none⟩)].toArray 75 (0, 0)) :: pto n2 (.cells [.int .i64 (0)].toArray 3 (0, 0)) :: pto n3 (.cells [.int .i64 (0)].toArray 29 (0, 0)) :: pto n4 (.cells (insC t.ins[n]).toArray 53 (0, 0)) :: pto n5 (.cells (efC (effS t.ins[n].c)).toArray 123 (0, 0)) :: q) ++ F)) ?_ (Le.swapL _ _ _)
             simp only [ca, na]; refine Le.pick fndA (Le.pick fndA (Le.trans ?_ (Le.add_pure (fun j h k => absurd k (Nat.not_lt_zero j)) _))); exact leB
           · skip
             have hi' : i < (nxt t.ins[n] (n : Int)).length := by simpa using hi
             rw [List.getElem_map]
             simp only [zipP, ivs]
             refine X.sb [53, 52, 10, 7, 6, 3] ?_
             simp only [ca, na]
             refine X.le (q' := Wx.pure (∀ j (h : j < (nxt t.ins[n] (n : Int)).length), j < i → (nxt t.ins[n] (n : Int))[j] < t.ins.length) :: _) fndA (X.pure (fun hP => ?_))
             refine xx 3 ?_
             refine X.beginRound rfl leA ?_
             refine xo 4 ?_
             refine ld ?_
             refine oo 2 ?_
             refine ld ?_ (hc := ((ht 2 _ rfl).le leA))
             refine ox 3 ?_
             refine X.sb [60, 7, 6] ?_
             refine X.part 60 rfl (fun k1 => ?_) (fun k1 => ?_)
             · skip
               replace k1 := sp k1
               refine xo 3 ?_
               refine st ?_
               refine st ?_
               refine ox 1 ?_
               refine X.ret ⟨rfl, rfl, _, ⟨rfl, rfl⟩, ?_⟩
               simp only [ca, na]
               refine Le.pick fndA (Le.trans ?_ (Le.add_pure (show ∃ x ∈ nxt t.ins[n] (n : Int), (t.ins.length : Int) ≤ x from ⟨_, List.getElem_mem hi', by omega⟩) _)); exact leA
             · skip
               replace k1 := sp k1
               refine xx 3 ?_
               refine X.fall ⟨rfl, rfl, ?_⟩
               simp only [ca, na]
               refine Le.pick fndA (Le.trans ?_ (Le.add_pure (show (∀ j (h : j < (nxt t.ins[n] (n : Int)).length), j < i + 1 → (nxt t.ins[n] (n : Int))[j] < t.ins.length) from fun j h k => by rcases Nat.lt_or_ge j i with e | e; exact hP j h e; obtain rfl : j = i := (by omega); omega) _)); exact leA
           · skip
             simp only [ca, na]
             rw [List.length_map]
             refine X.le (q' := Wx.pure (∀ j (h : j < (nxt t.ins[n] (n : Int)).length), j < (nxt t.ins[n] (n : Int)).length → (nxt t.ins[n] (n : Int))[j] < t.ins.length) :: _) fndA (X.pure (fun hP => ?_))
             refine xo 4 ?_
             refine st ?_
             refine st ?_
             refine ox 1 ?_
             have hO : oneS (insT t) n dep = (dep - (effS t.ins[n].c).1 + (effS t.ins[n].c).2, 0) := by
               have hF : ¬ ∃ x ∈ nextS t.ins[n].t n, ((insT t).length : Int) ≤ x := by
                 rintro ⟨x, hx, hx2⟩; rw [insT_len] at hx2; rw [← nxt_eq] at hx; obtain ⟨j, hj, rfl⟩ := List.getElem_of_mem hx; have := hP j hj hj; omega
               unfold oneS; rw [insT_at hn]; dsimp only [Ins.t]; rw [if_neg (by omega), if_neg (by omega)]; exact if_neg hF
             refine X.ret ⟨rfl, Lv.marks ?_⟩
             exact Lv.ret (q' := q) Tryd.func54 (resC Tryd.results54 (ResOk.cell rfl (LV.cell Tryd.isAgg3 clA) (ResOk.cell rfl (LV.cell Tryd.isAgg29 clA) ResOk.nil))) ⟨_, rfl, by rw [hO], rfl⟩ leB
           · skip
             obtain ⟨rfl, rfl⟩ := hJ
             simp only [ca, na]
             refine X.le (q' := Wx.pure (∃ x ∈ nxt t.ins[n] (n : Int), (t.ins.length : Int) ≤ x) :: _) fndA (X.pure (fun hP => ?_))
             have hO : oneS (insT t) n dep = (0, 172) := by
               have hF : ∃ x ∈ nextS t.ins[n].t n, ((insT t).length : Int) ≤ x := by rw [insT_len, ← nxt_eq]; exact hP
               unfold oneS; rw [insT_at hn]; dsimp only [Ins.t]; rw [if_neg (by omega), if_neg (by omega)]; exact if_pos hF
             refine X.ret ⟨rfl, Lv.marks ?_⟩
             exact Lv.ret (q' := q) Tryd.func54 (resC Tryd.results54 (ResOk.cell rfl (LV.cell Tryd.isAgg3 clA) (ResOk.cell rfl (LV.cell Tryd.isAgg29 clA) ResOk.nil))) ⟨_, rfl, by rw [hO], rfl⟩ leB
end
end Go.Proofs.YtbeeplmgcdnadaaDoor

