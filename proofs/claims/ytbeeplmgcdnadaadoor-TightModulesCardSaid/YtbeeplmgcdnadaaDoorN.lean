/- What functions of package verify, of its references and of its laws do: contracts of calls, proved by walking their code. -/
import Derived.Test.YtbeeplmgcdnadaaDoorM
import Derived.KernelRfl
set_option maxRecDepth 100000
set_option linter.unusedVariables false
set_option linter.unusedSimpArgs false
namespace Go.Proofs.YtbeeplmgcdnadaaDoor
open Go Go.RowKit Wx
attribute [local irreducible] Wx.lsH Wx.rsH Wx.lsM Wx.rsM Wx.stars

theorem slot1 {m : Mdl} {t : Cod} {x : Ins} {n : Int} (h : cntOf m t x.c = some n) (h2 : x.c ≠ 26) : decide (x.a < n) = decide (slotOk m t x) := by
  apply decide_eq_decide.2; unfold slotOk; rw [h]
  exact ⟨fun k => ⟨fun j e => by cases e; exact k, fun e => absurd e h2⟩, fun k => k.1 n rfl⟩
theorem slot0 {m : Mdl} {t : Cod} {x : Ins} (h : cntOf m t x.c = none) (h2 : x.c ≠ 26) : true = decide (slotOk m t x) := by
  symm; rw [decide_eq_true_iff]; unfold slotOk; rw [h]
  exact ⟨fun j e => (by cases e), fun e => absurd e h2⟩
theorem cnt26 {m : Mdl} {t : Cod} {x : Ins} (h : x.c = 26) : cntOf m t x.c = some m.conds := by
  unfold cntOf
  rw [if_neg (by omega), if_neg (by omega), if_neg (by omega), if_neg (by omega), if_neg (by omega), if_pos (by omega)]
theorem slot26T {m : Mdl} {t : Cod} {x : Ins} (h : x.c = 26) (ha : x.a < m.conds) : decide (x.b < m.mutexes) = decide (slotOk m t x) := by
  apply decide_eq_decide.2; unfold slotOk; rw [cnt26 h]
  exact ⟨fun k => ⟨fun j e => by cases e; exact ha, fun _ => k⟩, fun k => k.2 h⟩
theorem slot26F {m : Mdl} {t : Cod} {x : Ins} (h : x.c = 26) (ha : ¬ x.a < m.conds) : false = decide (slotOk m t x) := by
  symm; rw [decide_eq_false_iff_not]; unfold slotOk; rw [cnt26 h]
  exact fun k => ha (k.1 _ rfl)

section
variable {G : World} {q pre : List HP} {a b A : Option Addr} {c d C p p0 p1 p2 i : Nat} {lo hi n cd dep : Int} {fv : Value} {x y : Ins} {t : Cod} {m : Mdl} {at_ : Int}
variable {n : Nat}
set_option maxHeartbeats 4000000 in
theorem slots_ok  : CallF Tryd.prog G 36 [.agg (mdlC m).toArray, .agg (codC t).toArray, .agg (insC x).toArray] (q) (Ret fun v q' => v = .bool (decide (slotOk m t x)) ∧ q' = q) := by
 refine CallF.of Tryd.func36 Tryd.ntmps36 rfl (fun F cs => ?_)
 refine xo 2 ?_
 refine XO.bx fun n1 => ?_
 refine XO.bx fun n2 => ?_
 refine XO.bx fun n3 => ?_
 refine oo 6 ?_
 refine ld ?_
 refine ox 8 ?_
 refine X.part 9 rfl (fun h1 => ?_) (fun h1 => ?_)
 · skip
   replace h1 := sp h1
   refine xo 6 ?_
   refine ld ?_
   refine oo 1 ?_
   refine ld ?_
   refine ox 4 ?_
   refine X.retL (q) Tryd.func36 (res1 Tryd.results36 rfl) ⟨_, rfl, congrArg Value.bool (slot1 (by unfold cntOf; (repeat' split) <;> first | rfl | omega) (by omega)), rfl⟩
 · skip
   replace h1 := sp h1
   refine xx 5 ?_
   refine X.part 9 rfl (fun h2 => ?_) (fun h2 => ?_)
   · skip
     replace h2 := sp h2
     refine xo 4 ?_
     refine ld ?_
     refine oo 1 ?_
     refine ld ?_
     refine ox 4 ?_
     refine X.sb [6] ?_
     refine X.retL (q) Tryd.func36 (res1 Tryd.results36 rfl) ⟨_, rfl, congrArg Value.bool (slot1 (by unfold cntOf; (repeat' split) <;> first | rfl | omega) (by omega)), rfl⟩
   · skip
     replace h2 := sp h2
     refine xx 7 ?_
     refine X.part 18 rfl (fun h3 => ?_) (fun h3 => ?_)
     · skip
       replace h3 := sp h3
       refine xo 6 ?_
       refine ld ?_
       refine oo 1 ?_
       refine ld ?_
       refine ox 3 ?_
       refine X.sb [6] ?_
       refine X.retL (q) Tryd.func36 (res1 Tryd.results36 rfl) ⟨_, rfl, congrArg Value.bool (slot1 (by unfold cntOf; (repeat' split) <;> first | rfl | omega) (by omega)), rfl⟩
     · skip
       replace h3 := sp h3
       refine xx 5 ?_
       refine X.sb [18, 8, 6, 5, 4, 3] ?_
       refine X.part 18 rfl (fun h4 => ?_) (fun h4 => ?_)
       · skip
         replace h4 := sp h4
         refine xo 4 ?_
         refine ld ?_
         refine oo 1 ?_
         refine ld ?_
         refine ox 3 ?_
         refine X.retL (q) Tryd.func36 (res1 Tryd.results36 rfl) ⟨_, rfl, congrArg Value.bool (slot1 (by unfold cntOf; (repeat' split) <;> first | rfl | omega) (by omega)), rfl⟩
       · skip
         replace h4 := sp h4
         refine xx 7 ?_
         refine X.part 26 rfl (fun h5 => ?_) (fun h5 => ?_)
         · skip
           replace h5 := sp h5
           refine xo 6 ?_
           refine ld ?_
           refine oo 1 ?_
           refine ld ?_
           refine ox 4 ?_
           refine X.retL (q) Tryd.func36 (res1 Tryd.results36 rfl) ⟨_, rfl, congrArg Value.bool (slot1 (by unfold cntOf; (repeat' split) <;> first | rfl | omega) (by omega)), rfl⟩
         · skip
           replace h5 := sp h5
           refine xx 5 ?_
           refine X.part 26 rfl (fun h6 => ?_) (fun h6 => ?_)
           · skip
             replace h6 := sp h6
             refine xo 4 ?_
             refine ld ?_
             refine oo 1 ?_
             refine ld ?_
             refine ox 4 ?_
             refine X.retL (q) Tryd.func36 (res1 Tryd.results36 rfl) ⟨_, rfl, congrArg Value.bool (slot1 (by unfold cntOf; (repeat' split) <;> first | rfl | omega) (by omega)), rfl⟩
           · skip
             replace h6 := sp h6
             refine xx 7 ?_
             refine X.part 35 rfl (fun h7 => ?_) (fun h7 => ?_)
             · skip
               replace h7 := sp h7
               refine xo 6 ?_
               refine ld ?_
               refine oo 1 ?_
               refine ld ?_
               refine ox 4 ?_
               refine X.sb [6] ?_
               refine X.retL (q) Tryd.func36 (res1 Tryd.results36 rfl) ⟨_, rfl, congrArg Value.bool (slot1 (by unfold cntOf; (repeat' split) <;> first | rfl | omega) (by omega)), rfl⟩
             · skip
               replace h7 := sp h7
               refine xx 6 ?_
               refine X.part 35 rfl (fun h8 => ?_) (fun h8 => ?_)
               · skip
                 replace h8 := sp h8
                 refine xo 6 ?_
                 refine ld ?_
                 refine oo 1 ?_
                 refine ld ?_
                 refine ox 4 ?_
                 refine X.sb [6] ?_
                 refine X.retL (q) Tryd.func36 (res1 Tryd.results36 rfl) ⟨_, rfl, congrArg Value.bool (slot1 (by unfold cntOf; (repeat' split) <;> first | rfl | omega) (by omega)), rfl⟩
               · skip
                 replace h8 := sp h8
                 refine xx 5 ?_
                 refine X.part 35 rfl (fun h9 => ?_) (fun h9 => ?_)
                 · skip
                   replace h9 := sp h9
                   refine xo 4 ?_
                   refine ld ?_
                   refine oo 1 ?_
                   refine ld ?_
                   refine ox 4 ?_
                   refine X.sb [6] ?_
                   refine X.retL (q) Tryd.func36 (res1 Tryd.results36 rfl) ⟨_, rfl, congrArg Value.bool (slot1 (by unfold cntOf; (repeat' split) <;> first | rfl | omega) (by omega)), rfl⟩
                 · skip
                   replace h9 := sp h9
                   refine xx 7 ?_
                   refine X.sb [45, 8, 6, 5, 3] ?_
                   refine X.part 45 rfl (fun h10 => ?_) (fun h10 => ?_)
                   · skip
                     replace h10 := sp h10
                     refine xo 6 ?_
                     refine ld ?_
                     refine oo 1 ?_
                     refine ld ?_
                     refine ox 3 ?_
                     refine X.retL (q) Tryd.func36 (res1 Tryd.results36 rfl) ⟨_, rfl, congrArg Value.bool (slot1 (by unfold cntOf; (repeat' split) <;> first | rfl | omega) (by omega)), rfl⟩
                   · skip
                     replace h10 := sp h10
                     refine xx 5 ?_
                     refine X.part 45 rfl (fun h11 => ?_) (fun h11 => ?_)
                     · skip
                       replace h11 := sp h11
                       refine xo 4 ?_
                       refine ld ?_
                       refine oo 1 ?_
                       refine ld ?_
                       refine ox 3 ?_
                       refine X.retL (q) Tryd.func36 (res1 Tryd.results36 rfl) ⟨_, rfl, congrArg Value.bool (slot1 (by unfold cntOf; (repeat' split) <;> first | rfl | omega) (by omega)), rfl⟩
                     · skip
                       replace h11 := sp h11
                       refine xx 6 ?_
                       refine X.part 53 rfl (fun h12 => ?_) (fun h12 => ?_)
                       · skip
                         replace h12 := sp h12
                         refine xo 4 ?_
                         refine ld ?_
                         refine oo 1 ?_
                         refine ld ?_
                         refine oo 2 ?_
                         refine XO.part 60 rfl (fun h13 => ?_) (fun h13 => ?_)
                         · skip
                           replace h13 := sp h13
                           refine oo 1 ?_
                           refine ld ?_
                           refine oo 1 ?_
                           refine ld ?_
                           refine ox 4 ?_
                           refine X.sb [6] ?_
                           refine X.retL (q) Tryd.func36 (res1 Tryd.results36 rfl) ⟨_, rfl, congrArg Value.bool (slot26T (by omega) (by omega)), rfl⟩
                         · skip
                           replace h13 := sp h13
                           refine ox 8 ?_
                           refine X.sb [6] ?_
                           refine X.retL (q) Tryd.func36 (res1 Tryd.results36 rfl) ⟨_, rfl, congrArg Value.bool (slot26F (by omega) (by omega)), rfl⟩
                       · skip
                         replace h12 := sp h12
                         refine xx 7 ?_
                         refine X.part 67 rfl (fun h13 => ?_) (fun h13 => ?_)
                         · skip
                           replace h13 := sp h13
                           refine xo 6 ?_
                           refine ld ?_
                           refine oo 1 ?_
                           refine ld ?_
                           refine ox 3 ?_
                           refine X.retL (q) Tryd.func36 (res1 Tryd.results36 rfl) ⟨_, rfl, congrArg Value.bool (slot1 (by unfold cntOf; (repeat' split) <;> first | rfl | omega) (by omega)), rfl⟩
                         · skip
                           replace h13 := sp h13
                           refine xx 5 ?_
                           refine X.part 67 rfl (fun h14 => ?_) (fun h14 => ?_)
                           · skip
                             replace h14 := sp h14
                             refine xo 4 ?_
                             refine ld ?_
                             refine oo 1 ?_
                             refine ld ?_
                             refine ox 3 ?_
                             refine X.sb [6] ?_
                             refine X.retL (q) Tryd.func36 (res1 Tryd.results36 rfl) ⟨_, rfl, congrArg Value.bool (slot1 (by unfold cntOf; (repeat' split) <;> first | rfl | omega) (by omega)), rfl⟩
                           · skip
                             replace h14 := sp h14
                             refine xx 7 ?_
                             refine X.part 75 rfl (fun h15 => ?_) (fun h15 => ?_)
                             · skip
                               replace h15 := sp h15
                               refine xo 6 ?_
                               refine ld ?_
                               refine oo 1 ?_
                               refine ld ?_
                               refine ox 4 ?_
                               refine X.sb [6] ?_
                               refine X.retL (q) Tryd.func36 (res1 Tryd.results36 rfl) ⟨_, rfl, congrArg Value.bool (slot1 (by unfold cntOf; (repeat' split) <;> first | rfl | omega) (by omega)), rfl⟩
                             · skip
                               replace h15 := sp h15
                               refine xx 5 ?_
                               refine X.sb [75, 8, 6, 5, 3] ?_
                               refine X.part 75 rfl (fun h16 => ?_) (fun h16 => ?_)
                               · skip
                                 replace h16 := sp h16
                                 refine xo 4 ?_
                                 refine ld ?_
                                 refine oo 1 ?_
                                 refine ld ?_
                                 refine ox 4 ?_
                                 refine X.retL (q) Tryd.func36 (res1 Tryd.results36 rfl) ⟨_, rfl, congrArg Value.bool (slot1 (by unfold cntOf; (repeat' split) <;> first | rfl | omega) (by omega)), rfl⟩
                               · skip
                                 replace h16 := sp h16
                                 refine xx 6 ?_
                                 refine X.part 84 rfl (fun h17 => ?_) (fun h17 => ?_)
                                 · skip
                                   replace h17 := sp h17
                                   refine xo 4 ?_
                                   refine ld ?_
                                   refine oo 1 ?_
                                   refine ld ?_
                                   refine ox 4 ?_
                                   refine X.retL (q) Tryd.func36 (res1 Tryd.results36 rfl) ⟨_, rfl, congrArg Value.bool (slot1 (by unfold cntOf; (repeat' split) <;> first | rfl | omega) (by omega)), rfl⟩
                                 · skip
                                   replace h17 := sp h17
                                   refine xx 7 ?_
                                   refine X.retL (q) Tryd.func36 (res1 Tryd.results36 rfl) ⟨_, rfl, congrArg Value.bool (slot0 (by unfold cntOf; (repeat' split) <;> first | rfl | omega) (by omega)), rfl⟩
set_option maxHeartbeats 4000000 in
theorem one_ok (hq : CodQ q t) (hc : ∀ x ∈ t.ins, 1 ≤ x.c ∧ x.c ≤ 34) (hL : t.ins.length ≤ 65536) (hn : n < t.ins.length) (hd : 0 ≤ dep ∧ dep ≤ 1000000) : CallF Tryd.prog G 37 [.agg (codC t).toArray, .int .i64 (n : Int), .int .i64 dep] (q) (Ret fun v q' => v = .tuple [.int .i64 (oneS (insT t) n dep).1, .int .i64 (oneS (insT t) n dep).2].toArray ∧ q' = q) := by
 refine CallF.of Tryd.func37 Tryd.ntmps37 rfl (fun F cs => ?_)
 have hs := hq.i; have hlen := flatMap_len (f := insC) (sz := 4) (fun _ => rfl) t.ins
 have hcx := hc _ (List.getElem_mem hn); have hnn := effS_nn t.ins[n].c; have hle := effS_le t.ins[n].c
 refine xo 2 ?_
 refine XO.bx fun n1 => ?_
 refine oo 6 ?_
 refine ld ?_
 refine oo 1 ?_
 refine XO.adr hs (by rw [hlen]; omega) (fun b1 o1 e1 => ?_)
 have hs1 := hs; rw [e1] at hs1
 refine XO.know 15 (.slice (some ⟨b1, o1, none⟩) t.ins.length t.ic) rfl (by rw [e1]) ?_
 refine oo 1 ?_
 refine XO.ldS (n := n) Tryd.isAgg53 Tryd.sizeOf53 hs1 hn ?_
 refine XO.al Tryd.zeroValue53 fun n2 => ?_
 refine stA ?_
 refine oo 4 ?_
 refine ld ?_
 refine XO.cR Tryd.call58 (REffect_ok (cd := t.ins[n].c)) ?_
 refine XO.know 22 (.tuple [.int .i64 (effS t.ins[n].c).1, .int .i64 (effS t.ins[n].c).2, .bool true].toArray) rfl (if_pos hcx) ?_
 refine oo 15 ?_
 refine XO.sb [29, 10, 9, 8, 7, 6, 3, 1, 2] ?_
 apply XO.cutOr 7 36 29 rfl
 · skip
   intro g1 M1; have h1 := sp g1
   refine oo 7 ?_
   exact XO.fin M1 ⟨orF g1, subB⟩
 · skip
   intro g1 M1; have h1 := sp g1
   refine oo 7 ?_
   exact XO.fin M1 ⟨orT g1, subB⟩
 · skip
   refine ox 1 ?_
   refine X.sb [36, 10, 9, 8, 7, 6, 3, 1, 2] ?_
   refine X.part 36 rfl (fun h1 => ?_) (fun h1 => ?_)
   · skip
     replace h1 := sp h1
     refine xx 6 ?_
     have hO : oneS (insT t) n dep = (0, 173) := by unfold oneS; rw [insT_at hn]; dsimp only [Ins.t]; rw [if_pos (by omega)]
     refine X.retL (q) Tryd.func37 (res2 Tryd.results37 rfl rfl) ⟨_, rfl, by rw [hO], rfl⟩
   · skip
     replace h1 := sp h1
     refine xo 6 ?_
     refine ld ?_
     refine oo 2 ?_
     refine XO.sb [40, 10, 9, 8, 7, 6, 3, 1, 2] ?_
     apply XO.cutOr 4 44 40 rfl
     · skip
       intro g2 M2; have h2 := sp g2
       refine oo 1 ?_
       refine ld ?_
       refine oo 2 ?_
       exact XO.fin M2 ⟨orF g2, subB⟩
     · skip
       intro g2 M2; have h2 := sp g2
       refine oo 4 ?_
       exact XO.fin M2 ⟨orT g2, subB⟩
     · skip
       refine oo 1 ?_
       refine XO.sb [45, 10, 9, 8, 7, 6, 3, 1, 2] ?_
       apply XO.cutAnd 3 48 45 rfl
       · skip
         intro g2 M2; have h2 := sp g2
         refine oo 3 ?_
         exact XO.fin M2 ⟨andT g2, subB⟩
       · skip
         intro g2 M2; have h2 := sp g2
         refine oo 3 ?_
         exact XO.fin M2 ⟨andF g2, subB⟩
       · skip
         refine ox 1 ?_
         refine X.part 48 rfl (fun h2 => ?_) (fun h2 => ?_)
         · skip
           replace h2 := sp h2
           refine xx 6 ?_
           have hO : oneS (insT t) n dep = (0, 175) := by unfold oneS; rw [insT_at hn]; dsimp only [Ins.t]; rw [if_neg (by omega), if_pos (by omega)]
           refine X.retL (q) Tryd.func37 (res2 Tryd.results37 rfl rfl) ⟨_, rfl, by rw [hO], rfl⟩
         · skip
           replace h2 := sp h2
           refine xo 4 ?_
           refine ldA ?_
           refine oo 1 ?_
           refine XO.cF Tryd.call38 (RNext_ok (x := t.ins[n]) (at_ := (n : Int)) (q := []) ⟨by omega, by omega⟩) ?_
           rintro _ _ ⟨a1, c1, rfl, rfl⟩ _ e_; simp only [ca, na] at e_; subst e_
           refine ox 8 ?_
           have hnl := nxt_len t.ins[n] (n : Int)
           refine X.at (X.loop (fun (s : Nat) => s ≤ (nxt t.ins[n] (n : Int)).length ∧ ∀ j (h : j < (nxt t.ins[n] (n : Int)).length), j < s → (nxt t.ins[n] (n : Int))[j] < t.ins.length) (fun s => [(13, .int .i64 (s : Int)), (12, .slice a1 (nxt t.ins[n] (n : Int)).length c1), (9, .int .i64 (effS t.ins[n].c).1), (10, .int .i64 (effS t.ins[n].c).2), (3, .pointer (some ⟨n1, 0, none⟩)), (2, .int .i64 dep), (6, .int .i64 0), (7, .int .i64 0)]) (fun s => pto n1 (.cells (codC t).toArray 35 (0, 0)) :: lsH I64 3 a1 c1 (nxt t.ins[n] (n : Int)) :: (q ++ F)) (fun s => (nxt t.ins[n] (n : Int)).length - s) (fun s hi_ ih => ?_) 0 ⟨Nat.zero_le _, fun j h k => absurd k (Nat.not_lt_zero j)⟩) subA leA
           try dsimp only at hi_ ih ⊢
           obtain ⟨hs0, hP⟩ := hi_
           refine xx 8 ?_
           refine X.part 55 rfl (fun h0 => ?_) (fun h0 => ?_)
           · skip
             replace h0 := sp h0
             have hk : s < (nxt t.ins[n] (n : Int)).length := by omega
             refine X.lsadr (l := nxt t.ins[n] (n : Int)) (by omega) (fun g e_ => ?_); subst e_
             refine xx 5 ?_
             refine drw ?_
             refine dd [0, 1, 2] ?_
             refine ldD 3 ?_ (hc := (Cl.e1 (Sees.lsH _) fndA hk rfl))
             refine dd [4] ?_
             refine ldD 5 ?_
             refine dd [6, 7] ?_
             refine XD.nil ?_
             refine X.part 65 rfl (fun h1 => ?_) (fun h1 => ?_)
             · skip
               replace h1 := sp h1
               refine xx 6 ?_
               have hO : oneS (insT t) n dep = (0, 172) := by
                 have hF : ∃ x ∈ nextS t.ins[n].t n, ((insT t).length : Int) ≤ x := by rw [insT_len, ← nxt_eq]; exact ⟨_, List.getElem_mem hk, by omega⟩
                 unfold oneS; rw [insT_at hn]; dsimp only [Ins.t]; rw [if_neg (by omega), if_neg (by omega)]; exact if_pos hF
               refine X.retL (q) Tryd.func37 (res2 Tryd.results37 rfl rfl) ⟨_, rfl, by rw [hO], rfl⟩
             · skip
               replace h1 := sp h1
               refine xx 8 ?_
               refine X.sb [13, 12, 9, 10, 3, 2, 6, 7] ?_
               refine X.at (ih (s + 1) ⟨by omega, fun j hj k => by rcases Nat.lt_or_ge j s with e | e; exact hP j hj e; obtain rfl : j = s := (by omega); omega⟩ (by omega)) subA leA
           · skip
             replace h0 := sp h0
             refine xx 12 ?_
             have hO : oneS (insT t) n dep = (dep - (effS t.ins[n].c).1 + (effS t.ins[n].c).2, 0) := by
               have hF : ¬ ∃ x ∈ nextS t.ins[n].t n, ((insT t).length : Int) ≤ x := by
                 rintro ⟨x, hx, hx2⟩; rw [insT_len] at hx2; rw [← nxt_eq] at hx; obtain ⟨j, hj, rfl⟩ := List.getElem_of_mem hx; have := hP j hj (by omega); omega
               unfold oneS; rw [insT_at hn]; dsimp only [Ins.t]; rw [if_neg (by omega), if_neg (by omega)]; exact if_neg hF
             refine X.retL (q) Tryd.func37 (res2 Tryd.results37 rfl rfl) ⟨_, rfl, by rw [hO], rfl⟩
end
end Go.Proofs.YtbeeplmgcdnadaaDoor

