/- What functions of package log, of its references and of its laws do: contracts of calls, proved by walking their code. -/
import Derived.Test.YtiehcgmbkjdagaaR
import Derived.Test.YtiehcgmbkjdagaaQ
import Derived.KernelRfl
set_option maxRecDepth 100000
set_option linter.unusedVariables false
set_option linter.unusedSimpArgs false
namespace Go.Proofs.Ytiehcgmbkjdagaa
open Go Go.RowKit Wx

/-! ### the law of there and back -/
/-- The frame may end in spite of its deferred marks ds, whose chunk is D. -/
def MarksOk (P : Program) (G : World) (ds : List Deferred) (D : HP) : Prop := ∀ fn R F u p q0 q1, u ≠ .run → Le q0 (D :: q1) → Lv P G fn R F [] u p q1 → Lv P G fn R F ds u p q0
theorem MarksOk.none {P : Program} {G : World} : MarksOk P G [] (Wx.pure True) := fun _ _ _ _ _ _ _ _ hl h tm w fr cs h1 h2 h3 h4 h5 ag s => h tm w fr cs h1 h2 h3 h4 h5 ag (s.le (hl.trans (Le.drop _ _)))
theorem MarksOk.one {P : Program} {G : World} {r : Nat} : MarksOk P G [markD r] (pto r (.deferred (some []))) := fun _ _ _ _ _ _ _ hu hl h => Lv.mark hu hl h
theorem X.joins {P : Program} {G : World} {f : Fc} {Q : Post} {r c C : Code} {K : List Item} {p : PE} {cs : List Frame} {q : List HP} (p' : PE) (q' : HP → List HP)
    (body : (∀ ds D, MarksOk P G ds D → X P G f Q (.code C :: K) p' ds cs (q' D)) → X P G f Q (.code (.seq r (.seq c C)) :: K) p [] cs q) (tail : ∀ ds D, MarksOk P G ds D → X P G f Q (.code C :: K) p' ds cs (q' D)) : X P G f Q (.code (.seq r (.seq c C)) :: K) p [] cs q := body tail
theorem X.join0 {P : Program} {G : World} {f : Fc} {Q : Post} {c : Code} {K : List Item} {p : PE} {ds : List Deferred} {cs : List Frame} {q : List HP} (p' : PE) (q' : List HP)
    (body : X P G f Q K p' ds cs q' → X P G f Q (.code c :: K) p ds cs q) (tail : X P G f Q K p' ds cs q') : X P G f Q (.code c :: K) p ds cs q := body tail
section
variable {G : World} {q : List HP} {a b e : Option Addr} {c d kc : Nat} {l th : List Int} {t : Tkn} {at_ y : Int}
set_option maxHeartbeats 2000000 in
theorem logBack_ok (hs : Sees q a (t.turns.flatMap tcs)) (ht : Sees q b (th.map (Value.int .i64))) (hl : Sees q e (By l)) (hb : Bs l) (hh : 0 ≤ t.hash ∧ t.hash < 4294967296) (hy : 0 ≤ y ∧ y ≤ 255) : CallF Try.prog G 11 [t.v a c, .slice b th.length d, .agg [.slice e l.length kc, .int .i64 at_, .int .u8 y].toArray] q (Ret fun v q' => v = .bool true ∧ q' = q) := by
  refine CallF.of Try.func11 Try.ntmps11 rfl (fun F cs => ?_)
  refine X.sub (p' := [(0, _), (1, _), (2, _)]) ⟨rfl, rfl, rfl, trivial⟩ ?_
  unfold Tkn.v Tkn.cs
  refine X.seq ?_
  refine X.region ?_
  refine XO.ef (Ef.box rfl) ?_
  rintro _ _ ⟨n1, rfl, rfl⟩
  refine XO.ef (Ef.box rfl) ?_
  rintro _ _ ⟨n2, rfl, rfl⟩
  refine XO.ef (Ef.box rfl) ?_
  rintro _ _ ⟨n3, rfl, rfl⟩
  refine XO.ef (Ef.alloc Try.zeroValue4) ?_
  rintro _ _ ⟨n4, rfl, rfl⟩
  refine XO.nil ?_
  refine X.sub (p' := [(6, _), (5, _), (4, _), (3, _)]) ⟨rfl, rfl, rfl, rfl, trivial⟩ ?_
  refine X.seq ?_
  refine X.seq ?_
  refine X.region ?_
  refine XO.pu (Pu.fieldAddr 23 1 0 rfl Try.underlying29 rfl Try.sizeOf23) ?_
  refine XO.ld Try.isAgg23 ?_
  refine XO.pu (Pu.len rfl Try.underlying23) ?_
  refine XO.pu (Pu.gtr rfl rfl) ?_
  refine XO.pu (Pu.move rfl) ?_
  refine XO.sub (p' := [(27, _), (6, _), (5, _), (4, _), (3, _)]) ⟨rfl, rfl, rfl, rfl, rfl, trivial⟩ ?_
  apply XO.cutOr 4 31 27 rfl
  · skip
    intro g1 M1; have h1 := g1; try simp only [decide_eq_true_eq, decide_eq_false_iff_not, bne_iff_ne, beq_iff_eq, ne_eq, bne_eq_false_iff_eq, beq_eq_false_iff_ne, Bool.not_eq_true', Bool.not_eq_false', Int.not_lt, Int.not_le, Bool.not_not, Bool.and_eq_true, Bool.and_eq_false_iff, Bool.true_and, Bool.and_true, beq_self_eq_true, Bool.or_eq_true, Bool.or_eq_false_iff] at h1
    refine XO.ld Try.isAgg48 ?_
    refine XO.pu (Pu.len rfl Try.underlying48) ?_
    refine XO.pu (Pu.gtr rfl rfl) ?_
    refine XO.pu (Pu.pickF rfl rfl) ?_
    exact XO.fin M1 ⟨orF g1, congrArg (fun x => some (Value.bool x)) g1.symm, rfl, rfl, rfl, rfl, trivial⟩
  · skip
    intro g1 M1; have h1 := g1; try simp only [decide_eq_true_eq, decide_eq_false_iff_not, bne_iff_ne, beq_iff_eq, ne_eq, bne_eq_false_iff_eq, beq_eq_false_iff_ne, Bool.not_eq_true', Bool.not_eq_false', Int.not_lt, Int.not_le, Bool.not_not, Bool.and_eq_true, Bool.and_eq_false_iff, Bool.true_and, Bool.and_true, beq_self_eq_true, Bool.or_eq_true, Bool.or_eq_false_iff] at h1
    refine XO.pass rfl ?_
    refine XO.pass rfl ?_
    refine XO.pass rfl ?_
    refine XO.pu (Pu.pickT rfl rfl) ?_
    exact XO.fin M1 ⟨orT g1, congrArg (fun x => some (Value.bool x)) g1.symm, rfl, rfl, rfl, rfl, trivial⟩
  · skip
    refine XO.pu (Pu.move rfl) ?_
    refine XO.sub (p' := [(32, _), (6, _), (5, _), (4, _), (3, _)]) ⟨rfl, rfl, rfl, rfl, rfl, trivial⟩ ?_
    apply XO.cutOr 5 37 32 rfl
    · skip
      intro g1 M1; have h1 := g1; try simp only [decide_eq_true_eq, decide_eq_false_iff_not, bne_iff_ne, beq_iff_eq, ne_eq, bne_eq_false_iff_eq, beq_eq_false_iff_ne, Bool.not_eq_true', Bool.not_eq_false', Int.not_lt, Int.not_le, Bool.not_not, Bool.and_eq_true, Bool.and_eq_false_iff, Bool.true_and, Bool.and_true, beq_self_eq_true, Bool.or_eq_true, Bool.or_eq_false_iff] at h1
      refine XO.pu (Pu.fieldAddr 31 0 0 rfl Try.underlying63 rfl Try.sizeOf31) ?_
      refine XO.ld Try.isAgg31 ?_
      refine XO.pu (Pu.len rfl Try.underlying31) ?_
      refine XO.pu (Pu.gtr rfl rfl) ?_
      refine XO.pu (Pu.pickF rfl rfl) ?_
      exact XO.fin M1 ⟨orF g1, congrArg (fun x => some (Value.bool x)) g1.symm, rfl, rfl, rfl, rfl, trivial⟩
    · skip
      intro g1 M1; have h1 := g1; try simp only [decide_eq_true_eq, decide_eq_false_iff_not, bne_iff_ne, beq_iff_eq, ne_eq, bne_eq_false_iff_eq, beq_eq_false_iff_ne, Bool.not_eq_true', Bool.not_eq_false', Int.not_lt, Int.not_le, Bool.not_not, Bool.and_eq_true, Bool.and_eq_false_iff, Bool.true_and, Bool.and_true, beq_self_eq_true, Bool.or_eq_true, Bool.or_eq_false_iff] at h1
      refine XO.pass rfl ?_
      refine XO.pass rfl ?_
      refine XO.pass rfl ?_
      refine XO.pass rfl ?_
      refine XO.pu (Pu.pickT rfl rfl) ?_
      exact XO.fin M1 ⟨orT g1, congrArg (fun x => some (Value.bool x)) g1.symm, rfl, rfl, rfl, rfl, trivial⟩
    · skip
      refine XO.nil ?_
      refine X.sub (p' := [(37, _), (6, _), (5, _), (4, _), (3, _)]) ⟨rfl, rfl, rfl, rfl, rfl, trivial⟩ ?_
      refine X.part 37 rfl (fun h0 => ?_) (fun h0 => ?_)
      · skip
        refine X.condT rfl ?_
        refine X.seq ?_
        refine X.region ?_
        refine XO.cF Try.call12 (works_ok) ?_
        rintro _ _ ⟨rfl, rfl⟩ _ e_; simp only [ca, na] at e_; subst e_
        refine XO.ef0 (Ef.st Try.sizeOf4) ?_
        rintro _ _ ⟨rfl, rfl⟩
        refine XO.nil ?_
        refine X.sub (p' := [(6, _), (5, _), (4, _), (3, _)]) ⟨rfl, rfl, rfl, rfl, trivial⟩ ?_
        refine X.retL (q) Try.func11 (resC1 Try.results11 (ResOk.cell rfl (LV.cell Try.isAgg4 clA) ResOk.nil)) ⟨_, rfl, rfl, rfl⟩
      · skip
        try simp only [decide_eq_true_eq, decide_eq_false_iff_not, bne_iff_ne, beq_iff_eq, ne_eq, bne_eq_false_iff_eq, beq_eq_false_iff_ne, Bool.not_eq_true', Bool.not_eq_false', Int.not_lt, Int.not_le, Bool.not_not, Bool.and_eq_true, Bool.and_eq_false_iff, Bool.true_and, Bool.and_true, beq_self_eq_true, Bool.or_eq_true, Bool.or_eq_false_iff] at h0
        have hL1 : t.turns.length ≤ 500 := (by omega); have hL2 : th.length ≤ 1000 := (by omega); have hL3 : l.length ≤ 3000 := (by omega); clear h0
        refine X.condF rfl ?_
        refine X.skip ?_
        refine Go.Proofs.Ytiehcgmbkjdagaa.X.joins [(3, .pointer (some ⟨n1, 0, none⟩)), (5, .pointer (some ⟨n3, 0, none⟩)), (6, .pointer (some ⟨n4, 0, none⟩))] (fun D => pto n1 (.cells (t.cs a c).toArray 29 (0, 0)) :: pto n3 (.cells [.slice e l.length kc, .int .i64 at_, .int .u8 y].toArray 63 (0, 0)) :: pto n4 (.cells [.bool false].toArray 4 (0, 0)) :: D :: (q ++ F)) (fun tl => ?_) (fun ds D hD => ?_)
        · skip
          refine X.seq ?_
          refine X.region ?_
          refine XO.ld Try.isAgg48 ?_
          rcases Decidable.em (∀ x ∈ th, 0 ≤ x ∧ x ≤ 7) with ok | ok
          · skip
            refine XO.cX Try.call23 (Le.refl _) (Turns_ok (th := th) (ht.le leA) (by omega) ok) ?_
            rintro _ _ ⟨a1, c1, rfl, rfl⟩
            refine XO.pu (Pu.move rfl) ?_
            refine XO.pu (Pu.extract rfl rfl) ?_
            refine XO.pu (Pu.extract rfl rfl) ?_
            refine XO.pu (Pu.assign rfl) ?_
            refine XO.pu (Pu.assign rfl) ?_
            refine XO.nil ?_
            refine X.sub (p' := [(8, _), (7, _), (6, _), (5, _), (4, _), (3, _)]) ⟨rfl, rfl, rfl, rfl, rfl, rfl, trivial⟩ ?_
            refine X.seq ?_
            refine X.seq ?_
            refine X.region ?_
            refine XO.pu (Pu.move rfl) ?_
            refine XO.cF Try.call15 (num_ok _) ?_
            rintro _ _ ⟨rfl, rfl⟩ _ e_; simp only [ca, na] at e_; subst e_
            refine XO.pu (Pu.eql rfl rfl) ?_
            refine XO.nil ?_
            refine X.sub (p' := [(46, _), (7, _), (6, _), (5, _), (4, _), (3, _)]) ⟨rfl, rfl, rfl, rfl, rfl, rfl, trivial⟩ ?_
            refine X.know 46 (.bool true) rfl (congrArg Value.bool (by simp)) ?_
            refine X.condT rfl ?_
            refine X.seq ?_
            refine X.region ?_
            refine XO.ef (Ef.alloc Try.zeroValue3) ?_
            rintro _ _ ⟨n5, rfl, rfl⟩
            refine XO.ef0 (Ef.st Try.sizeOf3) ?_
            rintro _ _ ⟨rfl, rfl⟩
            refine XO.nil ?_
            refine X.sub (p' := [(9, _), (7, _), (6, _), (5, _), (4, _), (3, _)]) ⟨rfl, rfl, rfl, rfl, rfl, rfl, trivial⟩ ?_
            refine X.seq ?_
            refine X.seq ?_
            refine X.region ?_
            refine XO.pu (Pu.move rfl) ?_
            have hTL : (turnsOf th).length ≤ 1000 := by have := turnsOf_len th th.length; rw [List.take_length] at this; omega
            have hmax : ∀ x ∈ turnsOf th, x.2 ≤ 9223372036854775807 := fun x hx => by have := turnsOf_steps th th.length x (by rwa [List.take_length]); omega
            have hsl : (stepsL (turnsOf th)).length = th.length := by have := congrArg List.length (stepsL_turns th); simpa using this
            have hms : ((stepsL (turnsOf th)).map svs).length = th.length := by rw [List.length_map, hsl]
            refine XO.cX Try.call28 (Le.refl _) (threads_ok (l := turnsOf th) (a := a1) (c := c1) ((Sees.rsH []).le leA) (by omega)) ?_
            rintro _ _ ⟨p2, a2, c2, rfl, rfl⟩
            refine XO.pu (Pu.eqlFNil rfl Try.underlying59) ?_
            refine XO.nil ?_
            refine X.sub (p' := [(49, _), (9, _), (7, _), (6, _), (5, _), (4, _), (3, _)]) ⟨rfl, rfl, rfl, rfl, rfl, rfl, rfl, trivial⟩ ?_
            refine X.know 49 (.bool false) rfl (congrArg Value.bool (rfl)) ?_
            refine X.condF rfl ?_
            refine X.skip ?_
            refine X.seq ?_
            refine X.seq ?_
            refine X.region ?_
            refine XO.pu (Pu.move rfl) ?_
            refine XO.cX Try.call28 (Le.refl _) (threads_ok (l := turnsOf th) (a := a1) (c := c1) ((Sees.rsH []).le leA) (by omega)) ?_
            rintro _ _ ⟨p3, a3, c3, rfl, rfl⟩
            refine XO.nil ?_
            refine X.sub (p' := [(51, _), (9, _), (6, _), (5, _), (4, _), (3, _)]) ⟨rfl, rfl, rfl, rfl, rfl, rfl, trivial⟩ ?_
            refine X.block ?_
            refine X.le (q' := pto p3 (.cells [.slice a3 (turnsOf th).length c3].toArray 23 (0, 0)) :: rsH tcs 2 57 a3 c3 (turnsOf th) :: _) leA (X.freeze (X.le (q' := rsH tcs 2 57 a3 c3 (turnsOf th) :: im p3 (.cells [.slice a3 (turnsOf th).length c3].toArray 23 (0, 0)) :: _) leA (X.rsFreeze ?_)))
            refine X.range [im p3 (.cells [.slice a3 (turnsOf th).length c3].toArray 23 (0, 0)), rsM tcs 2 57 a3 c3 (turnsOf th)] (fun k : Nat => pto n5 (.cells [.int .i64 (k : Int)].toArray 3 (0, 0)) :: pto n1 (.cells (t.cs a c).toArray 29 (0, 0)) :: pto n2 (.cells [.slice b th.length d].toArray 48 (0, 0)) :: pto n3 (.cells [.slice e l.length kc, .int .i64 at_, .int .u8 y].toArray 63 (0, 0)) :: pto n4 (.cells [.bool false].toArray 4 (0, 0)) :: q) (fun _ _ => False) (F := F) (threads_iter (by omega) hmax) rfl ?_ (by intro x hx; obtain ⟨y, _, rfl⟩ := List.mem_map.1 hx; rfl) rfl (by rw [Try.func11]; rfl) rfl (fun i hi l2 rec F0 cs0 => ?_) (fun r => ?_) (fun _ _ _ hJ => hJ.elim)
            · refine Le.trans (b := [im p3 (.cells [.slice a3 (turnsOf th).length c3].toArray 23 (0, 0)), rsM tcs 2 57 a3 c3 (turnsOf th)] ++ ((pto n5 (.cells [.int .i64 ((0 : Nat) : Int)].toArray 3 (0, 0)) :: pto n1 (.cells (t.cs a c).toArray 29 (0, 0)) :: pto n2 (.cells [.slice b th.length d].toArray 48 (0, 0)) :: pto n3 (.cells [.slice e l.length kc, .int .i64 at_, .int .u8 y].toArray 63 (0, 0)) :: pto n4 (.cells [.bool false].toArray 4 (0, 0)) :: q) ++ F)) ?_ (Le.swapL _ _ _)
              simp only [ca, na]
              exact leA
            · skip
              rw [hms] at hi; have hi' : i < (stepsL (turnsOf th)).length := by omega
              rw [List.getElem_map]
              have hsn : ((stepsL (turnsOf th))[i]'hi').2 = th[i]'hi := by
                have hq := congrArg (fun m : List Int => m[i]?) (stepsL_turns th)
                simp only [List.getElem?_map, List.getElem?_eq_getElem hi', List.getElem?_eq_getElem hi, Option.map_some] at hq
                exact Option.some.inj hq
              generalize (stepsL (turnsOf th))[i]'hi' = z at hsn ⊢; obtain ⟨z1, z2⟩ := z; dsimp only at hsn; subst hsn
              refine X.sub (p' := [(53, _), (52, _), (51, _), (9, _), (6, _), (5, _), (4, _), (3, _)]) ⟨rfl, rfl, rfl, rfl, rfl, rfl, rfl, rfl, trivial⟩ ?_
              simp only [ca, na]
              refine X.region ?_
              refine XO.pu (Pu.assign rfl) ?_
              refine XO.nil ?_
              refine X.sub (p' := [(11, _), (9, _), (6, _), (4, _)]) ⟨rfl, rfl, rfl, rfl, trivial⟩ ?_
              refine X.beginRound rfl leA ?_
              refine X.block ?_
              refine X.seq ?_
              refine X.seq ?_
              refine X.region ?_
              refine XO.ld Try.isAgg3 ?_
              refine XO.ld Try.isAgg48 ?_
              refine XO.pu (Pu.len rfl Try.underlying48) ?_
              refine XO.pu (Pu.geq rfl rfl) ?_
              refine XO.pu (Pu.move rfl) ?_
              refine XO.know 58 (.bool false) rfl (congrArg Value.bool (decide_eq_false (by omega))) ?_
              refine XO.ld Try.isAgg48 ?_
              refine XO.ld Try.isAgg3 ?_
              refine XO.adr ht (by simp; omega) (fun b48 o48 e_ => ?_); subst e_
              refine XO.pu (Pu.indexAddr rfl rfl Try.underlying48 Try.sizeOf3 (by omega) (by omega)) ?_
              refine XO.ld Try.isAgg3 ?_
              refine XO.pu (Pu.move rfl) ?_
              refine XO.pu (Pu.neq rfl rfl) ?_
              refine XO.pu (Pu.pickF rfl rfl) ?_
              refine XO.nil ?_
              refine X.sub (p' := [(65, _), (9, _), (6, _)]) ⟨rfl, rfl, rfl, trivial⟩ ?_
              refine X.know 65 (.bool false) rfl (congrArg Value.bool (by simp)) ?_
              refine X.condF rfl ?_
              refine X.skip ?_
              refine X.region ?_
              refine XO.ld Try.isAgg3 ?_
              refine XO.pu (Pu.add rfl rfl (by omega) (by omega)) ?_
              refine XO.ef0 (Ef.st Try.sizeOf3) ?_
              rintro _ _ ⟨rfl, rfl⟩
              refine XO.nil ?_
              refine X.sub (p' := []) trivial ?_
              refine X.inBlock ?_
              rw [show ((i : Nat) : Int) + 1 = ((i + 1 : Nat) : Int) from rfl]
              refine X.fall ⟨rfl, rfl, ?_⟩
              simp only [ca, na]
              exact leA
            · skip
              rw [hms]
              simp only [ca, na]
              refine X.le (q' := pto n5 (.cells [.int .i64 (th.length : Int)].toArray 3 (0, 0)) :: pto n1 (.cells (t.cs a c).toArray 29 (0, 0)) :: pto n2 (.cells [.slice b th.length d].toArray 48 (0, 0)) :: pto n3 (.cells [.slice e l.length kc, .int .i64 at_, .int .u8 y].toArray 63 (0, 0)) :: pto n4 (.cells [.bool false].toArray 4 (0, 0)) :: pto r (.deferred (some [])) :: (q ++ F)) (Le.trans (b := pto r (.deferred (some [])) :: (pto n5 (.cells [.int .i64 (th.length : Int)].toArray 3 (0, 0)) :: pto n1 (.cells (t.cs a c).toArray 29 (0, 0)) :: pto n2 (.cells [.slice b th.length d].toArray 48 (0, 0)) :: pto n3 (.cells [.slice e l.length kc, .int .i64 at_, .int .u8 y].toArray 63 (0, 0)) :: pto n4 (.cells [.bool false].toArray 4 (0, 0)) :: q ++ F)) leB leA) ?_
              refine X.inBlock ?_
              refine X.seq ?_
              refine X.region ?_
              refine XO.ld Try.isAgg3 ?_
              refine XO.ld Try.isAgg48 ?_
              refine XO.pu (Pu.len rfl Try.underlying48) ?_
              refine XO.pu (Pu.neq rfl rfl) ?_
              refine XO.nil ?_
              refine X.sub (p' := [(71, _), (6, _), (5, _), (3, _)]) ⟨rfl, rfl, rfl, rfl, trivial⟩ ?_
              refine X.know 71 (.bool false) rfl (congrArg Value.bool (by simp)) ?_
              refine X.condF rfl ?_
              refine X.skip ?_
              exact X.sub (p' := [(3, .pointer (some ⟨n1, 0, none⟩)), (5, .pointer (some ⟨n3, 0, none⟩)), (6, .pointer (some ⟨n4, 0, none⟩))]) ⟨rfl, rfl, rfl, trivial⟩ (X.le leA (tl _ _ MarksOk.one))
          · skip
            refine XO.cX Try.call23 (Le.refl _) (Turns_no (th := th) (ht.le leA) (by omega) ok) ?_
            rintro _ _ ⟨rfl, rfl⟩
            refine XO.pu (Pu.move rfl) ?_
            refine XO.pu (Pu.extract rfl rfl) ?_
            refine XO.pu (Pu.extract rfl rfl) ?_
            refine XO.pu (Pu.assign rfl) ?_
            refine XO.pu (Pu.assign rfl) ?_
            refine XO.nil ?_
            refine X.sub (p' := [(8, _), (7, _), (6, _), (5, _), (4, _), (3, _)]) ⟨rfl, rfl, rfl, rfl, rfl, rfl, trivial⟩ ?_
            refine X.seq ?_
            refine X.seq ?_
            refine X.region ?_
            refine XO.pu (Pu.move rfl) ?_
            refine XO.cF Try.call15 (num_ok _) ?_
            rintro _ _ ⟨rfl, rfl⟩ _ e_; simp only [ca, na] at e_; subst e_
            refine XO.pu (Pu.eql rfl rfl) ?_
            refine XO.nil ?_
            refine X.sub (p' := [(46, _), (7, _), (6, _), (5, _), (4, _), (3, _)]) ⟨rfl, rfl, rfl, rfl, rfl, rfl, trivial⟩ ?_
            refine X.know 46 (.bool false) rfl (congrArg Value.bool (by simp)) ?_
            refine X.condF rfl ?_
            refine X.skip ?_
            exact X.sub (p' := [(3, .pointer (some ⟨n1, 0, none⟩)), (5, .pointer (some ⟨n3, 0, none⟩)), (6, .pointer (some ⟨n4, 0, none⟩))]) ⟨rfl, rfl, rfl, trivial⟩ (X.le ((Le.add_pure trivial _).trans leA) (tl _ _ MarksOk.none))
        · skip
          refine X.seq ?_
          refine X.region ?_
          refine XO.pu (Pu.fieldAddr 31 0 0 rfl Try.underlying63 rfl Try.sizeOf31) ?_
          refine XO.ld Try.isAgg31 ?_
          have hsb := sealB_bs hb; have hsl : (sealB l).length = l.length + 4 := (by unfold sealB; rw [List.length_append]; rfl)
          refine XO.cX Try.call20 (Le.refl _) (Sealed_ok (l := l) (hl.le leA) hb (by omega)) ?_
          rintro _ _ ⟨a1, c1, rfl, rfl⟩
          refine XO.fact (fun w s => s.lsLen) (fun hcap => ?_)
          refine XO.pu (Pu.assign rfl) ?_
          refine XO.nil ?_
          refine X.sub (p' := [(12, _), (3, _), (5, _), (6, _)]) ⟨rfl, rfl, rfl, rfl, trivial⟩ ?_
          refine X.seq ?_
          refine X.region ?_
          refine XO.pu (Pu.move rfl) ?_
          refine XO.cX Try.call17 (Le.refl _) (Decode_ok (l := sealB l) (a := a1) (c := c1) ((Sees.lsH []).le leA) hsb (by omega) hcap.1) ?_
          rintro _ _ ⟨v, a2, c2, hv, rfl, rfl⟩
          unfold Tkn.v Tkn.cs
          refine XO.pu (Pu.move rfl) ?_
          refine XO.pu (Pu.extract rfl rfl) ?_
          refine XO.pu (Pu.extract rfl rfl) ?_
          refine XO.ef (Ef.alloc Try.zeroValue29) ?_
          rintro _ _ ⟨n6, rfl, rfl⟩
          refine XO.ef0 (Ef.stA Try.sizeOf29) ?_
          rintro _ _ ⟨rfl, rfl⟩
          refine XO.pu (Pu.assign rfl) ?_
          refine XO.nil ?_
          refine X.sub (p' := [(14, _), (13, _), (12, _), (3, _), (5, _), (6, _)]) ⟨rfl, rfl, rfl, rfl, rfl, rfl, trivial⟩ ?_
          refine X.seq ?_
          refine X.seq ?_
          refine X.region ?_
          refine XO.pu (Pu.move rfl) ?_
          refine XO.cF Try.call15 (num_ok _) ?_
          rintro _ _ ⟨rfl, rfl⟩ _ e_; simp only [ca, na] at e_; subst e_
          refine XO.pu (Pu.eql rfl rfl) ?_
          refine XO.nil ?_
          refine X.sub (p' := [(82, _), (13, _), (12, _), (3, _), (5, _), (6, _)]) ⟨rfl, rfl, rfl, rfl, rfl, rfl, trivial⟩ ?_
          refine Go.Proofs.Ytiehcgmbkjdagaa.X.join0 [(3, .pointer (some ⟨n1, 0, none⟩)), (5, .pointer (some ⟨n3, 0, none⟩)), (6, .pointer (some ⟨n4, 0, none⟩))] (pto n1 (.cells (t.cs a c).toArray 29 (0, 0)) :: pto n3 (.cells [.slice e l.length kc, .int .i64 at_, .int .u8 y].toArray 63 (0, 0)) :: pto n4 (.cells [.bool false].toArray 4 (0, 0)) :: D :: (q ++ F)) (fun tl => ?_) ?_
          · skip
            rcases Decidable.em ((decP (sealB l)).2 = 0) with hz | hz
            · skip
              obtain ⟨t0, hd, ok0, hh0, he0⟩ := decP_inv hsb hz; obtain rfl : v = t0 := by rw [hv, hd]; rfl
              refine X.know 82 (.bool true) rfl (congrArg Value.bool (by rw [hd]; rfl)) ?_
              refine X.condT rfl ?_
              refine X.seq ?_
              refine X.region ?_
              refine XO.ldA Try.isAgg29 Try.sizeOf29 ?_
              refine XO.cX Try.call13 (Le.refl _) (Encode_ok (t := v) (a := a2) (c := c2) ((Sees.rsH []).le leA) ok0 hh0) ?_
              rintro _ _ ⟨a3, c3, rfl, rfl⟩
              refine XO.pu (Pu.move rfl) ?_
              refine XO.pu (Pu.extract rfl rfl) ?_
              refine XO.pu (Pu.extract rfl rfl) ?_
              refine XO.pu (Pu.assign rfl) ?_
              refine XO.pu (Pu.assign rfl) ?_
              refine XO.nil ?_
              refine X.sub (p' := [(16, _), (15, _), (12, _), (3, _), (5, _), (6, _)]) ⟨rfl, rfl, rfl, rfl, rfl, rfl, trivial⟩ ?_
              refine X.seq ?_
              refine X.region ?_
              refine XO.pu (Pu.move rfl) ?_
              refine XO.cF Try.call15 (num_ok _) ?_
              rintro _ _ ⟨rfl, rfl⟩ _ e_; simp only [ca, na] at e_; subst e_
              refine XO.pu (Pu.neq rfl rfl) ?_
              refine XO.pu (Pu.move rfl) ?_
              refine XO.know 91 (.bool false) rfl (congrArg Value.bool (rfl)) ?_
              refine XO.pu (Pu.move rfl) ?_
              have hbl0 := encB_len ok0; have hbs0 := encB_bs ok0
              refine XO.toStr (encB v) Try.underlying31 Try.underlying5 Try.underlying9 ((Sees.lsH []).le leA) ?_
              refine XO.pu (Pu.move rfl) ?_
              refine XO.toStr (sealB l) Try.underlying31 Try.underlying5 Try.underlying9 ((Sees.lsH []).le leA) ?_
              refine XO.pu (Pu.neqS rfl rfl) ?_
              refine XO.pu (Pu.pickF rfl rfl) ?_
              refine XO.nil ?_
              refine X.sub (p' := [(97, _), (3, _), (5, _), (6, _)]) ⟨rfl, rfl, rfl, rfl, trivial⟩ ?_
              refine X.know 97 (.bool false) rfl (congrArg Value.bool (by simp [he0])) ?_
              refine X.condF rfl ?_
              refine X.skip ?_
              exact X.sub (p' := [(3, .pointer (some ⟨n1, 0, none⟩)), (5, .pointer (some ⟨n3, 0, none⟩)), (6, .pointer (some ⟨n4, 0, none⟩))]) ⟨rfl, rfl, rfl, trivial⟩ (X.le leA tl)
            · skip
              refine X.know 82 (.bool false) rfl (congrArg Value.bool (by simpa using hz)) ?_
              refine X.condF rfl ?_
              refine X.skip ?_
              exact X.sub (p' := [(3, .pointer (some ⟨n1, 0, none⟩)), (5, .pointer (some ⟨n3, 0, none⟩)), (6, .pointer (some ⟨n4, 0, none⟩))]) ⟨rfl, rfl, rfl, trivial⟩ (X.le leA tl)
          · skip
            clear hv hcap hsb hsl
            refine X.seq ?_
            refine X.region ?_
            refine XO.ldA Try.isAgg29 Try.sizeOf29 ?_
            rcases Decidable.em (okT t) with ok | ok
            · skip
              refine XO.cX Try.call13 (Le.refl _) (Encode_ok (t := t) (a := a) (c := c) (hs.le leA) ok hh) ?_
              rintro _ _ ⟨a3, c3, rfl, rfl⟩
              refine XO.fact (fun w s => s.lsLen) (fun hcap => ?_)
              have hbl := encB_len ok; have hbs := encB_bs ok; have hbg := encB_big t
              refine XO.pu (Pu.move rfl) ?_
              refine XO.pu (Pu.extract rfl rfl) ?_
              refine XO.pu (Pu.extract rfl rfl) ?_
              refine XO.pu (Pu.assign rfl) ?_
              refine XO.pu (Pu.assign rfl) ?_
              refine XO.nil ?_
              refine X.sub (p' := [(18, _), (17, _), (3, _), (5, _), (6, _)]) ⟨rfl, rfl, rfl, rfl, rfl, trivial⟩ ?_
              refine X.seq ?_
              refine X.seq ?_
              refine X.region ?_
              refine XO.pu (Pu.move rfl) ?_
              refine XO.cF Try.call15 (num_ok _) ?_
              rintro _ _ ⟨rfl, rfl⟩ _ e_; simp only [ca, na] at e_; subst e_
              refine XO.pu (Pu.neq rfl rfl) ?_
              refine XO.nil ?_
              refine X.sub (p' := [(105, _), (17, _), (3, _), (5, _), (6, _)]) ⟨rfl, rfl, rfl, rfl, rfl, trivial⟩ ?_
              refine X.know 105 (.bool false) rfl (congrArg Value.bool (rfl)) ?_
              refine X.condF rfl ?_
              refine X.skip ?_
              refine X.seq ?_
              refine X.region ?_
              refine XO.pu (Pu.move rfl) ?_
              refine XO.cX Try.call17 (Le.refl _) (Decode_ok (l := encB t) (a := a3) (c := c3) ((Sees.lsH []).le leA) hbs (by omega) hcap.1) ?_
              rintro _ _ ⟨v, a4, c4, hv, rfl, rfl⟩
              rw [decP_encB ok hh] at hv ⊢; have hv : v = t := hv; subst v
              unfold Tkn.v Tkn.cs
              refine XO.pu (Pu.move rfl) ?_
              refine XO.pu (Pu.extract rfl rfl) ?_
              refine XO.pu (Pu.extract rfl rfl) ?_
              refine XO.ef (Ef.alloc Try.zeroValue29) ?_
              rintro _ _ ⟨n7, rfl, rfl⟩
              refine XO.ef0 (Ef.stA Try.sizeOf29) ?_
              rintro _ _ ⟨rfl, rfl⟩
              refine XO.pu (Pu.assign rfl) ?_
              refine XO.nil ?_
              refine X.sub (p' := [(20, _), (19, _), (17, _), (3, _), (5, _), (6, _)]) ⟨rfl, rfl, rfl, rfl, rfl, rfl, trivial⟩ ?_
              refine X.seq ?_
              refine X.seq ?_
              refine X.region ?_
              refine XO.pu (Pu.move rfl) ?_
              refine XO.cF Try.call15 (num_ok _) ?_
              rintro _ _ ⟨rfl, rfl⟩ _ e_; simp only [ca, na] at e_; subst e_
              refine XO.pu (Pu.neq rfl rfl) ?_
              refine XO.pu (Pu.move rfl) ?_
              refine XO.know 120 (.bool false) rfl (congrArg Value.bool (rfl)) ?_
              refine XO.ldA Try.isAgg29 Try.sizeOf29 ?_
              refine XO.ldA Try.isAgg29 Try.sizeOf29 ?_
              refine XO.lsadr (l := encB t) (fl := Value.int .u8) (by omega) (fun g5 e_ => ?_); subst e_
              refine XO.cR Try.call27 (Same_ok (t := t) (u := t) (a := a4) (b := a) ((Sees.rsH []).le leA) (hs.le leA) (by omega)) ?_
              refine XO.pu (Pu.not rfl) ?_
              refine XO.pu (Pu.pickF rfl rfl) ?_
              refine XO.nil ?_
              refine X.sub (p' := [(125, _), (17, _), (5, _), (6, _)]) ⟨rfl, rfl, rfl, rfl, trivial⟩ ?_
              refine X.know 125 (.bool false) rfl (congrArg Value.bool (by simp)) ?_
              refine X.condF rfl ?_
              refine X.skip ?_
              refine X.seq ?_
              refine X.seq ?_
              refine X.draw [] Try.mixed (by kernel_rfl) (by kernel_rfl) rfl ?_
              refine XD.pu 0 rfl (Pu.fieldAddr 3 1 0 rfl Try.underlying63 rfl Try.sizeOf3) ?_
              refine XD.ld 1 Try.isAgg3 ?_
              refine XD.pu 2 rfl (Pu.lss rfl rfl) ?_
              refine XD.pu 3 rfl (Pu.move rfl) ?_
              rcases Decidable.em (at_ < 0) with h1 | h1
              · skip
                refine XD.know 129 (.bool true) rfl (congrArg Value.bool (decide_eq_true h1)) ?_
                refine XD.pass 4 rfl ?_
                refine XD.pass 5 rfl ?_
                refine XD.pass 6 rfl ?_
                refine XD.pass 7 rfl ?_
                refine XD.pass 8 rfl ?_
                refine XD.pu 9 rfl (Pu.pickT rfl rfl) ?_
                refine XD.pu 10 rfl (Pu.move rfl) ?_
                refine XD.pass 11 rfl ?_
                refine XD.pass 12 rfl ?_
                refine XD.pass 13 rfl ?_
                refine XD.pass 14 rfl ?_
                refine XD.pass 15 rfl ?_
                refine XD.pass 16 rfl ?_
                refine XD.pass 17 rfl ?_
                refine XD.pass 18 rfl ?_
                refine XD.pu 19 rfl (Pu.pickT rfl rfl) ?_
                refine XD.nil ?_
                refine X.sub (p' := [(145, _), (17, _), (5, _), (6, _)]) ⟨rfl, rfl, rfl, rfl, trivial⟩ ?_
                refine X.condT rfl ?_
                refine X.seq ?_
                refine X.region ?_
                refine XO.cF Try.call12 (works_ok) ?_
                rintro _ _ ⟨rfl, rfl⟩ _ e_; simp only [ca, na] at e_; subst e_
                refine XO.ef0 (Ef.st Try.sizeOf4) ?_
                rintro _ _ ⟨rfl, rfl⟩
                refine XO.nil ?_
                refine X.sub (p' := [(17, _), (5, _), (6, _)]) ⟨rfl, rfl, rfl, trivial⟩ ?_
                refine X.ret ⟨rfl, hD _ _ _ _ _ _ (pto n4 (.cells [.bool true].toArray 4 (0, 0)) :: (q ++ F)) (by simp) leA ?_⟩
                exact Lv.ret (q' := q) Try.func11 (resC1 Try.results11 (ResOk.cell rfl (LV.cell Try.isAgg4 clA) ResOk.nil)) ⟨_, rfl, rfl, rfl⟩ leA
              · skip
                refine XD.know 129 (.bool false) rfl (congrArg Value.bool (decide_eq_false h1)) ?_
                refine XD.pu 4 rfl (Pu.fieldAddr 3 1 0 rfl Try.underlying63 rfl Try.sizeOf3) ?_
                refine XD.ld 5 Try.isAgg3 ?_
                refine XD.pu 6 rfl (Pu.move rfl) ?_
                refine XD.pu 7 rfl (Pu.len rfl Try.underlying31) ?_
                refine XD.pu 8 rfl (Pu.geq rfl rfl) ?_
                refine XD.pu 9 rfl (Pu.pickF rfl rfl) ?_
                refine XD.pu 10 rfl (Pu.move rfl) ?_
                rcases Decidable.em (((encB t).length : Int) ≤ at_) with h2 | h2
                · skip
                  refine XD.know 136 (.bool true) rfl (congrArg Value.bool (decide_eq_true h2)) ?_
                  refine XD.pass 11 rfl ?_
                  refine XD.pass 12 rfl ?_
                  refine XD.pass 13 rfl ?_
                  refine XD.pass 14 rfl ?_
                  refine XD.pass 15 rfl ?_
                  refine XD.pass 16 rfl ?_
                  refine XD.pass 17 rfl ?_
                  refine XD.pass 18 rfl ?_
                  refine XD.pu 19 rfl (Pu.pickT rfl rfl) ?_
                  refine XD.nil ?_
                  refine X.sub (p' := [(145, _), (17, _), (5, _), (6, _)]) ⟨rfl, rfl, rfl, rfl, trivial⟩ ?_
                  refine X.condT rfl ?_
                  refine X.seq ?_
                  refine X.region ?_
                  refine XO.cF Try.call12 (works_ok) ?_
                  rintro _ _ ⟨rfl, rfl⟩ _ e_; simp only [ca, na] at e_; subst e_
                  refine XO.ef0 (Ef.st Try.sizeOf4) ?_
                  rintro _ _ ⟨rfl, rfl⟩
                  refine XO.nil ?_
                  refine X.sub (p' := [(17, _), (5, _), (6, _)]) ⟨rfl, rfl, rfl, trivial⟩ ?_
                  refine X.ret ⟨rfl, hD _ _ _ _ _ _ (pto n4 (.cells [.bool true].toArray 4 (0, 0)) :: (q ++ F)) (by simp) leA ?_⟩
                  exact Lv.ret (q' := q) Try.func11 (resC1 Try.results11 (ResOk.cell rfl (LV.cell Try.isAgg4 clA) ResOk.nil)) ⟨_, rfl, rfl, rfl⟩ leA
                · skip
                  obtain ⟨n, rfl⟩ := Int.eq_ofNat_of_zero_le (show 0 ≤ at_ by omega); have hn : n < (encB t).length := (by omega)
                  refine XD.know 136 (.bool false) rfl (congrArg Value.bool (decide_eq_false h2)) ?_
                  refine XD.pu 11 rfl (Pu.move rfl) ?_
                  refine XD.pu 12 rfl (Pu.fieldAddr 3 1 0 rfl Try.underlying63 rfl Try.sizeOf3) ?_
                  refine XD.ld 13 Try.isAgg3 ?_ (hc := (by first | exact clA | exact Cl.e1 (n := n) (Sees.lsH (f := Value.int .u8) (l := encB t) (ty := 5) (a := some ⟨g5, 0, none⟩) (c := c3) []) leA hn rfl))
                  refine XD.pu 14 rfl (Pu.indexAddr rfl rfl Try.underlying31 Try.sizeOf5 (by omega) (by omega)) ?_
                  refine XD.ld 15 Try.isAgg5 ?_ (hc := (by first | exact clA | exact Cl.e1 (n := n) (Sees.lsH (f := Value.int .u8) (l := encB t) (ty := 5) (a := some ⟨g5, 0, none⟩) (c := c3) []) leA hn rfl))
                  refine XD.pu 16 rfl (Pu.fieldAddr 5 2 0 rfl Try.underlying63 rfl Try.sizeOf5) ?_
                  refine XD.ld 17 Try.isAgg5 ?_ (hc := (by first | exact clA | exact Cl.e1 (n := n) (Sees.lsH (f := Value.int .u8) (l := encB t) (ty := 5) (a := some ⟨g5, 0, none⟩) (c := c3) []) leA hn rfl))
                  refine XD.pu 18 rfl (Pu.eql rfl rfl) ?_
                  refine XD.pu 19 rfl (Pu.pickF rfl rfl) ?_
                  refine XD.nil ?_
                  refine X.sub (p' := [(145, _), (17, _), (5, _), (6, _)]) ⟨rfl, rfl, rfl, rfl, trivial⟩ ?_
                  rcases Decidable.em ((encB t)[n]'hn = y) with h3 | h3
                  · skip
                    refine X.know 145 (.bool true) rfl (congrArg Value.bool (by simpa using h3)) ?_
                    refine X.condT rfl ?_
                    refine X.seq ?_
                    refine X.region ?_
                    refine XO.cF Try.call12 (works_ok) ?_
                    rintro _ _ ⟨rfl, rfl⟩ _ e_; simp only [ca, na] at e_; subst e_
                    refine XO.ef0 (Ef.st Try.sizeOf4) ?_
                    rintro _ _ ⟨rfl, rfl⟩
                    refine XO.nil ?_
                    refine X.sub (p' := [(17, _), (5, _), (6, _)]) ⟨rfl, rfl, rfl, trivial⟩ ?_
                    refine X.ret ⟨rfl, hD _ _ _ _ _ _ (pto n4 (.cells [.bool true].toArray 4 (0, 0)) :: (q ++ F)) (by simp) leA ?_⟩
                    exact Lv.ret (q' := q) Try.func11 (resC1 Try.results11 (ResOk.cell rfl (LV.cell Try.isAgg4 clA) ResOk.nil)) ⟨_, rfl, rfl, rfl⟩ leA
                  · skip
                    refine X.know 145 (.bool false) rfl (congrArg Value.bool (by simpa using h3)) ?_
                    refine X.condF rfl ?_
                    refine X.skip ?_
                    refine X.seq ?_
                    refine X.region ?_
                    refine XO.pu (Pu.move rfl) ?_
                    refine XO.pu (Pu.fieldAddr 3 1 0 rfl Try.underlying63 rfl Try.sizeOf3) ?_
                    refine XO.ld Try.isAgg3 ?_
                    refine XO.pu (Pu.fieldAddr 5 2 0 rfl Try.underlying63 rfl Try.sizeOf5) ?_
                    refine XO.ld Try.isAgg5 ?_
                    refine XO.pu (Pu.indexAddr rfl rfl Try.underlying31 Try.sizeOf5 (by omega) (by omega)) ?_
                    refine XO.ef0 (Ef.setL (f := Value.int .u8) (l := encB t) (u := y) (n := n) rfl rfl Try.sizeOf5 rfl hn rfl rfl fndA) ?_
                    rintro _ _ ⟨rfl, rfl⟩
                    have hbp : Bs (encP t) := fun z hz => hbs z (by unfold encB sealB; exact List.mem_append.2 (.inl hz))
                    have hbb : Bs ((encB t).set n y) := by intro z hz; rcases List.mem_or_eq_of_mem_set hz with hz | rfl; exact hbs z hz; exact hy
                    have hlb : ((encB t).set n y).length = (encB t).length := List.length_set
                    refine XO.nil ?_
                    refine X.sub (p' := [(17, _), (6, _)]) ⟨rfl, rfl, trivial⟩ ?_
                    refine X.seq ?_
                    refine X.region ?_
                    refine XO.pu (Pu.move rfl) ?_
                    refine XO.know 154 (.slice (some ⟨g5, 0, none⟩) ((encB t).set n y).length c3) rfl (by rw [hlb]) ?_
                    refine XO.cX Try.call17 (Le.refl _) (Decode_ok (l := (encB t).set n y) (a := some ⟨g5, 0, none⟩) (c := c3) ((Sees.lsH _).le leA) hbb (by rw [hlb]; omega) (by rw [hlb]; exact hcap.1)) ?_
                    rintro _ _ ⟨v2, a5, c5, hv2, rfl, rfl⟩
                    rw [decP_rot ok hh hbp hn hy h3]; unfold Tkn.v Tkn.cs
                    refine XO.pu (Pu.move rfl) ?_
                    refine XO.pu (Pu.extract rfl rfl) ?_
                    refine XO.pu (Pu.extract rfl rfl) ?_
                    refine XO.ef (Ef.alloc Try.zeroValue29) ?_
                    rintro _ _ ⟨n8, rfl, rfl⟩
                    refine XO.ef0 (Ef.stA Try.sizeOf29) ?_
                    rintro _ _ ⟨rfl, rfl⟩
                    refine XO.pu (Pu.assign rfl) ?_
                    refine XO.nil ?_
                    refine X.sub (p' := [(22, _), (6, _)]) ⟨rfl, rfl, trivial⟩ ?_
                    refine X.seq ?_
                    refine X.region ?_
                    refine XO.pu (Pu.move rfl) ?_
                    refine XO.cF Try.call15 (num_ok _) ?_
                    rintro _ _ ⟨rfl, rfl⟩ _ e_; simp only [ca, na] at e_; subst e_
                    refine XO.pu (Pu.eql rfl rfl) ?_
                    refine XO.pu (Pu.move rfl) ?_
                    refine XO.know 161 (.bool true) rfl (congrArg Value.bool (rfl)) ?_
                    refine XO.cF Try.call12 (works_ok) ?_
                    rintro _ _ ⟨rfl, rfl⟩ _ e_; simp only [ca, na] at e_; subst e_
                    refine XO.pu (Pu.pickT rfl rfl) ?_
                    refine XO.ef0 (Ef.st Try.sizeOf4) ?_
                    rintro _ _ ⟨rfl, rfl⟩
                    refine XO.nil ?_
                    refine X.sub (p' := [(6, _)]) ⟨rfl, trivial⟩ ?_
                    refine X.ret ⟨rfl, hD _ _ _ _ _ _ (pto n4 (.cells [.bool true].toArray 4 (0, 0)) :: (q ++ F)) (by simp) leA ?_⟩
                    exact Lv.ret (q' := q) Try.func11 (resC1 Try.results11 (ResOk.cell rfl (LV.cell Try.isAgg4 clA) ResOk.nil)) ⟨_, rfl, rfl, rfl⟩ leA
            · skip
              refine XO.cX Try.call13 (Le.refl _) (Encode_no (t := t) (a := a) (c := c) (hs.le leA) ok) ?_
              rintro _ _ ⟨rfl, rfl⟩
              refine XO.pu (Pu.move rfl) ?_
              refine XO.pu (Pu.extract rfl rfl) ?_
              refine XO.pu (Pu.extract rfl rfl) ?_
              refine XO.pu (Pu.assign rfl) ?_
              refine XO.pu (Pu.assign rfl) ?_
              refine XO.nil ?_
              refine X.sub (p' := [(18, _), (17, _), (3, _), (5, _), (6, _)]) ⟨rfl, rfl, rfl, rfl, rfl, trivial⟩ ?_
              refine X.seq ?_
              refine X.seq ?_
              refine X.region ?_
              refine XO.pu (Pu.move rfl) ?_
              refine XO.cF Try.call15 (num_ok _) ?_
              rintro _ _ ⟨rfl, rfl⟩ _ e_; simp only [ca, na] at e_; subst e_
              refine XO.pu (Pu.neq rfl rfl) ?_
              refine XO.nil ?_
              refine X.sub (p' := [(105, _), (17, _), (3, _), (5, _), (6, _)]) ⟨rfl, rfl, rfl, rfl, rfl, trivial⟩ ?_
              refine X.know 105 (.bool true) rfl (congrArg Value.bool (rfl)) ?_
              refine X.condT rfl ?_
              refine X.seq ?_
              refine X.region ?_
              refine XO.pu (Pu.move rfl) ?_
              refine XO.pu (Pu.len rfl Try.underlying31) ?_
              refine XO.pu (Pu.eql rfl rfl) ?_
              refine XO.pu (Pu.move rfl) ?_
              refine XO.know 109 (.bool true) rfl (congrArg Value.bool (rfl)) ?_
              refine XO.cF Try.call12 (works_ok) ?_
              rintro _ _ ⟨rfl, rfl⟩ _ e_; simp only [ca, na] at e_; subst e_
              refine XO.pu (Pu.pickT rfl rfl) ?_
              refine XO.ef0 (Ef.st Try.sizeOf4) ?_
              rintro _ _ ⟨rfl, rfl⟩
              refine XO.nil ?_
              refine X.sub (p' := [(17, _), (3, _), (5, _), (6, _)]) ⟨rfl, rfl, rfl, rfl, trivial⟩ ?_
              refine X.ret ⟨rfl, hD _ _ _ _ _ _ (pto n4 (.cells [.bool true].toArray 4 (0, 0)) :: (q ++ F)) (by simp) leA ?_⟩
              exact Lv.ret (q' := q) Try.func11 (resC1 Try.results11 (ResOk.cell rfl (LV.cell Try.isAgg4 clA) ResOk.nil)) ⟨_, rfl, rfl, rfl⟩ leA
end
end Go.Proofs.Ytiehcgmbkjdagaa

