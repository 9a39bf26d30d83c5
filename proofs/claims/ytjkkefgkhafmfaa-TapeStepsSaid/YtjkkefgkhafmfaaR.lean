/- What functions of package tape, of its references and of its laws do: contracts of calls, proved by walking their code. -/
import Derived.Test.YtjkkefgkhafmfaaP
import Derived.Test.YtjkkefgkhafmfaaM
import Derived.KernelRfl
set_option maxRecDepth 100000
set_option linter.unusedVariables false
set_option linter.unusedSimpArgs false
namespace Go.Proofs.Ytjkkefgkhafmfaa
open Go Go.RowKit Wx
attribute [local irreducible] Wx.lsH Wx.rsH Wx.lsM Wx.rsM Wx.stars

theorem Le.swapL : ∀ a b c : List HP, Le (a ++ (b ++ c)) (b ++ (a ++ c))
  | [], _, _ => Le.refl _
  | A :: a, b, c => by
    refine Le.trans (Le.cons A (Le.swapL a b c)) ?_
    have go : ∀ (b d : List HP), Le (A :: (b ++ d)) (b ++ (A :: d)) := by
      intro b d
      induction b with
      | nil => exact Le.refl _
      | cons B b ih => exact Le.trans (Le.swap A B (b ++ d)) (Le.cons B ih)
    exact go b (a ++ c)
theorem Le.pushR (A : HP) (b d : List HP) : Le (A :: (b ++ d)) (b ++ (A :: d)) := Le.swapL [A] b d
theorem Le.pullD : ∀ q pre F : List HP, Le (q ++ (pre ++ F)) (q ++ F) := fun q pre F => Le.append_left q (by
  induction pre with
  | nil => exact Le.refl _
  | cons A r ih => exact Le.lose ih)
theorem Le.pullR (q pre F : List HP) (A : HP) : Le (q ++ (pre ++ (A :: F))) (A :: (q ++ F)) := (Le.pullD q pre (A :: F)).trans (Le.swapL q [A] F)
theorem Le.pullD3 (q F : List HP) (A B C : HP) : Le (q ++ (A :: B :: C :: F)) (q ++ F) := Le.pullD q [A, B, C] F
theorem leB {q q' : List HP} (h : Le q q' := by repeat (first | exact Le.refl _ | exact Le.pushR _ _ _ | exact Le.pullD3 _ _ _ _ _ | (apply Le.pick; · (repeat first | exact Le.here _ _ | apply Le.there)) | refine Le.lose ?_)) : Le q q' := h
section
variable {G : World} {q : List HP} {l m : List Turn} {t u : Tkn} {a b A : Option Addr} {c d C p p0 p1 p2 p3 i : Nat} {step many : Int}
set_option maxHeartbeats 4000000 in
theorem tapeSteps_ok (hs : Sees q a (t.turns.flatMap tcs)) : CallF Try.prog G 4 [t.v a c, .int .i64 step, .int .i64 many] (q) (Ret fun v q' => v = .bool true ∧ q' = q) := by
  refine CallF.of Try.func4 Try.ntmps4 rfl (fun F cs => ?_)
  unfold Tkn.v
  have hlen := flatMap_len (f := tcs) (sz := 2) (fun _ => rfl) t.turns
  refine xo 2 ?_
  refine XO.ef (Ef.box rfl) ?_
  rintro _ _ ⟨n1, rfl, rfl⟩
  refine XO.ef (Ef.box rfl) ?_
  rintro _ _ ⟨n2, rfl, rfl⟩
  refine XO.ef (Ef.alloc Try.zeroValue4) ?_
  rintro _ _ ⟨n3, rfl, rfl⟩
  refine oo 4 ?_
  refine XO.ldA Try.isAgg32 Try.sizeOf32 ?_
  refine XO.cF Try.call6 (few_ok (t := t) (a := a) (c := c)) ?_
  rintro _ _ ⟨rfl, rfl⟩ _ e_; simp only [ca, na] at e_; subst e_
  refine XO.pu (Pu.not rfl) ?_
  refine ox 1 ?_
  refine X.part 21 rfl (fun h0 => ?_) (fun h0 => ?_)
  · skip
    refine xo 3 ?_
    refine XO.cF Try.call5 (known_ok) ?_
    rintro _ _ ⟨rfl, rfl⟩ _ e_; simp only [ca, na] at e_; subst e_
    refine XO.ef0 (Ef.st Try.sizeOf4) ?_
    rintro _ _ ⟨rfl, rfl⟩
    refine ox 1 ?_
    refine X.retL (q) Try.func4 (resC1 Try.results4 (ResOk.cell rfl (LV.cell Try.isAgg4 clA) ResOk.nil)) ⟨_, rfl, rfl, rfl⟩
  · skip
    replace h0 := sp h0
    have hL : t.turns.length ≤ 40 := by first | exact h0 | (simpa using h0)
    refine xo 4 ?_
    refine XO.ldA Try.isAgg32 Try.sizeOf32 ?_
    refine oo 1 ?_
    refine XO.cX Try.call11 (Le.refl _) (At_ok (t := t) (st := step) (a := a) (c := c) (hs.le leA)) ?_
    rintro _ _ ⟨(⟨hv, rfl⟩ | ⟨hv, rfl⟩), rfl⟩
    · skip
      refine oo 10 ?_
      refine XO.ldA Try.isAgg32 Try.sizeOf32 ?_
      refine oo 1 ?_
      refine XO.cX Try.call12 (Le.refl _) (RAt_ok (t := t) (st := step) (a := a) (c := c) (hs.le leA)) ?_
      rintro _ _ ⟨(⟨hw, rfl⟩ | ⟨hw, rfl⟩), rfl⟩
      rotate_left; exact absurd hv hw
      have hai := atT_lt hv.2.2 hv.2.1; have hgd : t.turns.getD (atT t.turns step) zT = t.turns[atT t.turns step] := by simp [List.getD, List.getElem?_eq_getElem hai]
      rw [hgd]
      refine oo 10 ?_
      refine XO.know 37 (.bool false) rfl (congrArg Value.bool (by first | rfl | (simp; done) | (simp; omega))) ?_
      refine oo 3 ?_
      refine XO.know 40 (.bool true) rfl (congrArg Value.bool (by first | rfl | (simp; done) | (simp; omega))) ?_
      refine oo 2 ?_
      refine XO.ld Try.isAgg26 ?_
      refine XO.adr hs (by rw [hlen]; omega) (fun b1 o1 eA => ?_)
      have hsA := hs; rw [eA] at hsA
      refine XO.know 43 (.slice (some ⟨b1, o1, none⟩) t.turns.length c) rfl (by rw [eA]) ?_
      refine oo 3 ?_
      refine XO.ld Try.isAgg3 ?_ (hc := (Cl.row (f := tcs) (sz := 2) (n := atT t.turns step) hsA leA (fun _ => rfl) hai rfl 0 _ rfl))
      refine oo 2 ?_
      refine XO.know 49 (.bool false) rfl (congrArg Value.bool (by first | rfl | (simp; done) | (simp; omega))) ?_
      refine oo 7 ?_
      refine XO.know 56 (.bool false) rfl (congrArg Value.bool (by first | rfl | (simp; done) | (simp; omega))) ?_
      refine oo 3 ?_
      refine XO.know 59 (.bool false) rfl (congrArg Value.bool (decide_eq_false (by omega))) ?_
      refine oo 13 ?_
      refine XO.ldA Try.isAgg32 Try.sizeOf32 ?_
      by_cases ok : okT t
      rotate_left
      · skip
        exact absurd hv.1 ok
      · skip
        obtain ⟨c0, c1, c2, c3, c4, c5, c6, c7, hC⟩ := list8 (cntA_len t.turns); obtain ⟨hS1, hS2, hS3⟩ := okT_sum ok; have hS4 : ∀ x ∈ t.turns, 1 ≤ x.2 := fun x hx => (hS3 x hx).1
        refine XO.cX Try.call13 (Le.refl _) (Count_ok (t := t) (a := a) (c := c) (hs.le leA)) ?_
        rintro _ _ ⟨rfl, rfl⟩
        rw [if_pos ok, hC]
        refine oo 3 ?_
        refine XO.ef (Ef.alloc Try.zeroValue46) ?_
        rintro _ _ ⟨n4, rfl, rfl⟩
        refine XO.ef0 (Ef.stA Try.sizeOf46) ?_
        rintro _ _ ⟨rfl, rfl⟩
        refine oo 4 ?_
        refine XO.ldA Try.isAgg32 Try.sizeOf32 ?_
        refine oo 1 ?_
        refine XO.cX Try.call14 (Le.refl _) (Steps_ok (t := t) (fr := step) (a := a) (c := c) (hs.le leA)) ?_
        rintro _ _ (⟨hlo, rfl, rfl⟩ | ⟨_, hlt, p2, p3, a2, d2, rfl, rfl⟩)
        · skip
          have hlo : sumT t.turns ≤ max step 0 := by rcases hlo with h | h; exact absurd ok h; exact h
          refine oo 6 ?_
          refine XO.pu (Pu.eqlFNil rfl Try.underlying50) ?_
          refine ox 1 ?_
          refine X.sb [77, 13, 12, 11, 6, 5, 3, 1] ?_
          refine X.know 77 (.bool false) rfl (congrArg Value.bool (by first | rfl | simp)) ?_
          refine xo 5 ?_
          refine XO.ldA Try.isAgg32 Try.sizeOf32 ?_
          refine XO.cR Try.call15 (RCheck_ok (t := t) (a := a) (c := c) (hs.le leA)) ?_
          refine ox 2 ?_
          refine X.know 80 (.bool false) rfl (congrArg Value.bool (by have h := chk_iff.2 ok; simpa using h)) ?_
          refine xx 4 ?_
          refine X.draw [] Try.mixed (by kernel_rfl) (by kernel_rfl) rfl ?_
          refine XD.loadA 0 rfl rfl Try.isAgg46 Try.sizeOf46 hasA (by rfl) ?_
          refine XD.loadA 1 rfl rfl Try.isAgg32 Try.sizeOf32 hasA (by rfl) ?_
          refine XD.cX 2 Try.call16 (Le.refl _) (RCount_ok (t := t) (a := a) (c := c) (hs.le leA) ok) ?_
          rintro _ _ ⟨rfl, rfl⟩
          refine ⟨hlA, ?_⟩
          refine XD.pu 3 rfl (Pu.neqA rfl rfl (by kernel_rfl) (EqV.ints (xs := [c0, c1, c2, c3, c4, c5, c6, c7]) (ys := cntA t.turns) Try.underlying46 rfl rfl Try.underlying3 Try.isAgg3 rfl (cntA_len _))) ?_
          refine dd [4] ?_
          refine XD.know 99 (.bool false) rfl (congrArg Value.bool (by rw [hC]; simp)) ?_
          refine dd [5] ?_
          refine XD.cF 6 Try.call10 (num_ok _) ?_
          rintro _ _ ⟨rfl, rfl⟩ _ e_; simp only [ca, na] at e_; subst e_
          refine ⟨hlA, ?_⟩
          refine dd [7, 8] ?_
          refine XD.nil ?_
          refine X.know 103 (.bool false) rfl (congrArg Value.bool (by first | rfl | simp)) ?_
          refine xo 4 ?_
          refine XO.ef (Ef.alloc Try.zeroValue3) ?_
          rintro _ _ ⟨n5, rfl, rfl⟩
          refine XO.ef0 (Ef.st Try.sizeOf3) ?_
          rintro _ _ ⟨rfl, rfl⟩
          refine oo 5 ?_
          refine XO.ef (Ef.alloc Try.zeroValue3) ?_
          rintro _ _ ⟨n6, rfl, rfl⟩
          refine XO.ef0 (Ef.st Try.sizeOf3) ?_
          rintro _ _ ⟨rfl, rfl⟩
          refine ox 7 ?_
          refine X.sb [106, 15, 14, 6, 5, 3] ?_
          refine X.range (xs := []) [] (fun _ => pto n5 (.cells [.int .i64 (0 : Int)].toArray 3 (0, 0)) :: pto n6 (.cells [.int .i64 (max 0 step + (0 : Int))].toArray 3 (0, 0)) :: pto n1 (.cells (t.cs a c).toArray 32 (0, 0)) :: pto n2 (.cells [.int .i64 many].toArray 3 (0, 0)) :: pto n3 (.cells [.bool false].toArray 4 (0, 0)) :: pto n4 (.cells ([c0, c1, c2, c3, c4, c5, c6, c7].map (Value.int .i64)).toArray 46 (0, 0)) :: q) (fun _ _ => False) (F := F) steps2_iter rfl (by simp only [ca, na]; rw [show max 0 step + (0 : Int) = max 0 step by omega]; exact leA) (fun x hx => by cases hx) rfl (by rw [Try.func4]; rfl) rfl (fun i hi => by cases hi) (fun r => ?_) (fun _ _ _ hJ => hJ.elim)
          simp only [ca, na]
          refine xo 3 ?_
          refine XO.ld Try.isAgg3 ?_
          refine XO.ld Try.isAgg3 ?_
          refine oo 2 ?_
          rcases Decidable.em (many ≤ 0) with hb1 | hb1
          · skip
            refine XO.know 143 (.bool true) rfl (congrArg Value.bool (decide_eq_true (by omega))) ?_
            refine oo 10 ?_
            refine XO.cF Try.call5 (known_ok) ?_
            rintro _ _ ⟨rfl, rfl⟩ _ e_; simp only [ca, na] at e_; subst e_
            refine oo 1 ?_
            refine XO.ef0 (Ef.st Try.sizeOf4) ?_
            rintro _ _ ⟨rfl, rfl⟩
            refine ox 1 ?_
            refine X.sb [6] ?_
            refine X.ret ⟨rfl, Lv.marks ?_⟩
            exact Lv.ret (q' := q) Try.func4 (resC1 Try.results4 (ResOk.cell rfl (LV.cell Try.isAgg4 clA) ResOk.nil)) ⟨_, rfl, rfl, rfl⟩ leA
          · skip
            rcases Decidable.em (200 ≤ 0) with hb2 | hb2
            · skip
              refine XO.know 143 (.bool false) rfl (congrArg Value.bool (decide_eq_false (by omega))) ?_
              refine XO.ld Try.isAgg3 ?_
              refine oo 3 ?_
              refine XO.know 147 (.bool true) rfl (congrArg Value.bool (decide_eq_true (by omega))) ?_
              refine oo 6 ?_
              refine XO.cF Try.call5 (known_ok) ?_
              rintro _ _ ⟨rfl, rfl⟩ _ e_; simp only [ca, na] at e_; subst e_
              refine oo 1 ?_
              refine XO.ef0 (Ef.st Try.sizeOf4) ?_
              rintro _ _ ⟨rfl, rfl⟩
              refine ox 1 ?_
              refine X.sb [6] ?_
              refine X.ret ⟨rfl, Lv.marks ?_⟩
              exact Lv.ret (q' := q) Try.func4 (resC1 Try.results4 (ResOk.cell rfl (LV.cell Try.isAgg4 clA) ResOk.nil)) ⟨_, rfl, rfl, rfl⟩ leA
            · skip
              refine XO.know 143 (.bool false) rfl (congrArg Value.bool (decide_eq_false (by omega))) ?_
              refine XO.ld Try.isAgg3 ?_
              refine oo 3 ?_
              refine XO.know 147 (.bool false) rfl (congrArg Value.bool (decide_eq_false (by omega))) ?_
              refine XO.ldA Try.isAgg32 Try.sizeOf32 ?_
              refine XO.ld Try.isAgg3 ?_
              refine XO.cX Try.call12 (Le.refl _) (RAt_ok (t := t) (a := a) (c := c) (hs.le leA)) ?_
              rintro _ _ ⟨(⟨hw, rfl⟩ | ⟨_, rfl⟩), rfl⟩
              exact absurd hw.2.2 (by omega)
              refine oo 3 ?_
              refine XO.know 153 (.bool true) rfl (congrArg Value.bool (by first | rfl | simp)) ?_
              refine XO.cF Try.call5 (known_ok) ?_
              rintro _ _ ⟨rfl, rfl⟩ _ e_; simp only [ca, na] at e_; subst e_
              refine oo 1 ?_
              refine XO.ef0 (Ef.st Try.sizeOf4) ?_
              rintro _ _ ⟨rfl, rfl⟩
              refine ox 1 ?_
              refine X.sb [6] ?_
              refine X.ret ⟨rfl, Lv.marks ?_⟩
              exact Lv.ret (q' := q) Try.func4 (resC1 Try.results4 (ResOk.cell rfl (LV.cell Try.isAgg4 clA) ResOk.nil)) ⟨_, rfl, rfl, rfl⟩ leA
        · skip
          have hlt : max 0 step < sumT t.turns := by omega
          refine oo 6 ?_
          refine XO.pu (Pu.eqlFNil rfl Try.underlying50) ?_
          refine ox 1 ?_
          refine X.sb [77, 13, 12, 11, 6, 5, 3, 1] ?_
          refine X.know 77 (.bool false) rfl (congrArg Value.bool (by first | rfl | simp)) ?_
          refine xo 5 ?_
          refine XO.ldA Try.isAgg32 Try.sizeOf32 ?_
          refine XO.cR Try.call15 (RCheck_ok (t := t) (a := a) (c := c) (hs.le leA)) ?_
          refine ox 2 ?_
          refine X.know 80 (.bool false) rfl (congrArg Value.bool (by have h := chk_iff.2 ok; simpa using h)) ?_
          refine xx 4 ?_
          refine X.draw [] Try.mixed (by kernel_rfl) (by kernel_rfl) rfl ?_
          refine XD.loadA 0 rfl rfl Try.isAgg46 Try.sizeOf46 hasA (by rfl) ?_
          refine XD.loadA 1 rfl rfl Try.isAgg32 Try.sizeOf32 hasA (by rfl) ?_
          refine XD.cX 2 Try.call16 (Le.refl _) (RCount_ok (t := t) (a := a) (c := c) (hs.le leA) ok) ?_
          rintro _ _ ⟨rfl, rfl⟩
          refine ⟨hlA, ?_⟩
          refine XD.pu 3 rfl (Pu.neqA rfl rfl (by kernel_rfl) (EqV.ints (xs := [c0, c1, c2, c3, c4, c5, c6, c7]) (ys := cntA t.turns) Try.underlying46 rfl rfl Try.underlying3 Try.isAgg3 rfl (cntA_len _))) ?_
          refine dd [4] ?_
          refine XD.know 99 (.bool false) rfl (congrArg Value.bool (by rw [hC]; simp)) ?_
          refine dd [5] ?_
          refine XD.cF 6 Try.call10 (num_ok _) ?_
          rintro _ _ ⟨rfl, rfl⟩ _ e_; simp only [ca, na] at e_; subst e_
          refine ⟨hlA, ?_⟩
          refine dd [7, 8] ?_
          refine XD.nil ?_
          refine X.know 103 (.bool false) rfl (congrArg Value.bool (by first | rfl | simp)) ?_
          refine xo 4 ?_
          refine XO.ef (Ef.alloc Try.zeroValue3) ?_
          rintro _ _ ⟨n7, rfl, rfl⟩
          refine XO.ef0 (Ef.st Try.sizeOf3) ?_
          rintro _ _ ⟨rfl, rfl⟩
          refine oo 5 ?_
          refine XO.ef (Ef.alloc Try.zeroValue3) ?_
          rintro _ _ ⟨n8, rfl, rfl⟩
          refine XO.ef0 (Ef.st Try.sizeOf3) ?_
          rintro _ _ ⟨rfl, rfl⟩
          refine ox 7 ?_
          refine X.sb [106, 15, 14, 6, 5, 3] ?_
          refine X.le (q' := pto p2 (.cells [.slice a2 t.turns.length d2].toArray 26 (0, 0)) :: _) fndA (X.freeze ?_)
          refine X.le (q' := pto p3 (.cells [.int .i64 (max step 0)].toArray 3 (0, 0)) :: _) fndA (X.freeze ?_)
          refine X.le (q' := rsH tcs 2 45 a2 d2 t.turns :: _) fndA (X.rsFreeze ?_)
          have hms := stpL_len t.turns (max step 0)
          refine X.range [im p2 (.cells [.slice a2 t.turns.length d2].toArray 26 (0, 0)), im p3 (.cells [.int .i64 (max step 0)].toArray 3 (0, 0)), rsM tcs 2 45 a2 d2 t.turns] (fun k : Nat => pto n7 (.cells [.int .i64 (k : Int)].toArray 3 (0, 0)) :: pto n8 (.cells [.int .i64 (max 0 step + (k : Int))].toArray 3 (0, 0)) :: pto n1 (.cells (t.cs a c).toArray 32 (0, 0)) :: pto n2 (.cells [.int .i64 many].toArray 3 (0, 0)) :: pto n3 (.cells [.bool false].toArray 4 (0, 0)) :: pto n4 (.cells ([c0, c1, c2, c3, c4, c5, c6, c7].map (Value.int .i64)).toArray 46 (0, 0)) :: q) (fun e qs => e = .exit 2 ∧ ∃ k : Nat, (many ≤ k ∨ 200 ≤ k) ∧ qs = pto n7 (.cells [.int .i64 (k : Int)].toArray 3 (0, 0)) :: pto n8 (.cells [.int .i64 (max 0 step + (k : Int))].toArray 3 (0, 0)) :: pto n1 (.cells (t.cs a c).toArray 32 (0, 0)) :: pto n2 (.cells [.int .i64 many].toArray 3 (0, 0)) :: pto n3 (.cells [.bool false].toArray 4 (0, 0)) :: pto n4 (.cells ([c0, c1, c2, c3, c4, c5, c6, c7].map (Value.int .i64)).toArray 46 (0, 0)) :: q) (F := F) (steps3_iter ok ⟨by omega, by omega⟩) rfl ?_ (by intro x hx; obtain ⟨y, _, rfl⟩ := List.mem_map.1 hx; rfl) rfl (by rw [Try.func4]; rfl) rfl (fun i hi l2 rec F0 cs0 => ?_) (fun r => ?_) (fun r c2 qs2 hJ => ?_)
          · refine Le.trans (b := [im p2 (.cells [.slice a2 t.turns.length d2].toArray 26 (0, 0)), im p3 (.cells [.int .i64 (max step 0)].toArray 3 (0, 0)), rsM tcs 2 45 a2 d2 t.turns] ++ ((pto n7 (.cells [.int .i64 (((0 : Nat) : Int) : Int)].toArray 3 (0, 0)) :: pto n8 (.cells [.int .i64 (max 0 step + (((0 : Nat) : Int) : Int))].toArray 3 (0, 0)) :: pto n1 (.cells (t.cs a c).toArray 32 (0, 0)) :: pto n2 (.cells [.int .i64 many].toArray 3 (0, 0)) :: pto n3 (.cells [.bool false].toArray 4 (0, 0)) :: pto n4 (.cells ([c0, c1, c2, c3, c4, c5, c6, c7].map (Value.int .i64)).toArray 46 (0, 0)) :: q) ++ F)) ?_ (Le.swapL _ _ _)
            simp only [ca, na]; rw [show max 0 step + (((0 : Nat) : Int) : Int) = max 0 step by simp]
            exact leB
          · skip
            rw [stpL_get hi, stpV]; rw [hms] at hi; simp only [zipP]
            refine X.sb [108, 107, 106, 15, 14, 6, 5, 3] ?_
            simp only [ca, na]
            refine xx 7 ?_
            refine X.beginRound rfl leA ?_
            refine xo 3 ?_
            refine XO.ldA Try.isAgg32 Try.sizeOf32 ?_
            refine XO.ld Try.isAgg3 ?_
            have hav : atV t (max 0 step + (i : Int)) := ⟨ok, by omega, by omega⟩
            refine XO.cX Try.call12 (Le.refl _) (RAt_ok (t := t) (st := max 0 step + (i : Int)) (a := a) (c := c) (hs.le leA)) ?_
            rintro _ _ ⟨(⟨_, rfl⟩ | ⟨hw, rfl⟩), rfl⟩
            rotate_left; exact absurd hav hw
            have hai := atT_lt hav.2.2 hav.2.1; have hgd : thr_ t.turns (max step 0 + (i : Int)) = t.turns[atT t.turns (max 0 step + (i : Int))].1 := by unfold thr_; rw [show max step 0 = max 0 step by omega]; simp [List.getD, List.getElem?_eq_getElem hai]
            refine XO.adr hs (by rw [hlen]; omega) (fun b1 o1 e_ => ?_); subst e_
            refine oo 8 ?_
            refine XO.know 114 (.bool false) rfl (congrArg Value.bool (decide_eq_false (by omega))) ?_
            refine oo 1 ?_
            refine XO.ld Try.isAgg3 ?_
            refine oo 3 ?_
            refine XO.know 119 (.bool false) rfl (congrArg Value.bool (by rw [bne_eq_false_iff_eq]; omega)) ?_
            refine oo 2 ?_
            refine XO.ld Try.isAgg26 ?_
            refine oo 3 ?_
            refine XO.ld Try.isAgg3 ?_ (hc := (Cl.row (f := tcs) (sz := 2) (n := atT t.turns (max 0 step + (i : Int))) hs leA (fun _ => rfl) hai rfl 0 _ rfl))
            refine ox 3 ?_
            refine X.sb [128, 15, 14, 6, 5] ?_
            refine X.know 128 (.bool false) rfl (congrArg Value.bool (by rw [bne_eq_false_iff_eq]; exact hgd)) ?_
            refine xo 4 ?_
            refine XO.ld Try.isAgg3 ?_
            refine oo 1 ?_
            refine XO.ef0 (Ef.st Try.sizeOf3) ?_
            rintro _ _ ⟨rfl, rfl⟩
            refine oo 3 ?_
            refine XO.ld Try.isAgg3 ?_
            refine oo 1 ?_
            refine XO.ef0 (Ef.st Try.sizeOf3) ?_
            rintro _ _ ⟨rfl, rfl⟩
            refine oo 3 ?_
            refine XO.ld Try.isAgg3 ?_
            refine XO.ld Try.isAgg3 ?_
            refine oo 2 ?_
            refine XO.sb [136, 14] ?_
            apply XO.cutOr 3 139 136 rfl
            · skip
              intro g1 M1; have h1 := sp g1
              refine XO.ld Try.isAgg3 ?_
              refine oo 2 ?_
              exact XO.fin M1 ⟨orF g1, subB⟩
            · skip
              intro g1 M1; have h1 := sp g1
              refine oo 3 ?_
              exact XO.fin M1 ⟨orT g1, subB⟩
            · skip
              refine ox 1 ?_
              refine X.part 139 rfl (fun h1 => ?_) (fun h1 => ?_)
              · skip
                replace h1 := sp h1
                refine xx 1 ?_
                refine X.out rfl ⟨rfl, rfl, _, ⟨rfl, i + 1, by omega, rfl⟩, ?_⟩
                simp only [ca, na]
                rw [show ((i + 1 : Nat) : Int) = (i : Int) + 1 from rfl, ← Int.add_assoc]
                exact leA
              · skip
                replace h1 := sp h1
                refine xx 3 ?_
                refine X.fall ⟨rfl, rfl, ?_⟩
                simp only [ca, na]
                rw [show ((i + 1 : Nat) : Int) = (i : Int) + 1 from rfl, ← Int.add_assoc]
                exact leA
          · skip
            rw [hms]
            simp only [ca, na]
            generalize hkk : (sumT t.turns - max step 0).toNat = k
            refine X.le (q' := pto r (.deferred (some [])) :: pto n7 (.cells [.int .i64 (k : Int)].toArray 3 (0, 0)) :: pto n8 (.cells [.int .i64 (max 0 step + (k : Int))].toArray 3 (0, 0)) :: pto n1 (.cells (t.cs a c).toArray 32 (0, 0)) :: pto n2 (.cells [.int .i64 many].toArray 3 (0, 0)) :: pto n3 (.cells [.bool false].toArray 4 (0, 0)) :: pto n4 (.cells ([c0, c1, c2, c3, c4, c5, c6, c7].map (Value.int .i64)).toArray 46 (0, 0)) :: (q ++ F)) leB ?_
            refine xo 3 ?_
            refine XO.ld Try.isAgg3 ?_
            refine XO.ld Try.isAgg3 ?_
            refine oo 2 ?_
            rcases Decidable.em (many ≤ (k : Int)) with hb1 | hb1
            · skip
              refine XO.know 143 (.bool true) rfl (congrArg Value.bool (decide_eq_true (by omega))) ?_
              refine oo 10 ?_
              refine XO.cF Try.call5 (known_ok) ?_
              rintro _ _ ⟨rfl, rfl⟩ _ e_; simp only [ca, na] at e_; subst e_
              refine oo 1 ?_
              refine XO.ef0 (Ef.st Try.sizeOf4) ?_
              rintro _ _ ⟨rfl, rfl⟩
              refine ox 1 ?_
              refine X.sb [6] ?_
              refine X.ret ⟨rfl, Lv.marks ?_⟩
              exact Lv.ret (q' := q) Try.func4 (resC1 Try.results4 (ResOk.cell rfl (LV.cell Try.isAgg4 clA) ResOk.nil)) ⟨_, rfl, rfl, rfl⟩ leA
            · skip
              rcases Decidable.em (200 ≤ (k : Int)) with hb2 | hb2
              · skip
                refine XO.know 143 (.bool false) rfl (congrArg Value.bool (decide_eq_false (by omega))) ?_
                refine XO.ld Try.isAgg3 ?_
                refine oo 3 ?_
                refine XO.know 147 (.bool true) rfl (congrArg Value.bool (decide_eq_true (by omega))) ?_
                refine oo 6 ?_
                refine XO.cF Try.call5 (known_ok) ?_
                rintro _ _ ⟨rfl, rfl⟩ _ e_; simp only [ca, na] at e_; subst e_
                refine oo 1 ?_
                refine XO.ef0 (Ef.st Try.sizeOf4) ?_
                rintro _ _ ⟨rfl, rfl⟩
                refine ox 1 ?_
                refine X.sb [6] ?_
                refine X.ret ⟨rfl, Lv.marks ?_⟩
                exact Lv.ret (q' := q) Try.func4 (resC1 Try.results4 (ResOk.cell rfl (LV.cell Try.isAgg4 clA) ResOk.nil)) ⟨_, rfl, rfl, rfl⟩ leA
              · skip
                refine XO.know 143 (.bool false) rfl (congrArg Value.bool (decide_eq_false (by omega))) ?_
                refine XO.ld Try.isAgg3 ?_
                refine oo 3 ?_
                refine XO.know 147 (.bool false) rfl (congrArg Value.bool (decide_eq_false (by omega))) ?_
                refine XO.ldA Try.isAgg32 Try.sizeOf32 ?_
                refine XO.ld Try.isAgg3 ?_
                refine XO.cX Try.call12 (Le.refl _) (RAt_ok (t := t) (a := a) (c := c) (hs.le leA)) ?_
                rintro _ _ ⟨(⟨hw, rfl⟩ | ⟨_, rfl⟩), rfl⟩
                exact absurd hw.2.2 (by omega)
                refine oo 3 ?_
                refine XO.know 153 (.bool true) rfl (congrArg Value.bool (by first | rfl | simp)) ?_
                refine XO.cF Try.call5 (known_ok) ?_
                rintro _ _ ⟨rfl, rfl⟩ _ e_; simp only [ca, na] at e_; subst e_
                refine oo 1 ?_
                refine XO.ef0 (Ef.st Try.sizeOf4) ?_
                rintro _ _ ⟨rfl, rfl⟩
                refine ox 1 ?_
                refine X.sb [6] ?_
                refine X.ret ⟨rfl, Lv.marks ?_⟩
                exact Lv.ret (q' := q) Try.func4 (resC1 Try.results4 (ResOk.cell rfl (LV.cell Try.isAgg4 clA) ResOk.nil)) ⟨_, rfl, rfl, rfl⟩ leA
          · skip
            obtain ⟨rfl, k, hbr, rfl⟩ := hJ
            simp only [ca, na]
            refine X.le (q' := pto r (.deferred (some [])) :: pto n7 (.cells [.int .i64 (k : Int)].toArray 3 (0, 0)) :: pto n8 (.cells [.int .i64 (max 0 step + (k : Int))].toArray 3 (0, 0)) :: pto n1 (.cells (t.cs a c).toArray 32 (0, 0)) :: pto n2 (.cells [.int .i64 many].toArray 3 (0, 0)) :: pto n3 (.cells [.bool false].toArray 4 (0, 0)) :: pto n4 (.cells ([c0, c1, c2, c3, c4, c5, c6, c7].map (Value.int .i64)).toArray 46 (0, 0)) :: (q ++ F)) leB ?_
            refine xo 3 ?_
            refine XO.ld Try.isAgg3 ?_
            refine XO.ld Try.isAgg3 ?_
            refine oo 2 ?_
            rcases hbr with hb1 | hb1
            · skip
              refine XO.know 143 (.bool true) rfl (congrArg Value.bool (decide_eq_true (by omega))) ?_
              refine oo 10 ?_
              refine XO.cF Try.call5 (known_ok) ?_
              rintro _ _ ⟨rfl, rfl⟩ _ e_; simp only [ca, na] at e_; subst e_
              refine oo 1 ?_
              refine XO.ef0 (Ef.st Try.sizeOf4) ?_
              rintro _ _ ⟨rfl, rfl⟩
              refine ox 1 ?_
              refine X.sb [6] ?_
              refine X.ret ⟨rfl, Lv.marks ?_⟩
              exact Lv.ret (q' := q) Try.func4 (resC1 Try.results4 (ResOk.cell rfl (LV.cell Try.isAgg4 clA) ResOk.nil)) ⟨_, rfl, rfl, rfl⟩ leA
            · skip
              rcases Decidable.em (many ≤ (k : Int)) with hb2 | hb2
              · skip
                refine XO.know 143 (.bool true) rfl (congrArg Value.bool (decide_eq_true (by omega))) ?_
                refine oo 10 ?_
                refine XO.cF Try.call5 (known_ok) ?_
                rintro _ _ ⟨rfl, rfl⟩ _ e_; simp only [ca, na] at e_; subst e_
                refine oo 1 ?_
                refine XO.ef0 (Ef.st Try.sizeOf4) ?_
                rintro _ _ ⟨rfl, rfl⟩
                refine ox 1 ?_
                refine X.sb [6] ?_
                refine X.ret ⟨rfl, Lv.marks ?_⟩
                exact Lv.ret (q' := q) Try.func4 (resC1 Try.results4 (ResOk.cell rfl (LV.cell Try.isAgg4 clA) ResOk.nil)) ⟨_, rfl, rfl, rfl⟩ leA
              · skip
                refine XO.know 143 (.bool false) rfl (congrArg Value.bool (decide_eq_false (by omega))) ?_
                refine XO.ld Try.isAgg3 ?_
                refine oo 3 ?_
                refine XO.know 147 (.bool true) rfl (congrArg Value.bool (decide_eq_true (by omega))) ?_
                refine oo 6 ?_
                refine XO.cF Try.call5 (known_ok) ?_
                rintro _ _ ⟨rfl, rfl⟩ _ e_; simp only [ca, na] at e_; subst e_
                refine oo 1 ?_
                refine XO.ef0 (Ef.st Try.sizeOf4) ?_
                rintro _ _ ⟨rfl, rfl⟩
                refine ox 1 ?_
                refine X.sb [6] ?_
                refine X.ret ⟨rfl, Lv.marks ?_⟩
                exact Lv.ret (q' := q) Try.func4 (resC1 Try.results4 (ResOk.cell rfl (LV.cell Try.isAgg4 clA) ResOk.nil)) ⟨_, rfl, rfl, rfl⟩ leA
    · skip
      refine oo 10 ?_
      refine XO.ldA Try.isAgg32 Try.sizeOf32 ?_
      refine oo 1 ?_
      refine XO.cX Try.call12 (Le.refl _) (RAt_ok (t := t) (st := step) (a := a) (c := c) (hs.le leA)) ?_
      rintro _ _ ⟨(⟨hw, rfl⟩ | ⟨hw, rfl⟩), rfl⟩
      exact absurd hw hv
      refine oo 10 ?_
      refine XO.know 37 (.bool false) rfl (congrArg Value.bool (by first | rfl | (simp; done) | (simp; omega))) ?_
      refine oo 3 ?_
      refine XO.know 40 (.bool false) rfl (congrArg Value.bool (by first | rfl | (simp; done) | (simp; omega))) ?_
      refine oo 19 ?_
      refine XO.know 59 (.bool true) rfl (congrArg Value.bool (by first | rfl | (simp; done) | (simp; omega))) ?_
      refine oo 3 ?_
      refine XO.know 62 (.bool false) rfl (congrArg Value.bool (by first | rfl | (simp; done) | (simp; omega))) ?_
      refine ox 6 ?_
      refine X.sb [67, 6, 5, 3, 1] ?_
      refine X.know 67 (.bool false) rfl (congrArg Value.bool (by first | rfl | simp)) ?_
      refine xo 4 ?_
      refine XO.ldA Try.isAgg32 Try.sizeOf32 ?_
      by_cases ok : okT t
      rotate_left
      · skip
        refine XO.cX Try.call13 (Le.refl _) (Count_ok (t := t) (a := a) (c := c) (hs.le leA)) ?_
        rintro _ _ ⟨rfl, rfl⟩
        rw [if_neg ok]
        refine oo 3 ?_
        refine XO.ef (Ef.alloc Try.zeroValue46) ?_
        rintro _ _ ⟨n9, rfl, rfl⟩
        refine XO.ef0 (Ef.stA Try.sizeOf46) ?_
        rintro _ _ ⟨rfl, rfl⟩
        refine oo 4 ?_
        refine XO.ldA Try.isAgg32 Try.sizeOf32 ?_
        refine oo 1 ?_
        refine XO.cX Try.call14 (Le.refl _) (Steps_ok (t := t) (fr := step) (a := a) (c := c) (hs.le leA)) ?_
        rintro _ _ (⟨_, rfl, rfl⟩ | ⟨h, _⟩)
        rotate_left; exact absurd h ok
        refine oo 6 ?_
        refine XO.pu (Pu.eqlFNil rfl Try.underlying50) ?_
        refine ox 1 ?_
        refine X.know 77 (.bool false) rfl knw ?_
        refine xo 5 ?_
        refine XO.ldA Try.isAgg32 Try.sizeOf32 ?_
        refine XO.cR Try.call15 (RCheck_ok (t := t) (a := a) (c := c) (hs.le leA)) ?_
        refine ox 2 ?_
        refine X.sb [80, 13, 12, 11, 6, 5, 3, 1] ?_
        refine X.know 80 (.bool true) rfl (congrArg Value.bool (by have h := (not_congr (chk_iff (t := t))).2 ok; simpa using h)) ?_
        refine xx 7 ?_
        refine X.range (xs := []) [] (fun _ => pto n1 (.cells (t.cs a c).toArray 32 (0, 0)) :: pto n2 (.cells [.int .i64 many].toArray 3 (0, 0)) :: pto n3 (.cells [.bool false].toArray 4 (0, 0)) :: pto n9 (.cells (z8.map (Value.int .i64)).toArray 46 (0, 0)) :: q) (fun _ _ => False) (F := F) steps2_iter rfl leA (fun x hx => by cases hx) rfl (by rw [Try.func4]; rfl) rfl (fun i hi => by cases hi) (fun r => ?_) (fun _ _ _ hJ => hJ.elim)
        simp only [ca, na]
        refine xo 3 ?_
        refine XO.ldA Try.isAgg46 Try.sizeOf46 ?_
        refine XO.pu (Pu.buildA0 Try.zeroValue46 Try.underlying46 Try.sizeOf3) ?_
        refine XO.pu (Pu.eqlA rfl rfl (by kernel_rfl) (EqV.ints (xs := z8) (ys := z8) Try.underlying46 rfl rfl Try.underlying3 Try.isAgg3 rfl rfl)) ?_
        refine oo 1 ?_
        refine XO.know 87 (.bool true) rfl knw ?_
        refine oo 1 ?_
        refine XO.cF Try.call10 (num_ok _) ?_
        rintro _ _ ⟨rfl, rfl⟩ _ e_; simp only [ca, na] at e_; subst e_
        refine oo 3 ?_
        refine XO.know 92 (.bool true) rfl knw ?_
        refine XO.cF Try.call5 (known_ok) ?_
        rintro _ _ ⟨rfl, rfl⟩ _ e_; simp only [ca, na] at e_; subst e_
        refine oo 1 ?_
        refine XO.ef0 (Ef.st Try.sizeOf4) ?_
        rintro _ _ ⟨rfl, rfl⟩
        refine ox 1 ?_
        refine X.ret ⟨rfl, Lv.marks ?_⟩
        exact Lv.ret (q' := q) Try.func4 (resC1 Try.results4 (ResOk.cell rfl (LV.cell Try.isAgg4 clA) ResOk.nil)) ⟨_, rfl, rfl, rfl⟩ leA
      · skip
        obtain ⟨c0, c1, c2, c3, c4, c5, c6, c7, hC⟩ := list8 (cntA_len t.turns); obtain ⟨hS1, hS2, hS3⟩ := okT_sum ok; have hS4 : ∀ x ∈ t.turns, 1 ≤ x.2 := fun x hx => (hS3 x hx).1
        refine XO.cX Try.call13 (Le.refl _) (Count_ok (t := t) (a := a) (c := c) (hs.le leA)) ?_
        rintro _ _ ⟨rfl, rfl⟩
        rw [if_pos ok, hC]
        refine oo 3 ?_
        refine XO.ef (Ef.alloc Try.zeroValue46) ?_
        rintro _ _ ⟨n10, rfl, rfl⟩
        refine XO.ef0 (Ef.stA Try.sizeOf46) ?_
        rintro _ _ ⟨rfl, rfl⟩
        refine oo 4 ?_
        refine XO.ldA Try.isAgg32 Try.sizeOf32 ?_
        refine oo 1 ?_
        refine XO.cX Try.call14 (Le.refl _) (Steps_ok (t := t) (fr := step) (a := a) (c := c) (hs.le leA)) ?_
        rintro _ _ (⟨hlo, rfl, rfl⟩ | ⟨_, hlt, p2, p3, a2, d2, rfl, rfl⟩)
        · skip
          have hlo : sumT t.turns ≤ max step 0 := by rcases hlo with h | h; exact absurd ok h; exact h
          refine oo 6 ?_
          refine XO.pu (Pu.eqlFNil rfl Try.underlying50) ?_
          refine ox 1 ?_
          refine X.know 77 (.bool false) rfl (congrArg Value.bool (by first | rfl | simp)) ?_
          refine xo 5 ?_
          refine XO.ldA Try.isAgg32 Try.sizeOf32 ?_
          refine XO.cR Try.call15 (RCheck_ok (t := t) (a := a) (c := c) (hs.le leA)) ?_
          refine ox 2 ?_
          refine X.sb [80, 13, 12, 11, 6, 5, 3, 1] ?_
          refine X.know 80 (.bool false) rfl (congrArg Value.bool (by have h := chk_iff.2 ok; simpa using h)) ?_
          refine xx 4 ?_
          refine X.draw [] Try.mixed (by kernel_rfl) (by kernel_rfl) rfl ?_
          refine XD.loadA 0 rfl rfl Try.isAgg46 Try.sizeOf46 hasA (by rfl) ?_
          refine XD.loadA 1 rfl rfl Try.isAgg32 Try.sizeOf32 hasA (by rfl) ?_
          refine XD.cX 2 Try.call16 (Le.refl _) (RCount_ok (t := t) (a := a) (c := c) (hs.le leA) ok) ?_
          rintro _ _ ⟨rfl, rfl⟩
          refine ⟨hlA, ?_⟩
          refine XD.pu 3 rfl (Pu.neqA rfl rfl (by kernel_rfl) (EqV.ints (xs := [c0, c1, c2, c3, c4, c5, c6, c7]) (ys := cntA t.turns) Try.underlying46 rfl rfl Try.underlying3 Try.isAgg3 rfl (cntA_len _))) ?_
          refine dd [4] ?_
          refine XD.know 99 (.bool false) rfl (congrArg Value.bool (by rw [hC]; simp)) ?_
          refine dd [5] ?_
          refine XD.cF 6 Try.call10 (num_ok _) ?_
          rintro _ _ ⟨rfl, rfl⟩ _ e_; simp only [ca, na] at e_; subst e_
          refine ⟨hlA, ?_⟩
          refine dd [7, 8] ?_
          refine XD.nil ?_
          refine X.know 103 (.bool false) rfl (congrArg Value.bool (by first | rfl | simp)) ?_
          refine xo 4 ?_
          refine XO.ef (Ef.alloc Try.zeroValue3) ?_
          rintro _ _ ⟨n11, rfl, rfl⟩
          refine XO.ef0 (Ef.st Try.sizeOf3) ?_
          rintro _ _ ⟨rfl, rfl⟩
          refine oo 5 ?_
          refine XO.ef (Ef.alloc Try.zeroValue3) ?_
          rintro _ _ ⟨n12, rfl, rfl⟩
          refine XO.ef0 (Ef.st Try.sizeOf3) ?_
          rintro _ _ ⟨rfl, rfl⟩
          refine ox 7 ?_
          refine X.sb [106, 15, 14, 6, 5, 3] ?_
          refine X.range (xs := []) [] (fun _ => pto n11 (.cells [.int .i64 (0 : Int)].toArray 3 (0, 0)) :: pto n12 (.cells [.int .i64 (max 0 step + (0 : Int))].toArray 3 (0, 0)) :: pto n1 (.cells (t.cs a c).toArray 32 (0, 0)) :: pto n2 (.cells [.int .i64 many].toArray 3 (0, 0)) :: pto n3 (.cells [.bool false].toArray 4 (0, 0)) :: pto n10 (.cells ([c0, c1, c2, c3, c4, c5, c6, c7].map (Value.int .i64)).toArray 46 (0, 0)) :: q) (fun _ _ => False) (F := F) steps2_iter rfl (by simp only [ca, na]; rw [show max 0 step + (0 : Int) = max 0 step by omega]; exact leA) (fun x hx => by cases hx) rfl (by rw [Try.func4]; rfl) rfl (fun i hi => by cases hi) (fun r => ?_) (fun _ _ _ hJ => hJ.elim)
          simp only [ca, na]
          refine xo 3 ?_
          refine XO.ld Try.isAgg3 ?_
          refine XO.ld Try.isAgg3 ?_
          refine oo 2 ?_
          rcases Decidable.em (many ≤ 0) with hb1 | hb1
          · skip
            refine XO.know 143 (.bool true) rfl (congrArg Value.bool (decide_eq_true (by omega))) ?_
            refine oo 10 ?_
            refine XO.cF Try.call5 (known_ok) ?_
            rintro _ _ ⟨rfl, rfl⟩ _ e_; simp only [ca, na] at e_; subst e_
            refine oo 1 ?_
            refine XO.ef0 (Ef.st Try.sizeOf4) ?_
            rintro _ _ ⟨rfl, rfl⟩
            refine ox 1 ?_
            refine X.sb [6] ?_
            refine X.ret ⟨rfl, Lv.marks ?_⟩
            exact Lv.ret (q' := q) Try.func4 (resC1 Try.results4 (ResOk.cell rfl (LV.cell Try.isAgg4 clA) ResOk.nil)) ⟨_, rfl, rfl, rfl⟩ leA
          · skip
            rcases Decidable.em (200 ≤ 0) with hb2 | hb2
            · skip
              refine XO.know 143 (.bool false) rfl (congrArg Value.bool (decide_eq_false (by omega))) ?_
              refine XO.ld Try.isAgg3 ?_
              refine oo 3 ?_
              refine XO.know 147 (.bool true) rfl (congrArg Value.bool (decide_eq_true (by omega))) ?_
              refine oo 6 ?_
              refine XO.cF Try.call5 (known_ok) ?_
              rintro _ _ ⟨rfl, rfl⟩ _ e_; simp only [ca, na] at e_; subst e_
              refine oo 1 ?_
              refine XO.ef0 (Ef.st Try.sizeOf4) ?_
              rintro _ _ ⟨rfl, rfl⟩
              refine ox 1 ?_
              refine X.sb [6] ?_
              refine X.ret ⟨rfl, Lv.marks ?_⟩
              exact Lv.ret (q' := q) Try.func4 (resC1 Try.results4 (ResOk.cell rfl (LV.cell Try.isAgg4 clA) ResOk.nil)) ⟨_, rfl, rfl, rfl⟩ leA
            · skip
              refine XO.know 143 (.bool false) rfl (congrArg Value.bool (decide_eq_false (by omega))) ?_
              refine XO.ld Try.isAgg3 ?_
              refine oo 3 ?_
              refine XO.know 147 (.bool false) rfl (congrArg Value.bool (decide_eq_false (by omega))) ?_
              refine XO.ldA Try.isAgg32 Try.sizeOf32 ?_
              refine XO.ld Try.isAgg3 ?_
              refine XO.cX Try.call12 (Le.refl _) (RAt_ok (t := t) (a := a) (c := c) (hs.le leA)) ?_
              rintro _ _ ⟨(⟨hw, rfl⟩ | ⟨_, rfl⟩), rfl⟩
              exact absurd hw.2.2 (by omega)
              refine oo 3 ?_
              refine XO.know 153 (.bool true) rfl (congrArg Value.bool (by first | rfl | simp)) ?_
              refine XO.cF Try.call5 (known_ok) ?_
              rintro _ _ ⟨rfl, rfl⟩ _ e_; simp only [ca, na] at e_; subst e_
              refine oo 1 ?_
              refine XO.ef0 (Ef.st Try.sizeOf4) ?_
              rintro _ _ ⟨rfl, rfl⟩
              refine ox 1 ?_
              refine X.sb [6] ?_
              refine X.ret ⟨rfl, Lv.marks ?_⟩
              exact Lv.ret (q' := q) Try.func4 (resC1 Try.results4 (ResOk.cell rfl (LV.cell Try.isAgg4 clA) ResOk.nil)) ⟨_, rfl, rfl, rfl⟩ leA
        · skip
          have hlt : max 0 step < sumT t.turns := by omega
          refine oo 6 ?_
          refine XO.pu (Pu.eqlFNil rfl Try.underlying50) ?_
          refine ox 1 ?_
          refine X.know 77 (.bool false) rfl (congrArg Value.bool (by first | rfl | simp)) ?_
          refine xo 5 ?_
          refine XO.ldA Try.isAgg32 Try.sizeOf32 ?_
          refine XO.cR Try.call15 (RCheck_ok (t := t) (a := a) (c := c) (hs.le leA)) ?_
          refine ox 2 ?_
          refine X.sb [80, 13, 12, 11, 6, 5, 3, 1] ?_
          refine X.know 80 (.bool false) rfl (congrArg Value.bool (by have h := chk_iff.2 ok; simpa using h)) ?_
          refine xx 4 ?_
          refine X.draw [] Try.mixed (by kernel_rfl) (by kernel_rfl) rfl ?_
          refine XD.loadA 0 rfl rfl Try.isAgg46 Try.sizeOf46 hasA (by rfl) ?_
          refine XD.loadA 1 rfl rfl Try.isAgg32 Try.sizeOf32 hasA (by rfl) ?_
          refine XD.cX 2 Try.call16 (Le.refl _) (RCount_ok (t := t) (a := a) (c := c) (hs.le leA) ok) ?_
          rintro _ _ ⟨rfl, rfl⟩
          refine ⟨hlA, ?_⟩
          refine XD.pu 3 rfl (Pu.neqA rfl rfl (by kernel_rfl) (EqV.ints (xs := [c0, c1, c2, c3, c4, c5, c6, c7]) (ys := cntA t.turns) Try.underlying46 rfl rfl Try.underlying3 Try.isAgg3 rfl (cntA_len _))) ?_
          refine dd [4] ?_
          refine XD.know 99 (.bool false) rfl (congrArg Value.bool (by rw [hC]; simp)) ?_
          refine dd [5] ?_
          refine XD.cF 6 Try.call10 (num_ok _) ?_
          rintro _ _ ⟨rfl, rfl⟩ _ e_; simp only [ca, na] at e_; subst e_
          refine ⟨hlA, ?_⟩
          refine dd [7, 8] ?_
          refine XD.nil ?_
          refine X.know 103 (.bool false) rfl (congrArg Value.bool (by first | rfl | simp)) ?_
          refine xo 4 ?_
          refine XO.ef (Ef.alloc Try.zeroValue3) ?_
          rintro _ _ ⟨n13, rfl, rfl⟩
          refine XO.ef0 (Ef.st Try.sizeOf3) ?_
          rintro _ _ ⟨rfl, rfl⟩
          refine oo 5 ?_
          refine XO.ef (Ef.alloc Try.zeroValue3) ?_
          rintro _ _ ⟨n14, rfl, rfl⟩
          refine XO.ef0 (Ef.st Try.sizeOf3) ?_
          rintro _ _ ⟨rfl, rfl⟩
          refine ox 7 ?_
          refine X.sb [106, 15, 14, 6, 5, 3] ?_
          refine X.le (q' := pto p2 (.cells [.slice a2 t.turns.length d2].toArray 26 (0, 0)) :: _) fndA (X.freeze ?_)
          refine X.le (q' := pto p3 (.cells [.int .i64 (max step 0)].toArray 3 (0, 0)) :: _) fndA (X.freeze ?_)
          refine X.le (q' := rsH tcs 2 45 a2 d2 t.turns :: _) fndA (X.rsFreeze ?_)
          have hms := stpL_len t.turns (max step 0)
          refine X.range [im p2 (.cells [.slice a2 t.turns.length d2].toArray 26 (0, 0)), im p3 (.cells [.int .i64 (max step 0)].toArray 3 (0, 0)), rsM tcs 2 45 a2 d2 t.turns] (fun k : Nat => pto n13 (.cells [.int .i64 (k : Int)].toArray 3 (0, 0)) :: pto n14 (.cells [.int .i64 (max 0 step + (k : Int))].toArray 3 (0, 0)) :: pto n1 (.cells (t.cs a c).toArray 32 (0, 0)) :: pto n2 (.cells [.int .i64 many].toArray 3 (0, 0)) :: pto n3 (.cells [.bool false].toArray 4 (0, 0)) :: pto n10 (.cells ([c0, c1, c2, c3, c4, c5, c6, c7].map (Value.int .i64)).toArray 46 (0, 0)) :: q) (fun e qs => e = .exit 2 ∧ ∃ k : Nat, (many ≤ k ∨ 200 ≤ k) ∧ qs = pto n13 (.cells [.int .i64 (k : Int)].toArray 3 (0, 0)) :: pto n14 (.cells [.int .i64 (max 0 step + (k : Int))].toArray 3 (0, 0)) :: pto n1 (.cells (t.cs a c).toArray 32 (0, 0)) :: pto n2 (.cells [.int .i64 many].toArray 3 (0, 0)) :: pto n3 (.cells [.bool false].toArray 4 (0, 0)) :: pto n10 (.cells ([c0, c1, c2, c3, c4, c5, c6, c7].map (Value.int .i64)).toArray 46 (0, 0)) :: q) (F := F) (steps3_iter ok ⟨by omega, by omega⟩) rfl ?_ (by intro x hx; obtain ⟨y, _, rfl⟩ := List.mem_map.1 hx; rfl) rfl (by rw [Try.func4]; rfl) rfl (fun i hi l2 rec F0 cs0 => ?_) (fun r => ?_) (fun r c2 qs2 hJ => ?_)
          · refine Le.trans (b := [im p2 (.cells [.slice a2 t.turns.length d2].toArray 26 (0, 0)), im p3 (.cells [.int .i64 (max step 0)].toArray 3 (0, 0)), rsM tcs 2 45 a2 d2 t.turns] ++ ((pto n13 (.cells [.int .i64 (((0 : Nat) : Int) : Int)].toArray 3 (0, 0)) :: pto n14 (.cells [.int .i64 (max 0 step + (((0 : Nat) : Int) : Int))].toArray 3 (0, 0)) :: pto n1 (.cells (t.cs a c).toArray 32 (0, 0)) :: pto n2 (.cells [.int .i64 many].toArray 3 (0, 0)) :: pto n3 (.cells [.bool false].toArray 4 (0, 0)) :: pto n10 (.cells ([c0, c1, c2, c3, c4, c5, c6, c7].map (Value.int .i64)).toArray 46 (0, 0)) :: q) ++ F)) ?_ (Le.swapL _ _ _)
            simp only [ca, na]; rw [show max 0 step + (((0 : Nat) : Int) : Int) = max 0 step by simp]
            exact leB
          · skip
            rw [stpL_get hi, stpV]; rw [hms] at hi; simp only [zipP]
            refine X.sb [108, 107, 106, 15, 14, 6, 5, 3] ?_
            simp only [ca, na]
            refine xx 7 ?_
            refine X.beginRound rfl leA ?_
            refine xo 3 ?_
            refine XO.ldA Try.isAgg32 Try.sizeOf32 ?_
            refine XO.ld Try.isAgg3 ?_
            have hav : atV t (max 0 step + (i : Int)) := ⟨ok, by omega, by omega⟩
            refine XO.cX Try.call12 (Le.refl _) (RAt_ok (t := t) (st := max 0 step + (i : Int)) (a := a) (c := c) (hs.le leA)) ?_
            rintro _ _ ⟨(⟨_, rfl⟩ | ⟨hw, rfl⟩), rfl⟩
            rotate_left; exact absurd hav hw
            have hai := atT_lt hav.2.2 hav.2.1; have hgd : thr_ t.turns (max step 0 + (i : Int)) = t.turns[atT t.turns (max 0 step + (i : Int))].1 := by unfold thr_; rw [show max step 0 = max 0 step by omega]; simp [List.getD, List.getElem?_eq_getElem hai]
            refine XO.adr hs (by rw [hlen]; omega) (fun b1 o1 e_ => ?_); subst e_
            refine oo 8 ?_
            refine XO.know 114 (.bool false) rfl (congrArg Value.bool (decide_eq_false (by omega))) ?_
            refine oo 1 ?_
            refine XO.ld Try.isAgg3 ?_
            refine oo 3 ?_
            refine XO.know 119 (.bool false) rfl (congrArg Value.bool (by rw [bne_eq_false_iff_eq]; omega)) ?_
            refine oo 2 ?_
            refine XO.ld Try.isAgg26 ?_
            refine oo 3 ?_
            refine XO.ld Try.isAgg3 ?_ (hc := (Cl.row (f := tcs) (sz := 2) (n := atT t.turns (max 0 step + (i : Int))) hs leA (fun _ => rfl) hai rfl 0 _ rfl))
            refine ox 3 ?_
            refine X.sb [128, 15, 14, 6, 5] ?_
            refine X.know 128 (.bool false) rfl (congrArg Value.bool (by rw [bne_eq_false_iff_eq]; exact hgd)) ?_
            refine xo 4 ?_
            refine XO.ld Try.isAgg3 ?_
            refine oo 1 ?_
            refine XO.ef0 (Ef.st Try.sizeOf3) ?_
            rintro _ _ ⟨rfl, rfl⟩
            refine oo 3 ?_
            refine XO.ld Try.isAgg3 ?_
            refine oo 1 ?_
            refine XO.ef0 (Ef.st Try.sizeOf3) ?_
            rintro _ _ ⟨rfl, rfl⟩
            refine oo 3 ?_
            refine XO.ld Try.isAgg3 ?_
            refine XO.ld Try.isAgg3 ?_
            refine oo 2 ?_
            refine XO.sb [136, 14] ?_
            apply XO.cutOr 3 139 136 rfl
            · skip
              intro g1 M1; have h1 := sp g1
              refine XO.ld Try.isAgg3 ?_
              refine oo 2 ?_
              exact XO.fin M1 ⟨orF g1, subB⟩
            · skip
              intro g1 M1; have h1 := sp g1
              refine oo 3 ?_
              exact XO.fin M1 ⟨orT g1, subB⟩
            · skip
              refine ox 1 ?_
              refine X.part 139 rfl (fun h1 => ?_) (fun h1 => ?_)
              · skip
                replace h1 := sp h1
                refine xx 1 ?_
                refine X.out rfl ⟨rfl, rfl, _, ⟨rfl, i + 1, by omega, rfl⟩, ?_⟩
                simp only [ca, na]
                rw [show ((i + 1 : Nat) : Int) = (i : Int) + 1 from rfl, ← Int.add_assoc]
                exact leA
              · skip
                replace h1 := sp h1
                refine xx 3 ?_
                refine X.fall ⟨rfl, rfl, ?_⟩
                simp only [ca, na]
                rw [show ((i + 1 : Nat) : Int) = (i : Int) + 1 from rfl, ← Int.add_assoc]
                exact leA
          · skip
            rw [hms]
            simp only [ca, na]
            generalize hkk : (sumT t.turns - max step 0).toNat = k
            refine X.le (q' := pto r (.deferred (some [])) :: pto n13 (.cells [.int .i64 (k : Int)].toArray 3 (0, 0)) :: pto n14 (.cells [.int .i64 (max 0 step + (k : Int))].toArray 3 (0, 0)) :: pto n1 (.cells (t.cs a c).toArray 32 (0, 0)) :: pto n2 (.cells [.int .i64 many].toArray 3 (0, 0)) :: pto n3 (.cells [.bool false].toArray 4 (0, 0)) :: pto n10 (.cells ([c0, c1, c2, c3, c4, c5, c6, c7].map (Value.int .i64)).toArray 46 (0, 0)) :: (q ++ F)) leB ?_
            refine xo 3 ?_
            refine XO.ld Try.isAgg3 ?_
            refine XO.ld Try.isAgg3 ?_
            refine oo 2 ?_
            rcases Decidable.em (many ≤ (k : Int)) with hb1 | hb1
            · skip
              refine XO.know 143 (.bool true) rfl (congrArg Value.bool (decide_eq_true (by omega))) ?_
              refine oo 10 ?_
              refine XO.cF Try.call5 (known_ok) ?_
              rintro _ _ ⟨rfl, rfl⟩ _ e_; simp only [ca, na] at e_; subst e_
              refine oo 1 ?_
              refine XO.ef0 (Ef.st Try.sizeOf4) ?_
              rintro _ _ ⟨rfl, rfl⟩
              refine ox 1 ?_
              refine X.sb [6] ?_
              refine X.ret ⟨rfl, Lv.marks ?_⟩
              exact Lv.ret (q' := q) Try.func4 (resC1 Try.results4 (ResOk.cell rfl (LV.cell Try.isAgg4 clA) ResOk.nil)) ⟨_, rfl, rfl, rfl⟩ leA
            · skip
              rcases Decidable.em (200 ≤ (k : Int)) with hb2 | hb2
              · skip
                refine XO.know 143 (.bool false) rfl (congrArg Value.bool (decide_eq_false (by omega))) ?_
                refine XO.ld Try.isAgg3 ?_
                refine oo 3 ?_
                refine XO.know 147 (.bool true) rfl (congrArg Value.bool (decide_eq_true (by omega))) ?_
                refine oo 6 ?_
                refine XO.cF Try.call5 (known_ok) ?_
                rintro _ _ ⟨rfl, rfl⟩ _ e_; simp only [ca, na] at e_; subst e_
                refine oo 1 ?_
                refine XO.ef0 (Ef.st Try.sizeOf4) ?_
                rintro _ _ ⟨rfl, rfl⟩
                refine ox 1 ?_
                refine X.sb [6] ?_
                refine X.ret ⟨rfl, Lv.marks ?_⟩
                exact Lv.ret (q' := q) Try.func4 (resC1 Try.results4 (ResOk.cell rfl (LV.cell Try.isAgg4 clA) ResOk.nil)) ⟨_, rfl, rfl, rfl⟩ leA
              · skip
                refine XO.know 143 (.bool false) rfl (congrArg Value.bool (decide_eq_false (by omega))) ?_
                refine XO.ld Try.isAgg3 ?_
                refine oo 3 ?_
                refine XO.know 147 (.bool false) rfl (congrArg Value.bool (decide_eq_false (by omega))) ?_
                refine XO.ldA Try.isAgg32 Try.sizeOf32 ?_
                refine XO.ld Try.isAgg3 ?_
                refine XO.cX Try.call12 (Le.refl _) (RAt_ok (t := t) (a := a) (c := c) (hs.le leA)) ?_
                rintro _ _ ⟨(⟨hw, rfl⟩ | ⟨_, rfl⟩), rfl⟩
                exact absurd hw.2.2 (by omega)
                refine oo 3 ?_
                refine XO.know 153 (.bool true) rfl (congrArg Value.bool (by first | rfl | simp)) ?_
                refine XO.cF Try.call5 (known_ok) ?_
                rintro _ _ ⟨rfl, rfl⟩ _ e_; simp only [ca, na] at e_; subst e_
                refine oo 1 ?_
                refine XO.ef0 (Ef.st Try.sizeOf4) ?_
                rintro _ _ ⟨rfl, rfl⟩
                refine ox 1 ?_
                refine X.sb [6] ?_
                refine X.ret ⟨rfl, Lv.marks ?_⟩
                exact Lv.ret (q' := q) Try.func4 (resC1 Try.results4 (ResOk.cell rfl (LV.cell Try.isAgg4 clA) ResOk.nil)) ⟨_, rfl, rfl, rfl⟩ leA
          · skip
            obtain ⟨rfl, k, hbr, rfl⟩ := hJ
            simp only [ca, na]
            refine X.le (q' := pto r (.deferred (some [])) :: pto n13 (.cells [.int .i64 (k : Int)].toArray 3 (0, 0)) :: pto n14 (.cells [.int .i64 (max 0 step + (k : Int))].toArray 3 (0, 0)) :: pto n1 (.cells (t.cs a c).toArray 32 (0, 0)) :: pto n2 (.cells [.int .i64 many].toArray 3 (0, 0)) :: pto n3 (.cells [.bool false].toArray 4 (0, 0)) :: pto n10 (.cells ([c0, c1, c2, c3, c4, c5, c6, c7].map (Value.int .i64)).toArray 46 (0, 0)) :: (q ++ F)) leB ?_
            refine xo 3 ?_
            refine XO.ld Try.isAgg3 ?_
            refine XO.ld Try.isAgg3 ?_
            refine oo 2 ?_
            rcases hbr with hb1 | hb1
            · skip
              refine XO.know 143 (.bool true) rfl (congrArg Value.bool (decide_eq_true (by omega))) ?_
              refine oo 10 ?_
              refine XO.cF Try.call5 (known_ok) ?_
              rintro _ _ ⟨rfl, rfl⟩ _ e_; simp only [ca, na] at e_; subst e_
              refine oo 1 ?_
              refine XO.ef0 (Ef.st Try.sizeOf4) ?_
              rintro _ _ ⟨rfl, rfl⟩
              refine ox 1 ?_
              refine X.sb [6] ?_
              refine X.ret ⟨rfl, Lv.marks ?_⟩
              exact Lv.ret (q' := q) Try.func4 (resC1 Try.results4 (ResOk.cell rfl (LV.cell Try.isAgg4 clA) ResOk.nil)) ⟨_, rfl, rfl, rfl⟩ leA
            · skip
              rcases Decidable.em (many ≤ (k : Int)) with hb2 | hb2
              · skip
                refine XO.know 143 (.bool true) rfl (congrArg Value.bool (decide_eq_true (by omega))) ?_
                refine oo 10 ?_
                refine XO.cF Try.call5 (known_ok) ?_
                rintro _ _ ⟨rfl, rfl⟩ _ e_; simp only [ca, na] at e_; subst e_
                refine oo 1 ?_
                refine XO.ef0 (Ef.st Try.sizeOf4) ?_
                rintro _ _ ⟨rfl, rfl⟩
                refine ox 1 ?_
                refine X.sb [6] ?_
                refine X.ret ⟨rfl, Lv.marks ?_⟩
                exact Lv.ret (q' := q) Try.func4 (resC1 Try.results4 (ResOk.cell rfl (LV.cell Try.isAgg4 clA) ResOk.nil)) ⟨_, rfl, rfl, rfl⟩ leA
              · skip
                refine XO.know 143 (.bool false) rfl (congrArg Value.bool (decide_eq_false (by omega))) ?_
                refine XO.ld Try.isAgg3 ?_
                refine oo 3 ?_
                refine XO.know 147 (.bool true) rfl (congrArg Value.bool (decide_eq_true (by omega))) ?_
                refine oo 6 ?_
                refine XO.cF Try.call5 (known_ok) ?_
                rintro _ _ ⟨rfl, rfl⟩ _ e_; simp only [ca, na] at e_; subst e_
                refine oo 1 ?_
                refine XO.ef0 (Ef.st Try.sizeOf4) ?_
                rintro _ _ ⟨rfl, rfl⟩
                refine ox 1 ?_
                refine X.sb [6] ?_
                refine X.ret ⟨rfl, Lv.marks ?_⟩
                exact Lv.ret (q' := q) Try.func4 (resC1 Try.results4 (ResOk.cell rfl (LV.cell Try.isAgg4 clA) ResOk.nil)) ⟨_, rfl, rfl, rfl⟩ leA
end
end Go.Proofs.Ytjkkefgkhafmfaa

