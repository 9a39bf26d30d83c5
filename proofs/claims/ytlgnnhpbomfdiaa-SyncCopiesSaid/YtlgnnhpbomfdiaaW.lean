/- What functions of package sync, of its references and of its laws do: contracts of calls, proved by walking their code. -/
import Derived.Test.YtlgnnhpbomfdiaaV
import Derived.KernelRfl
set_option maxRecDepth 100000
set_option linter.unusedVariables false
set_option linter.unusedSimpArgs false
namespace Go.Proofs.Ytlgnnhpbomfdiaa
open Go Go.RowKit Wx
attribute [local irreducible] Wx.lsH Wx.rsH Wx.lsM Wx.rsM Wx.stars

theorem Real.symmS {s t : Sy} : sameS s t ↔ sameS t s := ⟨fun ⟨a, b, c⟩ => ⟨a.symm, b.symm, c.symm⟩, fun ⟨a, b, c⟩ => ⟨a.symm, b.symm, c.symm⟩⟩
theorem getD_map {α β : Type} (f : α → β) (l : List α) (i : Nat) (d : α) (h : i < l.length) : (l.map f)[i]? = some (f (l.getD i d)) := by simp [List.getD, h]
theorem sameS_iff {r r2 : RS} {s s2 : Sy} (h : Ref r s) (h2 : Ref r2 s2) : sameS s s2 ↔ r.ow.l = r2.ow.l ∧ r.cs.l.map (·.l) = r2.cs.l.map (·.l) ∧ r.rm.l = r2.rm.l ∧ ∀ i, i < r.rm.l.length → (s.chans.getD i ch0).items = (s2.chans.getD i ch0).items ∧ (s.chans.getD i ch0).all.length = (s2.chans.getD i ch0).all.length := by
  unfold sameS
  rw [h.o, h2.o, h.c, h2.c]
  refine and_congr_right fun _ => and_congr_right fun _ => ?_
  have el := h.lm
  have el2 := h2.lm
  constructor
  · intro e
    have hl : s.chans.length = s2.chans.length := by have := congrArg List.length e; simpa using this
    have key : ∀ i, i < s.chans.length → (s.chans.getD i ch0).row = (s2.chans.getD i ch0).row := fun i hi => by
      have e1 := congrArg (·[i]?) e
      simp only [getD_map Ch.row s.chans i ch0 hi, getD_map Ch.row s2.chans i ch0 (by omega)] at e1
      exact Option.some.inj e1
    refine ⟨?_, fun i hi => ?_⟩
    · rw [h.m, h2.m]
      have : ∀ l : List Ch, l.map (·.room) = (l.map Ch.row).map (·.2.1) := fun l => by simp [Ch.row, Function.comp_def]
      rw [this, this, e]
    · have := key i (by omega)
      unfold Ch.row at this
      simp only [Prod.mk.injEq] at this
      exact ⟨this.1, by have := this.2.2; omega⟩
  · rintro ⟨e, k⟩
    have hl : s.chans.length = s2.chans.length := by have := congrArg List.length e; omega
    apply List.ext_getElem?
    intro i
    rcases Nat.lt_or_ge i s.chans.length with hi | hi
    · rw [getD_map Ch.row s.chans i ch0 hi, getD_map Ch.row s2.chans i ch0 (by omega)]
      obtain ⟨k1, k2⟩ := k i (by omega)
      have k3 : (s.chans.getD i ch0).room = (s2.chans.getD i ch0).room := by
        rw [h.ml (by omega), h2.ml (by omega)]
        have := congrArg (·[i]?) e
        simp only [List.getElem?_eq_getElem (show i < r.rm.l.length by omega), List.getElem?_eq_getElem (show i < r2.rm.l.length by omega)] at this
        exact Option.some.inj this
      unfold Ch.row; rw [k1, k2, k3]
    · rw [List.getElem?_eq_none (by simpa using hi), List.getElem?_eq_none (by simp; omega)]
theorem refM_see {G w : World} {q r0 : List HP} {r : RS} (hq : Le q (refM r :: r0)) (st : St G w q) : RSee q r := (RSee.of (okQ_shM (st.le hq))).le hq
theorem sySee {q r0 : List HP} {p : Nat} {σ : SyC} (hq : Le q (syH p σ :: r0)) : SySee q p σ := (SySee.of p σ r0).le (hq.trans (Le.syOutQ p σ r0))
theorem lensW {s : Sy} {N : Nat} (hs : s.ok N) (hN : N ≤ 900) (k : Int) : (waitsS s k).1.length ≤ 1000 := by
  unfold waitsS
  split
  · rename_i hk
    have := (hs.c _ (getD_mem (d := []) (inR_lt hk))).1
    dsimp only; omega
  · simp
theorem Copy_H {G : World} {p : Nat} {σ : SyC} {s : Sy} (hR : Real σ s) {N : Nat} (hs : s.ok N) (hN : N ≤ 1000) : CallF Try.prog G 31 [.pointer (some ⟨p, 0, none⟩)] [syH p σ] (Ret fun v q' => ∃ p2 σ2, Real σ2 s ∧ v = .pointer (some ⟨p2, 0, none⟩) ∧ q' = [syH p2 σ2, syH p σ]) :=
  CallF.conv (Le.syOut p σ) (Copy_ok hR hs hN) (by
    rintro _ _ ⟨_, rfl, p2, σ2, h1, h2, rfl⟩
    exact ⟨_, ⟨_, rfl, p2, σ2, h1, h2, rfl⟩, (Le.syInQ p2 σ2 _).trans (Le.cons _ (Le.syIn p σ))⟩)
section
variable {G : World} {q : List HP} {a b : Option Addr} {c d g p i n : Nat} {σ : SyC} {r r2 : RS} {s s2 : Sy} {k t v mm cc wh nn th vv : Int} {rooms : List Int} {l : List ActT}
set_option maxHeartbeats 2000000 in
theorem RSame_ok (hr : RSee q r) (hr2 : RSee q r2) (h : Ref r s) (h2 : Ref r2 s2) {N : Nat} (hs : s.ok N) (hs2 : s2.ok N) (hN : N ≤ 1000) : CallF Try.prog G 33 [.agg [.slice r.ow.a r.ow.l.length r.ow.c, .slice r.cs.a r.cs.l.length r.cs.c, .slice r.rm.a r.rm.l.length r.rm.c, .slice r.st.a r.st.l.length r.st.c, .slice r.tk.a r.tk.l.length r.tk.c].toArray, .agg [.slice r2.ow.a r2.ow.l.length r2.ow.c, .slice r2.cs.a r2.cs.l.length r2.cs.c, .slice r2.rm.a r2.rm.l.length r2.rm.c, .slice r2.st.a r2.st.l.length r2.st.c, .slice r2.tk.a r2.tk.l.length r2.tk.c].toArray] q (Ret fun v q' => v = .bool (decide (sameS s s2)) ∧ q' = q) := by
  refine CallF.of Try.func33 Try.ntmps33 rfl (fun F cs => ?_)
  refine X.sub (p' := [(0, _), (1, _)]) ⟨rfl, rfl, trivial⟩ ?_
  have hl := h.len hs hN; have hlo := hl.o; have hlc := hl.c; have hlm := hl.m; have hlt := hl.t; have hlk := hl.k; have eo := h.lo; have ec := h.lc; have em := h.lm; have et := h.lt; have ek := h.lk
  have hl2 := h2.len hs2 hN; have hlo2 := hl2.o; have hlc2 := hl2.c; have hlm2 := hl2.m; have hlt2 := hl2.t; have hlk2 := hl2.k; have ec2 := h2.lc; have em2 := h2.lm; have et2 := h2.lt; have ek2 := h2.lk
  have hiff := sameS_iff h h2; have hz : ∀ q', Le q' q → RSee q' r := fun q' l => hr.le l; have hz2 : ∀ q', Le q' q → RSee q' r2 := fun q' l => hr2.le l
  refine X.seq ?_
  refine X.region ?_
  refine XO.ef (Ef.box rfl) ?_
  rintro _ _ ⟨n1, rfl, rfl⟩
  refine XO.ef (Ef.box rfl) ?_
  rintro _ _ ⟨n2, rfl, rfl⟩
  refine XO.pu (Pu.assign rfl) ?_
  refine XO.nil ?_
  refine X.sub (p' := [(4, _), (3, _), (2, _)]) ⟨rfl, rfl, rfl, trivial⟩ ?_
  refine X.seq ?_
  refine X.seq ?_
  refine X.region ?_
  refine XO.pu (Pu.fieldAddr 29 0 0 rfl Try.underlying53 rfl Try.sizeOf29) ?_
  refine XO.ld Try.isAgg29 ?_
  refine XO.pu (Pu.fieldAddr 29 0 0 rfl Try.underlying53 rfl Try.sizeOf29) ?_
  refine XO.ld Try.isAgg29 ?_
  refine XO.cR Try.call65 (RInts_ok (hz _ leA).so (hz2 _ leA).so (by omega)) ?_
  refine XO.pu (Pu.not rfl) ?_
  refine XO.pu (Pu.move rfl) ?_
  rcases Decidable.em (r.ow.l = r2.ow.l) with k1 | k1
  · skip
    refine XO.know 13 (.bool false) rfl (congrArg Value.bool (by simp [k1])) ?_
    refine XO.pu (Pu.fieldAddr 50 1 0 rfl Try.underlying53 rfl Try.sizeOf50) ?_
    refine XO.ld Try.isAgg50 ?_
    refine XO.pu (Pu.len rfl Try.underlying50) ?_
    refine XO.pu (Pu.fieldAddr 50 1 0 rfl Try.underlying53 rfl Try.sizeOf50) ?_
    refine XO.ld Try.isAgg50 ?_
    refine XO.pu (Pu.len rfl Try.underlying50) ?_
    refine XO.pu (Pu.neq rfl rfl) ?_
    refine XO.pu (Pu.pickF rfl rfl) ?_
    refine XO.pu (Pu.move rfl) ?_
    rcases Decidable.em (r.cs.l.length = r2.cs.l.length) with k2 | k2
    · skip
      refine XO.know 22 (.bool false) rfl (congrArg Value.bool (by simp [k2])) ?_
      refine XO.pu (Pu.fieldAddr 29 2 0 rfl Try.underlying53 rfl Try.sizeOf29) ?_
      refine XO.ld Try.isAgg29 ?_
      refine XO.pu (Pu.fieldAddr 29 2 0 rfl Try.underlying53 rfl Try.sizeOf29) ?_
      refine XO.ld Try.isAgg29 ?_
      refine XO.cR Try.call65 (RInts_ok (hz _ leA).sr (hz2 _ leA).sr (by omega)) ?_
      refine XO.pu (Pu.not rfl) ?_
      refine XO.pu (Pu.pickF rfl rfl) ?_
      refine XO.nil ?_
      refine X.sub (p' := [(29, _), (4, _), (3, _), (2, _)]) ⟨rfl, rfl, rfl, rfl, trivial⟩ ?_
      rcases Decidable.em (r.rm.l = r2.rm.l) with k3 | k3
      · skip
        refine X.know 29 (.bool false) rfl (congrArg Value.bool (by simp [k3])) ?_
        refine X.condF rfl ?_
        refine X.skip ?_
        refine X.seq ?_
        refine X.seq ?_
        refine X.region ?_
        refine XO.pu (Pu.assign rfl) ?_
        refine XO.nil ?_
        refine X.sub (p' := [(5, _), (4, _), (3, _), (2, _)]) ⟨rfl, rfl, rfl, rfl, trivial⟩ ?_
        refine X.block ?_
        have k3l := congrArg List.length k3
        refine X.at (X.loop (fun (x : Nat) => x ≤ r.cs.l.length ∧ (r.cs.l.take x).map (·.l) = (r2.cs.l.take x).map (·.l)) (fun x => [(2, .pointer (some ⟨n1, 0, none⟩)), (3, .pointer (some ⟨n2, 0, none⟩)), (5, .int .i64 (x : Int))]) (fun x => pto n1 (.cells [.slice r.ow.a r.ow.l.length r.ow.c, .slice r.cs.a r.cs.l.length r.cs.c, .slice r.rm.a r.rm.l.length r.rm.c, .slice r.st.a r.st.l.length r.st.c, .slice r.tk.a r.tk.l.length r.tk.c].toArray 53 (0, 0)) :: pto n2 (.cells [.slice r2.ow.a r2.ow.l.length r2.ow.c, .slice r2.cs.a r2.cs.l.length r2.cs.c, .slice r2.rm.a r2.rm.l.length r2.rm.c, .slice r2.st.a r2.st.l.length r2.st.c, .slice r2.tk.a r2.tk.l.length r2.tk.c].toArray 53 (0, 0)) :: (q ++ F)) (fun x => r.cs.l.length - x) (fun x hi_ ih => ?_) 0 ⟨by omega, by simp⟩) ⟨(by first | rfl | exact congrArg some (congrArg (Value.int _) (by omega)) | (show some _ = some _; simp; done) | (show some _ = some _; simp; omega)), (by first | rfl | exact congrArg some (congrArg (Value.int _) (by omega)) | (show some _ = some _; simp; done) | (show some _ = some _; simp; omega)), (by first | rfl | exact congrArg some (congrArg (Value.int _) (by omega)) | (show some _ = some _; simp; done) | (show some _ = some _; simp; omega)), trivial⟩ leA
        try dsimp only at hi_ ih ⊢
        obtain ⟨hi1, hi2⟩ := hi_
        refine X.seq ?_
        refine X.seq ?_
        refine X.region ?_
        refine XO.pu (Pu.move rfl) ?_
        refine XO.pu (Pu.fieldAddr 50 1 0 rfl Try.underlying53 rfl Try.sizeOf50) ?_
        refine XO.ld Try.isAgg50 ?_
        refine XO.pu (Pu.len rfl Try.underlying50) ?_
        refine XO.pu (Pu.lss rfl rfl) ?_
        refine XO.nil ?_
        refine X.sub (p' := [(34, _), (2, _), (3, _), (5, _)]) ⟨rfl, rfl, rfl, rfl, trivial⟩ ?_
        refine X.part 34 rfl (fun h0 => ?_) (fun h0 => ?_)
        · skip
          have h0 := of_decide_eq_true h0; have i1 : x < r.cs.l.length := (by omega); have i2 : x < r2.cs.l.length := (by omega); have hci := hl.ci _ (List.getElem_mem i1)
          refine X.adr (hr.sc.le leA) (by simp; omega) (fun b5 o5 e5 => ?_); refine X.adr (hr2.sc.le leA) (by simp; omega) (fun b6 o6 e6 => ?_); have hs5 := hr.sc; rw [e5] at hs5; have hs6 := hr2.sc; rw [e6] at hs6; rw [e5, e6]
          refine X.condT rfl ?_
          refine X.skip ?_
          refine X.seq ?_
          refine X.block ?_
          refine X.seq ?_
          refine X.draw [] Try.mixed (by kernel_rfl) (by kernel_rfl) rfl ?_
          refine XD.pu 0 rfl (Pu.fieldAddr 50 1 0 rfl Try.underlying53 rfl Try.sizeOf50) ?_
          refine XD.ld 1 Try.isAgg50 ?_
          refine XD.pu 2 rfl (Pu.move rfl) ?_
          refine XD.pu 3 rfl (Pu.indexAddr rfl rfl Try.underlying50 Try.sizeOf29 (by omega) (by omega)) ?_
          refine XD.ld 4 Try.isAgg29 ?_
          refine XD.pu 5 rfl (Pu.fieldAddr 50 1 0 rfl Try.underlying53 rfl Try.sizeOf50) ?_
          refine XD.ld 6 Try.isAgg50 ?_
          refine XD.pu 7 rfl (Pu.move rfl) ?_
          refine XD.pu 8 rfl (Pu.indexAddr rfl rfl Try.underlying50 Try.sizeOf29 (by omega) (by omega)) ?_
          refine XD.ld 9 Try.isAgg29 ?_
          refine XD.cRL 10 Try.call65 (RInts_ok (l := r.cs.l[x].l) (m := r2.cs.l[x].l) ((hr.sci x i1).le leA) ((hr2.sci x i2).le leA) (by omega)) ?_
          refine XD.pu 11 rfl (Pu.not rfl) ?_
          refine XD.nil ?_
          refine X.sub (p' := [(48, _), (2, _), (3, _), (5, _)]) ⟨rfl, rfl, rfl, rfl, trivial⟩ ?_
          rcases Decidable.em (r.cs.l[x].l = r2.cs.l[x].l) with k4 | k4
          · skip
            refine X.know 48 (.bool false) rfl (congrArg Value.bool (by simp [k4])) ?_
            refine X.condF rfl ?_
            refine X.skip ?_
            refine X.inBlock ?_
            refine X.region ?_
            refine XO.pu (Pu.move rfl) ?_
            refine XO.pu (Pu.add rfl rfl (by omega) (by omega)) ?_
            refine XO.pu (Pu.assign rfl) ?_
            refine XO.nil ?_
            refine X.sub (p' := [(5, _), (2, _), (3, _)]) ⟨rfl, rfl, rfl, trivial⟩ ?_
            rw [← e5, ← e6]
            refine X.at (ih (x + 1) ⟨by omega, by rw [List.take_succ_eq_append_getElem i1, List.take_succ_eq_append_getElem i2, List.map_append, List.map_append, hi2]; simp only [List.map_cons, List.map_nil, k4]⟩ (by omega)) ⟨(by first | rfl | exact congrArg some (congrArg (Value.int _) (by omega)) | (show some _ = some _; simp; done) | (show some _ = some _; simp; omega)), (by first | rfl | exact congrArg some (congrArg (Value.int _) (by omega)) | (show some _ = some _; simp; done) | (show some _ = some _; simp; omega)), (by first | rfl | exact congrArg some (congrArg (Value.int _) (by omega)) | (show some _ = some _; simp; done) | (show some _ = some _; simp; omega)), trivial⟩ leA
          · skip
            refine X.know 48 (.bool true) rfl (congrArg Value.bool (by simp [k4])) ?_
            refine X.condT rfl ?_
            refine X.seq ?_
            refine X.region ?_
            refine XO.pu (Pu.assign rfl) ?_
            refine XO.nil ?_
            refine X.sub (p' := [(4, _), (2, _), (3, _), (5, _)]) ⟨rfl, rfl, rfl, rfl, trivial⟩ ?_
            refine X.retL (q) Try.func33 (res1 Try.results33 rfl) ⟨_, rfl, congrArg Value.bool (by symm; simp only [decide_eq_false_iff_not]; intro e; apply k4; have h5 := congrArg (·[x]?) (hiff.1 e).2.1; simp only [List.getElem?_map, List.getElem?_eq_getElem i1, List.getElem?_eq_getElem i2, Option.map_some] at h5; exact Option.some.inj h5), rfl⟩
        · skip
          have h0 := of_decide_eq_false h0; obtain rfl : x = r.cs.l.length := by omega
          rw [List.take_length, List.take_of_length_le (by omega)] at hi2; clear ih h0 hi1
          refine X.condF rfl ?_
          refine X.exit rfl ?_
          refine X.seq ?_
          refine X.seq ?_
          refine X.region ?_
          refine XO.pu (Pu.assign rfl) ?_
          refine XO.nil ?_
          refine X.sub (p' := [(6, _), (2, _), (3, _)]) ⟨rfl, rfl, rfl, trivial⟩ ?_
          refine X.block ?_
          refine X.at (X.loop (fun (x : Nat) => x ≤ r.rm.l.length ∧ ∀ j, j < x → (s.chans.getD j ch0).items = (s2.chans.getD j ch0).items ∧ (s.chans.getD j ch0).all.length = (s2.chans.getD j ch0).all.length) (fun x => [(2, .pointer (some ⟨n1, 0, none⟩)), (3, .pointer (some ⟨n2, 0, none⟩)), (6, .int .i64 (x : Int))]) (fun x => pto n1 (.cells [.slice r.ow.a r.ow.l.length r.ow.c, .slice r.cs.a r.cs.l.length r.cs.c, .slice r.rm.a r.rm.l.length r.rm.c, .slice r.st.a r.st.l.length r.st.c, .slice r.tk.a r.tk.l.length r.tk.c].toArray 53 (0, 0)) :: pto n2 (.cells [.slice r2.ow.a r2.ow.l.length r2.ow.c, .slice r2.cs.a r2.cs.l.length r2.cs.c, .slice r2.rm.a r2.rm.l.length r2.rm.c, .slice r2.st.a r2.st.l.length r2.st.c, .slice r2.tk.a r2.tk.l.length r2.tk.c].toArray 53 (0, 0)) :: (q ++ F)) (fun x => r.rm.l.length - x) (fun x hi_ ih => ?_) 0 ⟨by omega, fun j hj => by omega⟩) ⟨(by first | rfl | exact congrArg some (congrArg (Value.int _) (by omega)) | (show some _ = some _; simp; done) | (show some _ = some _; simp; omega)), (by first | rfl | exact congrArg some (congrArg (Value.int _) (by omega)) | (show some _ = some _; simp; done) | (show some _ = some _; simp; omega)), (by first | rfl | exact congrArg some (congrArg (Value.int _) (by omega)) | (show some _ = some _; simp; done) | (show some _ = some _; simp; omega)), trivial⟩ leA
          try dsimp only at hi_ ih ⊢
          obtain ⟨hi1, hi3⟩ := hi_
          refine X.seq ?_
          refine X.seq ?_
          refine X.region ?_
          refine XO.pu (Pu.move rfl) ?_
          refine XO.pu (Pu.fieldAddr 29 2 0 rfl Try.underlying53 rfl Try.sizeOf29) ?_
          refine XO.ld Try.isAgg29 ?_
          refine XO.pu (Pu.len rfl Try.underlying29) ?_
          refine XO.pu (Pu.lss rfl rfl) ?_
          refine XO.nil ?_
          refine X.sub (p' := [(53, _), (2, _), (3, _), (6, _)]) ⟨rfl, rfl, rfl, rfl, trivial⟩ ?_
          refine X.part 53 rfl (fun h0 => ?_) (fun h0 => ?_)
          · skip
            have h0 := of_decide_eq_true h0; have i1 : x < r.rm.l.length := (by omega)
            have hch := hs.h _ (getD_mem (d := ch0) (show x < s.chans.length by omega)); obtain ⟨⟨hr1, hr2'⟩, htk, hal, hit, hva⟩ := hch; have ht := h.tl (i := x) (by omega); have hk := h.kl (i := x) (by omega); have htl := congrArg List.length ht; have hti := hl.ti _ (List.getElem_mem (show x < r.st.l.length by omega))
            have hit5 : (s.chans.getD x ch0).items = r.st.l[x].l.drop (r.tk.l[x]).toNat := by unfold Ch.items; rw [ht, ← hk]; rfl
            have hsw : Sees q (sufA r.st.l[x].a r.st.l[x].c (r.tk.l[x]).toNat 1) ((r.st.l[x].l.drop (r.tk.l[x]).toNat).map I64) := by have := (hr.ssi x (by omega)).suf (l := (r.tk.l[x]).toNat) (c := r.st.l[x].c) (sz := 1) (by have := hr.ssl x (by omega); simp; omega); rw [List.map_drop]; simpa using this
            have hch2 := hs2.h _ (getD_mem (d := ch0) (show x < s2.chans.length by omega)); obtain ⟨⟨hr12, hr22'⟩, htk2, hal2, hit2, hva2⟩ := hch2; have ht2 := h2.tl (i := x) (by omega); have hk2 := h2.kl (i := x) (by omega); have htl2 := congrArg List.length ht2; have hti2 := hl2.ti _ (List.getElem_mem (show x < r2.st.l.length by omega))
            have hit25 : (s2.chans.getD x ch0).items = r2.st.l[x].l.drop (r2.tk.l[x]).toNat := by unfold Ch.items; rw [ht2, ← hk2]; rfl
            have hsw2 : Sees q (sufA r2.st.l[x].a r2.st.l[x].c (r2.tk.l[x]).toNat 1) ((r2.st.l[x].l.drop (r2.tk.l[x]).toNat).map I64) := by have := (hr2.ssi x (by omega)).suf (l := (r2.tk.l[x]).toNat) (c := r2.st.l[x].c) (sz := 1) (by have := hr2.ssl x (by omega); simp; omega); rw [List.map_drop]; simpa using this
            refine X.adr (hr.ss.le leA) (by simp; omega) (fun b5 o5 e5 => ?_); refine X.adr (hr2.ss.le leA) (by simp; omega) (fun b6 o6 e6 => ?_); have hs5 := hr.ss; rw [e5] at hs5; have hs6 := hr2.ss; rw [e6] at hs6
            refine X.condT rfl ?_
            refine X.skip ?_
            refine X.seq ?_
            refine X.block ?_
            refine X.seq ?_
            refine X.draw [] Try.mixed (by kernel_rfl) (by kernel_rfl) rfl ?_
            refine XD.loadA 0 rfl rfl Try.isAgg53 Try.sizeOf53 hasA (by rfl) ?_
            refine XD.pu 1 rfl (Pu.move rfl) ?_
            refine XD.loadA 3 rfl rfl Try.isAgg53 Try.sizeOf53 hasA (by rfl) ?_
            refine XD.pu 4 rfl (Pu.move rfl) ?_
            refine XD.cRL 2 Try.call53 (RVals_ok (i := x) (hz _ leA) hl (by omega) (by omega) (by omega)) ?_
            refine XD.cRL 5 Try.call53 (RVals_ok (i := x) (hz2 _ leA) hl2 (by omega) (by omega) (by omega)) ?_
            refine XD.know 58 (.slice (sufA r.st.l[x].a r.st.l[x].c (r.tk.l[x]).toNat 1) (r.st.l[x].l.drop (r.tk.l[x]).toNat).length (r.st.l[x].c - (r.tk.l[x]).toNat)) rfl (by rw [List.length_drop]) ?_
            refine XD.know 61 (.slice (sufA r2.st.l[x].a r2.st.l[x].c (r2.tk.l[x]).toNat 1) (r2.st.l[x].l.drop (r2.tk.l[x]).toNat).length (r2.st.l[x].c - (r2.tk.l[x]).toNat)) rfl (by rw [List.length_drop]) ?_
            refine XD.cRL 6 Try.call66 (RValues_ok (hsw.le leA) (hsw2.le leA) (by rw [List.length_drop]; omega)) ?_
            rw [← hit5, ← hit25]
            rw [e5, e6]
            refine XD.pu 7 rfl (Pu.not rfl) ?_
            refine XD.pu 8 rfl (Pu.move rfl) ?_
            rcases Decidable.em ((s.chans.getD x ch0).items = (s2.chans.getD x ch0).items) with k4 | k4
            · skip
              refine XD.know 64 (.bool false) rfl (congrArg Value.bool (by rw [decide_eq_true k4]; rfl)) ?_
              refine XD.pu 9 rfl (Pu.fieldAddr 51 3 0 rfl Try.underlying53 rfl Try.sizeOf51) ?_
              refine XD.ld 10 Try.isAgg51 ?_
              refine XD.pu 11 rfl (Pu.move rfl) ?_
              refine XD.pu 12 rfl (Pu.indexAddr rfl rfl Try.underlying51 Try.sizeOf28 (by omega) (by omega)) ?_
              refine XD.ld 13 Try.isAgg28 ?_
              refine XD.pu 14 rfl (Pu.len rfl Try.underlying28) ?_
              refine XD.pu 15 rfl (Pu.fieldAddr 51 3 0 rfl Try.underlying53 rfl Try.sizeOf51) ?_
              refine XD.ld 16 Try.isAgg51 ?_
              refine XD.pu 17 rfl (Pu.move rfl) ?_
              refine XD.pu 18 rfl (Pu.indexAddr rfl rfl Try.underlying51 Try.sizeOf28 (by omega) (by omega)) ?_
              refine XD.ld 19 Try.isAgg28 ?_
              refine XD.pu 20 rfl (Pu.len rfl Try.underlying28) ?_
              refine XD.pu 21 rfl (Pu.neq rfl rfl) ?_
              refine XD.pu 22 rfl (Pu.pickF rfl rfl) ?_
              refine XD.nil ?_
              refine X.sub (p' := [(78, _), (2, _), (3, _), (6, _)]) ⟨rfl, rfl, rfl, rfl, trivial⟩ ?_
              rcases Decidable.em ((s.chans.getD x ch0).all.length = (s2.chans.getD x ch0).all.length) with k5 | k5
              · skip
                refine X.know 78 (.bool false) rfl (congrArg Value.bool (by simp [slV]; omega)) ?_
                refine X.condF rfl ?_
                refine X.skip ?_
                refine X.inBlock ?_
                refine X.region ?_
                refine XO.pu (Pu.move rfl) ?_
                refine XO.pu (Pu.add rfl rfl (by omega) (by omega)) ?_
                refine XO.pu (Pu.assign rfl) ?_
                refine XO.nil ?_
                refine X.sub (p' := [(6, _), (2, _), (3, _)]) ⟨rfl, rfl, rfl, trivial⟩ ?_
                rw [← e5, ← e6]
                have hi4 : ∀ j, j < x + 1 → (s.chans.getD j ch0).items = (s2.chans.getD j ch0).items ∧ (s.chans.getD j ch0).all.length = (s2.chans.getD j ch0).all.length := fun j hj => (Nat.lt_or_ge j x).elim (hi3 j) (fun h1 => by have e : j = x := (by omega); subst e; exact ⟨k4, k5⟩)
                refine X.at (ih (x + 1) ⟨by omega, hi4⟩ (by omega)) ⟨(by first | rfl | exact congrArg some (congrArg (Value.int _) (by omega)) | (show some _ = some _; simp; done) | (show some _ = some _; simp; omega)), (by first | rfl | exact congrArg some (congrArg (Value.int _) (by omega)) | (show some _ = some _; simp; done) | (show some _ = some _; simp; omega)), (by first | rfl | exact congrArg some (congrArg (Value.int _) (by omega)) | (show some _ = some _; simp; done) | (show some _ = some _; simp; omega)), trivial⟩ leA
              · skip
                refine X.know 78 (.bool true) rfl (congrArg Value.bool (by simp [slV]; omega)) ?_
                refine X.condT rfl ?_
                refine X.seq ?_
                refine X.region ?_
                refine XO.pu (Pu.assign rfl) ?_
                refine XO.nil ?_
                refine X.sub (p' := [(4, _), (2, _), (3, _), (6, _)]) ⟨rfl, rfl, rfl, rfl, trivial⟩ ?_
                refine X.retL (q) Try.func33 (res1 Try.results33 rfl) ⟨_, rfl, congrArg Value.bool (by symm; simp only [decide_eq_false_iff_not]; intro e; exact k5 ((hiff.1 e).2.2.2 x i1).2), rfl⟩
            · skip
              refine XD.know 64 (.bool true) rfl (congrArg Value.bool (by rw [decide_eq_false k4]; rfl)) ?_
              refine XD.pass 9 rfl ?_
              refine XD.pass 10 rfl ?_
              refine XD.pass 11 rfl ?_
              refine XD.pass 12 rfl ?_
              refine XD.pass 13 rfl ?_
              refine XD.pass 14 rfl ?_
              refine XD.pass 15 rfl ?_
              refine XD.pass 16 rfl ?_
              refine XD.pass 17 rfl ?_
              refine XD.pass 18 rfl ?_
              refine XD.pass 19 rfl ?_
              refine XD.pass 20 rfl ?_
              refine XD.pass 21 rfl ?_
              refine XD.pu 22 rfl (Pu.pickT rfl rfl) ?_
              refine XD.nil ?_
              refine X.sub (p' := [(78, _), (2, _), (3, _), (6, _)]) ⟨rfl, rfl, rfl, rfl, trivial⟩ ?_
              refine X.condT rfl ?_
              refine X.seq ?_
              refine X.region ?_
              refine XO.pu (Pu.assign rfl) ?_
              refine XO.nil ?_
              refine X.sub (p' := [(4, _), (2, _), (3, _), (6, _)]) ⟨rfl, rfl, rfl, rfl, trivial⟩ ?_
              refine X.retL (q) Try.func33 (res1 Try.results33 rfl) ⟨_, rfl, congrArg Value.bool (by symm; simp only [decide_eq_false_iff_not]; intro e; exact k4 ((hiff.1 e).2.2.2 x i1).1), rfl⟩
          · skip
            have h0 := of_decide_eq_false h0; obtain rfl : x = r.rm.l.length := by omega
            refine X.condF rfl ?_
            refine X.exit rfl ?_
            refine X.seq ?_
            refine X.region ?_
            refine XO.pu (Pu.assign rfl) ?_
            refine XO.nil ?_
            refine X.sub (p' := [(4, _)]) ⟨rfl, trivial⟩ ?_
            refine X.retL (q) Try.func33 (res1 Try.results33 rfl) ⟨_, rfl, congrArg Value.bool (by symm; simp only [decide_eq_true_eq]; exact hiff.2 ⟨k1, hi2, k3, hi3⟩), rfl⟩
      · skip
        refine X.know 29 (.bool true) rfl (congrArg Value.bool (by simp [k3])) ?_
        refine X.condT rfl ?_
        refine X.seq ?_
        refine X.region ?_
        refine XO.pu (Pu.assign rfl) ?_
        refine XO.nil ?_
        refine X.sub (p' := [(4, _), (3, _), (2, _)]) ⟨rfl, rfl, rfl, trivial⟩ ?_
        refine X.retL (q) Try.func33 (res1 Try.results33 rfl) ⟨_, rfl, congrArg Value.bool (by symm; simp only [decide_eq_false_iff_not]; intro e; exact k3 (hiff.1 e).2.2.1), rfl⟩
    · skip
      refine XO.know 22 (.bool true) rfl (congrArg Value.bool (by simp; omega)) ?_
      refine XO.pass rfl ?_
      refine XO.pass rfl ?_
      refine XO.pass rfl ?_
      refine XO.pass rfl ?_
      refine XO.pass rfl ?_
      refine XO.pass rfl ?_
      refine XO.pu (Pu.pickT rfl rfl) ?_
      refine XO.nil ?_
      refine X.sub (p' := [(29, _), (4, _), (3, _), (2, _)]) ⟨rfl, rfl, rfl, rfl, trivial⟩ ?_
      refine X.condT rfl ?_
      refine X.seq ?_
      refine X.region ?_
      refine XO.pu (Pu.assign rfl) ?_
      refine XO.nil ?_
      refine X.sub (p' := [(4, _), (3, _), (2, _)]) ⟨rfl, rfl, rfl, trivial⟩ ?_
      refine X.retL (q) Try.func33 (res1 Try.results33 rfl) ⟨_, rfl, congrArg Value.bool (by symm; simp only [decide_eq_false_iff_not]; intro e; apply k2; have := congrArg List.length (hiff.1 e).2.1; simpa using this), rfl⟩
  · skip
    refine XO.know 13 (.bool true) rfl (congrArg Value.bool (by simp [k1])) ?_
    refine XO.pass rfl ?_
    refine XO.pass rfl ?_
    refine XO.pass rfl ?_
    refine XO.pass rfl ?_
    refine XO.pass rfl ?_
    refine XO.pass rfl ?_
    refine XO.pass rfl ?_
    refine XO.pu (Pu.pickT rfl rfl) ?_
    refine XO.pu (Pu.move rfl) ?_
    refine XO.pass rfl ?_
    refine XO.pass rfl ?_
    refine XO.pass rfl ?_
    refine XO.pass rfl ?_
    refine XO.pass rfl ?_
    refine XO.pass rfl ?_
    refine XO.pu (Pu.pickT rfl rfl) ?_
    refine XO.nil ?_
    refine X.sub (p' := [(29, _), (4, _), (3, _), (2, _)]) ⟨rfl, rfl, rfl, rfl, trivial⟩ ?_
    refine X.condT rfl ?_
    refine X.seq ?_
    refine X.region ?_
    refine XO.pu (Pu.assign rfl) ?_
    refine XO.nil ?_
    refine X.sub (p' := [(4, _), (3, _), (2, _)]) ⟨rfl, rfl, rfl, trivial⟩ ?_
    refine X.retL (q) Try.func33 (res1 Try.results33 rfl) ⟨_, rfl, congrArg Value.bool (by symm; simp only [decide_eq_false_iff_not]; intro e; exact k1 (hiff.1 e).1), rfl⟩
set_option maxHeartbeats 2000000 in
theorem copies_ok (hrm : Sees q b (rooms.map I64)) (hs : Sees q a (l.flatMap acs)) : CallF Try.prog G 10 [.agg [.int .i64 mm, .int .i64 cc, .slice b rooms.length d].toArray, .slice a l.length c, .agg [.int .i64 wh, .int .i64 nn, .int .i64 th, .int .i64 vv].toArray] q (Ret fun v q' => v = .bool true ∧ ∃ A, q' = A) := by
  refine CallF.of Try.func10 Try.ntmps10 rfl (fun F cs => ?_)
  refine X.sub (p' := [(0, _), (1, _), (2, _)]) ⟨rfl, rfl, rfl, trivial⟩ ?_
  refine X.seq ?_
  refine X.region ?_
  refine XO.ef (Ef.box rfl) ?_
  rintro _ _ ⟨n1, rfl, rfl⟩
  refine XO.ef (Ef.box rfl) ?_
  rintro _ _ ⟨n2, rfl, rfl⟩
  refine XO.pu (Pu.assign rfl) ?_
  refine XO.nil ?_
  refine X.sub (p' := [(6, _), (5, _), (3, _), (1, _)]) ⟨rfl, rfl, rfl, rfl, trivial⟩ ?_
  refine X.seq ?_
  refine X.seq ?_
  refine X.region ?_
  refine XO.ldA Try.isAgg48 Try.sizeOf48 ?_
  refine XO.pu (Pu.move rfl) ?_
  rcases Decidable.em (formOk mm cc rooms) with ok | ok
  · skip
    refine XO.cR Try.call23 (small_ok (hrm.le leA) (hs.le leA) ok) ?_
    refine XO.pu (Pu.not rfl) ?_
    refine XO.nil ?_
    refine X.sub (p' := [(23, _), (6, _), (5, _), (3, _), (1, _)]) ⟨rfl, rfl, rfl, rfl, rfl, trivial⟩ ?_
    rcases Decidable.em (l.length ≤ 100) with hl | hl
    · skip
      refine X.know 23 (.bool false) rfl (congrArg Value.bool (by simp [hl])) ?_
      refine X.condF rfl ?_
      refine X.skip ?_
      refine X.seq ?_
      refine X.region ?_
      refine XO.ldA Try.isAgg48 Try.sizeOf48 ?_
      refine XO.pu (Pu.move rfl) ?_
      refine XO.cX Try.call24 (Le.refl _) (played_ok (hrm.le leA) (hs.le leA) ok hl) ?_
      rintro _ _ ⟨p, σ, r, h5, hR5, rfl, rfl⟩
      have hk5 := playS_ok (l := l) (newS_ok (m := mm.toNat) (c := cc.toNat) (by rw [Int.toNat_of_nonneg ok.1.1, Int.toNat_of_nonneg ok.2.1.1]; exact ok))
      generalize playS (newS mm.toNat cc.toNat rooms) l = S at h5 hR5 hk5; have hk6 : S.ok 200 := hk5.mono (by omega)
      refine XO.pu (Pu.move rfl) ?_
      refine XO.pu (Pu.extract rfl rfl) ?_
      refine XO.pu (Pu.extract rfl rfl) ?_
      refine XO.pu (Pu.extract rfl rfl) ?_
      refine XO.ef (Ef.alloc Try.zeroValue53) ?_
      rintro _ _ ⟨n3, rfl, rfl⟩
      refine XO.pu (Pu.assign rfl) ?_
      refine XO.ef0 (Ef.stA Try.sizeOf53) ?_
      rintro _ _ ⟨rfl, rfl⟩
      refine XO.pu (Pu.assign rfl) ?_
      refine XO.nil ?_
      refine X.sub (p' := [(9, _), (7, _), (8, _), (6, _), (5, _)]) ⟨rfl, rfl, rfl, rfl, rfl, trivial⟩ ?_
      refine X.seq ?_
      refine X.region ?_
      refine XO.pu (Pu.move rfl) ?_
      refine XO.cF Try.call31 (Copy_H hR5 hk6 (by omega)) ?_
      rintro _ _ ⟨p2, σ2, hR2, rfl, rfl⟩ _ e_; simp only [ca, na] at e_; subst e_
      refine XO.pu (Pu.assign rfl) ?_
      refine XO.nil ?_
      refine X.sub (p' := [(10, _), (9, _), (7, _), (8, _), (6, _), (5, _)]) ⟨rfl, rfl, rfl, rfl, rfl, rfl, trivial⟩ ?_
      refine X.seq ?_
      refine X.region ?_
      refine XO.pu (Pu.move rfl) ?_
      refine XO.cF Try.call31 (Copy_H (p := p) hR5 hk6 (by omega)) ?_
      rintro _ _ ⟨p3, σ3, hR3, rfl, rfl⟩ _ e_; simp only [ca, na] at e_; subst e_
      refine XO.pu (Pu.assign rfl) ?_
      refine XO.nil ?_
      refine X.sub (p' := [(11, _), (10, _), (9, _), (7, _), (8, _), (6, _), (5, _)]) ⟨rfl, rfl, rfl, rfl, rfl, rfl, rfl, trivial⟩ ?_
      refine X.seq ?_
      refine X.seq ?_
      refine X.region ?_
      refine XO.pu (Pu.move rfl) ?_
      refine XO.pu (Pu.not rfl) ?_
      refine XO.pu (Pu.move rfl) ?_
      refine XO.know 38 (.bool false) rfl (congrArg Value.bool ((by first | rfl | (simp; done) | (simp; omega)))) ?_
      refine XO.pu (Pu.move rfl) ?_
      refine XO.pu (Pu.move rfl) ?_
      refine XO.cR Try.call32 (Same_ok (p := p) (p2 := p2) (sySee fndA) (sySee fndA) hR5 hR2 hk6 (by omega)) ?_
      refine XO.pu (Pu.not rfl) ?_
      refine XO.pu (Pu.pickF rfl rfl) ?_
      refine XO.nil ?_
      refine X.sub (p' := [(43, _), (11, _), (10, _), (7, _), (8, _), (6, _), (5, _)]) ⟨rfl, rfl, rfl, rfl, rfl, rfl, rfl, trivial⟩ ?_
      refine X.know 43 (.bool false) rfl (congrArg Value.bool (by simp [sameS])) ?_
      refine X.condF rfl ?_
      refine X.skip ?_
      refine X.seq ?_
      refine X.region ?_
      refine XO.pu (Pu.move rfl) ?_
      refine XO.ldA Try.isAgg53 Try.sizeOf53 ?_
      refine XO.ldA Try.isAgg31 Try.sizeOf31 ?_
      refine XO.le (Le.trans (show Le _ (refM r :: _) from fndA) (Le.dup (lasts_refM r) _)) ?_
      refine XO.cF Try.call26 (act_ok (p := p) (r := r) (σ := σ) (wh := wh) (nn := nn) (th := th) (vv := vv) h5 hR5 hk6 (by omega)) ?_
      rintro _ _ ⟨r5, σ5, h7, hR7, rfl, rfl⟩ _ e_; simp only [ca, na] at e_; subst e_
      have hk7 := actS_ok hk6 wh nn th vv; generalize actS S wh nn th vv = S5 at h7 hR7 hk7
      refine XO.pu (Pu.move rfl) ?_
      refine XO.pu (Pu.extract rfl rfl) ?_
      refine XO.pu (Pu.extract rfl rfl) ?_
      refine XO.ef (Ef.alloc Try.zeroValue53) ?_
      rintro _ _ ⟨n4, rfl, rfl⟩
      refine XO.ef0 (Ef.stA Try.sizeOf53) ?_
      rintro _ _ ⟨rfl, rfl⟩
      refine XO.pu (Pu.assign rfl) ?_
      refine XO.nil ?_
      refine X.sub (p' := [(13, _), (12, _), (11, _), (10, _), (7, _), (8, _), (6, _), (5, _)]) ⟨rfl, rfl, rfl, rfl, rfl, rfl, rfl, rfl, trivial⟩ ?_
      refine X.seq ?_
      refine X.region ?_
      refine XO.pu (Pu.move rfl) ?_
      refine XO.ldA Try.isAgg53 Try.sizeOf53 ?_
      refine XO.pu (Pu.fieldAddr 3 1 0 rfl Try.underlying31 rfl Try.sizeOf3) ?_
      refine XO.ld Try.isAgg3 ?_
      refine XO.pu (Pu.build (cells := [_, _, _, _]) [(0, 1), (1, 1), (2, 1), (3, 1)] Try.zeroValue31 Try.underlying31 (by kernel_rfl) rfl rfl) ?_
      refine XO.le (Le.trans (show Le _ (refM r :: _) from fndA) (Le.dup (lasts_refM r) _)) ?_
      refine XO.cF Try.call26 (act_ok (p := p3) (r := r) (σ := σ3) (wh := 2) (nn := nn) (th := 7) (vv := 0) h5 hR3 hk6 (by omega)) ?_
      rintro _ _ ⟨r6, σ6, h8, hR8, rfl, rfl⟩ _ e_; simp only [ca, na] at e_; subst e_
      have hk8 := actS_ok hk6 2 nn 7 0; generalize actS S 2 nn 7 0 = S6 at h8 hR8 hk8
      refine XO.pu (Pu.move rfl) ?_
      refine XO.pu (Pu.extract rfl rfl) ?_
      refine XO.pu (Pu.extract rfl rfl) ?_
      refine XO.ef (Ef.alloc Try.zeroValue53) ?_
      rintro _ _ ⟨n5, rfl, rfl⟩
      refine XO.ef0 (Ef.stA Try.sizeOf53) ?_
      rintro _ _ ⟨rfl, rfl⟩
      refine XO.pu (Pu.assign rfl) ?_
      refine XO.nil ?_
      refine X.sub (p' := [(15, _), (14, _), (13, _), (12, _), (11, _), (10, _), (7, _), (8, _), (6, _), (5, _)]) ⟨rfl, rfl, rfl, rfl, rfl, rfl, rfl, rfl, rfl, rfl, trivial⟩ ?_
      refine X.seq ?_
      refine X.region ?_
      refine XO.ldA Try.isAgg53 Try.sizeOf53 ?_
      refine XO.ldA Try.isAgg53 Try.sizeOf53 ?_
      refine XO.fact (fun w s0 => refM_see (r := r) fndA s0) (fun hz1 => ?_); refine XO.fact (fun w s0 => refM_see (r := r5) fndA s0) (fun hz2 => ?_)
      refine XO.cR Try.call33 (RSame_ok hz1 hz2 h5 h7 (hk6.mono (show 200 ≤ 201 by decide)) hk7 (by omega)) ?_
      clear hz1 hz2
      refine XO.pu (Pu.assign rfl) ?_
      refine XO.nil ?_
      refine X.sub (p' := [(16, _), (15, _), (14, _), (13, _), (12, _), (11, _), (10, _), (7, _), (8, _), (6, _), (5, _)]) ⟨rfl, rfl, rfl, rfl, rfl, rfl, rfl, rfl, rfl, rfl, rfl, trivial⟩ ?_
      refine X.seq ?_
      refine X.region ?_
      refine XO.pu (Pu.move rfl) ?_
      refine XO.pu (Pu.fieldAddr 3 1 0 rfl Try.underlying31 rfl Try.sizeOf3) ?_
      refine XO.ld Try.isAgg3 ?_
      refine XO.cF Try.call21 (Waits_H (p := p2) (σ := σ2) (k := nn) hR2 hk6 (by omega)) ?_
      rintro _ _ ⟨a6, c6, rfl, rfl⟩ _ e_; simp only [ca, na] at e_; subst e_
      refine XO.pu (Pu.move rfl) ?_
      refine XO.pu (Pu.extract rfl rfl) ?_
      refine XO.pu (Pu.extract rfl rfl) ?_
      refine XO.pu (Pu.assign rfl) ?_
      refine XO.pu (Pu.assign rfl) ?_
      refine XO.nil ?_
      refine X.sub (p' := [(17, _), (16, _), (15, _), (14, _), (13, _), (12, _), (11, _), (10, _), (7, _), (8, _), (6, _)]) ⟨rfl, rfl, rfl, rfl, rfl, rfl, rfl, rfl, rfl, rfl, rfl, trivial⟩ ?_
      refine X.seq ?_
      refine X.seq ?_
      refine X.region ?_
      refine XO.pu (Pu.assign rfl) ?_
      refine XO.nil ?_
      refine X.sub (p' := [(19, _), (17, _), (16, _), (15, _), (14, _), (13, _), (12, _), (11, _), (10, _), (7, _), (8, _), (6, _)]) ⟨rfl, rfl, rfl, rfl, rfl, rfl, rfl, rfl, rfl, rfl, rfl, rfl, trivial⟩ ?_
      refine X.block ?_
      have hWb := lensW hk6 (by omega) nn; generalize (waitsS S nn).1 = WL at hWb ⊢
      refine X.at (X.loop (fun (z : Nat × List Int) => z.1 ≤ WL.length ∧ z.2.length = WL.length) (fun z => [(7, .pointer (some ⟨p, 0, none⟩)), (10, .pointer (some ⟨p2, 0, none⟩)), (11, .pointer (some ⟨p3, 0, none⟩)), (8, .pointer (some ⟨n3, 0, none⟩)), (12, .pointer (some ⟨n4, 0, none⟩)), (14, .pointer (some ⟨n5, 0, none⟩)), (13, .bool true), (15, .bool true), (16, .bool (decide (sameS S S5))), (17, .slice a6 WL.length c6), (19, .int .i64 (z.1 : Int))]) (fun z => lsH I64 3 a6 c6 z.2 :: pto n3 (.cells [.slice r.ow.a r.ow.l.length r.ow.c, .slice r.cs.a r.cs.l.length r.cs.c, .slice r.rm.a r.rm.l.length r.rm.c, .slice r.st.a r.st.l.length r.st.c, .slice r.tk.a r.tk.l.length r.tk.c].toArray 53 (0, 0)) :: pto n4 (.cells [.slice r5.ow.a r5.ow.l.length r5.ow.c, .slice r5.cs.a r5.cs.l.length r5.cs.c, .slice r5.rm.a r5.rm.l.length r5.rm.c, .slice r5.st.a r5.st.l.length r5.st.c, .slice r5.tk.a r5.tk.l.length r5.tk.c].toArray 53 (0, 0)) :: pto n5 (.cells [.slice r6.ow.a r6.ow.l.length r6.ow.c, .slice r6.cs.a r6.cs.l.length r6.cs.c, .slice r6.rm.a r6.rm.l.length r6.rm.c, .slice r6.st.a r6.st.l.length r6.st.c, .slice r6.tk.a r6.tk.l.length r6.tk.c].toArray 53 (0, 0)) :: refM r :: refM r5 :: refM r6 :: syH p σ5 :: syH p2 σ2 :: syH p3 σ6 :: (q ++ F)) (fun z => WL.length - z.1) (fun z hi_ ih => ?_) (0, WL) ⟨Nat.zero_le _, rfl⟩) ⟨(by first | rfl | exact congrArg some (congrArg (Value.int _) (by omega)) | (show some _ = some _; simp; done) | (show some _ = some _; simp; omega)), (by first | rfl | exact congrArg some (congrArg (Value.int _) (by omega)) | (show some _ = some _; simp; done) | (show some _ = some _; simp; omega)), (by first | rfl | exact congrArg some (congrArg (Value.int _) (by omega)) | (show some _ = some _; simp; done) | (show some _ = some _; simp; omega)), (by first | rfl | exact congrArg some (congrArg (Value.int _) (by omega)) | (show some _ = some _; simp; done) | (show some _ = some _; simp; omega)), (by first | rfl | exact congrArg some (congrArg (Value.int _) (by omega)) | (show some _ = some _; simp; done) | (show some _ = some _; simp; omega)), (by first | rfl | exact congrArg some (congrArg (Value.int _) (by omega)) | (show some _ = some _; simp; done) | (show some _ = some _; simp; omega)), (by first | rfl | exact congrArg some (congrArg (Value.int _) (by omega)) | (show some _ = some _; simp; done) | (show some _ = some _; simp; omega)), (by first | rfl | exact congrArg some (congrArg (Value.int _) (by omega)) | (show some _ = some _; simp; done) | (show some _ = some _; simp; omega)), (by first | rfl | exact congrArg some (congrArg (Value.int _) (by omega)) | (show some _ = some _; simp; done) | (show some _ = some _; simp; omega)), (by first | rfl | exact congrArg some (congrArg (Value.int _) (by omega)) | (show some _ = some _; simp; done) | (show some _ = some _; simp; omega)), (by first | rfl | exact congrArg some (congrArg (Value.int _) (by omega)) | (show some _ = some _; simp; done) | (show some _ = some _; simp; omega)), trivial⟩ leA
      try dsimp only at hi_ ih ⊢
      obtain ⟨hj1, hj2⟩ := hi_
      obtain ⟨k, L⟩ := z; dsimp only at *
      refine X.seq ?_
      refine X.seq ?_
      refine X.region ?_
      refine XO.pu (Pu.move rfl) ?_
      refine XO.pu (Pu.move rfl) ?_
      refine XO.pu (Pu.len rfl Try.underlying29) ?_
      refine XO.pu (Pu.lss rfl rfl) ?_
      refine XO.nil ?_
      refine X.sub (p' := [(73, _), (7, _), (10, _), (11, _), (8, _), (12, _), (14, _), (13, _), (15, _), (16, _), (17, _), (19, _)]) ⟨rfl, rfl, rfl, rfl, rfl, rfl, rfl, rfl, rfl, rfl, rfl, rfl, trivial⟩ ?_
      refine X.part 73 rfl (fun h0 => ?_) (fun h0 => ?_)
      · skip
        have h0 := of_decide_eq_true h0; have i1 : k < L.length := (by omega)
        refine X.lsadr (l := L) (by omega) (fun g8 e8 => ?_); subst e8
        refine X.condT rfl ?_
        refine X.skip ?_
        refine X.seq ?_
        refine X.block ?_
        refine X.region ?_
        refine XO.pu (Pu.move rfl) ?_
        refine XO.pu (Pu.move rfl) ?_
        refine XO.pu (Pu.indexAddr rfl rfl Try.underlying29 Try.sizeOf3 (by omega) (by omega)) ?_
        refine XO.ef0 (Ef.setL (f := I64) (l := L) (u := -9) (n := k) (g := g8) (j := (k : Int)) rfl rfl Try.sizeOf3 rfl i1 rfl rfl fndA) ?_
        rintro _ _ ⟨rfl, rfl⟩
        refine XO.nil ?_
        refine X.sub (p' := [(7, _), (10, _), (11, _), (8, _), (12, _), (14, _), (13, _), (15, _), (16, _), (17, _), (19, _)]) ⟨rfl, rfl, rfl, rfl, rfl, rfl, rfl, rfl, rfl, rfl, rfl, trivial⟩ ?_
        refine X.inBlock ?_
        refine X.region ?_
        refine XO.pu (Pu.move rfl) ?_
        refine XO.pu (Pu.add rfl rfl (by omega) (by omega)) ?_
        refine XO.pu (Pu.assign rfl) ?_
        refine XO.nil ?_
        refine X.sub (p' := [(19, _), (7, _), (10, _), (11, _), (8, _), (12, _), (14, _), (13, _), (15, _), (16, _), (17, _)]) ⟨rfl, rfl, rfl, rfl, rfl, rfl, rfl, rfl, rfl, rfl, rfl, trivial⟩ ?_
        refine X.at (ih (k + 1, L.set k (-9)) ⟨by dsimp only; omega, by dsimp only; rw [List.length_set]; exact hj2⟩ (by dsimp only; omega)) ⟨(by first | rfl | exact congrArg some (congrArg (Value.int _) (by omega)) | (show some _ = some _; simp; done) | (show some _ = some _; simp; omega)), (by first | rfl | exact congrArg some (congrArg (Value.int _) (by omega)) | (show some _ = some _; simp; done) | (show some _ = some _; simp; omega)), (by first | rfl | exact congrArg some (congrArg (Value.int _) (by omega)) | (show some _ = some _; simp; done) | (show some _ = some _; simp; omega)), (by first | rfl | exact congrArg some (congrArg (Value.int _) (by omega)) | (show some _ = some _; simp; done) | (show some _ = some _; simp; omega)), (by first | rfl | exact congrArg some (congrArg (Value.int _) (by omega)) | (show some _ = some _; simp; done) | (show some _ = some _; simp; omega)), (by first | rfl | exact congrArg some (congrArg (Value.int _) (by omega)) | (show some _ = some _; simp; done) | (show some _ = some _; simp; omega)), (by first | rfl | exact congrArg some (congrArg (Value.int _) (by omega)) | (show some _ = some _; simp; done) | (show some _ = some _; simp; omega)), (by first | rfl | exact congrArg some (congrArg (Value.int _) (by omega)) | (show some _ = some _; simp; done) | (show some _ = some _; simp; omega)), (by first | rfl | exact congrArg some (congrArg (Value.int _) (by omega)) | (show some _ = some _; simp; done) | (show some _ = some _; simp; omega)), (by first | rfl | exact congrArg some (congrArg (Value.int _) (by omega)) | (show some _ = some _; simp; done) | (show some _ = some _; simp; omega)), (by first | rfl | exact congrArg some (congrArg (Value.int _) (by omega)) | (show some _ = some _; simp; done) | (show some _ = some _; simp; omega)), trivial⟩ leA
      · skip
        refine X.condF rfl ?_
        refine X.exit rfl ?_
        refine X.seq ?_
        refine X.region ?_
        refine XO.pu (Pu.move rfl) ?_
        refine XO.pu (Pu.move rfl) ?_
        refine XO.know 80 (.bool true) rfl (congrArg Value.bool ((by first | rfl | (simp; done) | (simp [Real.symmS (s := S5) (t := S)]; done)))) ?_
        refine XO.pu (Pu.move rfl) ?_
        refine XO.pu (Pu.pickT rfl rfl) ?_
        refine XO.pu (Pu.move rfl) ?_
        refine XO.know 83 (.bool true) rfl (congrArg Value.bool ((by first | rfl | (simp; done) | (simp [Real.symmS (s := S5) (t := S)]; done)))) ?_
        refine XO.pu (Pu.move rfl) ?_
        refine XO.ldA Try.isAgg53 Try.sizeOf53 ?_
        refine XO.cF Try.call27 (is_ok (p := p2) (σ := σ2) (r := r) h5 hR2 hk6 (by omega)) ?_
        rintro _ _ ⟨rfl, rfl⟩ _ e_; simp only [ca, na] at e_; subst e_
        refine XO.pu (Pu.pickT rfl rfl) ?_
        refine XO.pu (Pu.move rfl) ?_
        refine XO.know 88 (.bool true) rfl (congrArg Value.bool ((by first | rfl | (simp; done) | (simp [Real.symmS (s := S5) (t := S)]; done)))) ?_
        refine XO.pu (Pu.move rfl) ?_
        refine XO.ldA Try.isAgg53 Try.sizeOf53 ?_
        refine XO.cF Try.call27 (is_ok (p := p) (σ := σ5) (r := r5) h7 hR7 hk7 (by omega)) ?_
        rintro _ _ ⟨rfl, rfl⟩ _ e_; simp only [ca, na] at e_; subst e_
        refine XO.pu (Pu.pickT rfl rfl) ?_
        refine XO.pu (Pu.move rfl) ?_
        refine XO.know 93 (.bool true) rfl (congrArg Value.bool ((by first | rfl | (simp; done) | (simp [Real.symmS (s := S5) (t := S)]; done)))) ?_
        refine XO.pu (Pu.move rfl) ?_
        refine XO.ldA Try.isAgg53 Try.sizeOf53 ?_
        refine XO.cF Try.call27 (is_ok (p := p3) (σ := σ6) (r := r6) h8 hR8 hk8 (by omega)) ?_
        rintro _ _ ⟨rfl, rfl⟩ _ e_; simp only [ca, na] at e_; subst e_
        refine XO.pu (Pu.pickT rfl rfl) ?_
        refine XO.pu (Pu.move rfl) ?_
        refine XO.know 98 (.bool true) rfl (congrArg Value.bool ((by first | rfl | (simp; done) | (simp [Real.symmS (s := S5) (t := S)]; done)))) ?_
        refine XO.pu (Pu.move rfl) ?_
        refine XO.pu (Pu.move rfl) ?_
        refine XO.cR Try.call32 (Same_ok (p := p) (p2 := p2) (σ := σ5) (σ2 := σ2) (sySee fndA) (sySee fndA) hR7 hR2 hk7 (by omega)) ?_
        refine XO.pu (Pu.move rfl) ?_
        refine XO.pu (Pu.eqlB rfl rfl Try.underlying4) ?_
        refine XO.pu (Pu.pickT rfl rfl) ?_
        refine XO.pu (Pu.move rfl) ?_
        refine XO.know 105 (.bool true) rfl (congrArg Value.bool ((by first | rfl | (simp; done) | (simp [Real.symmS (s := S5) (t := S)]; done)))) ?_
        refine XO.pu (Pu.move rfl) ?_
        refine XO.pu (Pu.move rfl) ?_
        refine XO.cR Try.call32 (Same_ok (p := p2) (p2 := p) (σ := σ2) (σ2 := σ5) (sySee fndA) (sySee fndA) hR2 hR7 hk6 (by omega)) ?_
        refine XO.pu (Pu.move rfl) ?_
        refine XO.pu (Pu.eqlB rfl rfl Try.underlying4) ?_
        refine XO.pu (Pu.pickT rfl rfl) ?_
        refine XO.pu (Pu.move rfl) ?_
        refine XO.know 112 (.bool true) rfl (congrArg Value.bool ((by first | rfl | (simp; done) | (simp [Real.symmS (s := S5) (t := S)]; done)))) ?_
        refine XO.cR Try.call11 (works_ok) ?_
        refine XO.pu (Pu.pickT rfl rfl) ?_
        refine XO.pu (Pu.assign rfl) ?_
        refine XO.nil ?_
        refine X.sub (p' := [(6, _)]) ⟨rfl, trivial⟩ ?_
        refine X.retL (q) Try.func10 (res1 Try.results10 rfl) ⟨_, rfl, rfl, _, rfl⟩
    · skip
      refine X.know 23 (.bool true) rfl (congrArg Value.bool (by simp; omega)) ?_
      refine X.condT rfl ?_
      refine X.seq ?_
      refine X.region ?_
      refine XO.cR Try.call11 (works_ok) ?_
      refine XO.pu (Pu.assign rfl) ?_
      refine XO.nil ?_
      refine X.sub (p' := [(6, _), (5, _), (3, _), (1, _)]) ⟨rfl, rfl, rfl, rfl, trivial⟩ ?_
      refine X.retL (q) Try.func10 (res1 Try.results10 rfl) ⟨_, rfl, rfl, _, rfl⟩
  · skip
    refine XO.cR Try.call23 (small_no (hrm.le leA) (hs.le leA) ok) ?_
    refine XO.pu (Pu.not rfl) ?_
    refine XO.nil ?_
    refine X.sub (p' := [(23, _), (6, _), (5, _), (3, _), (1, _)]) ⟨rfl, rfl, rfl, rfl, rfl, trivial⟩ ?_
    refine X.know 23 (.bool true) rfl (congrArg Value.bool (rfl)) ?_
    refine X.condT rfl ?_
    refine X.seq ?_
    refine X.region ?_
    refine XO.cR Try.call11 (works_ok) ?_
    refine XO.pu (Pu.assign rfl) ?_
    refine XO.nil ?_
    refine X.sub (p' := [(6, _), (5, _), (3, _), (1, _)]) ⟨rfl, rfl, rfl, rfl, trivial⟩ ?_
    refine X.retL (q) Try.func10 (res1 Try.results10 rfl) ⟨_, rfl, rfl, _, rfl⟩
end
end Go.Proofs.Ytlgnnhpbomfdiaa

