/- What functions of package sync, of its references and of its laws do: contracts of calls, proved by walking their code. -/
import Derived.Test.YtlgnnhpbomfdiaaF
import Derived.KernelRfl
set_option maxRecDepth 100000
set_option linter.unusedVariables false
set_option linter.unusedSimpArgs false
namespace Go.Proofs.Ytlgnnhpbomfdiaa
open Go Go.RowKit Wx

theorem Le.stars_triv {α : Type} (h : α → HP) (l : List α) (hx : ∀ x ∈ l, ∀ q, Le q (h x :: q)) (q : List HP) : Le q (stars (l.map h) :: q) := by
  induction l with
  | nil => exact Le.stars_nil q
  | cons x r ih => exact (ih fun y hy => hx y (List.mem_cons_of_mem _ hy)).trans ((hx x (List.mem_cons_self ..) _).trans (Le.stars_cons _ _ q))
theorem set_mid {α : Type} (f d : List α) (i : Nat) (x : α) (hf : f.length = i) (hd : 0 < d.length) : (f ++ d).set i x = (f ++ [x]) ++ d.drop 1 := by
  subst hf
  cases d with
  | nil => simp at hd
  | cons y r => simp
/-- What is read of a Sync. -/
structure SySee (q : List HP) (p : Nat) (σ : SyC) : Prop where
  h0 : Cl q ⟨p, 0, none⟩ (.bool true)
  h1 : Cl q ⟨p, 1, none⟩ (.slice σ.ao σ.owners.length σ.co)
  h2 : Cl q ⟨p, 2, none⟩ (.slice σ.ac σ.conds.length σ.cc)
  h3 : Cl q ⟨p, 3, none⟩ (.slice σ.ah σ.chans.length σ.ch)
  so : Sees q σ.ao (σ.owners.map I64)
  sc : Sees q σ.ac (σ.conds.flatMap cqs)
  sci : ∀ i (h : i < σ.conds.length), Sees q σ.conds[i].a (σ.conds[i].l.map I64)
  sh : Sees q σ.ah (σ.chans.flatMap chs)
  shi : ∀ i (h : i < σ.chans.length), Sees q σ.chans[i].q.a (σ.chans[i].q.l.map I64)
theorem SySee.le {q q' : List HP} {p : Nat} {σ : SyC} (h : SySee q' p σ) (l : Le q q') : SySee q p σ :=
  ⟨clLe h.h0 l, clLe h.h1 l, clLe h.h2 l, clLe h.h3 l, h.so.le l, h.sc.le l, fun i hi => (h.sci i hi).le l, h.sh.le l, fun i hi => (h.shi i hi).le l⟩
theorem SySee.of (p : Nat) (σ : SyC) (r : List HP) : SySee (syL p σ ++ r) p σ := by
  unfold syL; simp only [ca, na]
  exact ⟨clA, clA, clA, clA, (Sees.lsH _).le leA, (Sees.rsH _).le leA, fun i h => (Sees.lsH _).le (Le.focV (ty := 3) h), (Sees.rsH _).le leA, fun i h => (Sees.lsH _).le (Le.focH (ty := 2) h)⟩
section
variable {G : World} {q : List HP} {a b : Option Addr} {c d g p p2 i n : Nat} {σ σ2 : SyC} {s s2 : Sy} {k t v m at_ number : Int}
theorem same1_ok {l m : List Int} (hs : Sees q a (l.map I64)) (ht : Sees q b (m.map I64)) (hL : l.length ≤ 1000000) : CallF Try.prog G 61 [.agg [.slice a l.length c].toArray, .agg [.slice b m.length d].toArray] q (Ret fun v q' => v = .bool (decide (l = m)) ∧ q' = q) := by
  refine CallF.of Try.func61 Try.ntmps61 rfl (fun F cs => ?_)
  refine X.sub (p' := [(0, _), (1, _)]) ⟨rfl, rfl, trivial⟩ ?_
  refine X.seq ?_
  refine X.region ?_
  refine XO.ef (Ef.box rfl) ?_
  rintro _ _ ⟨n1, rfl, rfl⟩
  refine XO.ef (Ef.box rfl) ?_
  rintro _ _ ⟨n2, rfl, rfl⟩
  refine XO.pu (Pu.assign rfl) ?_
  refine XO.nil ?_
  refine X.sub (p' := [(4, _), (3, _), (2, _)]) ⟨rfl, rfl, rfl, trivial⟩ ?_
  refine X.seq ?_
  refine X.region ?_
  refine XO.pu (Pu.fieldAddr 87 0 0 rfl Try.underlying89 rfl Try.sizeOf87) ?_
  refine XO.pu (Pu.fieldAddr 29 0 0 rfl Try.underlying87 rfl Try.sizeOf29) ?_
  refine XO.ld Try.isAgg29 ?_
  refine XO.pu (Pu.fieldAddr 87 0 0 rfl Try.underlying89 rfl Try.sizeOf87) ?_
  refine XO.pu (Pu.fieldAddr 29 0 0 rfl Try.underlying87 rfl Try.sizeOf29) ?_
  refine XO.ld Try.isAgg29 ?_
  refine XO.cR Try.call59 (Equal_ok (hs.le leA) (ht.le leA) (by omega)) ?_
  refine XO.pu (Pu.assign rfl) ?_
  refine XO.nil ?_
  refine X.sub (p' := [(4, _)]) ⟨rfl, trivial⟩ ?_
  refine X.retL (q) Try.func61 (res1 Try.results61 rfl) ⟨_, rfl, rfl, rfl⟩
theorem same2_ok {l m : List Int} {r1 r2 n1 n2 : Int} (hs : Sees q a (l.map I64)) (ht : Sees q b (m.map I64)) (hL : l.length ≤ 1000000) : CallF Try.prog G 63 [.agg [.slice a l.length c, .int .i64 r1, .int .i64 n1].toArray, .agg [.slice b m.length d, .int .i64 r2, .int .i64 n2].toArray] q (Ret fun v q' => v = .bool (decide ((l, r1, n1) = (m, r2, n2))) ∧ q' = q) := by
  refine CallF.of Try.func63 Try.ntmps63 rfl (fun F cs => ?_)
  refine X.sub (p' := [(0, _), (1, _)]) ⟨rfl, rfl, trivial⟩ ?_
  refine X.seq ?_
  refine X.region ?_
  refine XO.ef (Ef.box rfl) ?_
  rintro _ _ ⟨n1, rfl, rfl⟩
  refine XO.ef (Ef.box rfl) ?_
  rintro _ _ ⟨n2, rfl, rfl⟩
  refine XO.pu (Pu.assign rfl) ?_
  refine XO.nil ?_
  refine X.sub (p' := [(4, _), (3, _), (2, _)]) ⟨rfl, rfl, rfl, trivial⟩ ?_
  refine X.seq ?_
  refine X.region ?_
  refine XO.pu (Pu.fieldAddr 3 1 0 rfl Try.underlying78 rfl Try.sizeOf3) ?_
  refine XO.ld Try.isAgg3 ?_
  refine XO.pu (Pu.fieldAddr 3 1 0 rfl Try.underlying78 rfl Try.sizeOf3) ?_
  refine XO.ld Try.isAgg3 ?_
  refine XO.pu (Pu.eql rfl rfl) ?_
  refine XO.pu (Pu.move rfl) ?_
  refine XO.sub (p' := [(10, _), (4, _), (3, _), (2, _)]) ⟨rfl, rfl, rfl, rfl, trivial⟩ ?_
  apply XO.cutAnd 6 16 10 rfl
  · skip
    intro g1 M1; have h1 := g1; try simp only [decide_eq_true_eq, decide_eq_false_iff_not, bne_iff_ne, beq_iff_eq, ne_eq, bne_eq_false_iff_eq, beq_eq_false_iff_ne, Bool.not_eq_true', Bool.not_eq_false', Int.not_lt, Int.not_le, Bool.not_not, Bool.and_eq_true, Bool.and_eq_false_iff, Bool.true_and, Bool.and_true, beq_self_eq_true, Bool.or_eq_true, Bool.or_eq_false_iff] at h1
    refine XO.pu (Pu.fieldAddr 3 2 0 rfl Try.underlying78 rfl Try.sizeOf3) ?_
    refine XO.ld Try.isAgg3 ?_
    refine XO.pu (Pu.fieldAddr 3 2 0 rfl Try.underlying78 rfl Try.sizeOf3) ?_
    refine XO.ld Try.isAgg3 ?_
    refine XO.pu (Pu.eql rfl rfl) ?_
    refine XO.pu (Pu.pickT rfl rfl) ?_
    exact XO.fin M1 ⟨andT g1, congrArg (fun x => some (Value.bool x)) g1.symm, rfl, rfl, rfl, trivial⟩
  · skip
    intro g1 M1; have h1 := g1; try simp only [decide_eq_true_eq, decide_eq_false_iff_not, bne_iff_ne, beq_iff_eq, ne_eq, bne_eq_false_iff_eq, beq_eq_false_iff_ne, Bool.not_eq_true', Bool.not_eq_false', Int.not_lt, Int.not_le, Bool.not_not, Bool.and_eq_true, Bool.and_eq_false_iff, Bool.true_and, Bool.and_true, beq_self_eq_true, Bool.or_eq_true, Bool.or_eq_false_iff] at h1
    refine XO.pass rfl ?_
    refine XO.pass rfl ?_
    refine XO.pass rfl ?_
    refine XO.pass rfl ?_
    refine XO.pass rfl ?_
    refine XO.pu (Pu.pickF rfl rfl) ?_
    exact XO.fin M1 ⟨andF g1, congrArg (fun x => some (Value.bool x)) g1.symm, rfl, rfl, rfl, trivial⟩
  · skip
    refine XO.pu (Pu.move rfl) ?_
    refine XO.sub (p' := [(17, _), (4, _), (3, _), (2, _)]) ⟨rfl, rfl, rfl, rfl, trivial⟩ ?_
    apply XO.cutAnd 8 25 17 rfl
    · skip
      intro g1 M1; have h1 := g1; try simp only [decide_eq_true_eq, decide_eq_false_iff_not, bne_iff_ne, beq_iff_eq, ne_eq, bne_eq_false_iff_eq, beq_eq_false_iff_ne, Bool.not_eq_true', Bool.not_eq_false', Int.not_lt, Int.not_le, Bool.not_not, Bool.and_eq_true, Bool.and_eq_false_iff, Bool.true_and, Bool.and_true, beq_self_eq_true, Bool.or_eq_true, Bool.or_eq_false_iff] at h1
      refine XO.pu (Pu.fieldAddr 76 0 0 rfl Try.underlying78 rfl Try.sizeOf76) ?_
      refine XO.pu (Pu.fieldAddr 28 0 0 rfl Try.underlying76 rfl Try.sizeOf28) ?_
      refine XO.ld Try.isAgg28 ?_
      refine XO.pu (Pu.fieldAddr 76 0 0 rfl Try.underlying78 rfl Try.sizeOf76) ?_
      refine XO.pu (Pu.fieldAddr 28 0 0 rfl Try.underlying76 rfl Try.sizeOf28) ?_
      refine XO.ld Try.isAgg28 ?_
      refine XO.cR Try.call64 (Equal64_ok (l := l) (m := m) (hs.le leA) (ht.le leA) (by omega)) ?_
      refine XO.pu (Pu.pickT rfl rfl) ?_
      exact XO.fin M1 ⟨andT g1, congrArg (fun x => some (Value.bool x)) g1.symm, rfl, rfl, rfl, trivial⟩
    · skip
      intro g1 M1; have h1 := g1; try simp only [decide_eq_true_eq, decide_eq_false_iff_not, bne_iff_ne, beq_iff_eq, ne_eq, bne_eq_false_iff_eq, beq_eq_false_iff_ne, Bool.not_eq_true', Bool.not_eq_false', Int.not_lt, Int.not_le, Bool.not_not, Bool.and_eq_true, Bool.and_eq_false_iff, Bool.true_and, Bool.and_true, beq_self_eq_true, Bool.or_eq_true, Bool.or_eq_false_iff] at h1
      refine XO.pass rfl ?_
      refine XO.pass rfl ?_
      refine XO.pass rfl ?_
      refine XO.pass rfl ?_
      refine XO.pass rfl ?_
      refine XO.pass rfl ?_
      refine XO.pass rfl ?_
      refine XO.pu (Pu.pickF rfl rfl) ?_
      exact XO.fin M1 ⟨andF g1, congrArg (fun x => some (Value.bool x)) g1.symm, rfl, rfl, rfl, trivial⟩
    · skip
      refine XO.pu (Pu.assign rfl) ?_
      refine XO.nil ?_
      refine X.sub (p' := [(4, _)]) ⟨rfl, trivial⟩ ?_
      refine X.retL (q) Try.func63 (res1 Try.results63 rfl) ⟨_, rfl, congrArg Value.bool (by rw [Bool.eq_iff_iff]; simp only [Bool.and_eq_true, decide_eq_true_eq, Prod.mk.injEq] at *; constructor <;> (intro h; simp_all)), rfl⟩
theorem EqualC_ok {l m : List (SlV Int)} (hs : Sees q a (l.flatMap cqs)) (ht : Sees q b (m.flatMap cqs)) (hL : l.length ≤ 1000000) (hsi : ∀ i (h : i < l.length), Sees q l[i].a (l[i].l.map I64)) (hti : ∀ i (h : i < m.length), Sees q m[i].a (m[i].l.map I64)) (hLi : ∀ i (h : i < l.length), l[i].l.length ≤ 1000000) : CallF Try.prog G 60 [.slice a l.length c, .slice b m.length d, .func (.func 61) #[] #[]] q (Ret fun v q' => v = .bool (decide (l.map (fun (x : SlV Int) => x.l) = m.map (fun (x : SlV Int) => x.l))) ∧ q' = q) := by
  refine CallF.of Try.func60 Try.ntmps60 rfl (fun F cs => ?_)
  refine X.sub (p' := [(0, _), (1, _), (2, _)]) ⟨rfl, rfl, rfl, trivial⟩ ?_
  have hlen := flatMap_len (f := cqs) (sz := 1) (fun _ => rfl) l; have hlen2 := flatMap_len (f := cqs) (sz := 1) (fun _ => rfl) m
  refine X.seq ?_
  refine X.region ?_
  refine XO.pu (Pu.assign rfl) ?_
  refine XO.nil ?_
  refine X.sub (p' := [(6, _), (0, _), (1, _), (2, _)]) ⟨rfl, rfl, rfl, rfl, trivial⟩ ?_
  refine X.seq ?_
  refine X.seq ?_
  refine X.region ?_
  refine XO.pu (Pu.move rfl) ?_
  refine XO.pu (Pu.len rfl Try.underlying71) ?_
  refine XO.pu (Pu.move rfl) ?_
  refine XO.pu (Pu.len rfl Try.underlying71) ?_
  refine XO.pu (Pu.neq rfl rfl) ?_
  refine XO.nil ?_
  refine X.sub (p' := [(14, _), (6, _), (0, _), (1, _), (2, _)]) ⟨rfl, rfl, rfl, rfl, rfl, trivial⟩ ?_
  refine X.part 14 rfl (fun h1 => ?_) (fun h1 => ?_)
  · skip
    refine X.condT rfl ?_
    refine X.seq ?_
    refine X.region ?_
    refine XO.pu (Pu.assign rfl) ?_
    refine XO.nil ?_
    refine X.sub (p' := [(6, _), (0, _), (1, _), (2, _)]) ⟨rfl, rfl, rfl, rfl, trivial⟩ ?_
    refine X.retL (q) Try.func60 (res1 Try.results60 rfl) ⟨_, rfl, congrArg Value.bool (by symm; simp only [decide_eq_false_iff_not]; intro e; have := congrArg List.length e; simp at this h1; omega), rfl⟩
  · skip
    have he : l.length = m.length := by simp at h1; omega
    refine X.condF rfl ?_
    refine X.skip ?_
    refine X.seq ?_
    refine X.seq ?_
    refine X.region ?_
    refine XO.pu (Pu.move rfl) ?_
    refine XO.pu (Pu.len rfl Try.underlying71) ?_
    refine XO.pu (Pu.move rfl) ?_
    refine XO.nil ?_
    refine X.sub (p' := [(17, _), (16, _), (15, _), (6, _), (1, _), (2, _)]) ⟨rfl, rfl, rfl, rfl, rfl, rfl, trivial⟩ ?_
    refine X.block ?_
    refine X.at (X.loop (fun (s : Nat) => s ≤ l.length ∧ (l.take s).map (fun (x : SlV Int) => x.l) = (m.take s).map (fun (x : SlV Int) => x.l)) (fun s => [(1, .slice b m.length d), (2, .func (.func 61) #[] #[]), (15, .slice a l.length c), (16, .int .i64 (l.length : Int)), (17, .int .i64 (s : Int))]) (fun s => q ++ F) (fun s => l.length - s) (fun s hi_ ih => ?_) 0 ⟨by omega, by simp⟩) ⟨(by first | rfl | exact congrArg some (congrArg (Value.int _) (by omega)) | (show some _ = some _; simp; done) | (show some _ = some _; simp; omega)), (by first | rfl | exact congrArg some (congrArg (Value.int _) (by omega)) | (show some _ = some _; simp; done) | (show some _ = some _; simp; omega)), (by first | rfl | exact congrArg some (congrArg (Value.int _) (by omega)) | (show some _ = some _; simp; done) | (show some _ = some _; simp; omega)), (by first | rfl | exact congrArg some (congrArg (Value.int _) (by omega)) | (show some _ = some _; simp; done) | (show some _ = some _; simp; omega)), (by first | rfl | exact congrArg some (congrArg (Value.int _) (by omega)) | (show some _ = some _; simp; done) | (show some _ = some _; simp; omega)), trivial⟩ leA
    try dsimp only at hi_ ih ⊢
    obtain ⟨hi1, hi2⟩ := hi_
    refine X.seq ?_
    refine X.region ?_
    refine XO.pu (Pu.lss rfl rfl) ?_
    refine XO.nil ?_
    refine X.sub (p' := [(18, _), (1, _), (2, _), (15, _), (16, _), (17, _)]) ⟨rfl, rfl, rfl, rfl, rfl, rfl, trivial⟩ ?_
    refine X.seq ?_
    refine X.part 18 rfl (fun h0 => ?_) (fun h0 => ?_)
    · skip
      try simp only [decide_eq_true_eq, decide_eq_false_iff_not, bne_iff_ne, beq_iff_eq, ne_eq, bne_eq_false_iff_eq, beq_eq_false_iff_ne, Bool.not_eq_true', Bool.not_eq_false', Int.not_lt, Int.not_le, Bool.not_not, Bool.and_eq_true, Bool.and_eq_false_iff, Bool.true_and, Bool.and_true, beq_self_eq_true, Bool.or_eq_true, Bool.or_eq_false_iff] at h0
      have hi0 : s < l.length := by omega
      have hi9 : s < m.length := by omega
      refine X.adr hs (by rw [hlen]; omega) (fun b1 o1 e_ => ?_); subst e_
      refine X.adr ht (by rw [hlen2]; omega) (fun b2 o2 e_ => ?_); subst e_
      refine X.condT rfl ?_
      refine X.skip ?_
      refine X.seq ?_
      refine X.block ?_
      refine X.seq ?_
      refine X.region ?_
      refine XO.pu (Pu.move rfl) ?_
      refine XO.pu (Pu.indexAddr rfl rfl Try.underlying71 Try.sizeOf89 (by omega) (by omega)) ?_
      refine XO.ldS (n := s) Try.isAgg89 Try.sizeOf89 hs hi0 ?_
      refine XO.ef (Ef.alloc Try.zeroValue89) ?_
      rintro _ _ ⟨n1, rfl, rfl⟩
      refine XO.pu (Pu.assign rfl) ?_
      refine XO.ef0 (Ef.stA Try.sizeOf89) ?_
      rintro _ _ ⟨rfl, rfl⟩
      refine XO.nil ?_
      refine X.sub (p' := [(7, _), (8, _), (1, _), (2, _), (15, _), (16, _), (17, _)]) ⟨rfl, rfl, rfl, rfl, rfl, rfl, rfl, trivial⟩ ?_
      refine X.seq ?_
      refine X.region ?_
      refine XO.pu (Pu.move rfl) ?_
      refine XO.pu (Pu.move rfl) ?_
      refine XO.pu (Pu.indexAddr rfl rfl Try.underlying71 Try.sizeOf89 (by omega) (by omega)) ?_
      refine XO.ldS (n := s) Try.isAgg89 Try.sizeOf89 ht hi9 ?_
      refine XO.ef (Ef.alloc Try.zeroValue89) ?_
      rintro _ _ ⟨n2, rfl, rfl⟩
      refine XO.ef0 (Ef.stA Try.sizeOf89) ?_
      rintro _ _ ⟨rfl, rfl⟩
      refine XO.nil ?_
      refine X.sub (p' := [(9, _), (8, _), (1, _), (2, _), (15, _), (16, _), (17, _)]) ⟨rfl, rfl, rfl, rfl, rfl, rfl, rfl, trivial⟩ ?_
      refine X.seq ?_
      refine X.region ?_
      refine XO.pu (Pu.move rfl) ?_
      refine XO.ldA Try.isAgg89 Try.sizeOf89 ?_
      refine XO.ldA Try.isAgg89 Try.sizeOf89 ?_
      refine XO.cV (CallV.c20 Try.call61 (same1_ok  ((hsi s hi0).le leA) ((hti s hi9).le leA) (hLi s hi0))) ?_
      rintro _ q1 ⟨rfl, h_1⟩ _ e_1; rw [h_1] at e_1; subst e_1
      refine XO.pu (Pu.not rfl) ?_
      refine XO.nil ?_
      refine X.sub (p' := [(30, _), (1, _), (2, _), (15, _), (16, _), (17, _)]) ⟨rfl, rfl, rfl, rfl, rfl, rfl, trivial⟩ ?_
      refine X.part 30 rfl (fun h2 => ?_) (fun h2 => ?_)
      · skip
        have hx : ¬ (l[s].l = m[s].l) := by intro e; rw [Bool.not_eq_true'] at h2; exact of_decide_eq_false h2 e
        refine X.condT rfl ?_
        refine X.seq ?_
        refine X.region ?_
        refine XO.pu (Pu.assign rfl) ?_
        refine XO.nil ?_
        refine X.sub (p' := [(6, _), (1, _), (2, _), (15, _), (16, _), (17, _)]) ⟨rfl, rfl, rfl, rfl, rfl, rfl, trivial⟩ ?_
        refine X.retL (q) Try.func60 (res1 Try.results60 rfl) ⟨_, rfl, congrArg Value.bool (by symm; simp only [decide_eq_false_iff_not]; intro e; apply hx; have h5 := congrArg (·[s]?) e; simp only [List.getElem?_map, List.getElem?_eq_getElem hi0, List.getElem?_eq_getElem hi9, Option.map_some] at h5; exact Option.some.inj h5), rfl⟩
      · skip
        have hx : l[s].l = m[s].l := by simpa [ChC.row] using h2
        refine X.condF rfl ?_
        refine X.skip ?_
        refine X.inBlock ?_
        refine X.region ?_
        refine XO.pu (Pu.add rfl rfl (by omega) (by omega)) ?_
        refine XO.pu (Pu.move rfl) ?_
        refine XO.nil ?_
        refine X.sub (p' := [(17, _), (1, _), (2, _), (15, _), (16, _)]) ⟨rfl, rfl, rfl, rfl, rfl, trivial⟩ ?_
        refine X.at (ih (s + 1) ⟨by omega, by rw [List.take_succ_eq_append_getElem hi0, List.take_succ_eq_append_getElem hi9, List.map_append, List.map_append, hi2]; simp only [List.map_cons, List.map_nil, hx]⟩ (by omega)) ⟨(by first | rfl | exact congrArg some (congrArg (Value.int _) (by omega)) | (show some _ = some _; simp; done) | (show some _ = some _; simp; omega)), (by first | rfl | exact congrArg some (congrArg (Value.int _) (by omega)) | (show some _ = some _; simp; done) | (show some _ = some _; simp; omega)), (by first | rfl | exact congrArg some (congrArg (Value.int _) (by omega)) | (show some _ = some _; simp; done) | (show some _ = some _; simp; omega)), (by first | rfl | exact congrArg some (congrArg (Value.int _) (by omega)) | (show some _ = some _; simp; done) | (show some _ = some _; simp; omega)), (by first | rfl | exact congrArg some (congrArg (Value.int _) (by omega)) | (show some _ = some _; simp; done) | (show some _ = some _; simp; omega)), trivial⟩ leA
    · skip
      try simp only [decide_eq_true_eq, decide_eq_false_iff_not, bne_iff_ne, beq_iff_eq, ne_eq, bne_eq_false_iff_eq, beq_eq_false_iff_ne, Bool.not_eq_true', Bool.not_eq_false', Int.not_lt, Int.not_le, Bool.not_not, Bool.and_eq_true, Bool.and_eq_false_iff, Bool.true_and, Bool.and_true, beq_self_eq_true, Bool.or_eq_true, Bool.or_eq_false_iff] at h0
      refine X.condF rfl ?_
      refine X.exit rfl ?_
      refine X.seq ?_
      refine X.region ?_
      refine XO.pu (Pu.assign rfl) ?_
      refine XO.nil ?_
      refine X.sub (p' := [(6, _)]) ⟨rfl, trivial⟩ ?_
      refine X.retL (q) Try.func60 (res1 Try.results60 rfl) ⟨_, rfl, congrArg Value.bool (by symm; simp only [decide_eq_true_eq]; rw [List.take_of_length_le (by omega), List.take_of_length_le (by omega)] at hi2; exact hi2), rfl⟩
theorem EqualH_ok {l m : List ChC} (hs : Sees q a (l.flatMap chs)) (ht : Sees q b (m.flatMap chs)) (hL : l.length ≤ 1000000) (hsi : ∀ i (h : i < l.length), Sees q l[i].q.a (l[i].q.l.map I64)) (hti : ∀ i (h : i < m.length), Sees q m[i].q.a (m[i].q.l.map I64)) (hLi : ∀ i (h : i < l.length), l[i].q.l.length ≤ 1000000) : CallF Try.prog G 62 [.slice a l.length c, .slice b m.length d, .func (.func 63) #[] #[]] q (Ret fun v q' => v = .bool (decide (l.map (fun (x : ChC) => x.row) = m.map (fun (x : ChC) => x.row))) ∧ q' = q) := by
  refine CallF.of Try.func62 Try.ntmps62 rfl (fun F cs => ?_)
  refine X.sub (p' := [(0, _), (1, _), (2, _)]) ⟨rfl, rfl, rfl, trivial⟩ ?_
  have hlen := flatMap_len (f := chs) (sz := 3) (fun _ => rfl) l; have hlen2 := flatMap_len (f := chs) (sz := 3) (fun _ => rfl) m
  refine X.seq ?_
  refine X.region ?_
  refine XO.pu (Pu.assign rfl) ?_
  refine XO.nil ?_
  refine X.sub (p' := [(6, _), (0, _), (1, _), (2, _)]) ⟨rfl, rfl, rfl, rfl, trivial⟩ ?_
  refine X.seq ?_
  refine X.seq ?_
  refine X.region ?_
  refine XO.pu (Pu.move rfl) ?_
  refine XO.pu (Pu.len rfl Try.underlying72) ?_
  refine XO.pu (Pu.move rfl) ?_
  refine XO.pu (Pu.len rfl Try.underlying72) ?_
  refine XO.pu (Pu.neq rfl rfl) ?_
  refine XO.nil ?_
  refine X.sub (p' := [(14, _), (6, _), (0, _), (1, _), (2, _)]) ⟨rfl, rfl, rfl, rfl, rfl, trivial⟩ ?_
  refine X.part 14 rfl (fun h1 => ?_) (fun h1 => ?_)
  · skip
    refine X.condT rfl ?_
    refine X.seq ?_
    refine X.region ?_
    refine XO.pu (Pu.assign rfl) ?_
    refine XO.nil ?_
    refine X.sub (p' := [(6, _), (0, _), (1, _), (2, _)]) ⟨rfl, rfl, rfl, rfl, trivial⟩ ?_
    refine X.retL (q) Try.func62 (res1 Try.results62 rfl) ⟨_, rfl, congrArg Value.bool (by symm; simp only [decide_eq_false_iff_not]; intro e; have := congrArg List.length e; simp at this h1; omega), rfl⟩
  · skip
    have he : l.length = m.length := by simp at h1; omega
    refine X.condF rfl ?_
    refine X.skip ?_
    refine X.seq ?_
    refine X.seq ?_
    refine X.region ?_
    refine XO.pu (Pu.move rfl) ?_
    refine XO.pu (Pu.len rfl Try.underlying72) ?_
    refine XO.pu (Pu.move rfl) ?_
    refine XO.nil ?_
    refine X.sub (p' := [(17, _), (16, _), (15, _), (6, _), (1, _), (2, _)]) ⟨rfl, rfl, rfl, rfl, rfl, rfl, trivial⟩ ?_
    refine X.block ?_
    refine X.at (X.loop (fun (s : Nat) => s ≤ l.length ∧ (l.take s).map (fun (x : ChC) => x.row) = (m.take s).map (fun (x : ChC) => x.row)) (fun s => [(1, .slice b m.length d), (2, .func (.func 63) #[] #[]), (15, .slice a l.length c), (16, .int .i64 (l.length : Int)), (17, .int .i64 (s : Int))]) (fun s => q ++ F) (fun s => l.length - s) (fun s hi_ ih => ?_) 0 ⟨by omega, by simp⟩) ⟨(by first | rfl | exact congrArg some (congrArg (Value.int _) (by omega)) | (show some _ = some _; simp; done) | (show some _ = some _; simp; omega)), (by first | rfl | exact congrArg some (congrArg (Value.int _) (by omega)) | (show some _ = some _; simp; done) | (show some _ = some _; simp; omega)), (by first | rfl | exact congrArg some (congrArg (Value.int _) (by omega)) | (show some _ = some _; simp; done) | (show some _ = some _; simp; omega)), (by first | rfl | exact congrArg some (congrArg (Value.int _) (by omega)) | (show some _ = some _; simp; done) | (show some _ = some _; simp; omega)), (by first | rfl | exact congrArg some (congrArg (Value.int _) (by omega)) | (show some _ = some _; simp; done) | (show some _ = some _; simp; omega)), trivial⟩ leA
    try dsimp only at hi_ ih ⊢
    obtain ⟨hi1, hi2⟩ := hi_
    refine X.seq ?_
    refine X.region ?_
    refine XO.pu (Pu.lss rfl rfl) ?_
    refine XO.nil ?_
    refine X.sub (p' := [(18, _), (1, _), (2, _), (15, _), (16, _), (17, _)]) ⟨rfl, rfl, rfl, rfl, rfl, rfl, trivial⟩ ?_
    refine X.seq ?_
    refine X.part 18 rfl (fun h0 => ?_) (fun h0 => ?_)
    · skip
      try simp only [decide_eq_true_eq, decide_eq_false_iff_not, bne_iff_ne, beq_iff_eq, ne_eq, bne_eq_false_iff_eq, beq_eq_false_iff_ne, Bool.not_eq_true', Bool.not_eq_false', Int.not_lt, Int.not_le, Bool.not_not, Bool.and_eq_true, Bool.and_eq_false_iff, Bool.true_and, Bool.and_true, beq_self_eq_true, Bool.or_eq_true, Bool.or_eq_false_iff] at h0
      have hi0 : s < l.length := by omega
      have hi9 : s < m.length := by omega
      refine X.adr hs (by rw [hlen]; omega) (fun b1 o1 e_ => ?_); subst e_
      refine X.adr ht (by rw [hlen2]; omega) (fun b2 o2 e_ => ?_); subst e_
      refine X.condT rfl ?_
      refine X.skip ?_
      refine X.seq ?_
      refine X.block ?_
      refine X.seq ?_
      refine X.region ?_
      refine XO.pu (Pu.move rfl) ?_
      refine XO.pu (Pu.indexAddr rfl rfl Try.underlying72 Try.sizeOf78 (by omega) (by omega)) ?_
      refine XO.ldS (n := s) Try.isAgg78 Try.sizeOf78 hs hi0 ?_
      refine XO.ef (Ef.alloc Try.zeroValue78) ?_
      rintro _ _ ⟨n1, rfl, rfl⟩
      refine XO.pu (Pu.assign rfl) ?_
      refine XO.ef0 (Ef.stA Try.sizeOf78) ?_
      rintro _ _ ⟨rfl, rfl⟩
      refine XO.nil ?_
      refine X.sub (p' := [(7, _), (8, _), (1, _), (2, _), (15, _), (16, _), (17, _)]) ⟨rfl, rfl, rfl, rfl, rfl, rfl, rfl, trivial⟩ ?_
      refine X.seq ?_
      refine X.region ?_
      refine XO.pu (Pu.move rfl) ?_
      refine XO.pu (Pu.move rfl) ?_
      refine XO.pu (Pu.indexAddr rfl rfl Try.underlying72 Try.sizeOf78 (by omega) (by omega)) ?_
      refine XO.ldS (n := s) Try.isAgg78 Try.sizeOf78 ht hi9 ?_
      refine XO.ef (Ef.alloc Try.zeroValue78) ?_
      rintro _ _ ⟨n2, rfl, rfl⟩
      refine XO.ef0 (Ef.stA Try.sizeOf78) ?_
      rintro _ _ ⟨rfl, rfl⟩
      refine XO.nil ?_
      refine X.sub (p' := [(9, _), (8, _), (1, _), (2, _), (15, _), (16, _), (17, _)]) ⟨rfl, rfl, rfl, rfl, rfl, rfl, rfl, trivial⟩ ?_
      refine X.seq ?_
      refine X.region ?_
      refine XO.pu (Pu.move rfl) ?_
      refine XO.ldA Try.isAgg78 Try.sizeOf78 ?_
      refine XO.ldA Try.isAgg78 Try.sizeOf78 ?_
      refine XO.cV (CallV.c20 Try.call63 (same2_ok  ((hsi s hi0).le leA) ((hti s hi9).le leA) (hLi s hi0))) ?_
      rintro _ q1 ⟨rfl, h_1⟩ _ e_1; rw [h_1] at e_1; subst e_1
      refine XO.pu (Pu.not rfl) ?_
      refine XO.nil ?_
      refine X.sub (p' := [(30, _), (1, _), (2, _), (15, _), (16, _), (17, _)]) ⟨rfl, rfl, rfl, rfl, rfl, rfl, trivial⟩ ?_
      refine X.part 30 rfl (fun h2 => ?_) (fun h2 => ?_)
      · skip
        have hx : ¬ (l[s].row = m[s].row) := by intro e; rw [Bool.not_eq_true'] at h2; exact of_decide_eq_false h2 e
        refine X.condT rfl ?_
        refine X.seq ?_
        refine X.region ?_
        refine XO.pu (Pu.assign rfl) ?_
        refine XO.nil ?_
        refine X.sub (p' := [(6, _), (1, _), (2, _), (15, _), (16, _), (17, _)]) ⟨rfl, rfl, rfl, rfl, rfl, rfl, trivial⟩ ?_
        refine X.retL (q) Try.func62 (res1 Try.results62 rfl) ⟨_, rfl, congrArg Value.bool (by symm; simp only [decide_eq_false_iff_not]; intro e; apply hx; have h5 := congrArg (·[s]?) e; simp only [List.getElem?_map, List.getElem?_eq_getElem hi0, List.getElem?_eq_getElem hi9, Option.map_some] at h5; exact Option.some.inj h5), rfl⟩
      · skip
        have hx : l[s].row = m[s].row := by simpa [ChC.row] using h2
        refine X.condF rfl ?_
        refine X.skip ?_
        refine X.inBlock ?_
        refine X.region ?_
        refine XO.pu (Pu.add rfl rfl (by omega) (by omega)) ?_
        refine XO.pu (Pu.move rfl) ?_
        refine XO.nil ?_
        refine X.sub (p' := [(17, _), (1, _), (2, _), (15, _), (16, _)]) ⟨rfl, rfl, rfl, rfl, rfl, trivial⟩ ?_
        refine X.at (ih (s + 1) ⟨by omega, by rw [List.take_succ_eq_append_getElem hi0, List.take_succ_eq_append_getElem hi9, List.map_append, List.map_append, hi2]; simp only [List.map_cons, List.map_nil, hx]⟩ (by omega)) ⟨(by first | rfl | exact congrArg some (congrArg (Value.int _) (by omega)) | (show some _ = some _; simp; done) | (show some _ = some _; simp; omega)), (by first | rfl | exact congrArg some (congrArg (Value.int _) (by omega)) | (show some _ = some _; simp; done) | (show some _ = some _; simp; omega)), (by first | rfl | exact congrArg some (congrArg (Value.int _) (by omega)) | (show some _ = some _; simp; done) | (show some _ = some _; simp; omega)), (by first | rfl | exact congrArg some (congrArg (Value.int _) (by omega)) | (show some _ = some _; simp; done) | (show some _ = some _; simp; omega)), (by first | rfl | exact congrArg some (congrArg (Value.int _) (by omega)) | (show some _ = some _; simp; done) | (show some _ = some _; simp; omega)), trivial⟩ leA
    · skip
      try simp only [decide_eq_true_eq, decide_eq_false_iff_not, bne_iff_ne, beq_iff_eq, ne_eq, bne_eq_false_iff_eq, beq_eq_false_iff_ne, Bool.not_eq_true', Bool.not_eq_false', Int.not_lt, Int.not_le, Bool.not_not, Bool.and_eq_true, Bool.and_eq_false_iff, Bool.true_and, Bool.and_true, beq_self_eq_true, Bool.or_eq_true, Bool.or_eq_false_iff] at h0
      refine X.condF rfl ?_
      refine X.exit rfl ?_
      refine X.seq ?_
      refine X.region ?_
      refine XO.pu (Pu.assign rfl) ?_
      refine XO.nil ?_
      refine X.sub (p' := [(6, _)]) ⟨rfl, trivial⟩ ?_
      refine X.retL (q) Try.func62 (res1 Try.results62 rfl) ⟨_, rfl, congrArg Value.bool (by symm; simp only [decide_eq_true_eq]; rw [List.take_of_length_le (by omega), List.take_of_length_le (by omega)] at hi2; exact hi2), rfl⟩
def sameS (s t : Sy) : Prop := s.owners = t.owners ∧ s.conds = t.conds ∧ s.chans.map Ch.row = t.chans.map Ch.row
instance (s t : Sy) : Decidable (sameS s t) := by unfold sameS; exact inferInstance
theorem Real.sm {σ σ2 : SyC} {s s2 : Sy} (hR : Real σ s) (hR2 : Real σ2 s2) : sameS s s2 ↔ σ.owners = σ2.owners ∧ σ.conds.map (·.l) = σ2.conds.map (·.l) ∧ σ.chans.map ChC.row = σ2.chans.map ChC.row := by
  unfold sameS; rw [hR.o, hR2.o, hR.c, hR2.c, hR.h, hR2.h]
theorem Same_ok (h1 : SySee q p σ) (h2 : SySee q p2 σ2) (hR : Real σ s) (hR2 : Real σ2 s2) {N : Nat} (hs : s.ok N) (hN : N ≤ 1000) : CallF Try.prog G 32 [.pointer (some ⟨p, 0, none⟩), .pointer (some ⟨p2, 0, none⟩)] q (Ret fun v q' => v = .bool (decide (sameS s s2)) ∧ q' = q) := by
  refine CallF.of Try.func32 Try.ntmps32 rfl (fun F cs => ?_)
  refine X.sub (p' := [(0, _), (1, _)]) ⟨rfl, rfl, trivial⟩ ?_
  have hz1 : ∀ r, Le r q → SySee r p σ := fun r hr => h1.le hr; have hz2 : ∀ r, Le r q → SySee r p2 σ2 := fun r hr => h2.le hr
  have ho := hR.lo; have hc := hR.lc; have hh := hR.lh; have hno := hs.no; have hnc := hs.nc; have hnh := hs.nh
  refine X.seq ?_
  refine X.region ?_
  refine XO.pu (Pu.assign rfl) ?_
  refine XO.nil ?_
  refine X.sub (p' := [(4, _), (0, _), (1, _)]) ⟨rfl, rfl, rfl, trivial⟩ ?_
  refine X.seq ?_
  refine X.seq ?_
  refine X.region ?_
  refine XO.pu (Pu.move rfl) ?_
  refine XO.cR Try.call55 (there_ok (hz1 _ leA).h0) ?_
  refine XO.pu (Pu.not rfl) ?_
  refine XO.pu (Pu.move rfl) ?_
  refine XO.know 8 (.bool false) rfl (congrArg Value.bool (rfl)) ?_
  refine XO.pu (Pu.move rfl) ?_
  refine XO.cR Try.call55 (there_ok (hz2 _ leA).h0) ?_
  refine XO.pu (Pu.not rfl) ?_
  refine XO.pu (Pu.pickF rfl rfl) ?_
  refine XO.nil ?_
  refine X.sub (p' := [(12, _), (4, _), (0, _), (1, _)]) ⟨rfl, rfl, rfl, rfl, trivial⟩ ?_
  refine X.know 12 (.bool false) rfl (congrArg Value.bool (rfl)) ?_
  refine X.condF rfl ?_
  refine X.skip ?_
  refine X.seq ?_
  refine X.draw [] Try.mixed (by kernel_rfl) (by kernel_rfl) rfl ?_
  refine XD.pu 0 rfl (Pu.move rfl) ?_
  refine XD.pu 1 rfl (Pu.nilCheck rfl) ?_
  refine XD.pu 2 rfl (Pu.fieldAddr 29 1 0 rfl Try.underlying74 rfl Try.sizeOf29) ?_
  refine XD.ld 3 Try.isAgg29 ?_ (hc := (by first | exact (hz1 _ leA).h1 | exact (hz1 _ leA).h2 | exact (hz1 _ leA).h3 | exact (hz2 _ leA).h1 | exact (hz2 _ leA).h2 | exact (hz2 _ leA).h3))
  refine XD.pu 4 rfl (Pu.move rfl) ?_
  refine XD.pu 5 rfl (Pu.nilCheck rfl) ?_
  refine XD.pu 6 rfl (Pu.fieldAddr 29 1 0 rfl Try.underlying74 rfl Try.sizeOf29) ?_
  refine XD.ld 7 Try.isAgg29 ?_ (hc := (by first | exact (hz1 _ leA).h1 | exact (hz1 _ leA).h2 | exact (hz1 _ leA).h3 | exact (hz2 _ leA).h1 | exact (hz2 _ leA).h2 | exact (hz2 _ leA).h3))
  refine XD.cRL 8 Try.call59 (Equal_ok (hz1 _ leA).so (hz2 _ leA).so (by omega)) ?_
  refine XD.pu 9 rfl (Pu.move rfl) ?_
  refine XD.part 30 rfl (fun h1 => ?_) (fun h1 => ?_)
  · skip
    try simp only [decide_eq_true_eq, decide_eq_false_iff_not, bne_iff_ne, beq_iff_eq, ne_eq, bne_eq_false_iff_eq, beq_eq_false_iff_ne, Bool.not_eq_true', Bool.not_eq_false', Int.not_lt, Int.not_le, Bool.not_not, Bool.and_eq_true, Bool.and_eq_false_iff, Bool.true_and, Bool.and_true, beq_self_eq_true, Bool.or_eq_true, Bool.or_eq_false_iff] at h1
    refine XD.pu 10 rfl (Pu.move rfl) ?_
    refine XD.pu 11 rfl (Pu.nilCheck rfl) ?_
    refine XD.pu 12 rfl (Pu.fieldAddr 71 2 0 rfl Try.underlying74 rfl Try.sizeOf71) ?_
    refine XD.ld 13 Try.isAgg71 ?_ (hc := (by first | exact (hz1 _ leA).h1 | exact (hz1 _ leA).h2 | exact (hz1 _ leA).h3 | exact (hz2 _ leA).h1 | exact (hz2 _ leA).h2 | exact (hz2 _ leA).h3))
    refine XD.pu 14 rfl (Pu.move rfl) ?_
    refine XD.pu 15 rfl (Pu.nilCheck rfl) ?_
    refine XD.pu 16 rfl (Pu.fieldAddr 71 2 0 rfl Try.underlying74 rfl Try.sizeOf71) ?_
    refine XD.ld 17 Try.isAgg71 ?_ (hc := (by first | exact (hz1 _ leA).h1 | exact (hz1 _ leA).h2 | exact (hz1 _ leA).h3 | exact (hz2 _ leA).h1 | exact (hz2 _ leA).h2 | exact (hz2 _ leA).h3))
    refine XD.cRL 18 Try.call60 (EqualC_ok (hz1 _ leA).sc (hz2 _ leA).sc (by omega) (hz1 _ leA).sci (hz2 _ leA).sci (fun i hi => by have := hs.lenC hR hi hN; omega)) ?_
    refine XD.pu 19 rfl (Pu.pickT rfl rfl) ?_
    refine XD.pu 20 rfl (Pu.move rfl) ?_
    refine XD.part 41 rfl (fun h2 => ?_) (fun h2 => ?_)
    · skip
      try simp only [decide_eq_true_eq, decide_eq_false_iff_not, bne_iff_ne, beq_iff_eq, ne_eq, bne_eq_false_iff_eq, beq_eq_false_iff_ne, Bool.not_eq_true', Bool.not_eq_false', Int.not_lt, Int.not_le, Bool.not_not, Bool.and_eq_true, Bool.and_eq_false_iff, Bool.true_and, Bool.and_true, beq_self_eq_true, Bool.or_eq_true, Bool.or_eq_false_iff] at h2
      refine XD.pu 21 rfl (Pu.move rfl) ?_
      refine XD.pu 22 rfl (Pu.nilCheck rfl) ?_
      refine XD.pu 23 rfl (Pu.fieldAddr 72 3 0 rfl Try.underlying74 rfl Try.sizeOf72) ?_
      refine XD.ld 24 Try.isAgg72 ?_ (hc := (by first | exact (hz1 _ leA).h1 | exact (hz1 _ leA).h2 | exact (hz1 _ leA).h3 | exact (hz2 _ leA).h1 | exact (hz2 _ leA).h2 | exact (hz2 _ leA).h3))
      refine XD.pu 25 rfl (Pu.move rfl) ?_
      refine XD.pu 26 rfl (Pu.nilCheck rfl) ?_
      refine XD.pu 27 rfl (Pu.fieldAddr 72 3 0 rfl Try.underlying74 rfl Try.sizeOf72) ?_
      refine XD.ld 28 Try.isAgg72 ?_ (hc := (by first | exact (hz1 _ leA).h1 | exact (hz1 _ leA).h2 | exact (hz1 _ leA).h3 | exact (hz2 _ leA).h1 | exact (hz2 _ leA).h2 | exact (hz2 _ leA).h3))
      refine XD.cRL 29 Try.call62 (EqualH_ok (hz1 _ leA).sh (hz2 _ leA).sh (by omega) (hz1 _ leA).shi (hz2 _ leA).shi (fun i hi => by have := hs.lenH hR hi hN; omega)) ?_
      refine XD.pu 30 rfl (Pu.pickT rfl rfl) ?_
      refine XD.pu 31 rfl (Pu.assign rfl) ?_
      refine XD.nil ?_
      refine X.sub (p' := [(4, _)]) ⟨rfl, trivial⟩ ?_
      refine X.retL (q) Try.func32 (res1 Try.results32 rfl) ⟨_, rfl, congrArg Value.bool (by rw [Bool.eq_iff_iff]; simp only [Bool.and_eq_true, decide_eq_true_eq, hR.sm hR2] at *; constructor <;> (intro h; simp_all)), rfl⟩
    · skip
      try simp only [decide_eq_true_eq, decide_eq_false_iff_not, bne_iff_ne, beq_iff_eq, ne_eq, bne_eq_false_iff_eq, beq_eq_false_iff_ne, Bool.not_eq_true', Bool.not_eq_false', Int.not_lt, Int.not_le, Bool.not_not, Bool.and_eq_true, Bool.and_eq_false_iff, Bool.true_and, Bool.and_true, beq_self_eq_true, Bool.or_eq_true, Bool.or_eq_false_iff] at h2
      refine XD.pass 21 rfl ?_
      refine XD.pass 22 rfl ?_
      refine XD.pass 23 rfl ?_
      refine XD.pass 24 rfl ?_
      refine XD.pass 25 rfl ?_
      refine XD.pass 26 rfl ?_
      refine XD.pass 27 rfl ?_
      refine XD.pass 28 rfl ?_
      refine XD.pass 29 rfl ?_
      refine XD.pu 30 rfl (Pu.pickF rfl rfl) ?_
      refine XD.pu 31 rfl (Pu.assign rfl) ?_
      refine XD.nil ?_
      refine X.sub (p' := [(4, _)]) ⟨rfl, trivial⟩ ?_
      refine X.retL (q) Try.func32 (res1 Try.results32 rfl) ⟨_, rfl, congrArg Value.bool (by rw [Bool.eq_iff_iff]; simp only [Bool.and_eq_true, decide_eq_true_eq, hR.sm hR2] at *; constructor <;> (intro h; simp_all)), rfl⟩
  · skip
    try simp only [decide_eq_true_eq, decide_eq_false_iff_not, bne_iff_ne, beq_iff_eq, ne_eq, bne_eq_false_iff_eq, beq_eq_false_iff_ne, Bool.not_eq_true', Bool.not_eq_false', Int.not_lt, Int.not_le, Bool.not_not, Bool.and_eq_true, Bool.and_eq_false_iff, Bool.true_and, Bool.and_true, beq_self_eq_true, Bool.or_eq_true, Bool.or_eq_false_iff] at h1
    refine XD.pass 10 rfl ?_
    refine XD.pass 11 rfl ?_
    refine XD.pass 12 rfl ?_
    refine XD.pass 13 rfl ?_
    refine XD.pass 14 rfl ?_
    refine XD.pass 15 rfl ?_
    refine XD.pass 16 rfl ?_
    refine XD.pass 17 rfl ?_
    refine XD.pass 18 rfl ?_
    refine XD.pu 19 rfl (Pu.pickF rfl rfl) ?_
    refine XD.pu 20 rfl (Pu.move rfl) ?_
    refine XD.pass 21 rfl ?_
    refine XD.pass 22 rfl ?_
    refine XD.pass 23 rfl ?_
    refine XD.pass 24 rfl ?_
    refine XD.pass 25 rfl ?_
    refine XD.pass 26 rfl ?_
    refine XD.pass 27 rfl ?_
    refine XD.pass 28 rfl ?_
    refine XD.pass 29 rfl ?_
    refine XD.pu 30 rfl (Pu.pickF rfl rfl) ?_
    refine XD.pu 31 rfl (Pu.assign rfl) ?_
    refine XD.nil ?_
    refine X.sub (p' := [(4, _)]) ⟨rfl, trivial⟩ ?_
    refine X.retL (q) Try.func32 (res1 Try.results32 rfl) ⟨_, rfl, congrArg Value.bool (by rw [Bool.eq_iff_iff]; simp only [Bool.and_eq_true, decide_eq_true_eq, hR.sm hR2] at *; constructor <;> (intro h; simp_all)), rfl⟩
end
end Go.Proofs.Ytlgnnhpbomfdiaa

