/- What functions of package sync, of its references and of its laws do: contracts of calls, proved by walking their code. -/
import Derived.Test.YtlgnnhpbomfdiaaD
import Derived.KernelRfl
set_option maxRecDepth 100000
set_option linter.unusedVariables false
set_option linter.unusedSimpArgs false
namespace Go.Proofs.Ytlgnnhpbomfdiaa
open Go Go.RowKit Wx

section
variable {G : World} {q : List HP} {a b : Option Addr} {c d g p i n : Nat} {σ : SyC} {s : Sy} {k t v m at_ number : Int}
theorem Real.setC {σ : SyC} {s : Sy} (hR : Real σ s) (i : Nat) (x : SlV Int) (ac : Option Addr) : Real { σ with ac := ac, conds := σ.conds.set i x } { s with conds := s.conds.set i x.l } :=
  ⟨hR.o, by show (σ.conds.set i x).map _ = _; rw [map_set_eq, hR.c], hR.h⟩
theorem Real.setH {σ : SyC} {s : Sy} (hR : Real σ s) (i : Nat) (x : ChC) (y : Ch) (h : x.row = y.row) (ah : Option Addr) : Real { σ with ah := ah, chans := σ.chans.set i x } { s with chans := s.chans.set i y } :=
  ⟨hR.o, hR.c, by show (σ.chans.set i x).map _ = (s.chans.set i y).map _; rw [map_set_eq, map_set_eq, hR.h, h]⟩
theorem row_items {c : Ch} {x : ChC} (h : c.row = x.row) : c.items = x.q.l ∧ c.room = x.room ∧ (c.all.length : Int) = x.sent := by
  unfold Ch.row ChC.row at h; simp only [Prod.mk.injEq] at h; exact h
theorem All_ok (hR : Real σ s) {N : Nat} (hs : s.ok N) (hN : N ≤ 1000) : CallF Try.prog G 30 [.pointer (some ⟨p, 0, none⟩), .int .i64 k] (syL p σ) (Ret fun v q' => ∃ σ' a' c', Real σ' (allS s k).1 ∧ v = .tuple [.slice a' (allS s k).2.1.length c', .int .i64 (allS s k).2.2].toArray ∧ q' = lsH I64 3 a' c' (allS s k).2.1 :: syL p σ') := by
  refine CallF.of Try.func30 Try.ntmps30 rfl (fun F cs => ?_)
  refine X.sub (p' := [(0, _), (1, _)]) ⟨rfl, rfl, trivial⟩ ?_
  have ho := hR.lo; have hc := hR.lc; have hh := hR.lh; have hno := hs.no; have hnc := hs.nc; have hnh := hs.nh
  change X _ _ _ _ _ _ _ _ (pto p (.cells [.bool true, .slice σ.ao σ.owners.length σ.co, .slice σ.ac σ.conds.length σ.cc, .slice σ.ah σ.chans.length σ.ch].toArray 74 (0, 0)) :: lsH I64 3 σ.ao σ.co σ.owners :: rsH cqs 1 89 σ.ac σ.cc σ.conds :: stars (σ.conds.map (lsV 3)) :: rsH chs 3 78 σ.ah σ.ch σ.chans :: stars (σ.chans.map fun x => lsV 2 x.q) :: F)
  rcases Decidable.em (inR k σ.conds.length) with hr | hr
  · skip
    have hr' : inR k s.conds.length := by rw [← hc]; exact hr
    obtain ⟨i, rfl⟩ := Int.eq_ofNat_of_zero_le hr.1; have hi : i < σ.conds.length := (by have := hr.2; omega)
    refine X.rsadr (l := σ.conds) (by omega) (fun g e_ => ?_)
    rw [e_]
    have hlen := hs.lenC hR hi hN
    refine X.seq ?_
    refine X.region ?_
    refine XO.pu (Pu.assign rfl) ?_
    refine XO.pu (Pu.assign rfl) ?_
    refine XO.nil ?_
    refine X.sub (p' := [(5, _), (4, _), (0, _), (1, _)]) ⟨rfl, rfl, rfl, rfl, trivial⟩ ?_
    refine X.seq ?_
    refine X.region ?_
    refine XO.pu (Pu.move rfl) ?_
    refine XO.pu (Pu.move rfl) ?_
    refine XO.cR Try.call37 (condList_ok clA clA) ?_
    refine XO.pu (Pu.move rfl) ?_
    refine XO.cR Try.call36 (findC0_ok (p := p) clA (by omega) hi trivial) ?_
    refine XO.pu (Pu.move rfl) ?_
    refine XO.pu (Pu.extract rfl rfl) ?_
    refine XO.pu (Pu.extract rfl rfl) ?_
    refine XO.pu (Pu.assign rfl) ?_
    refine XO.pu (Pu.assign rfl) ?_
    refine XO.nil ?_
    refine X.sub (p' := [(7, _), (6, _), (5, _), (4, _)]) ⟨rfl, rfl, rfl, rfl, trivial⟩ ?_
    refine X.seq ?_
    refine X.seq ?_
    refine X.region ?_
    refine XO.pu (Pu.move rfl) ?_
    refine XO.pu (Pu.neq rfl rfl) ?_
    refine XO.nil ?_
    refine X.sub (p' := [(18, _), (7, _), (6, _), (5, _), (4, _)]) ⟨rfl, rfl, rfl, rfl, rfl, trivial⟩ ?_
    refine X.know 18 (.bool false) rfl (congrArg Value.bool (rfl)) ?_
    refine X.le (Le.focV hi) ?_
    refine X.condF rfl ?_
    refine X.skip ?_
    refine X.seq ?_
    refine X.region ?_
    refine XO.pu (Pu.move rfl) ?_
    refine XO.pu (Pu.nilCheck rfl) ?_
    refine XO.pu (Pu.fieldAddr 87 0 0 rfl Try.underlying89 rfl Try.sizeOf87) ?_
    refine XO.know 22 (.pointer (some ⟨g, i * 1, none⟩)) rfl (by simp) ?_
    refine XO.cF Try.call45 (all_ok (f := cqs) (sz := 1) (ty := 89) (l := σ.conds) (i := i) (m := σ.conds[i].l) (a := σ.conds[i].a) (c := σ.conds[i].c) hi (fun _ => rfl) rfl rfl (by omega) ) ?_
    rintro _ _ ⟨a2, c2, rfl, rfl⟩ _ e_; simp only [ca, na] at e_; subst e_
    refine XO.pu (Pu.assign rfl) ?_
    refine XO.nil ?_
    refine X.sub (p' := [(8, _), (6, _), (5, _), (4, _)]) ⟨rfl, rfl, rfl, rfl, trivial⟩ ?_
    refine X.seq ?_
    refine X.region ?_
    refine XO.pu (Pu.move rfl) ?_
    refine XO.pu (Pu.nilCheck rfl) ?_
    refine XO.pu (Pu.fieldAddr 87 0 0 rfl Try.underlying89 rfl Try.sizeOf87) ?_
    refine XO.pu (Pu.fieldAddr 29 0 0 rfl Try.underlying87 rfl Try.sizeOf29) ?_
    refine XO.ef0 (Ef.setR (g := g) (f := cqs) (sz := 1) (l := σ.conds) (u := ⟨none, 0, []⟩) (n := i) (k := 0) (j := (i : Int)) (by simp [evp, lkp]) rfl Try.sizeOf29 (fun _ => rfl) rfl hi rfl rfl rfl rfl fndA) ?_
    rintro _ _ ⟨rfl, rfl⟩
    refine XO.nil ?_
    refine X.sub (p' := [(8, _), (5, _), (4, _)]) ⟨rfl, rfl, rfl, trivial⟩ ?_
    refine X.seq ?_
    refine X.region ?_
    refine XO.pu (Pu.move rfl) ?_
    refine XO.pu (Pu.assign rfl) ?_
    refine XO.pu (Pu.assign rfl) ?_
    refine XO.nil ?_
    refine X.sub (p' := [(5, _), (4, _)]) ⟨rfl, rfl, trivial⟩ ?_
    rw [show allS s (i : Int) = ({ s with conds := s.conds.set i [] }, σ.conds[i].l, 0) from (if_pos hr').trans (by rw [← hR.cl hi]; rfl)]
    refine X.le (Le.lsH_nil I64 3 _) ?_
    refine X.le (Le.unfV hi (a := none) (c := 0) (m := [])) ?_
    refine X.retL (lsH I64 3 a2 c2 σ.conds[i].l :: [pto p (.cells [.bool true, .slice σ.ao σ.owners.length σ.co, .slice (some ⟨g, 0, none⟩) σ.conds.length σ.cc, .slice σ.ah σ.chans.length σ.ch].toArray 74 (0, 0)), lsH I64 3 σ.ao σ.co σ.owners, rsH cqs 1 89 (some ⟨g, 0, none⟩) σ.cc (σ.conds.set i ⟨none, 0, []⟩), stars ((σ.conds.set i ⟨none, 0, []⟩).map (lsV 3)), rsH chs 3 78 σ.ah σ.ch σ.chans, stars (σ.chans.map fun x => lsV 2 x.q)]) Try.func30 (res2 Try.results30 rfl rfl) ⟨_, rfl, { σ with ac := (some ⟨g, 0, none⟩), conds := σ.conds.set i ⟨none, 0, []⟩ }, a2, c2, hR.setC i ⟨none, 0, []⟩ _, rfl, by unfold syL; simp⟩
  · skip
    have hr' : ¬ inR k s.conds.length := by rw [← hc]; exact hr
    refine X.seq ?_
    refine X.region ?_
    refine XO.pu (Pu.assign rfl) ?_
    refine XO.pu (Pu.assign rfl) ?_
    refine XO.nil ?_
    refine X.sub (p' := [(5, _), (4, _), (0, _), (1, _)]) ⟨rfl, rfl, rfl, rfl, trivial⟩ ?_
    refine X.seq ?_
    refine X.region ?_
    refine XO.pu (Pu.move rfl) ?_
    refine XO.pu (Pu.move rfl) ?_
    refine XO.cR Try.call37 (condList_ok clA clA) ?_
    refine XO.pu (Pu.move rfl) ?_
    refine XO.cR Try.call36 (findC0_rng (p := p) clA (by omega) hr) ?_
    refine XO.pu (Pu.move rfl) ?_
    refine XO.pu (Pu.extract rfl rfl) ?_
    refine XO.pu (Pu.extract rfl rfl) ?_
    refine XO.pu (Pu.assign rfl) ?_
    refine XO.pu (Pu.assign rfl) ?_
    refine XO.nil ?_
    refine X.sub (p' := [(7, _), (6, _), (5, _), (4, _)]) ⟨rfl, rfl, rfl, rfl, trivial⟩ ?_
    refine X.seq ?_
    refine X.seq ?_
    refine X.region ?_
    refine XO.pu (Pu.move rfl) ?_
    refine XO.pu (Pu.neq rfl rfl) ?_
    refine XO.nil ?_
    refine X.sub (p' := [(18, _), (7, _), (6, _), (5, _), (4, _)]) ⟨rfl, rfl, rfl, rfl, rfl, trivial⟩ ?_
    refine X.know 18 (.bool true) rfl (congrArg Value.bool (rfl)) ?_
    refine X.condT rfl ?_
    refine X.seq ?_
    refine X.region ?_
    refine XO.pu (Pu.move rfl) ?_
    refine XO.pu (Pu.assign rfl) ?_
    refine XO.pu (Pu.assign rfl) ?_
    refine XO.nil ?_
    refine X.sub (p' := [(5, _), (4, _), (6, _)]) ⟨rfl, rfl, rfl, trivial⟩ ?_
    rw [show allS s k = (s, [], 4) from if_neg hr']
    refine X.retL (lsH I64 3 none 0 [] :: [pto p (.cells [.bool true, .slice σ.ao σ.owners.length σ.co, .slice σ.ac σ.conds.length σ.cc, .slice σ.ah σ.chans.length σ.ch].toArray 74 (0, 0)), lsH I64 3 σ.ao σ.co σ.owners, rsH cqs 1 89 σ.ac σ.cc σ.conds, stars (σ.conds.map (lsV 3)), rsH chs 3 78 σ.ah σ.ch σ.chans, stars (σ.chans.map fun x => lsV 2 x.q)]) Try.func30 (res2 Try.results30 rfl rfl) ⟨_, rfl, σ, none, 0, hR, rfl, rfl⟩ ((leA).trans (Le.trans (Le.lsH_nil I64 3 _) leA))
theorem Signal_ok (hR : Real σ s) {N : Nat} (hs : s.ok N) (hN : N ≤ 1000) : CallF Try.prog G 17 [.pointer (some ⟨p, 0, none⟩), .int .i64 k] (syL p σ) (Ret fun v q' => ∃ σ', Real σ' (signalS s k).1 ∧ v = .tuple [.int .i64 (max (signalS s k).2.1 0), .bool (decide (0 ≤ (signalS s k).2.1)), .int .i64 (signalS s k).2.2].toArray ∧ q' = syL p σ') := by
  refine CallF.of Try.func17 Try.ntmps17 rfl (fun F cs => ?_)
  refine X.sub (p' := [(0, _), (1, _)]) ⟨rfl, rfl, trivial⟩ ?_
  have ho := hR.lo; have hc := hR.lc; have hh := hR.lh; have hno := hs.no; have hnc := hs.nc; have hnh := hs.nh
  change X _ _ _ _ _ _ _ _ (pto p (.cells [.bool true, .slice σ.ao σ.owners.length σ.co, .slice σ.ac σ.conds.length σ.cc, .slice σ.ah σ.chans.length σ.ch].toArray 74 (0, 0)) :: lsH I64 3 σ.ao σ.co σ.owners :: rsH cqs 1 89 σ.ac σ.cc σ.conds :: stars (σ.conds.map (lsV 3)) :: rsH chs 3 78 σ.ah σ.ch σ.chans :: stars (σ.chans.map fun x => lsV 2 x.q) :: F)
  rcases Decidable.em (inR k σ.conds.length) with hr | hr
  · skip
    have hr' : inR k s.conds.length := by rw [← hc]; exact hr
    obtain ⟨i, rfl⟩ := Int.eq_ofNat_of_zero_le hr.1; have hi : i < σ.conds.length := (by have := hr.2; omega)
    refine X.rsadr (l := σ.conds) (by omega) (fun g e_ => ?_)
    rw [e_]
    have hlen := hs.lenC hR hi hN; have hcl := hR.cl hi
    refine X.seq ?_
    refine X.region ?_
    refine XO.pu (Pu.assign rfl) ?_
    refine XO.pu (Pu.assign rfl) ?_
    refine XO.pu (Pu.assign rfl) ?_
    refine XO.nil ?_
    refine X.sub (p' := [(6, _), (5, _), (4, _), (0, _), (1, _)]) ⟨rfl, rfl, rfl, rfl, rfl, trivial⟩ ?_
    refine X.seq ?_
    refine X.region ?_
    refine XO.pu (Pu.move rfl) ?_
    refine XO.pu (Pu.move rfl) ?_
    refine XO.cR Try.call37 (condList_ok clA clA) ?_
    refine XO.pu (Pu.move rfl) ?_
    refine XO.cR Try.call36 (findC0_ok (p := p) clA (by omega) hi trivial) ?_
    refine XO.pu (Pu.move rfl) ?_
    refine XO.pu (Pu.extract rfl rfl) ?_
    refine XO.pu (Pu.extract rfl rfl) ?_
    refine XO.pu (Pu.assign rfl) ?_
    refine XO.pu (Pu.assign rfl) ?_
    refine XO.nil ?_
    refine X.sub (p' := [(8, _), (7, _), (6, _), (5, _), (4, _)]) ⟨rfl, rfl, rfl, rfl, rfl, trivial⟩ ?_
    refine X.seq ?_
    refine X.seq ?_
    refine X.region ?_
    refine XO.pu (Pu.move rfl) ?_
    refine XO.pu (Pu.neq rfl rfl) ?_
    refine XO.nil ?_
    refine X.sub (p' := [(20, _), (8, _), (7, _), (6, _), (5, _), (4, _)]) ⟨rfl, rfl, rfl, rfl, rfl, rfl, trivial⟩ ?_
    refine X.know 20 (.bool false) rfl (congrArg Value.bool (rfl)) ?_
    refine X.le (Le.focV hi) ?_
    refine X.condF rfl ?_
    refine X.skip ?_
    refine X.seq ?_
    refine X.region ?_
    refine XO.pu (Pu.move rfl) ?_
    refine XO.pu (Pu.nilCheck rfl) ?_
    refine XO.pu (Pu.fieldAddr 87 0 0 rfl Try.underlying89 rfl Try.sizeOf87) ?_
    rcases Decidable.em (σ.conds[i].l = []) with he | he
    · skip
      refine XO.know 25 (.pointer (some ⟨g, i * 1, none⟩)) rfl (by simp) ?_
      refine XO.cF Try.call40 (take_no (f := cqs) (sz := 1) (ty := 89) (l := σ.conds) (i := i) (m := σ.conds[i].l) (a := σ.conds[i].a) (c := σ.conds[i].c) hi (fun _ => rfl) rfl rfl (by omega) he) ?_
      rintro _ _ ⟨rfl, rfl⟩ _ e_; simp only [ca, na] at e_; subst e_
      refine XO.pu (Pu.move rfl) ?_
      refine XO.pu (Pu.extract rfl rfl) ?_
      refine XO.pu (Pu.extract rfl rfl) ?_
      refine XO.pu (Pu.assign rfl) ?_
      refine XO.pu (Pu.assign rfl) ?_
      refine XO.nil ?_
      refine X.sub (p' := [(10, _), (9, _), (6, _), (5, _), (4, _)]) ⟨rfl, rfl, rfl, rfl, rfl, trivial⟩ ?_
      refine X.seq ?_
      refine X.region ?_
      refine XO.pu (Pu.move rfl) ?_
      refine XO.pu (Pu.move rfl) ?_
      refine XO.pu (Pu.assign rfl) ?_
      refine XO.pu (Pu.assign rfl) ?_
      refine XO.pu (Pu.assign rfl) ?_
      refine XO.nil ?_
      refine X.sub (p' := [(6, _), (5, _), (4, _)]) ⟨rfl, rfl, rfl, trivial⟩ ?_
      refine X.le (Le.unfV hi (a := σ.conds[i].a) (c := σ.conds[i].c) (m := σ.conds[i].l)) ?_
      rw [show σ.conds.set i ⟨σ.conds[i].a, σ.conds[i].c, σ.conds[i].l⟩ = σ.conds from List.set_getElem_self hi]
      rw [show signalS s (i : Int) = (s, -1, 0) from (if_pos hr').trans (if_pos (hcl.trans he))]
      refine X.retL [pto p (.cells [.bool true, .slice σ.ao σ.owners.length σ.co, .slice (some ⟨g, 0, none⟩) σ.conds.length σ.cc, .slice σ.ah σ.chans.length σ.ch].toArray 74 (0, 0)), lsH I64 3 σ.ao σ.co σ.owners, rsH cqs 1 89 (some ⟨g, 0, none⟩) σ.cc σ.conds, stars (σ.conds.map (lsV 3)), rsH chs 3 78 σ.ah σ.ch σ.chans, stars (σ.chans.map fun x => lsV 2 x.q)] Try.func17 (res3 Try.results17 rfl rfl rfl) ⟨_, rfl, σ, hR, rfl, by unfold syL; rw [e_]⟩
    · skip
      refine XO.know 25 (.pointer (some ⟨g, i * 1, none⟩)) rfl (by simp) ?_
      refine XO.cF Try.call40 (take_ok (f := cqs) (sz := 1) (ty := 89) (l := σ.conds) (i := i) (m := σ.conds[i].l) (a := σ.conds[i].a) (c := σ.conds[i].c) (u := (fun a c => ⟨a, c, σ.conds[i].l.drop 1⟩)) hi (fun _ => rfl) rfl rfl (by omega) he (fun _ _ => rfl)) ?_
      rintro _ _ ⟨a2, c2, rfl, rfl⟩ _ e_; simp only [ca, na] at e_; subst e_
      refine XO.pu (Pu.move rfl) ?_
      refine XO.pu (Pu.extract rfl rfl) ?_
      refine XO.pu (Pu.extract rfl rfl) ?_
      refine XO.pu (Pu.assign rfl) ?_
      refine XO.pu (Pu.assign rfl) ?_
      refine XO.nil ?_
      refine X.sub (p' := [(10, _), (9, _), (6, _), (5, _), (4, _)]) ⟨rfl, rfl, rfl, rfl, rfl, trivial⟩ ?_
      refine X.seq ?_
      refine X.region ?_
      refine XO.pu (Pu.move rfl) ?_
      refine XO.pu (Pu.move rfl) ?_
      refine XO.pu (Pu.assign rfl) ?_
      refine XO.pu (Pu.assign rfl) ?_
      refine XO.pu (Pu.assign rfl) ?_
      refine XO.nil ?_
      refine X.sub (p' := [(6, _), (5, _), (4, _)]) ⟨rfl, rfl, rfl, trivial⟩ ?_
      refine X.le (Le.unfV hi (a := a2) (c := c2) (m := σ.conds[i].l.drop 1)) ?_
      have h0 : 0 ≤ σ.conds[i].l.headD 0 := by
        have h1 := hs.c σ.conds[i].l (by rw [← hcl]; exact getD_mem (by rw [← hc]; exact hi))
        cases hL : σ.conds[i].l with
        | nil => exact absurd hL he
        | cons x r => rw [hL] at h1; exact (h1.2 x (List.mem_cons_self ..)).1
      rw [show signalS s (i : Int) = ({ s with conds := s.conds.set i (σ.conds[i].l.drop 1) }, σ.conds[i].l.headD 0, 0) from (if_pos hr').trans ((if_neg (fun e => he (hcl.symm.trans e))).trans (by rw [← hcl]; rfl))]
      refine X.retL [pto p (.cells [.bool true, .slice σ.ao σ.owners.length σ.co, .slice (some ⟨g, 0, none⟩) σ.conds.length σ.cc, .slice σ.ah σ.chans.length σ.ch].toArray 74 (0, 0)), lsH I64 3 σ.ao σ.co σ.owners, rsH cqs 1 89 (some ⟨g, 0, none⟩) σ.cc (σ.conds.set i ⟨a2, c2, σ.conds[i].l.drop 1⟩), stars ((σ.conds.set i ⟨a2, c2, σ.conds[i].l.drop 1⟩).map (lsV 3)), rsH chs 3 78 σ.ah σ.ch σ.chans, stars (σ.chans.map fun x => lsV 2 x.q)] Try.func17 (res3 Try.results17 rfl rfl rfl) ⟨_, rfl, { σ with ac := (some ⟨g, 0, none⟩), conds := σ.conds.set i ⟨a2, c2, σ.conds[i].l.drop 1⟩ }, hR.setC i ⟨a2, c2, σ.conds[i].l.drop 1⟩ _, by dsimp only; rw [Int.max_eq_left h0, decide_eq_true h0], by unfold syL; simp⟩
  · skip
    have hr' : ¬ inR k s.conds.length := by rw [← hc]; exact hr
    refine X.seq ?_
    refine X.region ?_
    refine XO.pu (Pu.assign rfl) ?_
    refine XO.pu (Pu.assign rfl) ?_
    refine XO.pu (Pu.assign rfl) ?_
    refine XO.nil ?_
    refine X.sub (p' := [(6, _), (5, _), (4, _), (0, _), (1, _)]) ⟨rfl, rfl, rfl, rfl, rfl, trivial⟩ ?_
    refine X.seq ?_
    refine X.region ?_
    refine XO.pu (Pu.move rfl) ?_
    refine XO.pu (Pu.move rfl) ?_
    refine XO.cR Try.call37 (condList_ok clA clA) ?_
    refine XO.pu (Pu.move rfl) ?_
    refine XO.cR Try.call36 (findC0_rng (p := p) clA (by omega) hr) ?_
    refine XO.pu (Pu.move rfl) ?_
    refine XO.pu (Pu.extract rfl rfl) ?_
    refine XO.pu (Pu.extract rfl rfl) ?_
    refine XO.pu (Pu.assign rfl) ?_
    refine XO.pu (Pu.assign rfl) ?_
    refine XO.nil ?_
    refine X.sub (p' := [(8, _), (7, _), (6, _), (5, _), (4, _)]) ⟨rfl, rfl, rfl, rfl, rfl, trivial⟩ ?_
    refine X.seq ?_
    refine X.seq ?_
    refine X.region ?_
    refine XO.pu (Pu.move rfl) ?_
    refine XO.pu (Pu.neq rfl rfl) ?_
    refine XO.nil ?_
    refine X.sub (p' := [(20, _), (8, _), (7, _), (6, _), (5, _), (4, _)]) ⟨rfl, rfl, rfl, rfl, rfl, rfl, trivial⟩ ?_
    refine X.know 20 (.bool true) rfl (congrArg Value.bool (rfl)) ?_
    refine X.condT rfl ?_
    refine X.seq ?_
    refine X.region ?_
    refine XO.pu (Pu.move rfl) ?_
    refine XO.pu (Pu.assign rfl) ?_
    refine XO.pu (Pu.assign rfl) ?_
    refine XO.pu (Pu.assign rfl) ?_
    refine XO.nil ?_
    refine X.sub (p' := [(6, _), (5, _), (4, _), (7, _)]) ⟨rfl, rfl, rfl, rfl, trivial⟩ ?_
    rw [show signalS s k = (s, -1, 4) from if_neg hr']
    refine X.retL [pto p (.cells [.bool true, .slice σ.ao σ.owners.length σ.co, .slice σ.ac σ.conds.length σ.cc, .slice σ.ah σ.chans.length σ.ch].toArray 74 (0, 0)), lsH I64 3 σ.ao σ.co σ.owners, rsH cqs 1 89 σ.ac σ.cc σ.conds, stars (σ.conds.map (lsV 3)), rsH chs 3 78 σ.ah σ.ch σ.chans, stars (σ.chans.map fun x => lsV 2 x.q)] Try.func17 (res3 Try.results17 rfl rfl rfl) ⟨_, rfl, σ, hR, rfl, rfl⟩
theorem Room_ok (hR : Real σ s) {N : Nat} (hs : s.ok N) (hN : N ≤ 1000) : CallF Try.prog G 29 [.pointer (some ⟨p, 0, none⟩), .int .i64 k] (syL p σ) (Ret fun v q' => v = .tuple [.int .i64 (roomS s k).1, .int .i64 (roomS s k).2].toArray ∧ q' = syL p σ) := by
  refine CallF.of Try.func29 Try.ntmps29 rfl (fun F cs => ?_)
  refine X.sub (p' := [(0, _), (1, _)]) ⟨rfl, rfl, trivial⟩ ?_
  have ho := hR.lo; have hc := hR.lc; have hh := hR.lh; have hno := hs.no; have hnc := hs.nc; have hnh := hs.nh
  change X _ _ _ _ _ _ _ _ (pto p (.cells [.bool true, .slice σ.ao σ.owners.length σ.co, .slice σ.ac σ.conds.length σ.cc, .slice σ.ah σ.chans.length σ.ch].toArray 74 (0, 0)) :: lsH I64 3 σ.ao σ.co σ.owners :: rsH cqs 1 89 σ.ac σ.cc σ.conds :: stars (σ.conds.map (lsV 3)) :: rsH chs 3 78 σ.ah σ.ch σ.chans :: stars (σ.chans.map fun x => lsV 2 x.q) :: F)
  rcases Decidable.em (inR k σ.chans.length) with hr | hr
  · skip
    have hr' : inR k s.chans.length := by rw [← hh]; exact hr
    obtain ⟨i, rfl⟩ := Int.eq_ofNat_of_zero_le hr.1; have hi : i < σ.chans.length := (by have := hr.2; omega)
    refine X.rsadr (l := σ.chans) (by omega) (fun g e_ => ?_)
    rw [e_]
    refine X.seq ?_
    refine X.region ?_
    refine XO.pu (Pu.assign rfl) ?_
    refine XO.pu (Pu.assign rfl) ?_
    refine XO.nil ?_
    refine X.sub (p' := [(5, _), (4, _), (0, _), (1, _)]) ⟨rfl, rfl, rfl, rfl, trivial⟩ ?_
    refine X.seq ?_
    refine X.region ?_
    refine XO.pu (Pu.move rfl) ?_
    refine XO.pu (Pu.move rfl) ?_
    refine XO.cR Try.call42 (channelList_ok clA clA) ?_
    refine XO.pu (Pu.move rfl) ?_
    refine XO.cR Try.call41 (findH0_ok (p := p) clA (by omega) hi trivial) ?_
    refine XO.pu (Pu.move rfl) ?_
    refine XO.pu (Pu.extract rfl rfl) ?_
    refine XO.pu (Pu.extract rfl rfl) ?_
    refine XO.pu (Pu.assign rfl) ?_
    refine XO.pu (Pu.assign rfl) ?_
    refine XO.nil ?_
    refine X.sub (p' := [(7, _), (6, _), (5, _), (4, _)]) ⟨rfl, rfl, rfl, rfl, trivial⟩ ?_
    refine X.seq ?_
    refine X.seq ?_
    refine X.region ?_
    refine XO.pu (Pu.move rfl) ?_
    refine XO.pu (Pu.neq rfl rfl) ?_
    refine XO.nil ?_
    refine X.sub (p' := [(17, _), (7, _), (6, _), (5, _), (4, _)]) ⟨rfl, rfl, rfl, rfl, rfl, trivial⟩ ?_
    refine X.know 17 (.bool false) rfl (congrArg Value.bool (rfl)) ?_
    obtain ⟨r1, r2, r3⟩ := row_items (hR.hl hi)
    have hsh : Sees (pto p (.cells [.bool true, .slice σ.ao σ.owners.length σ.co, .slice σ.ac σ.conds.length σ.cc, .slice (some ⟨g, 0, none⟩) σ.chans.length σ.ch].toArray 74 (0, 0)) :: lsH I64 3 σ.ao σ.co σ.owners :: rsH cqs 1 89 σ.ac σ.cc σ.conds :: stars (σ.conds.map (lsV 3)) :: rsH chs 3 78 (some ⟨g, 0, none⟩) σ.ch σ.chans :: stars (σ.chans.map fun x => lsV 2 x.q) :: F) (some ⟨g, 0, none⟩) (σ.chans.flatMap chs) := (Sees.rsH _).le leA
    refine X.condF rfl ?_
    refine X.skip ?_
    refine X.seq ?_
    refine X.region ?_
    refine XO.pu (Pu.move rfl) ?_
    refine XO.pu (Pu.nilCheck rfl) ?_
    refine XO.pu (Pu.fieldAddr 3 1 0 rfl Try.underlying78 rfl Try.sizeOf3) ?_
    refine XO.ld Try.isAgg3 ?_ (hc := (Cl.at (k := 1) hsh (fun _ => rfl) (List.getElem?_eq_getElem hi) (by omega) rfl rfl))
    refine XO.pu (Pu.assign rfl) ?_
    refine XO.pu (Pu.assign rfl) ?_
    refine XO.nil ?_
    refine X.sub (p' := [(5, _), (4, _)]) ⟨rfl, rfl, trivial⟩ ?_
    rw [show roomS s (i : Int) = (σ.chans[i].room, 0) from (if_pos hr').trans (by rw [← r2]; rfl)]
    refine X.retL [pto p (.cells [.bool true, .slice σ.ao σ.owners.length σ.co, .slice σ.ac σ.conds.length σ.cc, .slice (some ⟨g, 0, none⟩) σ.chans.length σ.ch].toArray 74 (0, 0)), lsH I64 3 σ.ao σ.co σ.owners, rsH cqs 1 89 σ.ac σ.cc σ.conds, stars (σ.conds.map (lsV 3)), rsH chs 3 78 (some ⟨g, 0, none⟩) σ.ch σ.chans, stars (σ.chans.map fun x => lsV 2 x.q)] Try.func29 (res2 Try.results29 rfl rfl) ⟨_, rfl, rfl, by unfold syL; rw [e_]⟩
  · skip
    have hr' : ¬ inR k s.chans.length := by rw [← hh]; exact hr
    refine X.seq ?_
    refine X.region ?_
    refine XO.pu (Pu.assign rfl) ?_
    refine XO.pu (Pu.assign rfl) ?_
    refine XO.nil ?_
    refine X.sub (p' := [(5, _), (4, _), (0, _), (1, _)]) ⟨rfl, rfl, rfl, rfl, trivial⟩ ?_
    refine X.seq ?_
    refine X.region ?_
    refine XO.pu (Pu.move rfl) ?_
    refine XO.pu (Pu.move rfl) ?_
    refine XO.cR Try.call42 (channelList_ok clA clA) ?_
    refine XO.pu (Pu.move rfl) ?_
    refine XO.cR Try.call41 (findH0_rng (p := p) clA (by omega) hr) ?_
    refine XO.pu (Pu.move rfl) ?_
    refine XO.pu (Pu.extract rfl rfl) ?_
    refine XO.pu (Pu.extract rfl rfl) ?_
    refine XO.pu (Pu.assign rfl) ?_
    refine XO.pu (Pu.assign rfl) ?_
    refine XO.nil ?_
    refine X.sub (p' := [(7, _), (6, _), (5, _), (4, _)]) ⟨rfl, rfl, rfl, rfl, trivial⟩ ?_
    refine X.seq ?_
    refine X.seq ?_
    refine X.region ?_
    refine XO.pu (Pu.move rfl) ?_
    refine XO.pu (Pu.neq rfl rfl) ?_
    refine XO.nil ?_
    refine X.sub (p' := [(17, _), (7, _), (6, _), (5, _), (4, _)]) ⟨rfl, rfl, rfl, rfl, rfl, trivial⟩ ?_
    refine X.know 17 (.bool true) rfl (congrArg Value.bool (rfl)) ?_
    refine X.condT rfl ?_
    refine X.seq ?_
    refine X.region ?_
    refine XO.pu (Pu.move rfl) ?_
    refine XO.pu (Pu.assign rfl) ?_
    refine XO.pu (Pu.assign rfl) ?_
    refine XO.nil ?_
    refine X.sub (p' := [(5, _), (4, _), (6, _)]) ⟨rfl, rfl, rfl, trivial⟩ ?_
    rw [show roomS s k = (0, 4) from if_neg hr']
    refine X.retL [pto p (.cells [.bool true, .slice σ.ao σ.owners.length σ.co, .slice σ.ac σ.conds.length σ.cc, .slice σ.ah σ.chans.length σ.ch].toArray 74 (0, 0)), lsH I64 3 σ.ao σ.co σ.owners, rsH cqs 1 89 σ.ac σ.cc σ.conds, stars (σ.conds.map (lsV 3)), rsH chs 3 78 σ.ah σ.ch σ.chans, stars (σ.chans.map fun x => lsV 2 x.q)] Try.func29 (res2 Try.results29 rfl rfl) ⟨_, rfl, rfl, rfl⟩
theorem Recv_ok (hR : Real σ s) {N : Nat} (hs : s.ok N) (hN : N ≤ 1000) : CallF Try.prog G 19 [.pointer (some ⟨p, 0, none⟩), .int .i64 k] (syL p σ) (Ret fun v q' => ∃ σ', Real σ' (recvS s k).1 ∧ v = .tuple [.int .i64 (recvS s k).2.1, .int .i64 (max (recvS s k).2.2.1 0), .bool (decide (0 ≤ (recvS s k).2.2.1)), .int .i64 (recvS s k).2.2.2].toArray ∧ q' = syL p σ') := by
  refine CallF.of Try.func19 Try.ntmps19 rfl (fun F cs => ?_)
  refine X.sub (p' := [(0, _), (1, _)]) ⟨rfl, rfl, trivial⟩ ?_
  have ho := hR.lo; have hc := hR.lc; have hh := hR.lh; have hno := hs.no; have hnc := hs.nc; have hnh := hs.nh
  change X _ _ _ _ _ _ _ _ (pto p (.cells [.bool true, .slice σ.ao σ.owners.length σ.co, .slice σ.ac σ.conds.length σ.cc, .slice σ.ah σ.chans.length σ.ch].toArray 74 (0, 0)) :: lsH I64 3 σ.ao σ.co σ.owners :: rsH cqs 1 89 σ.ac σ.cc σ.conds :: stars (σ.conds.map (lsV 3)) :: rsH chs 3 78 σ.ah σ.ch σ.chans :: stars (σ.chans.map fun x => lsV 2 x.q) :: F)
  rcases Decidable.em (inR k σ.chans.length) with hr | hr
  · skip
    have hr' : inR k s.chans.length := by rw [← hh]; exact hr
    obtain ⟨i, rfl⟩ := Int.eq_ofNat_of_zero_le hr.1; have hi : i < σ.chans.length := (by have := hr.2; omega)
    refine X.rsadr (l := σ.chans) (by omega) (fun g e_ => ?_)
    rw [e_]
    have hlen := hs.lenH hR hi hN
    obtain ⟨r1, r2, r3⟩ := row_items (hR.hl hi)
    have hch := hs.h _ (getD_mem (d := ch0) (show i < s.chans.length by rw [← hh]; exact hi)); obtain ⟨⟨hr1, hr2⟩, htk, hal, hit, hva⟩ := hch
    have hdl : (s.chans.getD i ch0).all.drop (s.chans.getD i ch0).taken = σ.chans[i].q.l := r1; have hdl2 := congrArg List.length hdl; rw [List.length_drop] at hdl2; have hit2 : (σ.chans[i].q.l.length : Int) ≤ σ.chans[i].room := by rw [← r1, ← r2]; exact hit
    refine X.seq ?_
    refine X.region ?_
    refine XO.pu (Pu.assign rfl) ?_
    refine XO.pu (Pu.assign rfl) ?_
    refine XO.pu (Pu.assign rfl) ?_
    refine XO.pu (Pu.assign rfl) ?_
    refine XO.nil ?_
    refine X.sub (p' := [(7, _), (6, _), (5, _), (4, _), (0, _), (1, _)]) ⟨rfl, rfl, rfl, rfl, rfl, rfl, trivial⟩ ?_
    refine X.seq ?_
    refine X.region ?_
    refine XO.pu (Pu.move rfl) ?_
    refine XO.pu (Pu.move rfl) ?_
    refine XO.cR Try.call42 (channelList_ok clA clA) ?_
    refine XO.pu (Pu.move rfl) ?_
    refine XO.cR Try.call41 (findH0_ok (p := p) clA (by omega) hi trivial) ?_
    refine XO.pu (Pu.move rfl) ?_
    refine XO.pu (Pu.extract rfl rfl) ?_
    refine XO.pu (Pu.extract rfl rfl) ?_
    refine XO.pu (Pu.assign rfl) ?_
    refine XO.pu (Pu.assign rfl) ?_
    refine XO.nil ?_
    refine X.sub (p' := [(9, _), (8, _), (7, _), (6, _), (5, _), (4, _)]) ⟨rfl, rfl, rfl, rfl, rfl, rfl, trivial⟩ ?_
    refine X.seq ?_
    refine X.seq ?_
    refine X.region ?_
    refine XO.pu (Pu.move rfl) ?_
    refine XO.pu (Pu.neq rfl rfl) ?_
    refine XO.nil ?_
    refine X.sub (p' := [(22, _), (9, _), (8, _), (7, _), (6, _), (5, _), (4, _)]) ⟨rfl, rfl, rfl, rfl, rfl, rfl, rfl, trivial⟩ ?_
    refine X.know 22 (.bool false) rfl (congrArg Value.bool (rfl)) ?_
    have hsh : Sees (pto p (.cells [.bool true, .slice σ.ao σ.owners.length σ.co, .slice σ.ac σ.conds.length σ.cc, .slice (some ⟨g, 0, none⟩) σ.chans.length σ.ch].toArray 74 (0, 0)) :: lsH I64 3 σ.ao σ.co σ.owners :: rsH cqs 1 89 σ.ac σ.cc σ.conds :: stars (σ.conds.map (lsV 3)) :: rsH chs 3 78 (some ⟨g, 0, none⟩) σ.ch σ.chans :: stars (σ.chans.map fun x => lsV 2 x.q) :: F) (some ⟨g, 0, none⟩) (σ.chans.flatMap chs) := (Sees.rsH _).le leA
    refine X.condF rfl ?_
    refine X.skip ?_
    refine X.seq ?_
    refine X.draw [] Try.mixed (by kernel_rfl) (by kernel_rfl) rfl ?_
    refine XD.pu 0 rfl (Pu.move rfl) ?_
    refine XD.pu 1 rfl (Pu.nilCheck rfl) ?_
    refine XD.pu 2 rfl (Pu.fieldAddr 3 2 0 rfl Try.underlying78 rfl Try.sizeOf3) ?_
    refine XD.ld 3 Try.isAgg3 ?_ (hc := (by first | exact (Cl.at (k := 2) hsh (fun _ => rfl) (List.getElem?_eq_getElem hi) (by omega) rfl rfl) | exact (Cl.at (k := 0) hsh (fun _ => rfl) (List.getElem?_eq_getElem hi) (by omega) rfl rfl)))
    refine XD.pu 4 rfl (Pu.move rfl) ?_
    refine XD.pu 5 rfl (Pu.nilCheck rfl) ?_
    refine XD.pu 6 rfl (Pu.fieldAddr 76 0 0 rfl Try.underlying78 rfl Try.sizeOf76) ?_
    refine XD.pu 7 rfl (Pu.fieldAddr 28 0 0 rfl Try.underlying76 rfl Try.sizeOf28) ?_
    refine XD.ld 8 Try.isAgg28 ?_ (hc := (by first | exact (Cl.at (k := 2) hsh (fun _ => rfl) (List.getElem?_eq_getElem hi) (by omega) rfl rfl) | exact (Cl.at (k := 0) hsh (fun _ => rfl) (List.getElem?_eq_getElem hi) (by omega) rfl rfl)))
    refine XD.pu 9 rfl (Pu.len rfl Try.underlying28) ?_
    refine XD.pu 10 rfl (Pu.sub rfl rfl (by omega) (by omega)) ?_
    refine XD.pu 11 rfl (Pu.assign rfl) ?_
    refine XD.nil ?_
    refine X.sub (p' := [(10, _), (8, _), (7, _), (6, _), (5, _), (4, _)]) ⟨rfl, rfl, rfl, rfl, rfl, rfl, trivial⟩ ?_
    refine X.seq ?_
    refine X.region ?_
    refine XO.pu (Pu.move rfl) ?_
    refine XO.pu (Pu.nilCheck rfl) ?_
    refine XO.pu (Pu.fieldAddr 76 0 0 rfl Try.underlying78 rfl Try.sizeOf76) ?_
    refine XO.le (Le.focH hi) ?_
    rcases Decidable.em (σ.chans[i].q.l = []) with he | he
    · skip
      refine XO.know 38 (.pointer (some ⟨g, i * 3, none⟩)) rfl (by simp) ?_
      refine XO.cF Try.call44 (take64_no (f := chs) (sz := 3) (ty := 78) (l := σ.chans) (i := i) (m := σ.chans[i].q.l) (a := σ.chans[i].q.a) (c := σ.chans[i].q.c) hi (fun _ => rfl) rfl rfl (by omega) he) ?_
      rintro _ _ ⟨rfl, rfl⟩ _ e_; simp only [ca, na] at e_; subst e_
      refine XO.pu (Pu.move rfl) ?_
      refine XO.pu (Pu.extract rfl rfl) ?_
      refine XO.pu (Pu.extract rfl rfl) ?_
      refine XO.pu (Pu.assign rfl) ?_
      refine XO.pu (Pu.assign rfl) ?_
      refine XO.nil ?_
      refine X.sub (p' := [(12, _), (11, _), (10, _), (7, _), (6, _), (5, _), (4, _)]) ⟨rfl, rfl, rfl, rfl, rfl, rfl, rfl, trivial⟩ ?_
      refine X.seq ?_
      refine X.seq ?_
      refine X.region ?_
      refine XO.pu (Pu.move rfl) ?_
      refine XO.pu (Pu.not rfl) ?_
      refine XO.nil ?_
      refine X.sub (p' := [(43, _), (11, _), (10, _), (7, _), (6, _), (5, _), (4, _)]) ⟨rfl, rfl, rfl, rfl, rfl, rfl, rfl, trivial⟩ ?_
      refine X.know 43 (.bool true) rfl (congrArg Value.bool (rfl)) ?_
      refine X.condT rfl ?_
      refine X.seq ?_
      refine X.region ?_
      refine XO.pu (Pu.assign rfl) ?_
      refine XO.pu (Pu.assign rfl) ?_
      refine XO.pu (Pu.assign rfl) ?_
      refine XO.pu (Pu.assign rfl) ?_
      refine XO.nil ?_
      refine X.sub (p' := [(7, _), (6, _), (5, _), (4, _), (11, _), (10, _)]) ⟨rfl, rfl, rfl, rfl, rfl, rfl, trivial⟩ ?_
      refine X.le (Le.unfH hi σ.chans[i]) ?_
      rw [show σ.chans.set i σ.chans[i] = σ.chans from List.set_getElem_self hi]
      rw [show recvS s (i : Int) = (s, 0, -1, 0) from (if_pos hr').trans (if_pos (r1.trans he))]
      refine X.retL [pto p (.cells [.bool true, .slice σ.ao σ.owners.length σ.co, .slice σ.ac σ.conds.length σ.cc, .slice (some ⟨g, 0, none⟩) σ.chans.length σ.ch].toArray 74 (0, 0)), lsH I64 3 σ.ao σ.co σ.owners, rsH cqs 1 89 σ.ac σ.cc σ.conds, stars (σ.conds.map (lsV 3)), rsH chs 3 78 (some ⟨g, 0, none⟩) σ.ch σ.chans, stars (σ.chans.map fun x => lsV 2 x.q)] Try.func19 (resC Try.results19 (ResOk.tmp rfl (ResOk.tmp rfl (ResOk.tmp rfl (ResOk.tmp rfl ResOk.nil))))) ⟨_, rfl, σ, hR, rfl, by unfold syL; rw [e_]⟩
    · skip
      refine XO.know 38 (.pointer (some ⟨g, i * 3, none⟩)) rfl (by simp) ?_
      refine XO.cF Try.call44 (take64_ok (f := chs) (sz := 3) (ty := 78) (l := σ.chans) (i := i) (m := σ.chans[i].q.l) (a := σ.chans[i].q.a) (c := σ.chans[i].q.c) (u := (fun a c => ⟨⟨a, c, σ.chans[i].q.l.drop 1⟩, σ.chans[i].room, σ.chans[i].sent⟩)) hi (fun _ => rfl) rfl rfl (by omega) he (fun _ _ => rfl)) ?_
      rintro _ _ ⟨a2, c2, rfl, rfl⟩ _ e_; simp only [ca, na] at e_; subst e_
      refine XO.pu (Pu.move rfl) ?_
      refine XO.pu (Pu.extract rfl rfl) ?_
      refine XO.pu (Pu.extract rfl rfl) ?_
      refine XO.pu (Pu.assign rfl) ?_
      refine XO.pu (Pu.assign rfl) ?_
      refine XO.nil ?_
      refine X.sub (p' := [(12, _), (11, _), (10, _), (7, _), (6, _), (5, _), (4, _)]) ⟨rfl, rfl, rfl, rfl, rfl, rfl, rfl, trivial⟩ ?_
      refine X.seq ?_
      refine X.seq ?_
      refine X.region ?_
      refine XO.pu (Pu.move rfl) ?_
      refine XO.pu (Pu.not rfl) ?_
      refine XO.nil ?_
      refine X.sub (p' := [(43, _), (11, _), (10, _), (7, _), (6, _), (5, _), (4, _)]) ⟨rfl, rfl, rfl, rfl, rfl, rfl, rfl, trivial⟩ ?_
      refine X.know 43 (.bool false) rfl (congrArg Value.bool (rfl)) ?_
      refine X.condF rfl ?_
      refine X.skip ?_
      refine X.seq ?_
      refine X.region ?_
      refine XO.pu (Pu.move rfl) ?_
      refine XO.pu (Pu.move rfl) ?_
      refine XO.pu (Pu.assign rfl) ?_
      refine XO.pu (Pu.assign rfl) ?_
      refine XO.pu (Pu.assign rfl) ?_
      refine XO.pu (Pu.assign rfl) ?_
      refine XO.nil ?_
      refine X.sub (p' := [(7, _), (6, _), (5, _), (4, _)]) ⟨rfl, rfl, rfl, rfl, trivial⟩ ?_
      refine X.le (Le.unfH hi (⟨⟨a2, c2, σ.chans[i].q.l.drop 1⟩, σ.chans[i].room, σ.chans[i].sent⟩ : ChC)) ?_
      have hpos : 0 < σ.chans[i].q.l.length := List.length_pos_iff.2 he
      have hhd : (s.chans.getD i ch0).all.getD (s.chans.getD i ch0).taken 0 = σ.chans[i].q.l.headD 0 := by rw [← hdl, List.headD_eq_head?_getD, List.head?_drop, List.getD_eq_getElem?_getD]
      rw [show recvS s (i : Int) = ({ s with chans := s.chans.set i { s.chans.getD i ch0 with taken := (s.chans.getD i ch0).taken + 1 } }, σ.chans[i].q.l.headD 0, ((s.chans.getD i ch0).taken : Int), 0) from (if_pos hr').trans ((if_neg (fun e => he (r1.symm.trans e))).trans (by rw [← hhd]; rfl))]
      refine X.retL [pto p (.cells [.bool true, .slice σ.ao σ.owners.length σ.co, .slice σ.ac σ.conds.length σ.cc, .slice (some ⟨g, 0, none⟩) σ.chans.length σ.ch].toArray 74 (0, 0)), lsH I64 3 σ.ao σ.co σ.owners, rsH cqs 1 89 σ.ac σ.cc σ.conds, stars (σ.conds.map (lsV 3)), rsH chs 3 78 (some ⟨g, 0, none⟩) σ.ch (σ.chans.set i (⟨⟨a2, c2, σ.chans[i].q.l.drop 1⟩, σ.chans[i].room, σ.chans[i].sent⟩ : ChC)), stars ((σ.chans.set i (⟨⟨a2, c2, σ.chans[i].q.l.drop 1⟩, σ.chans[i].room, σ.chans[i].sent⟩ : ChC)).map fun x => lsV 2 x.q)] Try.func19 (resC Try.results19 (ResOk.tmp rfl (ResOk.tmp rfl (ResOk.tmp rfl (ResOk.tmp rfl ResOk.nil))))) ⟨_, rfl, { σ with ah := (some ⟨g, 0, none⟩), chans := σ.chans.set i (⟨⟨a2, c2, σ.chans[i].q.l.drop 1⟩, σ.chans[i].room, σ.chans[i].sent⟩ : ChC) }, hR.setH i (⟨⟨a2, c2, σ.chans[i].q.l.drop 1⟩, σ.chans[i].room, σ.chans[i].sent⟩ : ChC) _ (by unfold Ch.row ChC.row Ch.items; dsimp only; rw [← r2, ← r3, ← hdl, List.drop_drop]) _, by dsimp only; rw [Int.max_eq_left (by omega), decide_eq_true (by omega), show ((σ.chans[i]).sent - (σ.chans[i].q.l.length : Int)) = ((s.chans.getD i ch0).taken : Int) by omega], by unfold syL; simp⟩
  · skip
    have hr' : ¬ inR k s.chans.length := by rw [← hh]; exact hr
    refine X.seq ?_
    refine X.region ?_
    refine XO.pu (Pu.assign rfl) ?_
    refine XO.pu (Pu.assign rfl) ?_
    refine XO.pu (Pu.assign rfl) ?_
    refine XO.pu (Pu.assign rfl) ?_
    refine XO.nil ?_
    refine X.sub (p' := [(7, _), (6, _), (5, _), (4, _), (0, _), (1, _)]) ⟨rfl, rfl, rfl, rfl, rfl, rfl, trivial⟩ ?_
    refine X.seq ?_
    refine X.region ?_
    refine XO.pu (Pu.move rfl) ?_
    refine XO.pu (Pu.move rfl) ?_
    refine XO.cR Try.call42 (channelList_ok clA clA) ?_
    refine XO.pu (Pu.move rfl) ?_
    refine XO.cR Try.call41 (findH0_rng (p := p) clA (by omega) hr) ?_
    refine XO.pu (Pu.move rfl) ?_
    refine XO.pu (Pu.extract rfl rfl) ?_
    refine XO.pu (Pu.extract rfl rfl) ?_
    refine XO.pu (Pu.assign rfl) ?_
    refine XO.pu (Pu.assign rfl) ?_
    refine XO.nil ?_
    refine X.sub (p' := [(9, _), (8, _), (7, _), (6, _), (5, _), (4, _)]) ⟨rfl, rfl, rfl, rfl, rfl, rfl, trivial⟩ ?_
    refine X.seq ?_
    refine X.seq ?_
    refine X.region ?_
    refine XO.pu (Pu.move rfl) ?_
    refine XO.pu (Pu.neq rfl rfl) ?_
    refine XO.nil ?_
    refine X.sub (p' := [(22, _), (9, _), (8, _), (7, _), (6, _), (5, _), (4, _)]) ⟨rfl, rfl, rfl, rfl, rfl, rfl, rfl, trivial⟩ ?_
    refine X.know 22 (.bool true) rfl (congrArg Value.bool (rfl)) ?_
    refine X.condT rfl ?_
    refine X.seq ?_
    refine X.region ?_
    refine XO.pu (Pu.move rfl) ?_
    refine XO.pu (Pu.assign rfl) ?_
    refine XO.pu (Pu.assign rfl) ?_
    refine XO.pu (Pu.assign rfl) ?_
    refine XO.pu (Pu.assign rfl) ?_
    refine XO.nil ?_
    refine X.sub (p' := [(7, _), (6, _), (5, _), (4, _), (8, _)]) ⟨rfl, rfl, rfl, rfl, rfl, trivial⟩ ?_
    rw [show recvS s k = (s, 0, -1, 4) from if_neg hr']
    refine X.retL [pto p (.cells [.bool true, .slice σ.ao σ.owners.length σ.co, .slice σ.ac σ.conds.length σ.cc, .slice σ.ah σ.chans.length σ.ch].toArray 74 (0, 0)), lsH I64 3 σ.ao σ.co σ.owners, rsH cqs 1 89 σ.ac σ.cc σ.conds, stars (σ.conds.map (lsV 3)), rsH chs 3 78 σ.ah σ.ch σ.chans, stars (σ.chans.map fun x => lsV 2 x.q)] Try.func19 (resC Try.results19 (ResOk.tmp rfl (ResOk.tmp rfl (ResOk.tmp rfl (ResOk.tmp rfl ResOk.nil))))) ⟨_, rfl, σ, hR, rfl, rfl⟩
theorem Send_ok (hR : Real σ s) {N : Nat} (hs : s.ok N) (hN : N ≤ 1000) : CallF Try.prog G 18 [.pointer (some ⟨p, 0, none⟩), .int .i64 k, .int .i64 t] (syL p σ) (Ret fun v q' => ∃ σ', Real σ' (sendS s k t).1 ∧ v = .tuple [.int .i64 (max (sendS s k t).2.1 0), .bool (decide (0 ≤ (sendS s k t).2.1)), .int .i64 (sendS s k t).2.2].toArray ∧ q' = syL p σ') := by
  refine CallF.of Try.func18 Try.ntmps18 rfl (fun F cs => ?_)
  refine X.sub (p' := [(0, _), (1, _), (2, _)]) ⟨rfl, rfl, rfl, trivial⟩ ?_
  have ho := hR.lo; have hc := hR.lc; have hh := hR.lh; have hno := hs.no; have hnc := hs.nc; have hnh := hs.nh
  change X _ _ _ _ _ _ _ _ (pto p (.cells [.bool true, .slice σ.ao σ.owners.length σ.co, .slice σ.ac σ.conds.length σ.cc, .slice σ.ah σ.chans.length σ.ch].toArray 74 (0, 0)) :: lsH I64 3 σ.ao σ.co σ.owners :: rsH cqs 1 89 σ.ac σ.cc σ.conds :: stars (σ.conds.map (lsV 3)) :: rsH chs 3 78 σ.ah σ.ch σ.chans :: stars (σ.chans.map fun x => lsV 2 x.q) :: F)
  rcases Decidable.em (inR k σ.chans.length) with hr | hr
  · skip
    have hr' : inR k s.chans.length := by rw [← hh]; exact hr
    obtain ⟨i, rfl⟩ := Int.eq_ofNat_of_zero_le hr.1; have hi : i < σ.chans.length := (by have := hr.2; omega)
    rcases Decidable.em (val t) with hg | hg
    · skip
      refine X.rsadr (l := σ.chans) (by omega) (fun g e_ => ?_)
      rw [e_]
      have hlen := hs.lenH hR hi hN
      obtain ⟨r1, r2, r3⟩ := row_items (hR.hl hi)
      have hch := hs.h _ (getD_mem (d := ch0) (show i < s.chans.length by rw [← hh]; exact hi)); obtain ⟨⟨hr1, hr2⟩, htk, hal, hit, hva⟩ := hch
      have hdl : (s.chans.getD i ch0).all.drop (s.chans.getD i ch0).taken = σ.chans[i].q.l := r1; have hdl2 := congrArg List.length hdl; rw [List.length_drop] at hdl2; have hit2 : (σ.chans[i].q.l.length : Int) ≤ σ.chans[i].room := by rw [← r1, ← r2]; exact hit
      refine X.seq ?_
      refine X.region ?_
      refine XO.pu (Pu.assign rfl) ?_
      refine XO.pu (Pu.assign rfl) ?_
      refine XO.pu (Pu.assign rfl) ?_
      refine XO.nil ?_
      refine X.sub (p' := [(8, _), (7, _), (6, _), (0, _), (1, _), (2, _)]) ⟨rfl, rfl, rfl, rfl, rfl, rfl, trivial⟩ ?_
      refine X.seq ?_
      refine X.region ?_
      refine XO.pu (Pu.move rfl) ?_
      refine XO.pu (Pu.move rfl) ?_
      refine XO.cR Try.call42 (channelList_ok clA clA) ?_
      refine XO.pu (Pu.move rfl) ?_
      refine XO.pu (Pu.move rfl) ?_
      refine XO.cR Try.call41 (findH2_ok (p := p) clA (by omega) hi hg) ?_
      refine XO.pu (Pu.move rfl) ?_
      refine XO.pu (Pu.extract rfl rfl) ?_
      refine XO.pu (Pu.extract rfl rfl) ?_
      refine XO.pu (Pu.assign rfl) ?_
      refine XO.pu (Pu.assign rfl) ?_
      refine XO.nil ?_
      refine X.sub (p' := [(10, _), (9, _), (8, _), (7, _), (6, _), (2, _)]) ⟨rfl, rfl, rfl, rfl, rfl, rfl, trivial⟩ ?_
      refine X.seq ?_
      refine X.seq ?_
      refine X.draw [] Try.mixed (by kernel_rfl) (by kernel_rfl) rfl ?_
      refine XD.pu 0 rfl (Pu.move rfl) ?_
      refine XD.pu 1 rfl (Pu.neq rfl rfl) ?_
      refine XD.pu 2 rfl (Pu.move rfl) ?_
      refine XD.know 22 (.bool false) rfl (congrArg Value.bool (rfl)) ?_
      have hsh : Sees (pto p (.cells [.bool true, .slice σ.ao σ.owners.length σ.co, .slice σ.ac σ.conds.length σ.cc, .slice (some ⟨g, 0, none⟩) σ.chans.length σ.ch].toArray 74 (0, 0)) :: lsH I64 3 σ.ao σ.co σ.owners :: rsH cqs 1 89 σ.ac σ.cc σ.conds :: stars (σ.conds.map (lsV 3)) :: rsH chs 3 78 (some ⟨g, 0, none⟩) σ.ch σ.chans :: stars (σ.chans.map fun x => lsV 2 x.q) :: F) (some ⟨g, 0, none⟩) (σ.chans.flatMap chs) := (Sees.rsH _).le leA
      refine XD.pu 3 rfl (Pu.move rfl) ?_
      refine XD.pu 4 rfl (Pu.nilCheck rfl) ?_
      refine XD.pu 5 rfl (Pu.fieldAddr 76 0 0 rfl Try.underlying78 rfl Try.sizeOf76) ?_
      refine XD.pu 6 rfl (Pu.fieldAddr 28 0 0 rfl Try.underlying76 rfl Try.sizeOf28) ?_
      refine XD.ld 7 Try.isAgg28 ?_ (hc := (by first | exact (Cl.at (k := 1) hsh (fun _ => rfl) (List.getElem?_eq_getElem hi) (by omega) rfl rfl) | exact (Cl.at (k := 0) hsh (fun _ => rfl) (List.getElem?_eq_getElem hi) (by omega) rfl rfl)))
      refine XD.pu 8 rfl (Pu.len rfl Try.underlying28) ?_
      refine XD.pu 9 rfl (Pu.move rfl) ?_
      refine XD.pu 10 rfl (Pu.nilCheck rfl) ?_
      refine XD.pu 11 rfl (Pu.fieldAddr 3 1 0 rfl Try.underlying78 rfl Try.sizeOf3) ?_
      refine XD.ld 12 Try.isAgg3 ?_ (hc := (by first | exact (Cl.at (k := 1) hsh (fun _ => rfl) (List.getElem?_eq_getElem hi) (by omega) rfl rfl) | exact (Cl.at (k := 0) hsh (fun _ => rfl) (List.getElem?_eq_getElem hi) (by omega) rfl rfl)))
      refine XD.pu 13 rfl (Pu.eql rfl rfl) ?_
      refine XD.pu 14 rfl (Pu.pickF rfl rfl) ?_
      refine XD.nil ?_
      refine X.sub (p' := [(34, _), (10, _), (9, _), (8, _), (7, _), (6, _), (2, _)]) ⟨rfl, rfl, rfl, rfl, rfl, rfl, rfl, trivial⟩ ?_
      rcases Decidable.em ((σ.chans[i].q.l.length : Int) < σ.chans[i].room) with hx | hx
      · skip
        refine X.know 34 (.bool false) rfl (congrArg Value.bool (by simp; omega)) ?_
        refine X.le (Le.focH hi) ?_
        refine X.condF rfl ?_
        refine X.skip ?_
        refine X.seq ?_
        refine X.region ?_
        refine XO.pu (Pu.move rfl) ?_
        refine XO.pu (Pu.nilCheck rfl) ?_
        refine XO.pu (Pu.fieldAddr 76 0 0 rfl Try.underlying78 rfl Try.sizeOf76) ?_
        refine XO.pu (Pu.move rfl) ?_
        refine XO.know 38 (.pointer (some ⟨g, i * 3, none⟩)) rfl (by simp) ?_
        refine XO.cF Try.call43 (put64_ok (t := t) (f := chs) (sz := 3) (ty := 78) (l := σ.chans) (i := i) (m := σ.chans[i].q.l) (a := σ.chans[i].q.a) (c := σ.chans[i].q.c) (u := (fun a c => ⟨⟨a, c, σ.chans[i].q.l ++ [t]⟩, σ.chans[i].room, σ.chans[i].sent⟩)) hi (fun _ => rfl) rfl rfl (by omega) (fun _ _ => rfl)) ?_
        rintro _ _ ⟨a2, c2, rfl⟩ _ e_; simp only [ca, na] at e_; subst e_
        have hi2 : i < (σ.chans.set i (⟨⟨a2, c2, σ.chans[i].q.l ++ [t]⟩, σ.chans[i].room, σ.chans[i].sent⟩ : ChC)).length := by rw [List.length_set]; exact hi
        have hsg : (σ.chans.set i (⟨⟨a2, c2, σ.chans[i].q.l ++ [t]⟩, σ.chans[i].room, σ.chans[i].sent⟩ : ChC))[i]'hi2 = (⟨⟨a2, c2, σ.chans[i].q.l ++ [t]⟩, σ.chans[i].room, σ.chans[i].sent⟩ : ChC) := List.getElem_set_self _
        have hs2 : Sees (rsH chs 3 78 (some ⟨g, 0, none⟩) σ.ch (σ.chans.set i (⟨⟨a2, c2, σ.chans[i].q.l ++ [t]⟩, σ.chans[i].room, σ.chans[i].sent⟩ : ChC)) :: F) (some ⟨g, 0, none⟩) ((σ.chans.set i (⟨⟨a2, c2, σ.chans[i].q.l ++ [t]⟩, σ.chans[i].room, σ.chans[i].sent⟩ : ChC)).flatMap chs) := Sees.rsH _
        have hs3 : ∀ q, Le q (rsH chs 3 78 (some ⟨g, 0, none⟩) σ.ch (σ.chans.set i (⟨⟨a2, c2, σ.chans[i].q.l ++ [t]⟩, σ.chans[i].room, σ.chans[i].sent⟩ : ChC)) :: F) → Sees q (some ⟨g, 0, none⟩) ((σ.chans.set i (⟨⟨a2, c2, σ.chans[i].q.l ++ [t]⟩, σ.chans[i].room, σ.chans[i].sent⟩ : ChC)).flatMap chs) := fun q h => hs2.le h
        refine XO.nil ?_
        refine X.sub (p' := [(9, _), (8, _), (7, _), (6, _)]) ⟨rfl, rfl, rfl, rfl, trivial⟩ ?_
        refine X.seq ?_
        refine X.region ?_
        refine XO.pu (Pu.move rfl) ?_
        refine XO.pu (Pu.nilCheck rfl) ?_
        refine XO.pu (Pu.fieldAddr 3 2 0 rfl Try.underlying78 rfl Try.sizeOf3) ?_
        refine XO.ld Try.isAgg3 ?_ (hc := (show Cl _ _ (.int .i64 σ.chans[i].sent) from Cl.at (k := 2) (y := (⟨⟨a2, c2, σ.chans[i].q.l ++ [t]⟩, σ.chans[i].room, σ.chans[i].sent⟩ : ChC)) (hs3 _ leA) (fun _ => rfl) (by rw [List.getElem?_eq_getElem hi2, hsg]) (by omega) rfl rfl))
        refine XO.pu (Pu.add rfl rfl (by omega) (by omega)) ?_
        refine XO.pu (Pu.nilCheck rfl) ?_
        refine XO.pu (Pu.fieldAddr 3 2 0 rfl Try.underlying78 rfl Try.sizeOf3) ?_
        refine XO.ef0 (Ef.setR (g := g) (f := chs) (sz := 3) (l := σ.chans.set i (⟨⟨a2, c2, σ.chans[i].q.l ++ [t]⟩, σ.chans[i].room, σ.chans[i].sent⟩ : ChC)) (u := (⟨⟨a2, c2, σ.chans[i].q.l ++ [t]⟩, σ.chans[i].room, σ.chans[i].sent + 1⟩ : ChC)) (n := i) (k := 2) (j := (i : Int)) (by simp [evp, lkp]) rfl Try.sizeOf3 (fun _ => rfl) rfl hi2 rfl (by rw [hsg]; rfl) rfl rfl fndA) ?_
        rintro _ _ ⟨rfl, rfl⟩
        rw [List.set_set]
        have hs4 : ∀ q, Le q (rsH chs 3 78 (some ⟨g, 0, none⟩) σ.ch (σ.chans.set i (⟨⟨a2, c2, σ.chans[i].q.l ++ [t]⟩, σ.chans[i].room, σ.chans[i].sent + 1⟩ : ChC)) :: F) → Sees q (some ⟨g, 0, none⟩) ((σ.chans.set i (⟨⟨a2, c2, σ.chans[i].q.l ++ [t]⟩, σ.chans[i].room, σ.chans[i].sent + 1⟩ : ChC)).flatMap chs) := fun q h => (Sees.rsH F).le h
        refine XO.nil ?_
        refine X.sub (p' := [(9, _), (8, _), (7, _), (6, _)]) ⟨rfl, rfl, rfl, rfl, trivial⟩ ?_
        refine X.seq ?_
        refine X.region ?_
        refine XO.pu (Pu.move rfl) ?_
        refine XO.pu (Pu.nilCheck rfl) ?_
        refine XO.pu (Pu.fieldAddr 3 2 0 rfl Try.underlying78 rfl Try.sizeOf3) ?_
        refine XO.ld Try.isAgg3 ?_ (hc := (show Cl _ _ (.int .i64 (σ.chans[i].sent + 1)) from Cl.at (k := 2) (y := (⟨⟨a2, c2, σ.chans[i].q.l ++ [t]⟩, σ.chans[i].room, σ.chans[i].sent + 1⟩ : ChC)) (hs4 _ leA) (fun _ => rfl) (by rw [List.getElem?_set_self hi]) (by omega) rfl rfl))
        refine XO.pu (Pu.sub rfl rfl (by omega) (by omega)) ?_
        refine XO.pu (Pu.assign rfl) ?_
        refine XO.pu (Pu.assign rfl) ?_
        refine XO.pu (Pu.assign rfl) ?_
        refine XO.nil ?_
        refine X.sub (p' := [(8, _), (7, _), (6, _)]) ⟨rfl, rfl, rfl, trivial⟩ ?_
        refine X.le (Le.unfH hi (⟨⟨a2, c2, σ.chans[i].q.l ++ [t]⟩, σ.chans[i].room, σ.chans[i].sent + 1⟩ : ChC)) ?_
        rw [show sendS s (i : Int) t = ({ s with chans := s.chans.set i { s.chans.getD i ch0 with all := (s.chans.getD i ch0).all ++ [t] } }, ((s.chans.getD i ch0).all.length : Int), 0) from ((if_pos hr').trans ((if_pos hg).trans ((if_pos (by rw [show (s.chans.getD (Int.toNat ((i : Nat) : Int)) ch0).items = _ from r1, show (s.chans.getD (Int.toNat ((i : Nat) : Int)) ch0).room = _ from r2]; exact hx)).trans rfl)))]
        refine X.retL [pto p (.cells [.bool true, .slice σ.ao σ.owners.length σ.co, .slice σ.ac σ.conds.length σ.cc, .slice (some ⟨g, 0, none⟩) σ.chans.length σ.ch].toArray 74 (0, 0)), lsH I64 3 σ.ao σ.co σ.owners, rsH cqs 1 89 σ.ac σ.cc σ.conds, stars (σ.conds.map (lsV 3)), rsH chs 3 78 (some ⟨g, 0, none⟩) σ.ch (σ.chans.set i (⟨⟨a2, c2, σ.chans[i].q.l ++ [t]⟩, σ.chans[i].room, σ.chans[i].sent + 1⟩ : ChC)), stars ((σ.chans.set i (⟨⟨a2, c2, σ.chans[i].q.l ++ [t]⟩, σ.chans[i].room, σ.chans[i].sent + 1⟩ : ChC)).map fun x => lsV 2 x.q)] Try.func18 (res3 Try.results18 rfl rfl rfl) ⟨_, rfl, { σ with ah := (some ⟨g, 0, none⟩), chans := σ.chans.set i (⟨⟨a2, c2, σ.chans[i].q.l ++ [t]⟩, σ.chans[i].room, σ.chans[i].sent + 1⟩ : ChC) }, hR.setH i (⟨⟨a2, c2, σ.chans[i].q.l ++ [t]⟩, σ.chans[i].room, σ.chans[i].sent + 1⟩ : ChC) _ (by unfold Ch.row ChC.row Ch.items; dsimp only; rw [← r2, ← r3, ← hdl, List.drop_append_of_le_length htk, List.length_append]; rfl) _, by dsimp only; rw [Int.max_eq_left (by omega), decide_eq_true (by omega), show σ.chans[i].sent + 1 - 1 = ((s.chans.getD i ch0).all.length : Int) by omega], by unfold syL; simp⟩
      · skip
        refine X.know 34 (.bool true) rfl (congrArg Value.bool (by simp; omega)) ?_
        refine X.condT rfl ?_
        refine X.seq ?_
        refine X.region ?_
        refine XO.pu (Pu.move rfl) ?_
        refine XO.pu (Pu.assign rfl) ?_
        refine XO.pu (Pu.assign rfl) ?_
        refine XO.pu (Pu.assign rfl) ?_
        refine XO.nil ?_
        refine X.sub (p' := [(8, _), (7, _), (6, _), (9, _), (2, _)]) ⟨rfl, rfl, rfl, rfl, rfl, trivial⟩ ?_
        rw [show sendS s (i : Int) t = (s, -1, 0) from ((if_pos hr').trans ((if_pos hg).trans (if_neg (by rw [show (s.chans.getD (Int.toNat ((i : Nat) : Int)) ch0).items = _ from r1, show (s.chans.getD (Int.toNat ((i : Nat) : Int)) ch0).room = _ from r2]; exact hx))))]
        refine X.retL [pto p (.cells [.bool true, .slice σ.ao σ.owners.length σ.co, .slice σ.ac σ.conds.length σ.cc, .slice (some ⟨g, 0, none⟩) σ.chans.length σ.ch].toArray 74 (0, 0)), lsH I64 3 σ.ao σ.co σ.owners, rsH cqs 1 89 σ.ac σ.cc σ.conds, stars (σ.conds.map (lsV 3)), rsH chs 3 78 (some ⟨g, 0, none⟩) σ.ch σ.chans, stars (σ.chans.map fun x => lsV 2 x.q)] Try.func18 (res3 Try.results18 rfl rfl rfl) ⟨_, rfl, σ, hR, rfl, by unfold syL; rw [e_]⟩
    · skip
      refine X.seq ?_
      refine X.region ?_
      refine XO.pu (Pu.assign rfl) ?_
      refine XO.pu (Pu.assign rfl) ?_
      refine XO.pu (Pu.assign rfl) ?_
      refine XO.nil ?_
      refine X.sub (p' := [(8, _), (7, _), (6, _), (0, _), (1, _), (2, _)]) ⟨rfl, rfl, rfl, rfl, rfl, rfl, trivial⟩ ?_
      refine X.seq ?_
      refine X.region ?_
      refine XO.pu (Pu.move rfl) ?_
      refine XO.pu (Pu.move rfl) ?_
      refine XO.cR Try.call42 (channelList_ok clA clA) ?_
      refine XO.pu (Pu.move rfl) ?_
      refine XO.pu (Pu.move rfl) ?_
      refine XO.cR Try.call41 (findH2_arg (p := p) clA (by omega) hi hg) ?_
      refine XO.pu (Pu.move rfl) ?_
      refine XO.pu (Pu.extract rfl rfl) ?_
      refine XO.pu (Pu.extract rfl rfl) ?_
      refine XO.pu (Pu.assign rfl) ?_
      refine XO.pu (Pu.assign rfl) ?_
      refine XO.nil ?_
      refine X.sub (p' := [(10, _), (9, _), (8, _), (7, _), (6, _), (2, _)]) ⟨rfl, rfl, rfl, rfl, rfl, rfl, trivial⟩ ?_
      refine X.seq ?_
      refine X.seq ?_
      refine X.draw [] Try.mixed (by kernel_rfl) (by kernel_rfl) rfl ?_
      refine XD.pu 0 rfl (Pu.move rfl) ?_
      refine XD.pu 1 rfl (Pu.neq rfl rfl) ?_
      refine XD.pu 2 rfl (Pu.move rfl) ?_
      refine XD.know 22 (.bool true) rfl (congrArg Value.bool (rfl)) ?_
      refine XD.pass 3 rfl ?_
      refine XD.pass 4 rfl ?_
      refine XD.pass 5 rfl ?_
      refine XD.pass 6 rfl ?_
      refine XD.pass 7 rfl ?_
      refine XD.pass 8 rfl ?_
      refine XD.pass 9 rfl ?_
      refine XD.pass 10 rfl ?_
      refine XD.pass 11 rfl ?_
      refine XD.pass 12 rfl ?_
      refine XD.pass 13 rfl ?_
      refine XD.pu 14 rfl (Pu.pickT rfl rfl) ?_
      refine XD.nil ?_
      refine X.sub (p' := [(34, _), (10, _), (9, _), (8, _), (7, _), (6, _), (2, _)]) ⟨rfl, rfl, rfl, rfl, rfl, rfl, rfl, trivial⟩ ?_
      refine X.condT rfl ?_
      refine X.seq ?_
      refine X.region ?_
      refine XO.pu (Pu.move rfl) ?_
      refine XO.pu (Pu.assign rfl) ?_
      refine XO.pu (Pu.assign rfl) ?_
      refine XO.pu (Pu.assign rfl) ?_
      refine XO.nil ?_
      refine X.sub (p' := [(8, _), (7, _), (6, _), (9, _), (2, _)]) ⟨rfl, rfl, rfl, rfl, rfl, trivial⟩ ?_
      rw [show sendS s _ t = (s, -1, 2) from (if_pos hr').trans (if_neg hg)]
      refine X.retL [pto p (.cells [.bool true, .slice σ.ao σ.owners.length σ.co, .slice σ.ac σ.conds.length σ.cc, .slice σ.ah σ.chans.length σ.ch].toArray 74 (0, 0)), lsH I64 3 σ.ao σ.co σ.owners, rsH cqs 1 89 σ.ac σ.cc σ.conds, stars (σ.conds.map (lsV 3)), rsH chs 3 78 σ.ah σ.ch σ.chans, stars (σ.chans.map fun x => lsV 2 x.q)] Try.func18 (res3 Try.results18 rfl rfl rfl) ⟨_, rfl, σ, hR, rfl, rfl⟩
  · skip
    have hr' : ¬ inR k s.chans.length := by rw [← hh]; exact hr
    refine X.seq ?_
    refine X.region ?_
    refine XO.pu (Pu.assign rfl) ?_
    refine XO.pu (Pu.assign rfl) ?_
    refine XO.pu (Pu.assign rfl) ?_
    refine XO.nil ?_
    refine X.sub (p' := [(8, _), (7, _), (6, _), (0, _), (1, _), (2, _)]) ⟨rfl, rfl, rfl, rfl, rfl, rfl, trivial⟩ ?_
    refine X.seq ?_
    refine X.region ?_
    refine XO.pu (Pu.move rfl) ?_
    refine XO.pu (Pu.move rfl) ?_
    refine XO.cR Try.call42 (channelList_ok clA clA) ?_
    refine XO.pu (Pu.move rfl) ?_
    refine XO.pu (Pu.move rfl) ?_
    refine XO.cR Try.call41 (findH2_rng (p := p) clA (by omega) hr) ?_
    refine XO.pu (Pu.move rfl) ?_
    refine XO.pu (Pu.extract rfl rfl) ?_
    refine XO.pu (Pu.extract rfl rfl) ?_
    refine XO.pu (Pu.assign rfl) ?_
    refine XO.pu (Pu.assign rfl) ?_
    refine XO.nil ?_
    refine X.sub (p' := [(10, _), (9, _), (8, _), (7, _), (6, _), (2, _)]) ⟨rfl, rfl, rfl, rfl, rfl, rfl, trivial⟩ ?_
    refine X.seq ?_
    refine X.seq ?_
    refine X.draw [] Try.mixed (by kernel_rfl) (by kernel_rfl) rfl ?_
    refine XD.pu 0 rfl (Pu.move rfl) ?_
    refine XD.pu 1 rfl (Pu.neq rfl rfl) ?_
    refine XD.pu 2 rfl (Pu.move rfl) ?_
    refine XD.know 22 (.bool true) rfl (congrArg Value.bool (rfl)) ?_
    refine XD.pass 3 rfl ?_
    refine XD.pass 4 rfl ?_
    refine XD.pass 5 rfl ?_
    refine XD.pass 6 rfl ?_
    refine XD.pass 7 rfl ?_
    refine XD.pass 8 rfl ?_
    refine XD.pass 9 rfl ?_
    refine XD.pass 10 rfl ?_
    refine XD.pass 11 rfl ?_
    refine XD.pass 12 rfl ?_
    refine XD.pass 13 rfl ?_
    refine XD.pu 14 rfl (Pu.pickT rfl rfl) ?_
    refine XD.nil ?_
    refine X.sub (p' := [(34, _), (10, _), (9, _), (8, _), (7, _), (6, _), (2, _)]) ⟨rfl, rfl, rfl, rfl, rfl, rfl, rfl, trivial⟩ ?_
    refine X.condT rfl ?_
    refine X.seq ?_
    refine X.region ?_
    refine XO.pu (Pu.move rfl) ?_
    refine XO.pu (Pu.assign rfl) ?_
    refine XO.pu (Pu.assign rfl) ?_
    refine XO.pu (Pu.assign rfl) ?_
    refine XO.nil ?_
    refine X.sub (p' := [(8, _), (7, _), (6, _), (9, _), (2, _)]) ⟨rfl, rfl, rfl, rfl, rfl, trivial⟩ ?_
    rw [show sendS s _ t = (s, -1, 4) from if_neg hr']
    refine X.retL [pto p (.cells [.bool true, .slice σ.ao σ.owners.length σ.co, .slice σ.ac σ.conds.length σ.cc, .slice σ.ah σ.chans.length σ.ch].toArray 74 (0, 0)), lsH I64 3 σ.ao σ.co σ.owners, rsH cqs 1 89 σ.ac σ.cc σ.conds, stars (σ.conds.map (lsV 3)), rsH chs 3 78 σ.ah σ.ch σ.chans, stars (σ.chans.map fun x => lsV 2 x.q)] Try.func18 (res3 Try.results18 rfl rfl rfl) ⟨_, rfl, σ, hR, rfl, rfl⟩
end
end Go.Proofs.Ytlgnnhpbomfdiaa

