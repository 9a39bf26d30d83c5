/- What functions of package sync, of its references and of its laws do: contracts of calls, proved by walking their code. -/
import Derived.Test.YtlgnnhpbomfdiaaC
import Derived.KernelRfl
set_option maxRecDepth 100000
set_option linter.unusedVariables false
set_option linter.unusedSimpArgs false
namespace Go.Proofs.Ytlgnnhpbomfdiaa
open Go Go.RowKit Wx

section
variable {G : World} {q : List HP} {a b : Option Addr} {c d g p i n : Nat} {σ : SyC} {s : Sy} {k t v m at_ number : Int}
theorem Owner_ok (hR : Real σ s) {N : Nat} (hs : s.ok N) (hN : N ≤ 1000) : CallF Try.prog G 20 [.pointer (some ⟨p, 0, none⟩), .int .i64 m] (syL p σ) (Ret fun v q' => v = .tuple [.int .i64 (ownerS s m).1, .int .i64 (ownerS s m).2].toArray ∧ q' = syL p σ) := by
  refine CallF.of Try.func20 Try.ntmps20 rfl (fun F cs => ?_)
  refine X.sub (p' := [(0, _), (1, _)]) ⟨rfl, rfl, trivial⟩ ?_
  have ho := hR.lo; have hc := hR.lc; have hh := hR.lh; have hno := hs.no; have hnc := hs.nc; have hnh := hs.nh
  change X _ _ _ _ _ _ _ _ (pto p (.cells [.bool true, .slice σ.ao σ.owners.length σ.co, .slice σ.ac σ.conds.length σ.cc, .slice σ.ah σ.chans.length σ.ch].toArray 74 (0, 0)) :: lsH I64 3 σ.ao σ.co σ.owners :: rsH cqs 1 89 σ.ac σ.cc σ.conds :: stars (σ.conds.map (lsV 3)) :: rsH chs 3 78 σ.ah σ.ch σ.chans :: stars (σ.chans.map fun x => lsV 2 x.q) :: F)
  rcases Decidable.em (inR m σ.owners.length) with hr | hr
  · skip
    have hr' : inR m s.owners.length := by rw [← ho]; exact hr
    obtain ⟨i, rfl⟩ := Int.eq_ofNat_of_zero_le hr.1; have hi : i < σ.owners.length := (by have := hr.2; omega)
    refine X.lsadr (l := σ.owners) (by omega) (fun g e_ => ?_)
    rw [e_]
    refine X.seq ?_
    refine X.region ?_
    refine XO.pu (Pu.assign rfl) ?_
    refine XO.pu (Pu.assign rfl) ?_
    refine XO.nil ?_
    refine X.sub (p' := [(5, _), (4, _), (0, _), (1, _)]) ⟨rfl, rfl, rfl, rfl, trivial⟩ ?_
    refine X.seq ?_
    refine X.region ?_
    refine XO.pu (Pu.move rfl) ?_
    refine XO.pu (Pu.move rfl) ?_
    refine XO.cR Try.call35 (mutexList_ok clA clA) ?_
    refine XO.pu (Pu.move rfl) ?_
    refine XO.cR Try.call34 (findI0_ok (p := p) clA (by omega) hi trivial) ?_
    refine XO.pu (Pu.move rfl) ?_
    refine XO.pu (Pu.extract rfl rfl) ?_
    refine XO.pu (Pu.extract rfl rfl) ?_
    refine XO.pu (Pu.assign rfl) ?_
    refine XO.pu (Pu.assign rfl) ?_
    refine XO.nil ?_
    refine X.sub (p' := [(7, _), (6, _), (5, _), (4, _)]) ⟨rfl, rfl, rfl, rfl, trivial⟩ ?_
    refine X.seq ?_
    refine X.seq ?_
    refine X.region ?_
    refine XO.pu (Pu.move rfl) ?_
    refine XO.pu (Pu.neq rfl rfl) ?_
    refine XO.nil ?_
    refine X.sub (p' := [(17, _), (7, _), (6, _), (5, _), (4, _)]) ⟨rfl, rfl, rfl, rfl, rfl, trivial⟩ ?_
    refine X.know 17 (.bool false) rfl (congrArg Value.bool (rfl)) ?_
    have hso : Sees (pto p (.cells [.bool true, .slice (some ⟨g, 0, none⟩) σ.owners.length σ.co, .slice σ.ac σ.conds.length σ.cc, .slice σ.ah σ.chans.length σ.ch].toArray 74 (0, 0)) :: lsH I64 3 (some ⟨g, 0, none⟩) σ.co σ.owners :: rsH cqs 1 89 σ.ac σ.cc σ.conds :: stars (σ.conds.map (lsV 3)) :: rsH chs 3 78 σ.ah σ.ch σ.chans :: stars (σ.chans.map fun x => lsV 2 x.q) :: F) (some ⟨g, 0, none⟩) (σ.owners.map I64) := (Sees.lsH _).le leA
    refine X.condF rfl ?_
    refine X.skip ?_
    refine X.seq ?_
    refine X.region ?_
    refine XO.pu (Pu.move rfl) ?_
    refine XO.pu (Pu.nilCheck rfl) ?_
    refine XO.ld Try.isAgg3 ?_ (hc := (Cl.at1 hso hi))
    refine XO.pu (Pu.assign rfl) ?_
    refine XO.pu (Pu.assign rfl) ?_
    refine XO.nil ?_
    refine X.sub (p' := [(5, _), (4, _)]) ⟨rfl, rfl, trivial⟩ ?_
    rw [show ownerS s (i : Int) = (σ.owners[i], 0) from (if_pos hr').trans (by rw [← hR.ol hi]; rfl)]
    refine X.retL [pto p (.cells [.bool true, .slice (some ⟨g, 0, none⟩) σ.owners.length σ.co, .slice σ.ac σ.conds.length σ.cc, .slice σ.ah σ.chans.length σ.ch].toArray 74 (0, 0)), lsH I64 3 (some ⟨g, 0, none⟩) σ.co σ.owners, rsH cqs 1 89 σ.ac σ.cc σ.conds, stars (σ.conds.map (lsV 3)), rsH chs 3 78 σ.ah σ.ch σ.chans, stars (σ.chans.map fun x => lsV 2 x.q)] Try.func20 (res2 Try.results20 rfl rfl) ⟨_, rfl, rfl, by unfold syL; rw [e_]⟩
  · skip
    have hr' : ¬ inR m s.owners.length := by rw [← ho]; exact hr
    refine X.seq ?_
    refine X.region ?_
    refine XO.pu (Pu.assign rfl) ?_
    refine XO.pu (Pu.assign rfl) ?_
    refine XO.nil ?_
    refine X.sub (p' := [(5, _), (4, _), (0, _), (1, _)]) ⟨rfl, rfl, rfl, rfl, trivial⟩ ?_
    refine X.seq ?_
    refine X.region ?_
    refine XO.pu (Pu.move rfl) ?_
    refine XO.pu (Pu.move rfl) ?_
    refine XO.cR Try.call35 (mutexList_ok clA clA) ?_
    refine XO.pu (Pu.move rfl) ?_
    refine XO.cR Try.call34 (findI0_rng (p := p) clA (by omega) hr) ?_
    refine XO.pu (Pu.move rfl) ?_
    refine XO.pu (Pu.extract rfl rfl) ?_
    refine XO.pu (Pu.extract rfl rfl) ?_
    refine XO.pu (Pu.assign rfl) ?_
    refine XO.pu (Pu.assign rfl) ?_
    refine XO.nil ?_
    refine X.sub (p' := [(7, _), (6, _), (5, _), (4, _)]) ⟨rfl, rfl, rfl, rfl, trivial⟩ ?_
    refine X.seq ?_
    refine X.seq ?_
    refine X.region ?_
    refine XO.pu (Pu.move rfl) ?_
    refine XO.pu (Pu.neq rfl rfl) ?_
    refine XO.nil ?_
    refine X.sub (p' := [(17, _), (7, _), (6, _), (5, _), (4, _)]) ⟨rfl, rfl, rfl, rfl, rfl, trivial⟩ ?_
    refine X.know 17 (.bool true) rfl (congrArg Value.bool (rfl)) ?_
    refine X.condT rfl ?_
    refine X.seq ?_
    refine X.region ?_
    refine XO.pu (Pu.move rfl) ?_
    refine XO.pu (Pu.assign rfl) ?_
    refine XO.pu (Pu.assign rfl) ?_
    refine XO.nil ?_
    refine X.sub (p' := [(5, _), (4, _), (6, _)]) ⟨rfl, rfl, rfl, trivial⟩ ?_
    rw [show ownerS s m = (0, 4) from if_neg hr']
    refine X.retL [pto p (.cells [.bool true, .slice σ.ao σ.owners.length σ.co, .slice σ.ac σ.conds.length σ.cc, .slice σ.ah σ.chans.length σ.ch].toArray 74 (0, 0)), lsH I64 3 σ.ao σ.co σ.owners, rsH cqs 1 89 σ.ac σ.cc σ.conds, stars (σ.conds.map (lsV 3)), rsH chs 3 78 σ.ah σ.ch σ.chans, stars (σ.chans.map fun x => lsV 2 x.q)] Try.func20 (res2 Try.results20 rfl rfl) ⟨_, rfl, rfl, rfl⟩
theorem Lock_ok (hR : Real σ s) {N : Nat} (hs : s.ok N) (hN : N ≤ 1000) : CallF Try.prog G 13 [.pointer (some ⟨p, 0, none⟩), .int .i64 m, .int .i64 t] (syL p σ) (Ret fun v q' => ∃ σ', Real σ' (lockS s m t).1 ∧ v = .tuple [.bool (lockS s m t).2.1, .int .i64 (lockS s m t).2.2].toArray ∧ q' = syL p σ') := by
  refine CallF.of Try.func13 Try.ntmps13 rfl (fun F cs => ?_)
  refine X.sub (p' := [(0, _), (1, _), (2, _)]) ⟨rfl, rfl, rfl, trivial⟩ ?_
  have ho := hR.lo; have hc := hR.lc; have hh := hR.lh; have hno := hs.no; have hnc := hs.nc; have hnh := hs.nh
  change X _ _ _ _ _ _ _ _ (pto p (.cells [.bool true, .slice σ.ao σ.owners.length σ.co, .slice σ.ac σ.conds.length σ.cc, .slice σ.ah σ.chans.length σ.ch].toArray 74 (0, 0)) :: lsH I64 3 σ.ao σ.co σ.owners :: rsH cqs 1 89 σ.ac σ.cc σ.conds :: stars (σ.conds.map (lsV 3)) :: rsH chs 3 78 σ.ah σ.ch σ.chans :: stars (σ.chans.map fun x => lsV 2 x.q) :: F)
  rcases Decidable.em (inR m σ.owners.length) with hr | hr
  · skip
    have hr' : inR m s.owners.length := by rw [← ho]; exact hr
    obtain ⟨i, rfl⟩ := Int.eq_ofNat_of_zero_le hr.1; have hi : i < σ.owners.length := (by have := hr.2; omega)
    rcases Decidable.em (thr t) with hg | hg
    · skip
      refine X.lsadr (l := σ.owners) (by omega) (fun g e_ => ?_)
      rw [e_]
      refine X.seq ?_
      refine X.region ?_
      refine XO.pu (Pu.assign rfl) ?_
      refine XO.pu (Pu.assign rfl) ?_
      refine XO.nil ?_
      refine X.sub (p' := [(7, _), (6, _), (0, _), (1, _), (2, _)]) ⟨rfl, rfl, rfl, rfl, rfl, trivial⟩ ?_
      refine X.seq ?_
      refine X.region ?_
      refine XO.pu (Pu.move rfl) ?_
      refine XO.pu (Pu.move rfl) ?_
      refine XO.cR Try.call35 (mutexList_ok clA clA) ?_
      refine XO.pu (Pu.move rfl) ?_
      refine XO.pu (Pu.move rfl) ?_
      refine XO.cR Try.call34 (findI1_ok (p := p) clA (by omega) hi hg) ?_
      refine XO.pu (Pu.move rfl) ?_
      refine XO.pu (Pu.extract rfl rfl) ?_
      refine XO.pu (Pu.extract rfl rfl) ?_
      refine XO.pu (Pu.assign rfl) ?_
      refine XO.pu (Pu.assign rfl) ?_
      refine XO.nil ?_
      refine X.sub (p' := [(9, _), (8, _), (7, _), (6, _), (2, _)]) ⟨rfl, rfl, rfl, rfl, rfl, trivial⟩ ?_
      refine X.seq ?_
      refine X.seq ?_
      refine X.region ?_
      refine XO.pu (Pu.move rfl) ?_
      refine XO.pu (Pu.neq rfl rfl) ?_
      refine XO.pu (Pu.move rfl) ?_
      have hso : Sees (pto p (.cells [.bool true, .slice (some ⟨g, 0, none⟩) σ.owners.length σ.co, .slice σ.ac σ.conds.length σ.cc, .slice σ.ah σ.chans.length σ.ch].toArray 74 (0, 0)) :: lsH I64 3 (some ⟨g, 0, none⟩) σ.co σ.owners :: rsH cqs 1 89 σ.ac σ.cc σ.conds :: stars (σ.conds.map (lsV 3)) :: rsH chs 3 78 σ.ah σ.ch σ.chans :: stars (σ.chans.map fun x => lsV 2 x.q) :: F) (some ⟨g, 0, none⟩) (σ.owners.map I64) := (Sees.lsH _).le leA; have hcl := Cl.at1 hso hi; have hol := hR.ol hi
      refine XO.know 21 (.bool false) rfl (congrArg Value.bool (rfl)) ?_
      rcases Decidable.em (σ.owners[i] = -1) with hx | hx
      · skip
        refine XO.pu (Pu.move rfl) ?_
        refine XO.pu (Pu.nilCheck rfl) ?_
        refine XO.ld Try.isAgg3 ?_ (hc := hcl)
        refine XO.pu (Pu.neq rfl rfl) ?_
        refine XO.pu (Pu.pickF rfl rfl) ?_
        refine XO.nil ?_
        refine X.sub (p' := [(26, _), (9, _), (8, _), (7, _), (6, _), (2, _)]) ⟨rfl, rfl, rfl, rfl, rfl, rfl, trivial⟩ ?_
        refine X.know 26 (.bool false) rfl (congrArg Value.bool (by simp [hx])) ?_
        refine X.condF rfl ?_
        refine X.skip ?_
        refine X.seq ?_
        refine X.region ?_
        refine XO.pu (Pu.move rfl) ?_
        refine XO.pu (Pu.move rfl) ?_
        refine XO.pu (Pu.nilCheck rfl) ?_
        refine XO.ef0 (Ef.setL (f := I64) (l := σ.owners) (u := t) (n := i) (g := g) (j := (i : Int)) (by simp [evp, lkp]) rfl Try.sizeOf3 rfl hi rfl rfl fndA) ?_
        rintro _ _ ⟨rfl, rfl⟩
        refine XO.nil ?_
        refine X.sub (p' := [(7, _), (6, _)]) ⟨rfl, rfl, trivial⟩ ?_
        refine X.seq ?_
        refine X.region ?_
        refine XO.pu (Pu.assign rfl) ?_
        refine XO.pu (Pu.assign rfl) ?_
        refine XO.nil ?_
        refine X.sub (p' := [(7, _), (6, _)]) ⟨rfl, rfl, trivial⟩ ?_
        rw [show lockS s (i : Int) t = ({ s with owners := s.owners.set i t }, true, 0) from (if_pos hr').trans ((if_pos hg).trans (if_pos (hol.trans hx)))]
        refine X.retL [pto p (.cells [.bool true, .slice (some ⟨g, 0, none⟩) σ.owners.length σ.co, .slice σ.ac σ.conds.length σ.cc, .slice σ.ah σ.chans.length σ.ch].toArray 74 (0, 0)), lsH I64 3 (some ⟨g, 0, none⟩) σ.co (σ.owners.set i t), rsH cqs 1 89 σ.ac σ.cc σ.conds, stars (σ.conds.map (lsV 3)), rsH chs 3 78 σ.ah σ.ch σ.chans, stars (σ.chans.map fun x => lsV 2 x.q)] Try.func13 (res2 Try.results13 rfl rfl) ⟨_, rfl, { σ with ao := (some ⟨g, 0, none⟩), owners := σ.owners.set i (t) }, ⟨by show σ.owners.set i (t) = s.owners.set i (t); rw [hR.o], hR.c, hR.h⟩, rfl, by unfold syL; simp⟩
      · skip
        refine XO.pu (Pu.move rfl) ?_
        refine XO.pu (Pu.nilCheck rfl) ?_
        refine XO.ld Try.isAgg3 ?_ (hc := hcl)
        refine XO.pu (Pu.neq rfl rfl) ?_
        refine XO.pu (Pu.pickF rfl rfl) ?_
        refine XO.nil ?_
        refine X.sub (p' := [(26, _), (9, _), (8, _), (7, _), (6, _), (2, _)]) ⟨rfl, rfl, rfl, rfl, rfl, rfl, trivial⟩ ?_
        refine X.know 26 (.bool true) rfl (congrArg Value.bool (by simp [hx])) ?_
        refine X.condT rfl ?_
        refine X.seq ?_
        refine X.region ?_
        refine XO.pu (Pu.move rfl) ?_
        refine XO.pu (Pu.assign rfl) ?_
        refine XO.pu (Pu.assign rfl) ?_
        refine XO.nil ?_
        refine X.sub (p' := [(7, _), (6, _), (8, _), (2, _)]) ⟨rfl, rfl, rfl, rfl, trivial⟩ ?_
        rw [show lockS s (i : Int) t = (s, false, 0) from (if_pos hr').trans ((if_pos hg).trans (if_neg (fun e => hx (hol.symm.trans e))))]
        refine X.retL [pto p (.cells [.bool true, .slice (some ⟨g, 0, none⟩) σ.owners.length σ.co, .slice σ.ac σ.conds.length σ.cc, .slice σ.ah σ.chans.length σ.ch].toArray 74 (0, 0)), lsH I64 3 (some ⟨g, 0, none⟩) σ.co σ.owners, rsH cqs 1 89 σ.ac σ.cc σ.conds, stars (σ.conds.map (lsV 3)), rsH chs 3 78 σ.ah σ.ch σ.chans, stars (σ.chans.map fun x => lsV 2 x.q)] Try.func13 (res2 Try.results13 rfl rfl) ⟨_, rfl, σ, hR, rfl, by unfold syL; rw [e_]⟩
    · skip
      refine X.seq ?_
      refine X.region ?_
      refine XO.pu (Pu.assign rfl) ?_
      refine XO.pu (Pu.assign rfl) ?_
      refine XO.nil ?_
      refine X.sub (p' := [(7, _), (6, _), (0, _), (1, _), (2, _)]) ⟨rfl, rfl, rfl, rfl, rfl, trivial⟩ ?_
      refine X.seq ?_
      refine X.region ?_
      refine XO.pu (Pu.move rfl) ?_
      refine XO.pu (Pu.move rfl) ?_
      refine XO.cR Try.call35 (mutexList_ok clA clA) ?_
      refine XO.pu (Pu.move rfl) ?_
      refine XO.pu (Pu.move rfl) ?_
      refine XO.cR Try.call34 (findI1_arg (p := p) clA (by omega) hi hg) ?_
      refine XO.pu (Pu.move rfl) ?_
      refine XO.pu (Pu.extract rfl rfl) ?_
      refine XO.pu (Pu.extract rfl rfl) ?_
      refine XO.pu (Pu.assign rfl) ?_
      refine XO.pu (Pu.assign rfl) ?_
      refine XO.nil ?_
      refine X.sub (p' := [(9, _), (8, _), (7, _), (6, _), (2, _)]) ⟨rfl, rfl, rfl, rfl, rfl, trivial⟩ ?_
      refine X.seq ?_
      refine X.seq ?_
      refine X.region ?_
      refine XO.pu (Pu.move rfl) ?_
      refine XO.pu (Pu.neq rfl rfl) ?_
      refine XO.pu (Pu.move rfl) ?_
      refine XO.know 21 (.bool true) rfl (congrArg Value.bool (rfl)) ?_
      refine XO.pass rfl ?_
      refine XO.pass rfl ?_
      refine XO.pass rfl ?_
      refine XO.pass rfl ?_
      refine XO.pu (Pu.pickT rfl rfl) ?_
      refine XO.nil ?_
      refine X.sub (p' := [(26, _), (9, _), (8, _), (7, _), (6, _), (2, _)]) ⟨rfl, rfl, rfl, rfl, rfl, rfl, trivial⟩ ?_
      refine X.condT rfl ?_
      refine X.seq ?_
      refine X.region ?_
      refine XO.pu (Pu.move rfl) ?_
      refine XO.pu (Pu.assign rfl) ?_
      refine XO.pu (Pu.assign rfl) ?_
      refine XO.nil ?_
      refine X.sub (p' := [(7, _), (6, _), (8, _), (2, _)]) ⟨rfl, rfl, rfl, rfl, trivial⟩ ?_
      rw [show lockS s _ t = (s, false, 2) from (if_pos hr').trans (if_neg hg)]
      refine X.retL [pto p (.cells [.bool true, .slice σ.ao σ.owners.length σ.co, .slice σ.ac σ.conds.length σ.cc, .slice σ.ah σ.chans.length σ.ch].toArray 74 (0, 0)), lsH I64 3 σ.ao σ.co σ.owners, rsH cqs 1 89 σ.ac σ.cc σ.conds, stars (σ.conds.map (lsV 3)), rsH chs 3 78 σ.ah σ.ch σ.chans, stars (σ.chans.map fun x => lsV 2 x.q)] Try.func13 (res2 Try.results13 rfl rfl) ⟨_, rfl, σ, hR, rfl, rfl⟩
  · skip
    have hr' : ¬ inR m s.owners.length := by rw [← ho]; exact hr
    refine X.seq ?_
    refine X.region ?_
    refine XO.pu (Pu.assign rfl) ?_
    refine XO.pu (Pu.assign rfl) ?_
    refine XO.nil ?_
    refine X.sub (p' := [(7, _), (6, _), (0, _), (1, _), (2, _)]) ⟨rfl, rfl, rfl, rfl, rfl, trivial⟩ ?_
    refine X.seq ?_
    refine X.region ?_
    refine XO.pu (Pu.move rfl) ?_
    refine XO.pu (Pu.move rfl) ?_
    refine XO.cR Try.call35 (mutexList_ok clA clA) ?_
    refine XO.pu (Pu.move rfl) ?_
    refine XO.pu (Pu.move rfl) ?_
    refine XO.cR Try.call34 (findI1_rng (p := p) clA (by omega) hr) ?_
    refine XO.pu (Pu.move rfl) ?_
    refine XO.pu (Pu.extract rfl rfl) ?_
    refine XO.pu (Pu.extract rfl rfl) ?_
    refine XO.pu (Pu.assign rfl) ?_
    refine XO.pu (Pu.assign rfl) ?_
    refine XO.nil ?_
    refine X.sub (p' := [(9, _), (8, _), (7, _), (6, _), (2, _)]) ⟨rfl, rfl, rfl, rfl, rfl, trivial⟩ ?_
    refine X.seq ?_
    refine X.seq ?_
    refine X.region ?_
    refine XO.pu (Pu.move rfl) ?_
    refine XO.pu (Pu.neq rfl rfl) ?_
    refine XO.pu (Pu.move rfl) ?_
    refine XO.know 21 (.bool true) rfl (congrArg Value.bool (rfl)) ?_
    refine XO.pass rfl ?_
    refine XO.pass rfl ?_
    refine XO.pass rfl ?_
    refine XO.pass rfl ?_
    refine XO.pu (Pu.pickT rfl rfl) ?_
    refine XO.nil ?_
    refine X.sub (p' := [(26, _), (9, _), (8, _), (7, _), (6, _), (2, _)]) ⟨rfl, rfl, rfl, rfl, rfl, rfl, trivial⟩ ?_
    refine X.condT rfl ?_
    refine X.seq ?_
    refine X.region ?_
    refine XO.pu (Pu.move rfl) ?_
    refine XO.pu (Pu.assign rfl) ?_
    refine XO.pu (Pu.assign rfl) ?_
    refine XO.nil ?_
    refine X.sub (p' := [(7, _), (6, _), (8, _), (2, _)]) ⟨rfl, rfl, rfl, rfl, trivial⟩ ?_
    rw [show lockS s _ t = (s, false, 4) from if_neg hr']
    refine X.retL [pto p (.cells [.bool true, .slice σ.ao σ.owners.length σ.co, .slice σ.ac σ.conds.length σ.cc, .slice σ.ah σ.chans.length σ.ch].toArray 74 (0, 0)), lsH I64 3 σ.ao σ.co σ.owners, rsH cqs 1 89 σ.ac σ.cc σ.conds, stars (σ.conds.map (lsV 3)), rsH chs 3 78 σ.ah σ.ch σ.chans, stars (σ.chans.map fun x => lsV 2 x.q)] Try.func13 (res2 Try.results13 rfl rfl) ⟨_, rfl, σ, hR, rfl, rfl⟩
theorem Unlock_ok (hR : Real σ s) {N : Nat} (hs : s.ok N) (hN : N ≤ 1000) : CallF Try.prog G 15 [.pointer (some ⟨p, 0, none⟩), .int .i64 m, .int .i64 t] (syL p σ) (Ret fun v q' => ∃ σ', Real σ' (unlockS s m t).1 ∧ v = .int .i64 (unlockS s m t).2 ∧ q' = syL p σ') := by
  refine CallF.of Try.func15 Try.ntmps15 rfl (fun F cs => ?_)
  refine X.sub (p' := [(0, _), (1, _), (2, _)]) ⟨rfl, rfl, rfl, trivial⟩ ?_
  have ho := hR.lo; have hc := hR.lc; have hh := hR.lh; have hno := hs.no; have hnc := hs.nc; have hnh := hs.nh
  change X _ _ _ _ _ _ _ _ (pto p (.cells [.bool true, .slice σ.ao σ.owners.length σ.co, .slice σ.ac σ.conds.length σ.cc, .slice σ.ah σ.chans.length σ.ch].toArray 74 (0, 0)) :: lsH I64 3 σ.ao σ.co σ.owners :: rsH cqs 1 89 σ.ac σ.cc σ.conds :: stars (σ.conds.map (lsV 3)) :: rsH chs 3 78 σ.ah σ.ch σ.chans :: stars (σ.chans.map fun x => lsV 2 x.q) :: F)
  rcases Decidable.em (inR m σ.owners.length) with hr | hr
  · skip
    have hr' : inR m s.owners.length := by rw [← ho]; exact hr
    obtain ⟨i, rfl⟩ := Int.eq_ofNat_of_zero_le hr.1; have hi : i < σ.owners.length := (by have := hr.2; omega)
    rcases Decidable.em (thr t) with hg | hg
    · skip
      refine X.lsadr (l := σ.owners) (by omega) (fun g e_ => ?_)
      rw [e_]
      refine X.seq ?_
      refine X.region ?_
      refine XO.pu (Pu.assign rfl) ?_
      refine XO.nil ?_
      refine X.sub (p' := [(6, _), (0, _), (1, _), (2, _)]) ⟨rfl, rfl, rfl, rfl, trivial⟩ ?_
      refine X.seq ?_
      refine X.region ?_
      refine XO.pu (Pu.move rfl) ?_
      refine XO.pu (Pu.move rfl) ?_
      refine XO.cR Try.call35 (mutexList_ok clA clA) ?_
      refine XO.pu (Pu.move rfl) ?_
      refine XO.pu (Pu.move rfl) ?_
      refine XO.cR Try.call34 (findI1_ok (p := p) clA (by omega) hi hg) ?_
      refine XO.pu (Pu.move rfl) ?_
      refine XO.pu (Pu.extract rfl rfl) ?_
      refine XO.pu (Pu.extract rfl rfl) ?_
      refine XO.pu (Pu.assign rfl) ?_
      refine XO.pu (Pu.assign rfl) ?_
      refine XO.nil ?_
      refine X.sub (p' := [(8, _), (7, _), (6, _), (2, _)]) ⟨rfl, rfl, rfl, rfl, trivial⟩ ?_
      refine X.seq ?_
      refine X.seq ?_
      refine X.region ?_
      refine XO.pu (Pu.move rfl) ?_
      refine XO.pu (Pu.neq rfl rfl) ?_
      refine XO.nil ?_
      refine X.sub (p' := [(19, _), (8, _), (7, _), (6, _), (2, _)]) ⟨rfl, rfl, rfl, rfl, rfl, trivial⟩ ?_
      have hso : Sees (pto p (.cells [.bool true, .slice (some ⟨g, 0, none⟩) σ.owners.length σ.co, .slice σ.ac σ.conds.length σ.cc, .slice σ.ah σ.chans.length σ.ch].toArray 74 (0, 0)) :: lsH I64 3 (some ⟨g, 0, none⟩) σ.co σ.owners :: rsH cqs 1 89 σ.ac σ.cc σ.conds :: stars (σ.conds.map (lsV 3)) :: rsH chs 3 78 σ.ah σ.ch σ.chans :: stars (σ.chans.map fun x => lsV 2 x.q) :: F) (some ⟨g, 0, none⟩) (σ.owners.map I64) := (Sees.lsH _).le leA; have hcl := Cl.at1 hso hi; have hol := hR.ol hi
      refine X.know 19 (.bool false) rfl (congrArg Value.bool (rfl)) ?_
      refine X.condF rfl ?_
      refine X.skip ?_
      refine X.seq ?_
      refine X.seq ?_
      refine X.region ?_
      refine XO.pu (Pu.move rfl) ?_
      refine XO.pu (Pu.nilCheck rfl) ?_
      refine XO.ld Try.isAgg3 ?_ (hc := hcl)
      refine XO.pu (Pu.move rfl) ?_
      refine XO.pu (Pu.neq rfl rfl) ?_
      refine XO.nil ?_
      refine X.sub (p' := [(25, _), (7, _), (6, _)]) ⟨rfl, rfl, rfl, trivial⟩ ?_
      rcases Decidable.em (σ.owners[i] = t) with hx | hx
      · skip
        refine X.know 25 (.bool false) rfl (congrArg Value.bool (by simp [hx])) ?_
        refine X.condF rfl ?_
        refine X.skip ?_
        refine X.seq ?_
        refine X.region ?_
        refine XO.pu (Pu.move rfl) ?_
        refine XO.pu (Pu.nilCheck rfl) ?_
        refine XO.ef0 (Ef.setL (f := I64) (l := σ.owners) (u := -1) (n := i) (g := g) (j := (i : Int)) (by simp [evp, lkp]) rfl Try.sizeOf3 rfl hi rfl rfl fndA) ?_
        rintro _ _ ⟨rfl, rfl⟩
        refine XO.nil ?_
        refine X.sub (p' := [(6, _)]) ⟨rfl, trivial⟩ ?_
        refine X.seq ?_
        refine X.region ?_
        refine XO.pu (Pu.assign rfl) ?_
        refine XO.nil ?_
        refine X.sub (p' := [(6, _)]) ⟨rfl, trivial⟩ ?_
        rw [show unlockS s (i : Int) t = ({ s with owners := s.owners.set i (-1) }, 0) from (if_pos hr').trans ((if_pos hg).trans (if_pos (hol.trans hx)))]
        refine X.retL [pto p (.cells [.bool true, .slice (some ⟨g, 0, none⟩) σ.owners.length σ.co, .slice σ.ac σ.conds.length σ.cc, .slice σ.ah σ.chans.length σ.ch].toArray 74 (0, 0)), lsH I64 3 (some ⟨g, 0, none⟩) σ.co (σ.owners.set i (-1)), rsH cqs 1 89 σ.ac σ.cc σ.conds, stars (σ.conds.map (lsV 3)), rsH chs 3 78 σ.ah σ.ch σ.chans, stars (σ.chans.map fun x => lsV 2 x.q)] Try.func15 (res1 Try.results15 rfl) ⟨_, rfl, { σ with ao := (some ⟨g, 0, none⟩), owners := σ.owners.set i (-1) }, ⟨by show σ.owners.set i (-1) = s.owners.set i (-1); rw [hR.o], hR.c, hR.h⟩, rfl, by unfold syL; simp⟩
      · skip
        refine X.know 25 (.bool true) rfl (congrArg Value.bool (by simp [hx])) ?_
        refine X.condT rfl ?_
        refine X.seq ?_
        refine X.region ?_
        refine XO.pu (Pu.assign rfl) ?_
        refine XO.nil ?_
        refine X.sub (p' := [(6, _), (7, _)]) ⟨rfl, rfl, trivial⟩ ?_
        rw [show unlockS s (i : Int) t = (s, 140) from (if_pos hr').trans ((if_pos hg).trans (if_neg (fun e => hx (hol.symm.trans e))))]
        refine X.retL [pto p (.cells [.bool true, .slice (some ⟨g, 0, none⟩) σ.owners.length σ.co, .slice σ.ac σ.conds.length σ.cc, .slice σ.ah σ.chans.length σ.ch].toArray 74 (0, 0)), lsH I64 3 (some ⟨g, 0, none⟩) σ.co σ.owners, rsH cqs 1 89 σ.ac σ.cc σ.conds, stars (σ.conds.map (lsV 3)), rsH chs 3 78 σ.ah σ.ch σ.chans, stars (σ.chans.map fun x => lsV 2 x.q)] Try.func15 (res1 Try.results15 rfl) ⟨_, rfl, σ, hR, rfl, by unfold syL; rw [e_]⟩
    · skip
      refine X.seq ?_
      refine X.region ?_
      refine XO.pu (Pu.assign rfl) ?_
      refine XO.nil ?_
      refine X.sub (p' := [(6, _), (0, _), (1, _), (2, _)]) ⟨rfl, rfl, rfl, rfl, trivial⟩ ?_
      refine X.seq ?_
      refine X.region ?_
      refine XO.pu (Pu.move rfl) ?_
      refine XO.pu (Pu.move rfl) ?_
      refine XO.cR Try.call35 (mutexList_ok clA clA) ?_
      refine XO.pu (Pu.move rfl) ?_
      refine XO.pu (Pu.move rfl) ?_
      refine XO.cR Try.call34 (findI1_arg (p := p) clA (by omega) hi hg) ?_
      refine XO.pu (Pu.move rfl) ?_
      refine XO.pu (Pu.extract rfl rfl) ?_
      refine XO.pu (Pu.extract rfl rfl) ?_
      refine XO.pu (Pu.assign rfl) ?_
      refine XO.pu (Pu.assign rfl) ?_
      refine XO.nil ?_
      refine X.sub (p' := [(8, _), (7, _), (6, _), (2, _)]) ⟨rfl, rfl, rfl, rfl, trivial⟩ ?_
      refine X.seq ?_
      refine X.seq ?_
      refine X.region ?_
      refine XO.pu (Pu.move rfl) ?_
      refine XO.pu (Pu.neq rfl rfl) ?_
      refine XO.nil ?_
      refine X.sub (p' := [(19, _), (8, _), (7, _), (6, _), (2, _)]) ⟨rfl, rfl, rfl, rfl, rfl, trivial⟩ ?_
      refine X.know 19 (.bool true) rfl (congrArg Value.bool (rfl)) ?_
      refine X.condT rfl ?_
      refine X.seq ?_
      refine X.region ?_
      refine XO.pu (Pu.move rfl) ?_
      refine XO.pu (Pu.assign rfl) ?_
      refine XO.nil ?_
      refine X.sub (p' := [(6, _), (7, _), (2, _)]) ⟨rfl, rfl, rfl, trivial⟩ ?_
      rw [show unlockS s _ t = (s, 2) from (if_pos hr').trans (if_neg hg)]
      refine X.retL [pto p (.cells [.bool true, .slice σ.ao σ.owners.length σ.co, .slice σ.ac σ.conds.length σ.cc, .slice σ.ah σ.chans.length σ.ch].toArray 74 (0, 0)), lsH I64 3 σ.ao σ.co σ.owners, rsH cqs 1 89 σ.ac σ.cc σ.conds, stars (σ.conds.map (lsV 3)), rsH chs 3 78 σ.ah σ.ch σ.chans, stars (σ.chans.map fun x => lsV 2 x.q)] Try.func15 (res1 Try.results15 rfl) ⟨_, rfl, σ, hR, rfl, rfl⟩
  · skip
    have hr' : ¬ inR m s.owners.length := by rw [← ho]; exact hr
    refine X.seq ?_
    refine X.region ?_
    refine XO.pu (Pu.assign rfl) ?_
    refine XO.nil ?_
    refine X.sub (p' := [(6, _), (0, _), (1, _), (2, _)]) ⟨rfl, rfl, rfl, rfl, trivial⟩ ?_
    refine X.seq ?_
    refine X.region ?_
    refine XO.pu (Pu.move rfl) ?_
    refine XO.pu (Pu.move rfl) ?_
    refine XO.cR Try.call35 (mutexList_ok clA clA) ?_
    refine XO.pu (Pu.move rfl) ?_
    refine XO.pu (Pu.move rfl) ?_
    refine XO.cR Try.call34 (findI1_rng (p := p) clA (by omega) hr) ?_
    refine XO.pu (Pu.move rfl) ?_
    refine XO.pu (Pu.extract rfl rfl) ?_
    refine XO.pu (Pu.extract rfl rfl) ?_
    refine XO.pu (Pu.assign rfl) ?_
    refine XO.pu (Pu.assign rfl) ?_
    refine XO.nil ?_
    refine X.sub (p' := [(8, _), (7, _), (6, _), (2, _)]) ⟨rfl, rfl, rfl, rfl, trivial⟩ ?_
    refine X.seq ?_
    refine X.seq ?_
    refine X.region ?_
    refine XO.pu (Pu.move rfl) ?_
    refine XO.pu (Pu.neq rfl rfl) ?_
    refine XO.nil ?_
    refine X.sub (p' := [(19, _), (8, _), (7, _), (6, _), (2, _)]) ⟨rfl, rfl, rfl, rfl, rfl, trivial⟩ ?_
    refine X.know 19 (.bool true) rfl (congrArg Value.bool (rfl)) ?_
    refine X.condT rfl ?_
    refine X.seq ?_
    refine X.region ?_
    refine XO.pu (Pu.move rfl) ?_
    refine XO.pu (Pu.assign rfl) ?_
    refine XO.nil ?_
    refine X.sub (p' := [(6, _), (7, _), (2, _)]) ⟨rfl, rfl, rfl, trivial⟩ ?_
    rw [show unlockS s _ t = (s, 4) from if_neg hr']
    refine X.retL [pto p (.cells [.bool true, .slice σ.ao σ.owners.length σ.co, .slice σ.ac σ.conds.length σ.cc, .slice σ.ah σ.chans.length σ.ch].toArray 74 (0, 0)), lsH I64 3 σ.ao σ.co σ.owners, rsH cqs 1 89 σ.ac σ.cc σ.conds, stars (σ.conds.map (lsV 3)), rsH chs 3 78 σ.ah σ.ch σ.chans, stars (σ.chans.map fun x => lsV 2 x.q)] Try.func15 (res1 Try.results15 rfl) ⟨_, rfl, σ, hR, rfl, rfl⟩
theorem Sy.ok.lenC {σ : SyC} {s : Sy} {N : Nat} (h : s.ok N) (hR : Real σ s) {i : Nat} (hi : i < σ.conds.length) (hN : N ≤ 1000) : σ.conds[i].l.length ≤ 1000 := by
  rw [← hR.cl hi]; exact Nat.le_trans (h.c _ (getD_mem (by rw [← hR.lc]; exact hi))).1 hN
theorem Sy.ok.lenH {σ : SyC} {s : Sy} {N : Nat} (h : s.ok N) (hR : Real σ s) {i : Nat} (hi : i < σ.chans.length) (hN : N ≤ 1000) : σ.chans[i].q.l.length ≤ 1000 := by
  have e := congrArg Prod.fst (hR.hl hi)
  have h2 : σ.chans[i].q.l = (s.chans.getD i ch0).items := e.symm
  rw [h2]; unfold Ch.items; rw [List.length_drop]
  have := (h.h _ (getD_mem (d := ch0) (show i < s.chans.length by rw [← hR.lh]; exact hi))).2.2.1
  omega
theorem Waits_ok (hR : Real σ s) {N : Nat} (hs : s.ok N) (hN : N ≤ 1000) : CallF Try.prog G 21 [.pointer (some ⟨p, 0, none⟩), .int .i64 k] (syL p σ) (Ret fun v q' => ∃ a' c', v = .tuple [.slice a' (waitsS s k).1.length c', .int .i64 (waitsS s k).2].toArray ∧ q' = lsH I64 3 a' c' (waitsS s k).1 :: syL p σ) := by
  refine CallF.of Try.func21 Try.ntmps21 rfl (fun F cs => ?_)
  refine X.sub (p' := [(0, _), (1, _)]) ⟨rfl, rfl, trivial⟩ ?_
  have ho := hR.lo; have hc := hR.lc; have hh := hR.lh; have hno := hs.no; have hnc := hs.nc; have hnh := hs.nh
  change X _ _ _ _ _ _ _ _ (pto p (.cells [.bool true, .slice σ.ao σ.owners.length σ.co, .slice σ.ac σ.conds.length σ.cc, .slice σ.ah σ.chans.length σ.ch].toArray 74 (0, 0)) :: lsH I64 3 σ.ao σ.co σ.owners :: rsH cqs 1 89 σ.ac σ.cc σ.conds :: stars (σ.conds.map (lsV 3)) :: rsH chs 3 78 σ.ah σ.ch σ.chans :: stars (σ.chans.map fun x => lsV 2 x.q) :: F)
  rcases Decidable.em (inR k σ.conds.length) with hr | hr
  · skip
    have hr' : inR k s.conds.length := by rw [← hc]; exact hr
    obtain ⟨i, rfl⟩ := Int.eq_ofNat_of_zero_le hr.1; have hi : i < σ.conds.length := (by have := hr.2; omega)
    refine X.rsadr (l := σ.conds) (by omega) (fun g e_ => ?_)
    rw [e_]
    have hlen : σ.conds[i].l.length ≤ 1000 := hs.lenC hR hi hN
    refine X.seq ?_
    refine X.region ?_
    refine XO.pu (Pu.assign rfl) ?_
    refine XO.pu (Pu.assign rfl) ?_
    refine XO.nil ?_
    refine X.sub (p' := [(5, _), (4, _), (0, _), (1, _)]) ⟨rfl, rfl, rfl, rfl, trivial⟩ ?_
    refine X.seq ?_
    refine X.region ?_
    refine XO.pu (Pu.move rfl) ?_
    refine XO.pu (Pu.move rfl) ?_
    refine XO.cR Try.call37 (condList_ok clA clA) ?_
    refine XO.pu (Pu.move rfl) ?_
    refine XO.cR Try.call36 (findC0_ok (p := p) clA (by omega) hi trivial) ?_
    refine XO.pu (Pu.move rfl) ?_
    refine XO.pu (Pu.extract rfl rfl) ?_
    refine XO.pu (Pu.extract rfl rfl) ?_
    refine XO.pu (Pu.assign rfl) ?_
    refine XO.pu (Pu.assign rfl) ?_
    refine XO.nil ?_
    refine X.sub (p' := [(7, _), (6, _), (5, _), (4, _)]) ⟨rfl, rfl, rfl, rfl, trivial⟩ ?_
    refine X.seq ?_
    refine X.seq ?_
    refine X.region ?_
    refine XO.pu (Pu.move rfl) ?_
    refine XO.pu (Pu.neq rfl rfl) ?_
    refine XO.nil ?_
    refine X.sub (p' := [(17, _), (7, _), (6, _), (5, _), (4, _)]) ⟨rfl, rfl, rfl, rfl, rfl, trivial⟩ ?_
    refine X.know 17 (.bool false) rfl (congrArg Value.bool (rfl)) ?_
    refine X.le (Le.focV hi) ?_
    refine X.condF rfl ?_
    refine X.skip ?_
    refine X.seq ?_
    refine X.region ?_
    refine XO.pu (Pu.move rfl) ?_
    refine XO.pu (Pu.nilCheck rfl) ?_
    refine XO.pu (Pu.fieldAddr 87 0 0 rfl Try.underlying89 rfl Try.sizeOf87) ?_
    refine XO.know 21 (.pointer (some ⟨g, i * 1, none⟩)) rfl (by simp) ?_
    refine XO.cF Try.call45 (all_ok (f := cqs) (sz := 1) (ty := 89) (l := σ.conds) (i := i) (m := σ.conds[i].l) (a := σ.conds[i].a) (c := σ.conds[i].c) hi (fun _ => rfl) rfl rfl (by have := hlen; omega)) ?_
    rintro _ _ ⟨a2, c2, rfl, rfl⟩ _ e_; simp only [ca, na] at e_; subst e_
    refine XO.pu (Pu.assign rfl) ?_
    refine XO.pu (Pu.assign rfl) ?_
    refine XO.nil ?_
    refine X.sub (p' := [(5, _), (4, _)]) ⟨rfl, rfl, trivial⟩ ?_
    rw [show waitsS s (i : Int) = (σ.conds[i].l, 0) from (if_pos hr').trans (by rw [← hR.cl hi]; rfl)]
    refine X.le (Le.unfV hi (a := σ.conds[i].a) (c := σ.conds[i].c) (m := σ.conds[i].l)) ?_
    rw [show σ.conds.set i ⟨σ.conds[i].a, σ.conds[i].c, σ.conds[i].l⟩ = σ.conds from List.set_getElem_self hi]
    refine X.retL (lsH I64 3 a2 c2 σ.conds[i].l :: [pto p (.cells [.bool true, .slice σ.ao σ.owners.length σ.co, .slice (some ⟨g, 0, none⟩) σ.conds.length σ.cc, .slice σ.ah σ.chans.length σ.ch].toArray 74 (0, 0)), lsH I64 3 σ.ao σ.co σ.owners, rsH cqs 1 89 (some ⟨g, 0, none⟩) σ.cc σ.conds, stars (σ.conds.map (lsV 3)), rsH chs 3 78 σ.ah σ.ch σ.chans, stars (σ.chans.map fun x => lsV 2 x.q)]) Try.func21 (res2 Try.results21 rfl rfl) ⟨_, rfl, a2, c2, rfl, by unfold syL; rw [e_]⟩
  · skip
    have hr' : ¬ inR k s.conds.length := by rw [← hc]; exact hr
    refine X.seq ?_
    refine X.region ?_
    refine XO.pu (Pu.assign rfl) ?_
    refine XO.pu (Pu.assign rfl) ?_
    refine XO.nil ?_
    refine X.sub (p' := [(5, _), (4, _), (0, _), (1, _)]) ⟨rfl, rfl, rfl, rfl, trivial⟩ ?_
    refine X.seq ?_
    refine X.region ?_
    refine XO.pu (Pu.move rfl) ?_
    refine XO.pu (Pu.move rfl) ?_
    refine XO.cR Try.call37 (condList_ok clA clA) ?_
    refine XO.pu (Pu.move rfl) ?_
    refine XO.cR Try.call36 (findC0_rng (p := p) clA (by omega) hr) ?_
    refine XO.pu (Pu.move rfl) ?_
    refine XO.pu (Pu.extract rfl rfl) ?_
    refine XO.pu (Pu.extract rfl rfl) ?_
    refine XO.pu (Pu.assign rfl) ?_
    refine XO.pu (Pu.assign rfl) ?_
    refine XO.nil ?_
    refine X.sub (p' := [(7, _), (6, _), (5, _), (4, _)]) ⟨rfl, rfl, rfl, rfl, trivial⟩ ?_
    refine X.seq ?_
    refine X.seq ?_
    refine X.region ?_
    refine XO.pu (Pu.move rfl) ?_
    refine XO.pu (Pu.neq rfl rfl) ?_
    refine XO.nil ?_
    refine X.sub (p' := [(17, _), (7, _), (6, _), (5, _), (4, _)]) ⟨rfl, rfl, rfl, rfl, rfl, trivial⟩ ?_
    refine X.know 17 (.bool true) rfl (congrArg Value.bool (rfl)) ?_
    refine X.condT rfl ?_
    refine X.seq ?_
    refine X.region ?_
    refine XO.pu (Pu.move rfl) ?_
    refine XO.pu (Pu.assign rfl) ?_
    refine XO.pu (Pu.assign rfl) ?_
    refine XO.nil ?_
    refine X.sub (p' := [(5, _), (4, _), (6, _)]) ⟨rfl, rfl, rfl, trivial⟩ ?_
    rw [show waitsS s k = ([], 4) from if_neg hr']
    refine X.retL (lsH I64 3 none 0 [] :: [pto p (.cells [.bool true, .slice σ.ao σ.owners.length σ.co, .slice σ.ac σ.conds.length σ.cc, .slice σ.ah σ.chans.length σ.ch].toArray 74 (0, 0)), lsH I64 3 σ.ao σ.co σ.owners, rsH cqs 1 89 σ.ac σ.cc σ.conds, stars (σ.conds.map (lsV 3)), rsH chs 3 78 σ.ah σ.ch σ.chans, stars (σ.chans.map fun x => lsV 2 x.q)]) Try.func21 (res2 Try.results21 rfl rfl) ⟨_, rfl, none, 0, rfl, rfl⟩ ((leA).trans (Le.trans (Le.lsH_nil I64 3 _) leA))
theorem Values_ok (hR : Real σ s) {N : Nat} (hs : s.ok N) (hN : N ≤ 1000) : CallF Try.prog G 28 [.pointer (some ⟨p, 0, none⟩), .int .i64 k] (syL p σ) (Ret fun v q' => ∃ a' c', v = .tuple [.slice a' (valuesS s k).1.length c', .int .i64 (valuesS s k).2].toArray ∧ q' = lsH I64 2 a' c' (valuesS s k).1 :: syL p σ) := by
  refine CallF.of Try.func28 Try.ntmps28 rfl (fun F cs => ?_)
  refine X.sub (p' := [(0, _), (1, _)]) ⟨rfl, rfl, trivial⟩ ?_
  have ho := hR.lo; have hc := hR.lc; have hh := hR.lh; have hno := hs.no; have hnc := hs.nc; have hnh := hs.nh
  change X _ _ _ _ _ _ _ _ (pto p (.cells [.bool true, .slice σ.ao σ.owners.length σ.co, .slice σ.ac σ.conds.length σ.cc, .slice σ.ah σ.chans.length σ.ch].toArray 74 (0, 0)) :: lsH I64 3 σ.ao σ.co σ.owners :: rsH cqs 1 89 σ.ac σ.cc σ.conds :: stars (σ.conds.map (lsV 3)) :: rsH chs 3 78 σ.ah σ.ch σ.chans :: stars (σ.chans.map fun x => lsV 2 x.q) :: F)
  rcases Decidable.em (inR k σ.chans.length) with hr | hr
  · skip
    have hr' : inR k s.chans.length := by rw [← hh]; exact hr
    obtain ⟨i, rfl⟩ := Int.eq_ofNat_of_zero_le hr.1; have hi : i < σ.chans.length := (by have := hr.2; omega)
    refine X.rsadr (l := σ.chans) (by omega) (fun g e_ => ?_)
    rw [e_]
    have hlen : σ.chans[i].q.l.length ≤ 1000 := hs.lenH hR hi hN
    have hHL : (s.chans.getD i ch0).items = σ.chans[i].q.l := congrArg Prod.fst (hR.hl hi)
    refine X.seq ?_
    refine X.region ?_
    refine XO.pu (Pu.assign rfl) ?_
    refine XO.pu (Pu.assign rfl) ?_
    refine XO.nil ?_
    refine X.sub (p' := [(5, _), (4, _), (0, _), (1, _)]) ⟨rfl, rfl, rfl, rfl, trivial⟩ ?_
    refine X.seq ?_
    refine X.region ?_
    refine XO.pu (Pu.move rfl) ?_
    refine XO.pu (Pu.move rfl) ?_
    refine XO.cR Try.call42 (channelList_ok clA clA) ?_
    refine XO.pu (Pu.move rfl) ?_
    refine XO.cR Try.call41 (findH0_ok (p := p) clA (by omega) hi trivial) ?_
    refine XO.pu (Pu.move rfl) ?_
    refine XO.pu (Pu.extract rfl rfl) ?_
    refine XO.pu (Pu.extract rfl rfl) ?_
    refine XO.pu (Pu.assign rfl) ?_
    refine XO.pu (Pu.assign rfl) ?_
    refine XO.nil ?_
    refine X.sub (p' := [(7, _), (6, _), (5, _), (4, _)]) ⟨rfl, rfl, rfl, rfl, trivial⟩ ?_
    refine X.seq ?_
    refine X.seq ?_
    refine X.region ?_
    refine XO.pu (Pu.move rfl) ?_
    refine XO.pu (Pu.neq rfl rfl) ?_
    refine XO.nil ?_
    refine X.sub (p' := [(17, _), (7, _), (6, _), (5, _), (4, _)]) ⟨rfl, rfl, rfl, rfl, rfl, trivial⟩ ?_
    refine X.know 17 (.bool false) rfl (congrArg Value.bool (rfl)) ?_
    refine X.le (Le.focH hi) ?_
    refine X.condF rfl ?_
    refine X.skip ?_
    refine X.seq ?_
    refine X.region ?_
    refine XO.pu (Pu.move rfl) ?_
    refine XO.pu (Pu.nilCheck rfl) ?_
    refine XO.pu (Pu.fieldAddr 76 0 0 rfl Try.underlying78 rfl Try.sizeOf76) ?_
    refine XO.know 21 (.pointer (some ⟨g, i * 3, none⟩)) rfl (by simp) ?_
    refine XO.cF Try.call54 (all64_ok (f := chs) (sz := 3) (ty := 78) (l := σ.chans) (i := i) (m := σ.chans[i].q.l) (a := σ.chans[i].q.a) (c := σ.chans[i].q.c) hi (fun _ => rfl) rfl rfl (by have := hlen; omega)) ?_
    rintro _ _ ⟨a2, c2, rfl, rfl⟩ _ e_; simp only [ca, na] at e_; subst e_
    refine XO.pu (Pu.assign rfl) ?_
    refine XO.pu (Pu.assign rfl) ?_
    refine XO.nil ?_
    refine X.sub (p' := [(5, _), (4, _)]) ⟨rfl, rfl, trivial⟩ ?_
    rw [show valuesS s (i : Int) = (σ.chans[i].q.l, 0) from (if_pos hr').trans (by rw [← hHL]; rfl)]
    refine X.le (Le.unfH hi σ.chans[i]) ?_
    rw [show σ.chans.set i σ.chans[i] = σ.chans from List.set_getElem_self hi]
    refine X.retL (lsH I64 2 a2 c2 σ.chans[i].q.l :: [pto p (.cells [.bool true, .slice σ.ao σ.owners.length σ.co, .slice σ.ac σ.conds.length σ.cc, .slice (some ⟨g, 0, none⟩) σ.chans.length σ.ch].toArray 74 (0, 0)), lsH I64 3 σ.ao σ.co σ.owners, rsH cqs 1 89 σ.ac σ.cc σ.conds, stars (σ.conds.map (lsV 3)), rsH chs 3 78 (some ⟨g, 0, none⟩) σ.ch σ.chans, stars (σ.chans.map fun x => lsV 2 x.q)]) Try.func28 (res2 Try.results28 rfl rfl) ⟨_, rfl, a2, c2, rfl, by unfold syL; rw [e_]⟩
  · skip
    have hr' : ¬ inR k s.chans.length := by rw [← hh]; exact hr
    refine X.seq ?_
    refine X.region ?_
    refine XO.pu (Pu.assign rfl) ?_
    refine XO.pu (Pu.assign rfl) ?_
    refine XO.nil ?_
    refine X.sub (p' := [(5, _), (4, _), (0, _), (1, _)]) ⟨rfl, rfl, rfl, rfl, trivial⟩ ?_
    refine X.seq ?_
    refine X.region ?_
    refine XO.pu (Pu.move rfl) ?_
    refine XO.pu (Pu.move rfl) ?_
    refine XO.cR Try.call42 (channelList_ok clA clA) ?_
    refine XO.pu (Pu.move rfl) ?_
    refine XO.cR Try.call41 (findH0_rng (p := p) clA (by omega) hr) ?_
    refine XO.pu (Pu.move rfl) ?_
    refine XO.pu (Pu.extract rfl rfl) ?_
    refine XO.pu (Pu.extract rfl rfl) ?_
    refine XO.pu (Pu.assign rfl) ?_
    refine XO.pu (Pu.assign rfl) ?_
    refine XO.nil ?_
    refine X.sub (p' := [(7, _), (6, _), (5, _), (4, _)]) ⟨rfl, rfl, rfl, rfl, trivial⟩ ?_
    refine X.seq ?_
    refine X.seq ?_
    refine X.region ?_
    refine XO.pu (Pu.move rfl) ?_
    refine XO.pu (Pu.neq rfl rfl) ?_
    refine XO.nil ?_
    refine X.sub (p' := [(17, _), (7, _), (6, _), (5, _), (4, _)]) ⟨rfl, rfl, rfl, rfl, rfl, trivial⟩ ?_
    refine X.know 17 (.bool true) rfl (congrArg Value.bool (rfl)) ?_
    refine X.condT rfl ?_
    refine X.seq ?_
    refine X.region ?_
    refine XO.pu (Pu.move rfl) ?_
    refine XO.pu (Pu.assign rfl) ?_
    refine XO.pu (Pu.assign rfl) ?_
    refine XO.nil ?_
    refine X.sub (p' := [(5, _), (4, _), (6, _)]) ⟨rfl, rfl, rfl, trivial⟩ ?_
    rw [show valuesS s k = ([], 4) from if_neg hr']
    refine X.retL (lsH I64 2 none 0 [] :: [pto p (.cells [.bool true, .slice σ.ao σ.owners.length σ.co, .slice σ.ac σ.conds.length σ.cc, .slice σ.ah σ.chans.length σ.ch].toArray 74 (0, 0)), lsH I64 3 σ.ao σ.co σ.owners, rsH cqs 1 89 σ.ac σ.cc σ.conds, stars (σ.conds.map (lsV 3)), rsH chs 3 78 σ.ah σ.ch σ.chans, stars (σ.chans.map fun x => lsV 2 x.q)]) Try.func28 (res2 Try.results28 rfl rfl) ⟨_, rfl, none, 0, rfl, rfl⟩ ((leA).trans (Le.trans (Le.lsH_nil I64 2 _) leA))
end
end Go.Proofs.Ytlgnnhpbomfdiaa

