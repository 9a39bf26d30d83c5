/-
  Plain program logic, part 6: ranges over functions; leaving a function that has deferred calls.
-/
import Derived.Test.YtjkkefgkhafmfaaWx5
namespace Wx
open Go Go.RowKit
set_option linter.unusedVariables false
set_option linter.unusedSimpArgs false

/-! ### the loop's record -/
def lp (rec : Loop) (l : Nat) (st : LoopState) (pend : Option Code) : HP := pto l (.loop { rec with state := st, pending := pend })
def markD (r : Nat) : Deferred := { target := .collected r, args := #[] }
theorem run_getLoop {P : Program} {w : World} {l : Nat} {r : Loop} (h : w.heap[l]? = some (.loop r)) : (Instr.getLoop l).run P w = .ok r w := by
  simp [Instr.getLoop, getObj, Sem.run, h]
theorem run_setObj {P : Program} {w : World} {l : Nat} {o o' : Obj} (h : w.heap[l]? = some o) (hc : ∀ c e z, o ≠ .cells c e z) : (setObj l o').run P w = .ok () { w with heap := w.heap.setIfInBounds l o' } := by
  cases o <;> first | (exact absurd rfl (hc _ _ _)) | simp [setObj, Sem.run, h]
theorem St.setObj {G w : World} {b : Nat} {o o' : Obj} {q : List HP} (s : St G w (pto b o :: q)) : St G { w with heap := w.heap.setIfInBounds b o' } (pto b o' :: q) := by
  have hb := s.has (Has.pto _ _ _)
  have hlt : b < w.heap.size := (Array.getElem?_eq_some_iff.1 hb).1
  refine s.put ?_ ?_ (by simp) rfl rfl rfl
  · simp [hlt]
  · intro k hk
    exact Array.getElem?_setIfInBounds_ne (fun e => hk e.symm)
section
variable {P : Program} {G : World} {f : Fc} {Q : Post} {k : List Item} {p : PE} {ds : List Deferred} {cs : List Frame} {q : List HP}
/-! ### a round -/
/-- What a round of the loop l comes to: it goes on, or it leaves by a jump, or it panics. -/
def YQ (cs₀ : List Frame) (rec : Loop) (l : Nat) (R : Spec) (F : List HP) : Post := fun o p ds cs q => cs = cs₀ ∧ ds = [] ∧ match o with
  | .fall => ∃ q', R (.returned (.bool true)) (lp rec l .ready none :: q') ∧ Le q (lp rec l .busy none :: (q' ++ F))
  | .jump c => ∃ q', R (.returned (.bool false)) (lp rec l .done (some c) :: q') ∧ Le q (lp rec l .busy none :: (q' ++ F))
  | .panic ch => ∃ q', R (.panicked ch) q' ∧ Le q (q' ++ F)
def zipP : List Tmp → List Value → PE → PE
  | t :: ts, v :: vs, p => zipP ts vs ((t, v) :: p)
  | _, _, p => p
theorem agr_zipP {n : Nat} : ∀ (ts : List Tmp) (vs : List Value) (tm : Array Value) (p : PE), tm.size = n → Agr tm p → ts.all (Nat.blt · n) = true → vs.length = ts.length →
    Agr ((ts.zip vs).foldl (fun tm (t, a) => tm.setIfInBounds t a) tm) (zipP ts vs p) ∧ ((ts.zip vs).foldl (fun tm (t, a) => tm.setIfInBounds t a) tm).size = n := by
  intro ts
  induction ts with
  | nil => intro vs tm p hn ag _ hl; cases vs <;> simp_all [zipP]
  | cons t r ih =>
    intro vs tm p hn ag hb hl
    cases vs with
    | nil => simp at hl
    | cons v vs =>
      simp only [List.all_cons, Bool.and_eq_true] at hb
      simp only [List.zip_cons_cons, List.foldl_cons, zipP]
      exact ih vs _ _ (by simp [hn]) (Agr.put (d := some t) ag (by rw [hn]; exact hb.1)) hb.2 (by simpa using hl)
theorem step_beginRound {fr : Frame} {l : Nat} {r : Loop} {w : World} {k : List Item} (hm : fr.mode = .run) (ht : fr.todo = .beginRound :: k) (hr : fr.roundOf = some l) (h : w.heap[l]? = some (.loop r)) (hs : r.state = .ready) :
    step P (lone fr cs w) = .next (lone { fr with todo := k } cs { w with heap := w.heap.setIfInBounds l (.loop { r with state := .busy }) }) := by
  have h1 : (Instr.beginRound l).run P w = .ok () { w with heap := w.heap.setIfInBounds l (.loop { r with state := .busy }) } := by
    simp only [Instr.beginRound, Sem.run_bind, run_getLoop h, Result.andThen_ok]
    rw [run_setObj h (by intro c e z; simp)]
    simp [hs]
  refine step_lone_go ?_
  simp [stepG, stepG.exec, hm, ht, hr, stepG.apply, h1, Frame.finish]
theorem X.beginRound {rec : Loop} {l : Nat} {pend : Option Code} {cq : List HP} (hr : f.round = some l) (hq : Le q (lp rec l .ready pend :: cq)) (x : X P G f Q k p ds cs (lp rec l .busy pend :: cq)) : X P G f Q (.beginRound :: k) p ds cs q := by
  intro tm w n a s
  have s' := s.le hq
  have hb := s'.has (Has.pto _ _ _)
  have s2 : St G { w with heap := w.heap.setIfInBounds l (.loop { rec with state := .busy, pending := pend }) } (lp rec l .busy pend :: cq) := St.setObj (o := .loop { rec with state := .ready, pending := pend }) s'
  obtain ⟨o, tm', p', ds', cs', w', q', hQ, hn, ha, hs, arr⟩ := x tm _ n a s2
  refine ⟨o, tm', p', ds', cs', w', q', hQ, hn, ha, hs, arr.head (.one ?_)⟩
  exact step_beginRound (P := P) (cs := cs) (fr := f.fr tm ds (.beginRound :: k)) rfl rfl hr hb rfl
theorem run_endRound {w : World} {l : Nat} {r : Loop} (h : w.heap[l]? = some (.loop r)) (j : Option Code) :
    (Instr.endRound l j).run P w = .ok (.bool j.isNone) { w with heap := w.heap.setIfInBounds l (.loop { r with state := if j.isNone then .ready else .done, pending := j }) } := by
  simp only [Instr.endRound, Sem.run_bind, run_getLoop h, Result.andThen_ok]
  rw [run_setObj h (by intro c e z; simp)]
  rfl
theorem step_round_end {fr c : Frame} {cs : List Frame} {l : Nat} {w w' : World} {v : Value} {j : Option Code} (hm : fr.mode = .run) (hr : fr.roundOf = some l) (hk : fr.kind = .normal)
    (hj : (fr.todo = [] ∧ j = none) ∨ (∃ c k, fr.todo = .code c :: k ∧ Gone c k ∧ j = some c)) (h : (Instr.endRound l j).run P w = .ok v w') :
    step P (lone fr (c :: cs) w) = .next (lone (c.finish v) cs w') := by
  refine step_lone_go ?_
  rcases hj with ⟨ht, rfl⟩ | ⟨c', k, ht, hg, rfl⟩
  · simp [stepG, stepG.exec, hm, ht, hr, Sem.runT_eq, h, GStep.bare_after, doReturn, hk]
  · rcases hg with rfl | ⟨id, rfl, he⟩ | ⟨g, rfl, he⟩
    · simp [stepG, stepG.exec, hm, ht, hr, Sem.runT_eq, h, GStep.bare_after, doReturn, hk]
    · simp [stepG, stepG.exec, hm, ht, hr, he, Sem.runT_eq, h, GStep.bare_after, doReturn, hk]
    · simp [stepG, stepG.exec, hm, ht, hr, he, Sem.runT_eq, h, GStep.bare_after, doReturn, hk]
/-- The record of a loop: its frame's function, its slots, its parameters, its code. -/
structure LoopIs (rec : Loop) (fn : FuncId) (n : Nat) (ts : List Tmp) (as bd : Code) (p : PE) : Prop where
  fn : rec.fn = fn
  n : rec.tmps.size = n
  ts : rec.params = ts.toArray
  as : rec.assign = as
  bd : rec.body = bd
  pd : rec.pending = none
  ag : Agr rec.tmps p
/-- Calling yield: one round. -/
theorem CallV.yield {rec : Loop} {l n fn : Nat} {us : List Value} {pre : List HP} {R : Spec} {ts : List Tmp} {as bd : Code} (hr : LoopIs rec fn n ts as bd p) (hb : ts.all (Nat.blt · n) = true) (hl : Nat.beq us.length ts.length = true)
    (hf : (P.funcs[fn]?).isSome = true)
    (h : ∀ F cs, X P G ⟨fn, n, .normal, some l⟩ (YQ cs rec l R F) [.code as, .beginRound, .code bd] (zipP ts us p) [] cs (lp rec l .ready none :: (pre ++ F))) :
    CallV P G (.func (.yield l) #[] #[]) us (lp rec l .ready none :: pre) R := by
  obtain ⟨rfl, hn, hts, rfl, rfl, hpd, ag⟩ := hr
  intro F w s fr cs hm ho
  have hb' := s.has (Has.pto _ _ _)
  have hl' : us.length = ts.length := Nat.eq_of_beq_eq_true hl
  obtain ⟨ha, hsz⟩ := agr_zipP ts us rec.tmps p hn ag hb hl'
  obtain ⟨o, tm', p', ds', cs', w', q', ⟨rfl, rfl, hQ⟩, hn', ha', hs, arr⟩ := h F (fr :: cs) _ w hsz ha s
  have hy : (do let d ← Deferred.ofValue (.func (.yield l) #[] #[]) us.toArray; invoke d.target d.args : Sem Next).run P w =
      .ok (.round l rec.fn ((ts.zip us).foldl (fun tm (t, a) => tm.setIfInBounds t a) rec.tmps) rec.assign rec.body) w := by
    simp [Deferred.ofValue, invoke, Instr.yield, run_getLoop hb', hts, hl', List.zip_toArray]
  have hfr : Frame.round l rec.fn ((ts.zip us).foldl (fun tm (t, a) => tm.setIfInBounds t a) rec.tmps) rec.assign rec.body .normal =
      Fc.fr ⟨rec.fn, n, .normal, some l⟩ ((ts.zip us).foldl (fun tm (t, a) => tm.setIfInBounds t a) rec.tmps) [] [.code rec.assign, .beginRound, .code rec.body] := rfl
  have hap : (stepG.apply P true fr cs none (do let d ← Deferred.ofValue (.func (.yield l) #[] #[]) us.toArray; invoke d.target d.args : Sem Next) w).bare =
      .go { frame := Frame.round l rec.fn ((ts.zip us).foldl (fun tm (t, a) => tm.setIfInBounds t a) rec.tmps) rec.assign rec.body .normal, callers := fr :: cs, status := .running, dying := none } w := by
    simp only [stepG.apply, Sem.runT_eq, hy, GStep.bare_after, GStep.bare_go, if_true]
  rw [← hfr] at arr
  cases o with
  | fall =>
    obtain ⟨q1, hR, hle⟩ := hQ
    have s1 := hs.le hle
    have h1 := s1.has (Has.pto _ _ _)
    refine ⟨.returned (.bool true), { w' with heap := w'.heap.setIfInBounds l (.loop { rec with state := .ready, pending := none }) }, ⟨_, hR, ?_⟩, by simp, _, _, _, hap, arr.trans (.one ?_)⟩
    · exact St.setObj s1
    · exact step_round_end (fr := Fc.fr ⟨rec.fn, n, .normal, some l⟩ tm' [] []) rfl rfl rfl (.inl ⟨rfl, rfl⟩) (run_endRound h1 none)
  | jump c =>
    obtain ⟨q1, hR, hle⟩ := hQ
    obtain ⟨k', hg, arr⟩ := arr
    have s1 := hs.le hle
    have h1 := s1.has (Has.pto _ _ _)
    refine ⟨.returned (.bool false), { w' with heap := w'.heap.setIfInBounds l (.loop { rec with state := .done, pending := some c }) }, ⟨_, hR, ?_⟩, by simp, _, _, _, hap, arr.trans (.one ?_)⟩
    · exact St.setObj s1
    · exact step_round_end (fr := Fc.fr ⟨rec.fn, n, .normal, some l⟩ tm' [] (.code c :: k')) rfl rfl rfl (.inr ⟨c, k', rfl, hg, rfl⟩) (run_endRound h1 (some c))
  | panic ch =>
    obtain ⟨q1, hR, hle⟩ := hQ
    obtain ⟨k', arr⟩ := arr
    refine ⟨.panicked ch, w', ⟨_, hR, hs.le hle⟩, by simp, _, _, _, hap, arr.trans (.one ?_)⟩
    obtain ⟨fd, hfd⟩ := Option.isSome_iff_exists.1 hf
    exact step_lone_go (by simp [stepG, unwind, Frame.catches, Fc.fr, hfd, ApTo])

/-! ### the loop -/
theorem run_enterLoop {w : World} (fn : FuncId) (tm : Array Value) (ps : Array Tmp) (as bd : Code) :
    (Instr.enterLoop fn tm ps as bd none).run P w = .ok (w.heap.size + 1, [markD w.heap.size])
      ((w.alloc (.deferred (some []))).alloc (.loop { state := .ready, pending := none, fn := fn, tmps := tm, params := ps, assign := as, body := bd, defers := w.heap.size })) := by
  simp [Instr.enterLoop, newObj, Sem.run, markD]
theorem run_endLoop {w : World} {l : Nat} {r : Loop} (h : w.heap[l]? = some (.loop r)) (hs : r.state ≠ .busy) : (Instr.endLoop l).run P w = .ok r.pending { w with heap := w.heap.setIfInBounds l (.loop { r with state := .exhausted }) } := by
  have hs' : (r.state == LoopState.busy) = false := by simpa using hs
  simp only [Instr.endLoop, Sem.run_bind, run_getLoop h, Result.andThen_ok, hs']
  simp only [Bool.false_eq_true, if_false, Sem.run_bind]
  rw [run_setObj h (by intro c e z; simp)]
  simp
/-- for .. range g { body }, in a frame that is no round. R' says of each way out: the pending jump, and the chunks. -/
theorem X.rangeFunc {g : Operand} {ps : List Tmp} {as bd : Code} {gv : Value} {pre F : List HP} {R' : Option Code → List HP → Prop} (hro : f.round = none) (hg : evp p g = some gv) (hq : Le q (pre ++ F))
    (call : ∀ l rec, LoopIs rec f.fn f.n ps as bd p → CallV P G gv [.func (.yield l) #[] #[]] (lp rec l .ready none :: pre)
      (Ret fun _ q' => ∃ st pend q1, st ≠ .busy ∧ q' = lp rec l st pend :: q1 ∧ R' pend q1))
    (cont : ∀ r pend q1, R' pend q1 → X P G f Q (pend.toList.map Item.code ++ k) p (markD r :: ds) cs (pto r (.deferred (some [])) :: (q1 ++ F))) :
    X P G f Q (.code (.rangeFunc g ps.toArray as bd) :: k) p ds cs q := by
  intro tm w n ag s
  have he := run_enterLoop (P := P) (w := w) f.fn tm ps.toArray as bd
  have s0 := s.le hq
  have s1 : St G (w.alloc (.deferred (some []))) (pto w.heap.size (.deferred (some [])) :: (pre ++ F)) := s0.new rfl rfl rfl rfl
  have s2 := s1.new (w' := (w.alloc (.deferred (some []))).alloc (.loop { state := .ready, pending := none, fn := f.fn, tmps := tm, params := ps.toArray, assign := as, body := bd, defers := w.heap.size })) (o := .loop { state := .ready, pending := none, fn := f.fn, tmps := tm, params := ps.toArray, assign := as, body := bd, defers := w.heap.size }) rfl rfl rfl rfl
  have hsz : (w.alloc (.deferred (some []))).heap.size = w.heap.size + 1 := by simp
  rw [hsz] at s2
  have s3 := s2.le (ds := lp { state := .ready, pending := none, fn := f.fn, tmps := tm, params := ps.toArray, assign := as, body := bd, defers := w.heap.size } (w.heap.size + 1) .ready none :: (pre ++ (pto w.heap.size (.deferred (some [])) :: F))) (Le.cons _ (by
    clear s2 s1 s0 hq call cont
    induction pre with
    | nil => exact .refl _
    | cons A r ih => exact (Le.swap _ _ _).trans (ih.cons A)))
  obtain ⟨e, w3, ⟨q3, ⟨v, rfl, st, pend, q1, hst, rfl, hR⟩, s4⟩, _, fr₁, cs₁, w₁, hap, hsteps⟩ := call (w.heap.size + 1) { state := .ready, pending := none, fn := f.fn, tmps := tm, params := ps.toArray, assign := as, body := bd, defers := w.heap.size } ⟨rfl, n, rfl, rfl, rfl, rfl, ag⟩ (pto w.heap.size (.deferred (some [])) :: F) _ s3
    (f.fr tm (markD w.heap.size :: ds) (.inRangeFunc (w.heap.size + 1) :: k)) cs rfl trivial
  have hgv : (f.fr tm (markD w.heap.size :: ds) (.inRangeFunc (w.heap.size + 1) :: k)).eval g = gv := (frame_eval ..).trans (evA_of ag hg)
  have hres : (do let d ← resolve (f.fr tm (markD w.heap.size :: ds) (.inRangeFunc (w.heap.size + 1) :: k)).eval { callee := .value g, args := #[.const (.func (.yield (w.heap.size + 1)) #[] #[])], argTypes := #[] } 0; invoke d.target d.args : Sem Next) =
      (do let d ← Deferred.ofValue gv [.func (.yield (w.heap.size + 1)) #[] #[]].toArray; invoke d.target d.args) := by
    have he2 : ∀ v, (f.fr tm (markD w.heap.size :: ds) (.inRangeFunc (w.heap.size + 1) :: k)).eval (.const v) = v := fun _ => rfl
    simp [resolve, hgv, he2]
  have h1 : Go.step P (lone (f.fr tm ds (.code (.rangeFunc g ps.toArray as bd) :: k)) cs w) = .next (lone fr₁ cs₁ w₁) := by
    refine step_lone_go ?_
    have hro' : (f.fr tm ds (.code (.rangeFunc g ps.toArray as bd) :: k)).roundOf = none := hro
    rw [← hap, ← hres]
    simp only [Fc.fr] at hro' ⊢
    simp [stepG, stepG.exec, hro', Sem.runT_eq, he, GStep.bare_after]
  have hfin : ApTo (f.fr tm (markD w.heap.size :: ds) (.inRangeFunc (w.heap.size + 1) :: k)) cs (.returned v) w3 = lone (f.fr tm (markD w.heap.size :: ds) (.endRangeFunc (w.heap.size + 1) :: k)) cs w3 := rfl
  rw [hfin] at hsteps
  have hb := s4.has (Has.pto _ _ _)
  have hend := run_endLoop (P := P) hb hst
  have s5 : St G { w3 with heap := w3.heap.setIfInBounds (w.heap.size + 1) (.loop { state := .exhausted, pending := pend, fn := f.fn, tmps := tm, params := ps.toArray, assign := as, body := bd, defers := w.heap.size }) } (q1 ++ (pto w.heap.size (.deferred (some [])) :: F)) :=
    (St.setObj (o' := .loop { state := .exhausted, pending := pend, fn := f.fn, tmps := tm, params := ps.toArray, assign := as, body := bd, defers := w.heap.size }) s4).le (.drop _ _)
  have h2 : Go.step P (lone (f.fr tm (markD w.heap.size :: ds) (.endRangeFunc (w.heap.size + 1) :: k)) cs w3) =
      .next (lone (f.fr tm (markD w.heap.size :: ds) (pend.toList.map Item.code ++ k)) cs { w3 with heap := w3.heap.setIfInBounds (w.heap.size + 1) (.loop { state := .exhausted, pending := pend, fn := f.fn, tmps := tm, params := ps.toArray, assign := as, body := bd, defers := w.heap.size }) }) := by
    refine step_lone_go ?_
    simp only [stepG, stepG.exec, Fc.fr, Sem.runT_eq, hend, GStep.bare_after]
    cases pend <;> rfl
  have s6 := s5.le (ds := pto w.heap.size (.deferred (some [])) :: (q1 ++ F)) (by
    clear s5 h2 hend hb hsteps hR s4
    induction q1 with
    | nil => exact .refl _
    | cons A r ih => exact (ih.cons A).trans (Le.swap _ _ _))
  obtain ⟨o, tm', p', ds', cs', w', q', hQ, hn, ha, hs, arr⟩ := cont w.heap.size pend q1 hR tm _ n ag s6
  exact ⟨o, tm', p', ds', cs', w', q', hQ, hn, ha, hs, arr.head ((Steps.one h1).trans (hsteps.trans (.one h2)))⟩
end
/-! ### deferred calls of a loop that were none -/
theorem Lv.mark {P : Program} {G : World} {fn : FuncId} {R : Spec} {F : List HP} {ds : List Deferred} {u : FrameMode} {p : PE} {q q' : List HP} {r : Nat} (hu : u ≠ .run) (hq : Le q (pto r (.deferred (some [])) :: q'))
    (h : Lv P G fn R F ds u p q') : Lv P G fn R F (markD r :: ds) u p q := by
  intro tm w fr cs h1 h2 h3 h4 h5 ag s
  have s' := s.le hq
  have hb := s'.has (Has.pto _ _ _)
  have hrun : (Instr.takeDeferred r).run P w = .ok [] { w with heap := w.heap.setIfInBounds r (.deferred none) } := by
    have hg : (getObj r).run P w = .ok (.deferred (some [])) w := by simp [getObj, Sem.run, hb]
    simp only [Instr.takeDeferred, Sem.run_bind, hg, Result.andThen_ok]
    rw [run_setObj hb (by intro c e z; simp)]
    simp
  have s2 : St G { w with heap := w.heap.setIfInBounds r (.deferred none) } q' := (St.setObj (o' := .deferred none) s').le (.drop _ _)
  have hstep : Go.step P (lone fr cs w) = .next (lone { fr with defers := ds } cs { w with heap := w.heap.setIfInBounds r (.deferred none) }) := by
    refine step_lone_go ?_
    obtain ⟨fn', tmps', todo', defers', mode', kind', ro⟩ := fr
    simp only at h1 h2 h3 h4 h5
    subst h3 h4
    cases mode' with
    | run => exact absurd rfl hu
    | returning => simp [stepG, unwind, markD, Sem.runT_eq, hrun, GStep.bare_after]
    | panicking ch => simp [stepG, unwind, markD, Sem.runT_eq, hrun, GStep.bare_after]
  obtain ⟨e, w', fr', q'', hR, hne, hs, hst, hfn, hl⟩ := h tm _ { fr with defers := ds } cs h1 h2 rfl h4 h5 ag s2
  exact ⟨e, w', fr', q'', hR, hne, hs, (Steps.one hstep).trans hst, hfn, hl⟩
end Wx
