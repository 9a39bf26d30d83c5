/-
  Plain program logic, part 10: panics, deferred calls, recover.
-/
import Derived.Test.YtjkkefgkhafmfaaWx9
import Derived.Defers
import Derived.Recover
namespace Wx
open Go Go.RowKit
set_option linter.unusedVariables false
set_option linter.unusedSimpArgs false
/-- A deferred call of function number fn, whose caller stands in mode u. -/
def CallD (P : Program) (G : World) (fn : FuncId) (vs : List Value) (u : FrameMode) (pre : List HP) (R : Ending → FrameMode → List HP → Prop) : Prop :=
  ∀ (F : List HP) w, St G w (pre ++ F) → CallsD P fn vs.toArray u w fun e u' w' => e ≠ .outgrown ∧ ∃ q, R e u' q ∧ St G w' (q ++ F)
/-- How a deferred call's frame ends: over its caller c₀ and those behind. -/
def DQ (P : Program) (G : World) (fd : Func) (c₀ : Frame) (cs₀ : List Frame) (R : Ending → FrameMode → List HP → Prop) (F : List HP) : Post := fun o p ds cs q =>
  ds = [] ∧ ∃ u', cs = { c₀ with mode := u' } :: cs₀ ∧ match o with
  | .fall | .jump .ret => ∃ v q', (∀ tm w, Agr tm p → St G w q → (results fd tm).run P w = .ok v w) ∧ R (.returned v) u' q' ∧ Le q (q' ++ F)
  | .panic ch => ∃ q', R (.panicked ch) u' q' ∧ Le q (q' ++ F)
  | _ => False
section
variable {P : Program} {G : World} {fn : FuncId} {R : Spec} {F : List HP}
theorem Lv.defer {fv : Fn} {cap args : Array Value} {f : FuncId} {vs : List Value} {ds : List Deferred} {u : FrameMode} {p : PE} {q pre F₀ : List HP} {R₀ : Ending → FrameMode → List HP → Prop} (hu : u ≠ .run)
    (hi : ∀ w, (invoke (.fn fv cap) args).run P w = .ok (.enter f vs.toArray) w) (hc : CallD P G f vs u pre R₀) (hq : Le q (pre ++ F₀)) {fd : Func} (hf : P.funcs[fn]? = some fd)
    (hr : ∀ v u' q', R₀ (.returned v) u' q' → Lv P G fn R F ds (settle u') p (q' ++ F₀)) (hp : ∀ ch u' q', R₀ (.panicked ch) u' q' → Lv P G fn R F ds (raised u' ch) p (q' ++ F₀)) :
    Lv P G fn R F ({ target := .fn fv cap, args := args } :: ds) u p q := by
  intro tm w fr cs h1 h2 h3 h4 h5 ag s
  have hs1 := step_defer (P := P) (cs := cs) (w := w) (fr := fr) (d := { target := .fn fv cap, args := args }) (ds := ds) (h4 ▸ hu) h3 rfl (hi w)
  obtain ⟨e, u', w', frX, ⟨hne, q', hR, hs'⟩, hcom, hk, hgo⟩ := hc F₀ w (s.le hq) { fr with defers := ds } cs h4
  cases e with
  | returned v =>
    have h2' := step_going_returned (c := { { fr with defers := ds } with mode := u' }) (cs := cs) hk hgo
    obtain ⟨e', w'', fr', q'', hR', hne', hs'', hst, hfn, hl⟩ := hr v u' q' hR tm w' { { { fr with defers := ds } with mode := u' } with mode := settle u' } cs h1 h2 rfl rfl h5 ag hs'
    exact ⟨e', w'', fr', q'', hR', hne', hs'', (Steps.head hs1 (Steps.trans hcom (.one h2'))).trans hst, hfn, hl⟩
  | panicked ch =>
    have h2' := step_going_panicked (c := { { fr with defers := ds } with mode := u' }) (cs := cs) hgo
    obtain ⟨e', w'', fr', q'', hR', hne', hs'', hst, hfn, hl⟩ := hp ch u' q' hR tm w' { { { fr with defers := ds } with mode := u' } with mode := raised u' ch } cs h1 h2 rfl rfl h5 ag hs'
    exact ⟨e', w'', fr', q'', hR', hne', hs'', (Steps.head hs1 (Steps.trans hcom (.one h2'))).trans hst, hfn, hl⟩
  | outgrown => exact absurd rfl hne
theorem CallD.of {fd : Func} {c : Code} {n : Nat} {vs : List Value} {pre : List HP} {u : FrameMode} {R : Ending → FrameMode → List HP → Prop} (hf : P.funcs[fn]? = some fd) (hn : fd.ntmps = n) (hb : fd.body = some c)
    (h : ∀ F c₀ cs₀, c₀.mode = u → X P G ⟨fn, n, .deferred, none⟩ (DQ P G fd c₀ cs₀ R F) [.code c] (penv 0 vs) [] (c₀ :: cs₀) (pre ++ F)) (hl : Nat.ble vs.length n = true := by rfl) : CallD P G fn vs u pre R := by
  intro F w s c₀ cs₀ hu
  subst hn
  have hl' : vs.length ≤ fd.ntmps := by simpa using hl
  obtain ⟨o, tm', p', ds', cs', w', q', ⟨rfl, u', rfl, hQ⟩, hn', ha, hs, arr⟩ := h F c₀ cs₀ hu (vs.toArray ++ Array.replicate (fd.ntmps - vs.length) undef) w (by simp; omega) (agr_penv vs _) s
  have henter : Frame.enter P fn vs.toArray .deferred = Fc.fr ⟨fn, fd.ntmps, .deferred, none⟩ (vs.toArray ++ Array.replicate (fd.ntmps - vs.length) undef) [] [.code c] := by
    simp [Frame.enter, Fc.fr, hf, hb]
  rw [← henter] at arr
  cases o with
  | fall =>
    obtain ⟨v, q'', hr, hR, hq⟩ := hQ
    have h1 : step P (lone (Fc.fr ⟨fn, fd.ntmps, .deferred, none⟩ tm' [] []) ({ c₀ with mode := u' } :: cs₀) w') = .next (lone { Fc.fr ⟨fn, fd.ntmps, .deferred, none⟩ tm' [] [] with mode := .returning } ({ c₀ with mode := u' } :: cs₀) w') :=
      step_lone_go (by simp [stepG, stepG.exec, Fc.fr])
    exact ⟨.returned v, u', w', _, ⟨by simp, q'', hR, hs.le hq⟩, arr.trans (.one h1), rfl, rfl, rfl, fd, hf, hr tm' w' ha hs⟩
  | jump c' =>
    obtain ⟨k, g, arr⟩ := arr
    cases c' with
    | ret =>
      obtain ⟨v, q'', hr, hR, hq⟩ := hQ
      have h1 : step P (lone (Fc.fr ⟨fn, fd.ntmps, .deferred, none⟩ tm' [] (.code .ret :: k)) ({ c₀ with mode := u' } :: cs₀) w') = .next (lone { Fc.fr ⟨fn, fd.ntmps, .deferred, none⟩ tm' [] (.code .ret :: k) with mode := .returning } ({ c₀ with mode := u' } :: cs₀) w') :=
        step_lone_go (by simp [stepG, stepG.exec, Fc.fr])
      exact ⟨.returned v, u', w', _, ⟨by simp, q'', hR, hs.le hq⟩, arr.trans (.one h1), rfl, rfl, rfl, fd, hf, hr tm' w' ha hs⟩
    | _ => exact hQ.elim
  | panic ch =>
    obtain ⟨k, arr⟩ := arr
    obtain ⟨q'', hR, hq⟩ := hQ
    exact ⟨.panicked ch, u', w', _, ⟨by simp, q'', hR, hs.le hq⟩, arr, rfl, rfl, rfl, fd, hf⟩
end
/-! ### the operations -/
section
variable {P : Program} {G : World} {f : Fc} {Q : Post} {ops : List Oper} {k : List Item} {p : PE} {ds : List Deferred} {cs : List Frame} {q : List HP} {rest : List Oper} {d : Option Tmp} {ty : TypeId} {pos : String} {af : Array Edge} {gd : Option (Nat × Bool)} {x : Operand}
theorem Pn.panic {t : TypeId} {v : Value} (hx : evp p x = some (.iface t v)) : Pn P G p q ⟨d, .panic x, ty, pos, af, gd⟩ (.iface t v) := fun tm w ag s =>
  ⟨w, by simp [execOp, evA_of ag hx, Instr.panic, goPanic], s⟩
/-- recover, in a deferred call: what it tells and how the caller stands behind it. -/
theorem XO.recover_ {ats : Array TypeId} {v : Value} {cs' : List Frame} (hk : f.kind = .deferred) (hro : f.round = none) (hrec : (recoverD cs).getD (.nilIface, cs) = (v, cs')) (hd : dOk f.n d = true)
    (x : XO P G f Q ops.toArray k rest (putp p d v) ds cs' q) (hw : Wt ops p ⟨d, .call ⟨.builtin .recover, #[], ats⟩, ty, pos, af, gd⟩ = some true := by rfl) :
    XO P G f Q ops.toArray k (⟨d, .call ⟨.builtin .recover, #[], ats⟩, ty, pos, af, gd⟩ :: rest) p ds cs q := by
  intro is h tm w n a s
  cases is with
  | nil => simp at h
  | cons i r =>
    obtain ⟨ho, hr'⟩ := List.cons.inj h
    obtain ⟨o', tm', p', ds', cs'', w', q', hQ, hn, ha, hs, arr⟩ := x r hr' (putA tm d v) w (by rw [putA_size]; exact n) (a.put (n ▸ hd)) s
    refine ⟨o', tm', p', ds', cs'', w', q', hQ, hn, ha, hs, arr.head (.one (step_lone_go ?_))⟩
    rw [stepG_oper f tm ds cs w _ i r k ho (wanted_of a hw) (by intro _ h; cases h)]
    have hfin := finish_fr f tm ds _ i r k v ho
    have htr : tryRecover (f.fr tm ds (.inRegion ops.toArray (i :: r) :: k)) cs = recoverD cs := tryRecover_deferred hk cs
    have hro' : (f.fr tm ds (.inRegion ops.toArray (i :: r) :: k)).roundOf = none := hro
    have hex : (execOp (evA tm) ⟨d, .call ⟨.builtin .recover, #[], ats⟩, ty, pos, af, gd⟩).run P w = .ok .recover w := by simp [execOp, resolve, invoke, builtin]
    simp only at hfin
    rw [← hfin]
    cases hc : recoverD cs with
    | none =>
      rw [hc] at hrec htr
      simp at hrec
      obtain ⟨rfl, rfl⟩ := hrec
      simp [stepG.apply, hex, htr, hro']
    | some y =>
      rw [hc] at hrec htr
      simp at hrec
      subst hrec
      simp [stepG.apply, hex, htr, hro']
/-- A deferred call is laid by. -/
theorem XO.defer_ {fo : Operand} {args : List Operand} {ats : Array TypeId} {fv : Value} {vs : List Value} {D : Deferred} (hro : f.round = none) (hf : evp p fo = some fv) (hv : evl p args = some vs) (hD : ∀ w, (Deferred.ofValue fv vs.toArray).run P w = .ok D w) (hd : dOk f.n d = true)
    (x : XO P G f Q ops.toArray k rest (putp p d undef) (D :: ds) cs q) (hw : Wt ops p ⟨d, .defer ⟨.value fo, args.toArray, ats⟩, ty, pos, af, gd⟩ = some true := by rfl) :
    XO P G f Q ops.toArray k (⟨d, .defer ⟨.value fo, args.toArray, ats⟩, ty, pos, af, gd⟩ :: rest) p ds cs q := by
  intro is h tm w n a s
  cases is with
  | nil => simp at h
  | cons i r =>
    obtain ⟨ho, hr'⟩ := List.cons.inj h
    obtain ⟨o', tm', p', ds', cs'', w', q', hQ, hn, ha, hs, arr⟩ := x r hr' (putA tm d undef) w (by rw [putA_size]; exact n) (a.put (n ▸ hd)) s
    refine ⟨o', tm', p', ds', cs'', w', q', hQ, hn, ha, hs, arr.head (.one (step_lone_go ?_))⟩
    have hfin := finish_fr f tm (D :: ds) _ i r k undef ho
    simp only at hfin
    rw [← hfin]
    have h1 := evA_of a hf
    have h2 : args.toArray.map (evA tm) = vs.toArray := by rw [← evl_of a hv]; simp
    have he : (f.fr tm ds (.inRegion ops.toArray (i :: r) :: k)).eval = evA tm := funext fun x => frame_eval ..
    simp only [Fc.fr, hro] at he
    have hww := wanted_of a hw
    simp only [stepG, stepG.exec, stepG.oper, Frame.oper?, Fc.fr, ho, hww, he, Option.map_some, Option.getD_some, if_true, hro]
    simp [stepG.apply, execOp, resolve, h1, h2, hD, Fc.fr]
end
end Wx
