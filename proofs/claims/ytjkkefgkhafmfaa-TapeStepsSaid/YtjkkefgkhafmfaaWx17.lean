/-
  Plain program logic, part 17: functions that recover.
-/
import Derived.Test.YtjkkefgkhafmfaaWx16
namespace Wx
open Go Go.RowKit
set_option linter.unusedVariables false
section
variable {P : Program} {G : World} {f : Fc} {Q : Post} {ops : List Oper} {k : List Item} {p : PE} {ds : List Deferred} {cs : List Frame} {q : List HP} {rest : List Oper} {v : Value}
section
variable {pk : PE} {L : Rds} {n : Nat} {done : List Nat} {args : List Operand} {ats : Array TypeId} {ty : TypeId} {pos : String} {af : Array Edge} {gd : Option (Nat × Bool)} {vs : List Value} {pre : List HP} {R : Value → List HP → Prop} {Rp : List PanicEntry → List HP → Prop} {d : Tmp} {fn : FuncId}
theorem XD.cP (i : Nat) (hcf : ∀ args w, (callFunc fn args).run P w = .ok (.enter fn args) w) (hq : Le q pre) (hc : CallF P G fn vs pre (RP R Rp)) (xp : ∀ ch q', Rp ch q' → Q (.panic ch) pk ds cs q')
    (K : ∀ v q', R v q' → HL q' (cut ⟨some d, .call ⟨.value (.func fn), args.toArray, ats⟩, ty, pos, af, gd⟩ L) ∧ XD P G f Q ops k pk (cut ⟨some d, .call ⟨.value (.func fn), args.toArray, ats⟩, ty, pos, af, gd⟩ L) n (i :: done) ((d, v) :: p) ds cs q')
    (hpk : SubP pk p) (ho : ops[i]? = some ⟨some d, .call ⟨.value (.func fn), args.toArray, ats⟩, ty, pos, af, gd⟩ := by rfl) (hv : evl p args = some vs := by rfl)
    (h1 : onlyR ops done i = true := by rfl) (hr : rdy ops done i = true := by rfl) (hw : Wt ops p ⟨some d, .call ⟨.value (.func fn), args.toArray, ats⟩, ty, pos, af, gd⟩ = some true := by rfl) (hd : Nat.blt d f.n = true := by rfl) : XD P G f Q ops k pk L (n + 1) done p ds cs q :=
  .one (R := fun e q'' => RP R Rp e q'') i ho (fun tm w ag s => by
      rw [exec_call ag (show evp p (.func fn) = some (.func (.func fn) #[] #[]) from rfl) hv]
      exact ((callE_F hcf hc) [] w ((s.le hq).le (le_nil_r pre))).mono fun e w' _ ⟨q', hR, s'⟩ => ⟨q', hR, by rw [List.append_nil] at s'; exact s'⟩)
    (fun v q'' h => by rcases h with ⟨_, e, r⟩ | ⟨_, e, _⟩ <;> cases e; exact K v q'' r) (fun ch q'' h => by rcases h with ⟨_, e, _⟩ | ⟨_, e, r⟩ <;> cases e; exact ⟨xp ch q'' r, hpk⟩) h1 hr hw hd
end
section
variable {pk : PE} {L : Rds} {n : Nat} {done : List Nat} {args : List Operand} {ats : Array TypeId} {ty : TypeId} {pos : String} {af : Array Edge} {gd : Option (Nat × Bool)} {vs : List Value} {pre : List HP} {R : Value → List HP → Prop} {d : Tmp} {fn : FuncId}
theorem XD.cX (i : Nat) (hcf : ∀ args w, (callFunc fn args).run P w = .ok (.enter fn args) w) (hq : Le q pre) (hc : CallF P G fn vs pre (Ret R))
    (K : ∀ v q', R v q' → HL q' (cut ⟨some d, .call ⟨.value (.func fn), args.toArray, ats⟩, ty, pos, af, gd⟩ L) ∧ XD P G f Q ops k pk (cut ⟨some d, .call ⟨.value (.func fn), args.toArray, ats⟩, ty, pos, af, gd⟩ L) n (i :: done) ((d, v) :: p) ds cs q')
    (ho : ops[i]? = some ⟨some d, .call ⟨.value (.func fn), args.toArray, ats⟩, ty, pos, af, gd⟩ := by rfl) (hv : evl p args = some vs := by rfl)
    (h1 : onlyR ops done i = true := by rfl) (hr : rdy ops done i = true := by rfl) (hw : Wt ops p ⟨some d, .call ⟨.value (.func fn), args.toArray, ats⟩, ty, pos, af, gd⟩ = some true := by rfl) (hd : Nat.blt d f.n = true := by rfl) : XD P G f Q ops k pk L (n + 1) done p ds cs q :=
  .callF i hcf hc ho hv (hq.trans (le_nil_r pre)) (fun v q' h q'' e => by rw [List.append_nil] at e; rw [e]; exact K v q' h) h1 hr hw hd
end
/-- A deferred call of a closure that takes nothing. -/
def dfr (fn : FuncId) (cl : List Value) : Deferred := { target := .fn (.func fn) cl.toArray, args := #[] }
theorem XO.dfr {fo : Operand} {ats : Array TypeId} {fn : FuncId} {cl : List Value} {d : Option Tmp} {ty : TypeId} {pos : String} {af : Array Edge} {gd : Option (Nat × Bool)} (x : XO P G f Q ops.toArray k rest (putp p d undef) (Wx.dfr fn cl :: ds) cs q)
    (hf : evp p fo = some (.func (.func fn) [].toArray cl.toArray) := by rfl) (hro : f.round = none := by rfl) (hd : dOk f.n d = true := by rfl)
    (hw : Wt ops p ⟨d, .defer ⟨.value fo, [].toArray, ats⟩, ty, pos, af, gd⟩ = some true := by rfl) :
    XO P G f Q ops.toArray k (⟨d, .defer ⟨.value fo, [].toArray, ats⟩, ty, pos, af, gd⟩ :: rest) p ds cs q :=
  .defer_ hro hf rfl (fun w => by simp [Deferred.ofValue, Wx.dfr]) hd x hw
/-- What a deferred call does where nothing was thrown: nothing. -/
def Quiet (P : Program) (G : World) (fn : FuncId) (cl : List Value) : Prop := CallD P G fn cl .returning [] fun e u q => (∃ v, e = .returned v) ∧ u = .returning ∧ q = []
/-- What it does where E was thrown: it recovers, and turns memory. -/
def Catches (P : Program) (G : World) (fn : FuncId) (cl : List Value) (E : PanicEntry) (pre post : List HP) : Prop :=
  CallD P G fn cl (.panicking [E]) pre fun e u q => (∃ v, e = .returned v) ∧ u = .panicking [{ E with recovered := true }] ∧ q = post
section
variable {fn fn2 : FuncId} {R : Spec} {F : List HP} {fd fd2 : Func} {cl : List Value} {E : PanicEntry} {pre post F₀ : List HP}
theorem Lv.quiet (hcf : ∀ args w, (callFunc fn2 args).run P w = .ok (.enter fn2 args) w) (hf : P.funcs[fn]? = some fd) (hc : Quiet P G fn2 cl) (h : Lv P G fn R F ds .returning p q) : Lv P G fn R F (Wx.dfr fn2 cl :: ds) .returning p q :=
  Lv.defer (vs := cl) (F₀ := q) (by simp) (fun w => by simp [invoke, hcf]) hc (.refl _) hf (fun v u' q' ⟨_, e1, e2⟩ => by subst e1; subst e2; exact h) (fun ch u' q' ⟨⟨v, e⟩, _⟩ => by cases e)
theorem Lv.catches (hcf : ∀ args w, (callFunc fn2 args).run P w = .ok (.enter fn2 args) w) (hf : P.funcs[fn]? = some fd) (hc : Catches P G fn2 cl E pre post) (hq : Le q (pre ++ F₀)) (hg : E.goexit = false) (h : Lv P G fn R F [] .returning p (post ++ F₀)) : Lv P G fn R F [Wx.dfr fn2 cl] (.panicking [E]) p q :=
  Lv.defer (vs := cl) (F₀ := F₀) (by simp) (fun w => by simp [invoke, hcf]) hc hq hf (fun v u' q' ⟨_, e1, e2⟩ => by subst e1; subst e2; exact h) (fun ch u' q' ⟨⟨v, e⟩, _⟩ => by cases e)
theorem Quiet.of {c : Code} {n : Nat} (hf : P.funcs[fn]? = some fd) (hn : fd.ntmps = n) (hb : fd.body = some c) (h : ∀ F c₀ cs₀, (recoverD (c₀ :: cs₀)).getD (.nilIface, c₀ :: cs₀) = (.nilIface, c₀ :: cs₀) →
      X P G ⟨fn, n, .deferred, none⟩ (fun o p ds cs q => cs = c₀ :: cs₀ ∧ ds = [] ∧ (o = .fall ∨ o = .jump .ret) ∧ (∃ v, ∀ tm w, Agr tm p → St G w q → (results fd tm).run P w = .ok v w) ∧ Le q F) [.code c] (penv 0 cl) [] (c₀ :: cs₀) F) (hl : Nat.ble cl.length n = true := by rfl) : Quiet P G fn cl := by
  refine CallD.of hf hn hb (fun F c₀ cs₀ hm => ?_) hl
  refine fun tm w hn ha s => ?_
  obtain ⟨o, tm', p', ds', cs', w', q', ⟨hcs, hds, ho, ⟨v, hv⟩, hle⟩, h1, h2, h3, h4⟩ := h F c₀ cs₀ (by simp [recoverD, hm]) tm w hn ha s
  refine ⟨o, tm', p', ds', cs', w', q', ⟨hds, .returning, ?_, ?_⟩, h1, h2, h3, h4⟩
  · rw [hcs, ← hm]
  · rcases ho with rfl | rfl <;> exact ⟨v, [], hv, ⟨⟨v, rfl⟩, rfl, rfl⟩, hle⟩
theorem Catches.of {c : Code} {n : Nat} {ev : Value} (hf : P.funcs[fn]? = some fd) (hn : fd.ntmps = n) (hb : fd.body = some c) (hE : E = { v := ev, recovered := false }) (h : ∀ F c₀ cs₀, (recoverD (c₀ :: cs₀)).getD (.nilIface, c₀ :: cs₀) = (ev, { c₀ with mode := .panicking [{ E with recovered := true }] } :: cs₀) →
      X P G ⟨fn, n, .deferred, none⟩ (fun o p ds cs q => cs = { c₀ with mode := .panicking [{ E with recovered := true }] } :: cs₀ ∧ ds = [] ∧ (o = .fall ∨ o = .jump .ret) ∧ (∃ v, ∀ tm w, Agr tm p → St G w q → (results fd tm).run P w = .ok v w) ∧ Le q (post ++ F)) [.code c] (penv 0 cl) [] (c₀ :: cs₀) (pre ++ F))
    (hl : Nat.ble cl.length n = true := by rfl) : Catches P G fn cl E pre post := by
  refine CallD.of hf hn hb (fun F c₀ cs₀ hm => ?_) hl
  refine fun tm w hn ha s => ?_
  obtain ⟨o, tm', p', ds', cs', w', q', ⟨hcs, hds, ho, ⟨v, hv⟩, hle⟩, h1, h2, h3, h4⟩ := h F c₀ cs₀ (by simp [recoverD, hm, hE]) tm w hn ha s
  refine ⟨o, tm', p', ds', cs', w', q', ⟨hds, _, hcs, ?_⟩, h1, h2, h3, h4⟩
  rcases ho with rfl | rfl <;> exact ⟨v, post, hv, ⟨⟨v, rfl⟩, rfl, rfl⟩, hle⟩
end
/-- recover, in a deferred call. -/
theorem XO.rcv {ats : Array TypeId} {v : Value} {cs' : List Frame} {d : Tmp} {ty : TypeId} {pos : String} {af : Array Edge} {gd : Option (Nat × Bool)} (hrec : (recoverD cs).getD (.nilIface, cs) = (v, cs')) (x : XO P G f Q ops.toArray k rest ((d, v) :: p) ds cs' q)
    (hk : f.kind = .deferred := by rfl) (hro : f.round = none := by rfl) (hd : Nat.blt d f.n = true := by rfl) (hw : Wt ops p ⟨some d, .call ⟨.builtin .recover, #[], ats⟩, ty, pos, af, gd⟩ = some true := by rfl) :
    XO P G f Q ops.toArray k (⟨some d, .call ⟨.builtin .recover, #[], ats⟩, ty, pos, af, gd⟩ :: rest) p ds cs q := .recover_ hk hro hrec hd x hw
end
end Wx
