/-
  Plain program logic, part 16: calls that may panic; calls that turn one chunk and read the others.
-/
import Derived.Test.YtjkkefgkhafmfaaWx15
namespace Wx
open Go Go.RowKit
set_option linter.unusedVariables false
/-- A contract that returns, or panics with what is thrown. -/
def RP (R : Value → List HP → Prop) (Rp : List PanicEntry → List HP → Prop) : Spec := fun e q => (∃ v, e = .returned v ∧ R v q) ∨ (∃ ch, e = .panicked ch ∧ Rp ch q)
section
variable {P : Program} {G : World} {f : Fc} {Q : Post} {ops : List Oper} {k : List Item} {p : PE} {ds : List Deferred} {cs : List Frame} {q : List HP} {rest : List Oper} {v : Value}
section
variable {α : Type} {fl : α → List Value} {sz ty : Nat} {a : Option Addr} {c : Nat} {l : List α} {r : List HP}
theorem X.rsadr {todo : List Item} (h : 0 < l.length) (x : ∀ g, a = some ⟨g, 0, none⟩ → X P G f Q todo p ds cs q) (hq : Le q (rsH fl sz ty a c l :: r) := by exact fndA) : X P G f Q todo p ds cs q :=
  .fact (fun w s => (s.le hq).rsAddr h) fun ⟨g, e⟩ => x g e
theorem XO.rsadr (h : 0 < l.length) (x : ∀ g, a = some ⟨g, 0, none⟩ → XO P G f Q ops.toArray k rest p ds cs q) (hq : Le q (rsH fl sz ty a c l :: r) := by exact fndA) : XO P G f Q ops.toArray k rest p ds cs q :=
  .fact (fun w s => (s.le hq).rsAddr h) fun ⟨g, e⟩ => x g e
theorem X.lsadr {todo : List Item} {fl : α → Value} (h : 0 < l.length) (x : ∀ g, a = some ⟨g, 0, none⟩ → X P G f Q todo p ds cs q) (hq : Le q (lsH fl ty a c l :: r) := by exact fndA) : X P G f Q todo p ds cs q :=
  .fact (fun w s => (s.le hq).lsAddr h) fun ⟨g, e⟩ => x g e
theorem XO.lsadr {fl : α → Value} (h : 0 < l.length) (x : ∀ g, a = some ⟨g, 0, none⟩ → XO P G f Q ops.toArray k rest p ds cs q) (hq : Le q (lsH fl ty a c l :: r) := by exact fndA) : XO P G f Q ops.toArray k rest p ds cs q :=
  .fact (fun w s => (s.le hq).lsAddr h) fun ⟨g, e⟩ => x g e
theorem XD.rsadr {pk : PE} {L : Rds} {n : Nat} {done : List Nat} (h : 0 < l.length) (x : ∀ g, a = some ⟨g, 0, none⟩ → XD P G f Q ops k pk L n done p ds cs q) (hq : Le q (rsH fl sz ty a c l :: r) := by exact fndA) : XD P G f Q ops k pk L n done p ds cs q :=
  .fact (fun w s => (s.le hq).rsAddr h) fun ⟨g, e⟩ => x g e
end
section
variable {args : List Operand} {ats : Array TypeId} {ty : TypeId} {pos : String} {af : Array Edge} {gd : Option (Nat × Bool)} {vs : List Value} {pre : List HP} {R : Value → List HP → Prop} {Rp : List PanicEntry → List HP → Prop} {d : Tmp} {fn : FuncId} {fo : Operand} {fv : Value}
theorem callE_F {sp : Spec} (hcf : ∀ args w, (callFunc fn args).run P w = .ok (.enter fn args) w) (hc : CallF P G fn vs pre sp) : CallV P G (.func (.func fn) #[] #[]) vs pre sp :=
  CallV.of_callF (a := []) (b := []) hcf (by simpa using hc)
/-- A call whose chunks are all that stand. -/
theorem XO.cX (hcf : ∀ args w, (callFunc fn args).run P w = .ok (.enter fn args) w) (hq : Le q pre) (hc : CallF P G fn vs pre (Ret R)) (x : ∀ v q', R v q' → XO P G f Q ops.toArray k rest ((d, v) :: p) ds cs q') (hv : evl p args = some vs := by rfl)
    (hw : Wt ops p ⟨some d, .call ⟨.value (.func fn), args.toArray, ats⟩, ty, pos, af, gd⟩ = some true := by rfl) (hd : Nat.blt d f.n = true := by rfl) :
    XO P G f Q ops.toArray k (⟨some d, .call ⟨.value (.func fn), args.toArray, ats⟩, ty, pos, af, gd⟩ :: rest) p ds cs q :=
  .callF hcf hc hv (hq.trans (le_nil_r pre)) (fun v q' h q'' e => by rw [List.append_nil] at e; rw [e]; exact x v q' h) hw hd
theorem XO.cX0 (hcf : ∀ args w, (callFunc fn args).run P w = .ok (.enter fn args) w) (hq : Le q pre) (hc : CallF P G fn vs pre (Ret R)) (x : ∀ v q', R v q' → XO P G f Q ops.toArray k rest p ds cs q') (hv : evl p args = some vs := by rfl)
    (hw : Wt ops p ⟨none, .call ⟨.value (.func fn), args.toArray, ats⟩, ty, pos, af, gd⟩ = some true := by rfl) :
    XO P G f Q ops.toArray k (⟨none, .call ⟨.value (.func fn), args.toArray, ats⟩, ty, pos, af, gd⟩ :: rest) p ds cs q :=
  .callF0 hcf hc hv (hq.trans (le_nil_r pre)) (fun v q' h q'' e => by rw [List.append_nil] at e; rw [e]; exact x v q' h) hw
/-- One that may panic. -/
theorem XO.cP (hcf : ∀ args w, (callFunc fn args).run P w = .ok (.enter fn args) w) (hq : Le q pre) (hc : CallF P G fn vs pre (RP R Rp)) (xp : ∀ ch q', Rp ch q' → Q (.panic ch) p ds cs q') (x : ∀ v q', R v q' → XO P G f Q ops.toArray k rest ((d, v) :: p) ds cs q') (hv : evl p args = some vs := by rfl)
    (hw : Wt ops p ⟨some d, .call ⟨.value (.func fn), args.toArray, ats⟩, ty, pos, af, gd⟩ = some true := by rfl) (hd : Nat.blt d f.n = true := by rfl) :
    XO P G f Q ops.toArray k (⟨some d, .call ⟨.value (.func fn), args.toArray, ats⟩, ty, pos, af, gd⟩ :: rest) p ds cs q :=
  .callE hw hd rfl hv (callE_F hcf hc) (hq.trans (le_nil_r pre))
    (fun v q' h => by rcases h with ⟨_, h, r⟩ | ⟨_, h, _⟩ <;> cases h; rw [List.append_nil]; exact x v q' r)
    (fun ch q' h => by rcases h with ⟨_, h, r⟩ | ⟨_, h, r⟩ <;> cases h; rw [List.append_nil]; exact xp ch q' r)
theorem XO.cP0 (hcf : ∀ args w, (callFunc fn args).run P w = .ok (.enter fn args) w) (hq : Le q pre) (hc : CallF P G fn vs pre (RP R Rp)) (xp : ∀ ch q', Rp ch q' → Q (.panic ch) p ds cs q') (x : ∀ v q', R v q' → XO P G f Q ops.toArray k rest p ds cs q') (hv : evl p args = some vs := by rfl)
    (hw : Wt ops p ⟨none, .call ⟨.value (.func fn), args.toArray, ats⟩, ty, pos, af, gd⟩ = some true := by rfl) :
    XO P G f Q ops.toArray k (⟨none, .call ⟨.value (.func fn), args.toArray, ats⟩, ty, pos, af, gd⟩ :: rest) p ds cs q :=
  .callE hw rfl rfl hv (callE_F hcf hc) (hq.trans (le_nil_r pre))
    (fun v q' h => by rcases h with ⟨_, h, r⟩ | ⟨_, h, _⟩ <;> cases h; rw [List.append_nil]; exact x v q' r)
    (fun ch q' h => by rcases h with ⟨_, h, r⟩ | ⟨_, h, r⟩ <;> cases h; rw [List.append_nil]; exact xp ch q' r)
end
/-! calling a closure: so many arguments, so many variables that it holds -/
section
variable {fn : FuncId} {pre : List HP} {sp : Spec}
theorem CallV.c00 (hcf : ∀ args w, (callFunc fn args).run P w = .ok (.enter fn args) w) (h : CallF P G fn [] pre sp) : CallV P G (.func (.func fn) [].toArray [].toArray) [] pre sp := CallV.of_callF (a := []) (b := []) hcf h
theorem CallV.c01 {c0 : Value} (hcf : ∀ args w, (callFunc fn args).run P w = .ok (.enter fn args) w) (h : CallF P G fn [c0] pre sp) : CallV P G (.func (.func fn) [].toArray [c0].toArray) [] pre sp := CallV.of_callF (a := []) (b := [c0]) hcf h
theorem CallV.c02 {c0 c1 : Value} (hcf : ∀ args w, (callFunc fn args).run P w = .ok (.enter fn args) w) (h : CallF P G fn [c0, c1] pre sp) : CallV P G (.func (.func fn) [].toArray [c0, c1].toArray) [] pre sp := CallV.of_callF (a := []) (b := [c0, c1]) hcf h
theorem CallV.c03 {c0 c1 c2 : Value} (hcf : ∀ args w, (callFunc fn args).run P w = .ok (.enter fn args) w) (h : CallF P G fn [c0, c1, c2] pre sp) : CallV P G (.func (.func fn) [].toArray [c0, c1, c2].toArray) [] pre sp := CallV.of_callF (a := []) (b := [c0, c1, c2]) hcf h
theorem CallV.c04 {c0 c1 c2 c3 : Value} (hcf : ∀ args w, (callFunc fn args).run P w = .ok (.enter fn args) w) (h : CallF P G fn [c0, c1, c2, c3] pre sp) : CallV P G (.func (.func fn) [].toArray [c0, c1, c2, c3].toArray) [] pre sp := CallV.of_callF (a := []) (b := [c0, c1, c2, c3]) hcf h
theorem CallV.c10 {x0 : Value} (hcf : ∀ args w, (callFunc fn args).run P w = .ok (.enter fn args) w) (h : CallF P G fn [x0] pre sp) : CallV P G (.func (.func fn) [].toArray [].toArray) [x0] pre sp := CallV.of_callF (a := []) (b := []) hcf h
theorem CallV.c11 {x0 c0 : Value} (hcf : ∀ args w, (callFunc fn args).run P w = .ok (.enter fn args) w) (h : CallF P G fn [x0, c0] pre sp) : CallV P G (.func (.func fn) [].toArray [c0].toArray) [x0] pre sp := CallV.of_callF (a := []) (b := [c0]) hcf h
theorem CallV.c12 {x0 c0 c1 : Value} (hcf : ∀ args w, (callFunc fn args).run P w = .ok (.enter fn args) w) (h : CallF P G fn [x0, c0, c1] pre sp) : CallV P G (.func (.func fn) [].toArray [c0, c1].toArray) [x0] pre sp := CallV.of_callF (a := []) (b := [c0, c1]) hcf h
theorem CallV.c13 {x0 c0 c1 c2 : Value} (hcf : ∀ args w, (callFunc fn args).run P w = .ok (.enter fn args) w) (h : CallF P G fn [x0, c0, c1, c2] pre sp) : CallV P G (.func (.func fn) [].toArray [c0, c1, c2].toArray) [x0] pre sp := CallV.of_callF (a := []) (b := [c0, c1, c2]) hcf h
theorem CallV.c14 {x0 c0 c1 c2 c3 : Value} (hcf : ∀ args w, (callFunc fn args).run P w = .ok (.enter fn args) w) (h : CallF P G fn [x0, c0, c1, c2, c3] pre sp) : CallV P G (.func (.func fn) [].toArray [c0, c1, c2, c3].toArray) [x0] pre sp := CallV.of_callF (a := []) (b := [c0, c1, c2, c3]) hcf h
theorem CallV.c20 {x0 x1 : Value} (hcf : ∀ args w, (callFunc fn args).run P w = .ok (.enter fn args) w) (h : CallF P G fn [x0, x1] pre sp) : CallV P G (.func (.func fn) [].toArray [].toArray) [x0, x1] pre sp := CallV.of_callF (a := []) (b := []) hcf h
theorem CallV.c21 {x0 x1 c0 : Value} (hcf : ∀ args w, (callFunc fn args).run P w = .ok (.enter fn args) w) (h : CallF P G fn [x0, x1, c0] pre sp) : CallV P G (.func (.func fn) [].toArray [c0].toArray) [x0, x1] pre sp := CallV.of_callF (a := []) (b := [c0]) hcf h
theorem CallV.c22 {x0 x1 c0 c1 : Value} (hcf : ∀ args w, (callFunc fn args).run P w = .ok (.enter fn args) w) (h : CallF P G fn [x0, x1, c0, c1] pre sp) : CallV P G (.func (.func fn) [].toArray [c0, c1].toArray) [x0, x1] pre sp := CallV.of_callF (a := []) (b := [c0, c1]) hcf h
theorem CallV.c23 {x0 x1 c0 c1 c2 : Value} (hcf : ∀ args w, (callFunc fn args).run P w = .ok (.enter fn args) w) (h : CallF P G fn [x0, x1, c0, c1, c2] pre sp) : CallV P G (.func (.func fn) [].toArray [c0, c1, c2].toArray) [x0, x1] pre sp := CallV.of_callF (a := []) (b := [c0, c1, c2]) hcf h
theorem CallV.c24 {x0 x1 c0 c1 c2 c3 : Value} (hcf : ∀ args w, (callFunc fn args).run P w = .ok (.enter fn args) w) (h : CallF P G fn [x0, x1, c0, c1, c2, c3] pre sp) : CallV P G (.func (.func fn) [].toArray [c0, c1, c2, c3].toArray) [x0, x1] pre sp := CallV.of_callF (a := []) (b := [c0, c1, c2, c3]) hcf h
theorem CallV.c30 {x0 x1 x2 : Value} (hcf : ∀ args w, (callFunc fn args).run P w = .ok (.enter fn args) w) (h : CallF P G fn [x0, x1, x2] pre sp) : CallV P G (.func (.func fn) [].toArray [].toArray) [x0, x1, x2] pre sp := CallV.of_callF (a := []) (b := []) hcf h
theorem CallV.c31 {x0 x1 x2 c0 : Value} (hcf : ∀ args w, (callFunc fn args).run P w = .ok (.enter fn args) w) (h : CallF P G fn [x0, x1, x2, c0] pre sp) : CallV P G (.func (.func fn) [].toArray [c0].toArray) [x0, x1, x2] pre sp := CallV.of_callF (a := []) (b := [c0]) hcf h
theorem CallV.c32 {x0 x1 x2 c0 c1 : Value} (hcf : ∀ args w, (callFunc fn args).run P w = .ok (.enter fn args) w) (h : CallF P G fn [x0, x1, x2, c0, c1] pre sp) : CallV P G (.func (.func fn) [].toArray [c0, c1].toArray) [x0, x1, x2] pre sp := CallV.of_callF (a := []) (b := [c0, c1]) hcf h
theorem CallV.c33 {x0 x1 x2 c0 c1 c2 : Value} (hcf : ∀ args w, (callFunc fn args).run P w = .ok (.enter fn args) w) (h : CallF P G fn [x0, x1, x2, c0, c1, c2] pre sp) : CallV P G (.func (.func fn) [].toArray [c0, c1, c2].toArray) [x0, x1, x2] pre sp := CallV.of_callF (a := []) (b := [c0, c1, c2]) hcf h
theorem CallV.c34 {x0 x1 x2 c0 c1 c2 c3 : Value} (hcf : ∀ args w, (callFunc fn args).run P w = .ok (.enter fn args) w) (h : CallF P G fn [x0, x1, x2, c0, c1, c2, c3] pre sp) : CallV P G (.func (.func fn) [].toArray [c0, c1, c2, c3].toArray) [x0, x1, x2] pre sp := CallV.of_callF (a := []) (b := [c0, c1, c2, c3]) hcf h
end
/-- A panic goes on through a function that has no deferred calls. -/
theorem FQ.panic {fn : FuncId} {R : Spec} {F q' : List HP} {fd : Func} {ch : List PanicEntry} (hf : P.funcs[fn]? = some fd) (h : R (.panicked ch) q') (hq : Le q (q' ++ F) := by exact leA) : FQ P G fn cs R F (.panic ch) p [] cs q := ⟨rfl, Lv.panic hf h hq⟩
theorem RP.ret {R : Value → List HP → Prop} {Rp : List PanicEntry → List HP → Prop} {q' : List HP} (h : R v q') : RP R Rp (.returned v) q' := .inl ⟨v, rfl, h⟩
theorem RP.thr {R : Value → List HP → Prop} {Rp : List PanicEntry → List HP → Prop} {q' : List HP} {ch : List PanicEntry} (h : Rp ch q') : RP R Rp (.panicked ch) q' := .inr ⟨ch, rfl, h⟩
end
end Wx
