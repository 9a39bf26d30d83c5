/-
  Plain program logic, part 25: values of functions that may panic; interfaces that are compared with nil.
-/
import Derived.Test.YtjkkefgkhafmfaaWx24
namespace Wx
open Go Go.RowKit
set_option linter.unusedVariables false
set_option linter.unusedSimpArgs false
theorem Le.mid (A : HP) (a b : List HP) : Le (A :: (a ++ b)) (a ++ A :: b) := by
  induction a with
  | nil => exact Le.refl _
  | cons x a ih => exact (Le.swap _ _ _).trans (ih.cons x)
theorem Le.unmid (A : HP) (a b : List HP) : Le (a ++ A :: b) (A :: (a ++ b)) := by
  induction a with
  | nil => exact Le.refl _
  | cons x a ih => exact (ih.cons x).trans (Le.swap _ _ _)
section
variable {P : Program} {G : World} {f : Fc} {Q : Post} {ops : List Oper} {k : List Item} {p : PE} {ds : List Deferred} {cs : List Frame} {q : List HP} {rest : List Oper}
/-- A call of a value that may panic. -/
theorem XO.cVP {args : List Operand} {ats : Array TypeId} {ty : TypeId} {pos : String} {af : Array Edge} {gd : Option (Nat × Bool)} {vs : List Value} {pre F : List HP} {R : Value → List HP → Prop} {Rp : List PanicEntry → List HP → Prop} {d : Tmp} {fo : Operand} {fv : Value}
    (hc : CallV P G fv vs pre (RP R Rp)) (hq : Le q (pre ++ F)) (xp : ∀ ch q', Rp ch q' → Q (.panic ch) p ds cs (q' ++ F)) (x : ∀ v q', R v q' → XO P G f Q ops.toArray k rest ((d, v) :: p) ds cs (q' ++ F)) (hf : evp p fo = some fv := by rfl) (hv : evl p args = some vs := by rfl)
    (hw : Wt ops p ⟨some d, .call ⟨.value fo, args.toArray, ats⟩, ty, pos, af, gd⟩ = some true := by rfl) (hd : Nat.blt d f.n = true := by rfl) :
    XO P G f Q ops.toArray k (⟨some d, .call ⟨.value fo, args.toArray, ats⟩, ty, pos, af, gd⟩ :: rest) p ds cs q :=
  .callE hw hd hf hv hc hq
    (fun v q' h => by rcases h with ⟨_, h, r⟩ | ⟨_, h, _⟩ <;> cases h; exact x v q' r)
    (fun ch q' h => by rcases h with ⟨_, h, r⟩ | ⟨_, h, r⟩ <;> cases h; exact xp ch q' r)
end
section
variable {P : Program} {p : PE} {d : Option Tmp} {ty : TypeId} {pos : String} {af : Array Edge} {gd : Option (Nat × Bool)} {x y : Operand} {t t' : TypeId}
theorem eqlINil_ (k : Nat) {m : Array (String × TypeId)} (ht : P.underlying t = some (.interface m)) (w : World) : (Op.equalIn (k + 1) t .nilIface .nilIface).run P w = .ok true w := by
  simp [Op.equalIn, run_underlying ht]
theorem eqlIVal_ (k : Nat) {m : Array (String × TypeId)} (ht : P.underlying t = some (.interface m)) (u : TypeId) (v : Value) (w : World) : (Op.equalIn (k + 1) t (.iface u v) .nilIface).run P w = .ok false w := by
  simp [Op.equalIn, run_underlying ht]
theorem Pu.neqINil {m : Array (String × TypeId)} (hx : evp p x = some .nilIface) (ht : P.underlying t = some (.interface m)) :
    Pu P p ⟨d, .binOp .neq t x (.const .nilIface) t', ty, pos, af, gd⟩ (.bool false) := fun tm w ag => by
  have he : (Op.equal t .nilIface .nilIface).run P w = .ok true w := eqlINil_ 9999 ht w
  have hn : evA tm (.const .nilIface) = .nilIface := rfl
  simp [execOp, evA_of ag hx, hn, eqGuard, Go.binOp, he]
theorem Pu.neqIVal {m : Array (String × TypeId)} {u : TypeId} {v : Value} (hx : evp p x = some (.iface u v)) (ht : P.underlying t = some (.interface m)) :
    Pu P p ⟨d, .binOp .neq t x (.const .nilIface) t', ty, pos, af, gd⟩ (.bool true) := fun tm w ag => by
  have he : (Op.equal t (.iface u v) .nilIface).run P w = .ok false w := eqlIVal_ 9999 ht u v w
  have hn : evA tm (.const .nilIface) = .nilIface := rfl
  simp [execOp, evA_of ag hx, hn, eqGuard, Go.binOp, he]
/-- x[:h:m] -/
theorem Pu.sliceHM {P : Program} {p : PE} {d : Option Tmp} {ty : TypeId} {pos : String} {af : Array Edge} {gd : Option (Nat × Bool)} {x y z : Operand} {t e : TypeId} {a : Option Addr} {n c sz : Nat} {kd kd' : IntKind} {h m : Int} (hx : evp p x = some (.slice a n c)) (hy : evp p y = some (.int kd h)) (hm : evp p z = some (.int kd' m)) (ht : P.underlying t = some (.slice e)) (hs : ∀ w, (Go.sizeOf e).run P w = .ok sz w) (h0 : 0 ≤ h) (h1 : h ≤ m) (h2 : m ≤ c) :
    Pu P p ⟨d, .slice t x none (some y) (some z), ty, pos, af, gd⟩ (.slice a h.toNat m.toNat) := fun tm w ag => by
  have hc : 0 ≤ h ∧ h ≤ m := ⟨h0, h1⟩
  have hm' : 0 ≤ m ∧ m ≤ (c : Int) := ⟨by omega, h2⟩
  have hz : a.map (fun x : Addr => x.add 0) = a := by cases a <;> simp [Addr.add]
  simp [execOp, evA_of ag hx, evA_of ag hy, evA_of ag hm, Instr.sliceAt, Instr.slice, run_underlying ht, Instr.sliceBounds, Instr.sliceBound, asIntOf, hc, hm', hs, hz]
  intro hh; omega
theorem Pu.cap {P : Program} {p : PE} {d : Option Tmp} {ty : TypeId} {pos : String} {af : Array Edge} {gd : Option (Nat × Bool)} {x : Operand} {t e : TypeId} {A : Option Addr} {n m : Nat} {ats : List TypeId} (hx : evp p x = some (.slice A n m)) (ht : P.underlying t = some (.slice e)) : Pu P p ⟨d, .call ⟨.builtin .cap, [x].toArray, (t :: ats).toArray⟩, ty, pos, af, gd⟩ (.int .i64 m) :=
  fun tm w ag => by simp [execOp, resolve, invoke, builtin, evA_of ag hx, Builtin.cap_, run_underlying ht, goInt]
end
end Wx
