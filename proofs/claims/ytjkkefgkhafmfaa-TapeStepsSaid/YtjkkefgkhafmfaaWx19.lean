/-
  Plain program logic, part 19: calls that only read, in a drawn region.
-/
import Derived.Test.YtjkkefgkhafmfaaWx18
namespace Wx
open Go Go.RowKit
set_option linter.unusedVariables false
section
variable {P : Program} {G : World} {f : Fc} {Q : Post} {ops : List Oper} {k : List Item} {p : PE} {ds : List Deferred} {cs : List Frame} {q : List HP} {pk : PE} {L : Rds} {n : Nat} {done : List Nat} {args : List Operand} {ats : Array TypeId} {ty : TypeId} {pos : String} {af : Array Edge} {gd : Option (Nat × Bool)} {vs : List Value} {u : Value} {d : Tmp} {fn : FuncId}
theorem XD.cRL (i : Nat) (hcf : ∀ args w, (callFunc fn args).run P w = .ok (.enter fn args) w) (hc : CallF P G fn vs q (Ret fun v q' => v = u ∧ q' = q))
    (K : XD P G f Q ops k pk (cut ⟨some d, .call ⟨.value (.func fn), args.toArray, ats⟩, ty, pos, af, gd⟩ L) n (i :: done) ((d, u) :: p) ds cs q)
    (ho : ops[i]? = some ⟨some d, .call ⟨.value (.func fn), args.toArray, ats⟩, ty, pos, af, gd⟩ := by rfl) (hv : evl p args = some vs := by rfl)
    (hL : HL q (cut ⟨some d, .call ⟨.value (.func fn), args.toArray, ats⟩, ty, pos, af, gd⟩ L) := by exact hlA)
    (h1 : onlyR ops done i = true := by rfl) (hr : rdy ops done i = true := by rfl) (hw : Wt ops p ⟨some d, .call ⟨.value (.func fn), args.toArray, ats⟩, ty, pos, af, gd⟩ = some true := by rfl) (hd : Nat.blt d f.n = true := by rfl) : XD P G f Q ops k pk L (n + 1) done p ds cs q := .cR i hcf hc hL K ho hv h1 hr hw hd
theorem XD.lsadr {α : Type} {fl : α → Value} {ty : Nat} {a : Option Addr} {c : Nat} {l : List α} {r : List HP} (h : 0 < l.length) (x : ∀ g, a = some ⟨g, 0, none⟩ → XD P G f Q ops k pk L n done p ds cs q) (hq : Le q (lsH fl ty a c l :: r) := by exact fndA) : XD P G f Q ops k pk L n done p ds cs q :=
  .fact (fun w s => (s.le hq).lsAddr h) fun ⟨g, e⟩ => x g e
theorem cut_rdA_t {o : Oper} {i b j : Nat} {vs : List Value} {L : Rds} (h : onB o i = true) : cut o (rdA i b j vs ++ L) = cut o L := by
  induction vs generalizing j with
  | nil => rfl
  | cons v r ih => simp only [rdA, List.cons_append, cut, h, cond_true, ih]
end
end Wx
