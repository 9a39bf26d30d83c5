/-
  Plain program logic, part 24: stores while blocks are made at any time.
-/
import Derived.Test.YtjkkefgkhafmfaaWx23
namespace Wx
open Go Go.RowKit
set_option linter.unusedVariables false
section
variable {P : Program} {G : World} {f : Fc} {Q : Post} {ops : List Oper} {k : List Item} {pk p : PE} {ds : List Deferred} {cs : List Frame} {q r : List HP} {n : Nat} {done : List Nat} {L : Rds} {v : Value} {fl : List FlE} {op : Op} {ty : TypeId} {pos : String} {af : Array Edge} {gd : Option (Nat × Bool)} {t : TypeId} {x y : Operand}
theorem XF.ef0 (i : Nat) {R : Value → List HP → Prop} (hR : FlR P G f ops done p fl) (hE : ∀ E, Ef P G p (q ++ E) ⟨none, op, ty, pos, af, gd⟩ fun v q' => ∃ q1, R v q1 ∧ q' = q1 ++ E)
    (K : ∀ v q1, R v q1 → HL q1 (cut ⟨none, op, ty, pos, af, gd⟩ L) ∧ XF P G f Q ops k pk fl (cut ⟨none, op, ty, pos, af, gd⟩ L) n (i :: done) p ds cs q1)
    (ho : ops[i]? = some ⟨none, op, ty, pos, af, gd⟩ := by rfl) (hL : HL q L := by exact hlA) (hon : onlyF ops (fl.map (·.i)) done i = true := by rfl) (hif : (fl.map (·.i)).contains i = false := by rfl) (hr : rdy ops done i = true := by rfl) (hw : Wt ops p ⟨none, op, ty, pos, af, gd⟩ = some true := by rfl) (hlen : Nat.ble fl.length n = true := by rfl) :
    XF P G f Q ops k pk fl L (n + 1) done p ds cs q := .step i hR ho hE hL (fun v q1 h => (K v q1 h).2) hon hif hr hw rfl hlen (fun v q1 h => (K v q1 h).1)
theorem Ef.stE {b o : Nat} {l : List Value} {t' : TypeId} {d : Option Tmp} (hs : ∀ w, (Go.sizeOf t).run P w = .ok 1 w) (hx : evp p x = some (.pointer (some ⟨b, o, none⟩))) (hy : evp p y = some v)
    (hv : v.cells = #[v]) (h1 : v.oneCell' = true) (hq : Le q (pto b (.cells l.toArray t' (0, 0)) :: r)) (ho : Nat.blt o l.length = true) (E : List HP) :
    Ef P G p (q ++ E) ⟨d, .store t x y, ty, pos, af, gd⟩ fun z q' => ∃ q1, (z = undef ∧ q1 = pto b (.cells (setl l o v).toArray t' (0, 0)) :: r) ∧ q' = q1 ++ E := by
  intro tm w ag s
  obtain ⟨z, w', q', h1', h2', h3, h4⟩ := Ef.store (P := P) (G := G) (d := d) (ty := ty) (pos := pos) (af := af) (gd := gd) (r := r ++ E) hx hy hs hv h1 (hq.liftR E) ho tm w ag s
  exact ⟨z, w', q', h1', h2', _, ⟨h3, rfl⟩, h4⟩
end
end Wx
