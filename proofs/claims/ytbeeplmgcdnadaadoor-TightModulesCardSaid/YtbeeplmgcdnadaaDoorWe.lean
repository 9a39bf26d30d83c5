/-
  Plain program logic, part 40: a slice that has its whole block, as the block.
-/
import Derived.Test.YtbeeplmgcdnadaaDoorWd
set_option linter.unusedVariables false
set_option linter.unusedSimpArgs false
namespace Wx
open Go Go.RowKit
theorem Le.slH_pto {g n ty sz : Nat} {vs : List Value} (q : List HP) : Le (slH (some ⟨g, 0, none⟩) n ty sz n vs :: q) (pto g (.cells vs.toArray ty (0, 0)) :: q) :=
  .one fun M x p => by
    obtain ⟨p1, p2⟩ := p
    rcases p2 with ⟨h, _⟩ | ⟨g', cur, e, h1, h2, h3, h4, h5⟩
    · cases h
    · cases e
      have e1 : cur.toList = vs := by rw [← h4]; exact (List.take_of_length_le (by rw [Array.length_toList, h3]; exact Nat.le_refl _)).symm
      have e2 : cur = vs.toArray := by rw [← e1]
      rw [← e2]; exact h5
theorem Le.pto_slH {g n ty sz : Nat} {vs : List Value} (h : vs.length = n * sz) (hm : n ≤ maxLen) (q : List HP) : Le (pto g (.cells vs.toArray ty (0, 0)) :: q) (slH (some ⟨g, 0, none⟩) n ty sz n vs :: q) :=
  Le.slH_intro (Nat.le_refl _) hm (by simpa using h) (by rw [← h]; simp) q
theorem XO.lscap {P : Program} {G : World} {f : Fc} {Q : Post} {ops : List Oper} {k : List Item} {rest : List Oper} {p : PE} {ds : List Deferred} {cs : List Frame} {q r : List HP} {α : Type} {fl : α → Value} {ty : TypeId} {a : Option Addr} {c : Nat} {l : List α} (x : l.length ≤ c → XO P G f Q ops.toArray k rest p ds cs q) (hq : Le q (Wx.lsH fl ty a c l :: r) := by exact fndA) : XO P G f Q ops.toArray k rest p ds cs q :=
  .fact (fun w s => (s.le hq).lsCap) fun h => x h
end Wx

/-
  Plain program logic, part 41: shorter rules for the commonest steps.
-/
namespace Wx
open Go Go.RowKit
section
variable {P : Program} {G : World} {f : Fc} {Q : Post} {ops : List Oper} {k : List Item} {p : PE} {ds : List Deferred} {cs : List Frame} {q : List HP} {rest : List Oper} {v : Value} {T : Tr}
variable {d : Tmp} {t ty : TypeId} {pos : String} {af : Array Edge} {gd : Option (Nat × Bool)} {x y : Operand} {A : Addr}
/-! ### what is known of types, by the table -/
def Tr.lf (T : Tr) (t : TypeId) : Bool := match T.get t with | some x => !x.agg | none => false
def Tr.ag (T : Tr) (t : TypeId) : Option Nat := match T.get t with | some x => bif x.agg then some x.sz else none | none => none
def Tr.s1 (T : Tr) (t : TypeId) : Bool := match T.get t with | some x => Nat.beq x.sz 1 | none => false
theorem Tr.lf_ok (hT : T.ok P id) (h : T.lf t = true) (w : World) : (isAgg t).run P w = .ok false w := by
  unfold Tr.lf at h
  split at h
  · rename_i x hx
    have := (Tr.get_ok hT hx).2.1 w
    rw [show x.agg = false by simpa using h] at this; exact this
  · cases h
theorem Tr.ag_ok {n : Nat} (hT : T.ok P id) (h : T.ag t = some n) : (∀ w, (isAgg t).run P w = .ok true w) ∧ ∀ w, (Go.sizeOf t).run P w = .ok n w := by
  unfold Tr.ag at h
  split at h
  · rename_i x hx
    have h1 := (Tr.get_ok hT hx).2.1
    have h2 := (Tr.get_ok hT hx).2.2.1
    cases hb : x.agg with
    | true => rw [hb] at h h1; simp only [cond_true, Option.some.injEq] at h; subst h; exact ⟨h1, h2⟩
    | false => rw [hb] at h; simp at h
  · cases h
theorem Tr.s1_ok (hT : T.ok P id) (h : T.s1 t = true) (w : World) : (Go.sizeOf t).run P w = .ok 1 w := by
  unfold Tr.s1 at h
  split at h
  · rename_i x hx
    have := (Tr.get_ok hT hx).2.2.1 w
    rw [Nat.eq_of_beq_eq_true h] at this; exact this
  · cases h
/-! ### steps -/
theorem XO.al {z : Value} (hz : ∀ w, (zeroValue t).run P w = .ok z w) (K : ∀ n, XO P G f Q ops.toArray k rest ((d, .pointer (some ⟨n, 0, none⟩)) :: p) ds cs (pto n (.cells z.cells t (0, 0)) :: q))
    (hw : Wt ops p ⟨some d, .alloc t, ty, pos, af, gd⟩ = some true := by rfl) (hd : Nat.blt d f.n = true := by rfl) : XO P G f Q ops.toArray k (⟨some d, .alloc t, ty, pos, af, gd⟩ :: rest) p ds cs q :=
  .ef (Ef.alloc hz) (by rintro _ _ ⟨n, rfl, rfl⟩; exact K n) hw hd
theorem XO.bx (K : ∀ n, XO P G f Q ops.toArray k rest ((d, .pointer (some ⟨n, 0, none⟩)) :: p) ds cs (pto n (.cells v.cells t (0, 0)) :: q)) (hx : evp p x = some v := by rfl)
    (hw : Wt ops p ⟨some d, .box t x, ty, pos, af, gd⟩ = some true := by rfl) (hd : Nat.blt d f.n = true := by rfl) : XO P G f Q ops.toArray k (⟨some d, .box t x, ty, pos, af, gd⟩ :: rest) p ds cs q :=
  .ef (Ef.box hx) (by rintro _ _ ⟨n, rfl, rfl⟩; exact K n) hw hd
theorem XO.st {b o : Nat} {l : List Value} {t' : TypeId} {r : List HP} (hT : T.ok P id) (hs : T.s1 t = true) (K : XO P G f Q ops.toArray k rest p ds cs (pto b (.cells (setl l o v).toArray t' (0, 0)) :: r))
    (hx : evp p x = some (.pointer (some ⟨b, o, none⟩)) := by rfl) (hy : evp p y = some v := by rfl)
    (hv : v.cells = #[v] := by rfl) (h1 : v.oneCell' = true := by rfl) (hq : Le q (pto b (.cells l.toArray t' (0, 0)) :: r) := by exact fndA) (ho : Nat.blt o l.length = true := by rfl)
    (hw : Wt ops p ⟨none, .store t x y, ty, pos, af, gd⟩ = some true := by rfl) : XO P G f Q ops.toArray k (⟨none, .store t x y, ty, pos, af, gd⟩ :: rest) p ds cs q :=
  .ef0 (Ef.st (Tr.s1_ok hT hs) hx hy hv h1 hq ho) (by rintro _ _ ⟨rfl, rfl⟩; exact K) hw
theorem XO.stA {b o sz : Nat} {l vs : List Value} {t' : TypeId} {r : List HP} (hT : T.ok P id) (hs : T.ag t = some sz) (K : XO P G f Q ops.toArray k rest p ds cs (pto b (.cells (splice l o vs).toArray t' (0, 0)) :: r))
    (hx : evp p x = some (.pointer (some ⟨b, o, none⟩)) := by rfl) (hy : evp p y = some (.agg vs.toArray) := by rfl)
    (hl : vs.length = sz := by rfl) (h1 : vs.all (·.oneCell') = true := by rfl) (hq : Le q (pto b (.cells l.toArray t' (0, 0)) :: r) := by exact fndA) (ho : Nat.ble (o + sz) l.length = true := by rfl)
    (hw : Wt ops p ⟨none, .store t x y, ty, pos, af, gd⟩ = some true := by rfl) : XO P G f Q ops.toArray k (⟨none, .store t x y, ty, pos, af, gd⟩ :: rest) p ds cs q :=
  .ef0 (Ef.stA (Tr.ag_ok hT hs).2 hx hy hl h1 hq ho) (by rintro _ _ ⟨rfl, rfl⟩; exact K) hw
variable {pk : PE} {L : Rds} {n : Nat} {done : List Nat}
theorem XD.al (i : Nat) {z : Value} (hz : ∀ w, (zeroValue t).run P w = .ok z w) (K : ∀ n', XD P G f Q ops k pk (cut ⟨some d, .alloc t, ty, pos, af, gd⟩ L) n (i :: done) ((d, .pointer (some ⟨n', 0, none⟩)) :: p) ds cs (pto n' (.cells z.cells t (0, 0)) :: q))
    (ho : ops[i]? = some ⟨some d, .alloc t, ty, pos, af, gd⟩ := by rfl) (hh : ∀ n', HL (pto n' (.cells z.cells t (0, 0)) :: q) (cut ⟨some d, .alloc t, ty, pos, af, gd⟩ L) := by intro _; exact hlA)
    (h1 : onlyR ops done i = true := by rfl) (hr : rdy ops done i = true := by rfl) (hw : Wt ops p ⟨some d, .alloc t, ty, pos, af, gd⟩ = some true := by rfl) (hd : Nat.blt d f.n = true := by rfl) : XD P G f Q ops k pk L (n + 1) done p ds cs q :=
  .ef i ho (Ef.alloc hz) (by rintro _ _ ⟨n', rfl, rfl⟩; exact ⟨hh n', K n'⟩) h1 hr hw hd
theorem XD.bx (i : Nat) (K : ∀ n', XD P G f Q ops k pk (cut ⟨some d, .box t x, ty, pos, af, gd⟩ L) n (i :: done) ((d, .pointer (some ⟨n', 0, none⟩)) :: p) ds cs (pto n' (.cells v.cells t (0, 0)) :: q))
    (ho : ops[i]? = some ⟨some d, .box t x, ty, pos, af, gd⟩ := by rfl) (hx : evp p x = some v := by rfl) (hh : ∀ n', HL (pto n' (.cells v.cells t (0, 0)) :: q) (cut ⟨some d, .box t x, ty, pos, af, gd⟩ L) := by intro _; exact hlA)
    (h1 : onlyR ops done i = true := by rfl) (hr : rdy ops done i = true := by rfl) (hw : Wt ops p ⟨some d, .box t x, ty, pos, af, gd⟩ = some true := by rfl) (hd : Nat.blt d f.n = true := by rfl) : XD P G f Q ops k pk L (n + 1) done p ds cs q :=
  .ef i ho (Ef.box hx) (by rintro _ _ ⟨n', rfl, rfl⟩; exact ⟨hh n', K n'⟩) h1 hr hw hd
theorem XD.st (i : Nat) {b o : Nat} {l : List Value} {t' : TypeId} {r : List HP} (hT : T.ok P id) (hs : T.s1 t = true) (K : XD P G f Q ops k pk (cut ⟨none, .store t x y, ty, pos, af, gd⟩ L) n (i :: done) p ds cs (pto b (.cells (setl l o v).toArray t' (0, 0)) :: r))
    (ho : ops[i]? = some ⟨none, .store t x y, ty, pos, af, gd⟩ := by rfl) (hx : evp p x = some (.pointer (some ⟨b, o, none⟩)) := by rfl) (hy : evp p y = some v := by rfl)
    (hv : v.cells = #[v] := by rfl) (h1 : v.oneCell' = true := by rfl) (hq : Le q (pto b (.cells l.toArray t' (0, 0)) :: r) := by exact fndA) (ho2 : Nat.blt o l.length = true := by rfl)
    (hh : HL (pto b (.cells (setl l o v).toArray t' (0, 0)) :: r) (cut ⟨none, .store t x y, ty, pos, af, gd⟩ L) := by exact hlA)
    (h2 : onlyR ops done i = true := by rfl) (hr : rdy ops done i = true := by rfl) (hw : Wt ops p ⟨none, .store t x y, ty, pos, af, gd⟩ = some true := by rfl) : XD P G f Q ops k pk L (n + 1) done p ds cs q :=
  .ef0 i ho (Ef.st (Tr.s1_ok hT hs) hx hy hv h1 hq ho2) (by rintro _ _ ⟨rfl, rfl⟩; exact ⟨hh, K⟩) h2 hr hw
theorem XD.stA (i : Nat) {b o sz : Nat} {l vs : List Value} {t' : TypeId} {r : List HP} (hT : T.ok P id) (hs : T.ag t = some sz) (K : XD P G f Q ops k pk (cut ⟨none, .store t x y, ty, pos, af, gd⟩ L) n (i :: done) p ds cs (pto b (.cells (splice l o vs).toArray t' (0, 0)) :: r))
    (ho : ops[i]? = some ⟨none, .store t x y, ty, pos, af, gd⟩ := by rfl) (hx : evp p x = some (.pointer (some ⟨b, o, none⟩)) := by rfl) (hy : evp p y = some (.agg vs.toArray) := by rfl)
    (hl : vs.length = sz := by rfl) (h1 : vs.all (·.oneCell') = true := by rfl) (hq : Le q (pto b (.cells l.toArray t' (0, 0)) :: r) := by exact fndA) (ho2 : Nat.ble (o + sz) l.length = true := by rfl)
    (hh : HL (pto b (.cells (splice l o vs).toArray t' (0, 0)) :: r) (cut ⟨none, .store t x y, ty, pos, af, gd⟩ L) := by exact hlA)
    (h2 : onlyR ops done i = true := by rfl) (hr : rdy ops done i = true := by rfl) (hw : Wt ops p ⟨none, .store t x y, ty, pos, af, gd⟩ = some true := by rfl) : XD P G f Q ops k pk L (n + 1) done p ds cs q :=
  .ef0 i ho (Ef.stA (Tr.ag_ok hT hs).2 hx hy hl h1 hq ho2) (by rintro _ _ ⟨rfl, rfl⟩; exact ⟨hh, K⟩) h2 hr hw
/-! ### what is known of a test -/
theorem kw {b c : Bool} (h : b = c := by first | rfl | exact decide_eq_true (by omega) | exact decide_eq_false (by omega) | (rw [beq_iff_eq]; omega) | (rw [beq_eq_false_iff_ne]; omega) | (rw [bne_iff_ne]; omega) | (rw [bne_eq_false_iff_eq]; omega) | (simp; done) | (simp; omega) | (rw [beq_iff_eq]; assumption) | (rw [beq_eq_false_iff_ne]; assumption)) : b = c := h
section
variable {b : Bool} {todo : List Item} {l : List Oper}
theorem X.kt (s : Nat) (K : X P G f Q todo ((s, .bool true) :: p) ds cs q) (h : lkp p s = some (.bool b) := by rfl) (e : b = true := by exact kw) : X P G f Q todo p ds cs q := .know s _ h (congrArg Value.bool e) K
theorem X.kf (s : Nat) (K : X P G f Q todo ((s, .bool false) :: p) ds cs q) (h : lkp p s = some (.bool b) := by rfl) (e : b = false := by exact kw) : X P G f Q todo p ds cs q := .know s _ h (congrArg Value.bool e) K
theorem XO.kt (s : Nat) (K : XO P G f Q ops.toArray k l ((s, .bool true) :: p) ds cs q) (h : lkp p s = some (.bool b) := by rfl) (e : b = true := by exact kw) : XO P G f Q ops.toArray k l p ds cs q := .know s _ h (congrArg Value.bool e) K
theorem XO.kf (s : Nat) (K : XO P G f Q ops.toArray k l ((s, .bool false) :: p) ds cs q) (h : lkp p s = some (.bool b) := by rfl) (e : b = false := by exact kw) : XO P G f Q ops.toArray k l p ds cs q := .know s _ h (congrArg Value.bool e) K
theorem XD.kt (s : Nat) (K : XD P G f Q ops k pk L n done ((s, .bool true) :: p) ds cs q) (h : lkp p s = some (.bool b) := by rfl) (e : b = true := by exact kw) : XD P G f Q ops k pk L n done p ds cs q := .know s _ h (congrArg Value.bool e) K
theorem XD.kf (s : Nat) (K : XD P G f Q ops k pk L n done ((s, .bool false) :: p) ds cs q) (h : lkp p s = some (.bool b) := by rfl) (e : b = false := by exact kw) : XD P G f Q ops k pk L n done p ds cs q := .know s _ h (congrArg Value.bool e) K
/-! a slot's value in other words -/
theorem X.tu (s : Nat) (u : Value) (e : v = u) (K : X P G f Q todo ((s, u) :: p) ds cs q) (h : lkp p s = some v := by rfl) : X P G f Q todo p ds cs q := .know s u h e K
theorem XO.tu (s : Nat) (u : Value) (e : v = u) (K : XO P G f Q ops.toArray k l ((s, u) :: p) ds cs q) (h : lkp p s = some v := by rfl) : XO P G f Q ops.toArray k l p ds cs q := .know s u h e K
theorem XD.tu (s : Nat) (u : Value) (e : v = u) (K : XD P G f Q ops k pk L n done ((s, u) :: p) ds cs q) (h : lkp p s = some v := by rfl) : XD P G f Q ops k pk L n done p ds cs q := .know s u h e K
end
end
end Wx

