/-
  Plain program logic, part 13: short rules: what the walk finds by itself stands in default arguments.
-/
import Derived.Test.YtjkkefgkhafmfaaWx12
namespace Wx
open Go Go.RowKit
set_option linter.unusedVariables false
set_option linter.unusedSimpArgs false
section
variable {α : Type} {P : Program} {G : World} {f : Fc} {Q : Post} {ops : List Oper} {k : List Item} {p : PE} {ds : List Deferred} {cs : List Frame} {q : List HP} {rest : List Oper} {v : Value}
theorem ca (x : HP) (l m : List HP) : (x :: l) ++ m = x :: (l ++ m) := rfl
theorem na (m : List HP) : ([] : List HP) ++ m = m := rfl
theorem leA {q q' : List HP} (h : Le q q' := by repeat (first | exact Le.refl _ | exact Le.app_left _ _ | exact Le.nil _ | (apply Le.pick; · (repeat first | exact Le.here _ _ | apply Le.there)) | refine Le.lose ?_)) : Le q q' := h
theorem clA {A : Addr} (h : Cl q A v := by first
    | exact Cl.of (by repeat first | exact Has.pto _ _ _ | exact Has.im _ _ _ | refine Has.there ?_) (by rfl)
    | exact Cl.el (by assumption) leA (fun _ => rfl) (by first | assumption | omega) rfl rfl
    | exact Cl.e1 (by assumption) leA (by first | assumption | omega) rfl
    | exact Cl.elp (by assumption) leA (fun _ => rfl) (by omega) (by first | assumption | omega) rfl
    | exact Cl.e1p (by assumption) leA (by omega) (by first | assumption | omega)
    | exact Cl.elz (by assumption) leA (fun _ => rfl) (by first | assumption | omega) rfl
    | exact Cl.e1z (by assumption) leA (by first | assumption | omega)
    | assumption) : Cl q A v := h
theorem hasA {b : Nat} {o : Obj} (h : Has q b o := by repeat first | exact Has.pto _ _ _ | exact Has.im _ _ _ | refine Has.there ?_) : Has q b o := h
theorem fndA {A : HP} {r : List HP} (h : Le q (A :: r) := by repeat first | exact Le.here _ _ | apply Le.there) : Le q (A :: r) := h
theorem hlA {L : Rds} (h : HL q L := by repeat first | exact trivial | refine ⟨clA, ?_⟩) : HL q L := h
section
variable {d : Tmp} {ty : TypeId} {pos : String} {af : Array Edge} {gd : Option (Nat × Bool)} {t : TypeId} {x y : Operand} {A : Addr}
theorem XO.ld (ht : ∀ w, (isAgg t).run P w = .ok false w) (K : XO P G f Q ops.toArray k rest ((d, v) :: p) ds cs q) (hx : evp p x = some (.pointer (some A)) := by rfl) (hc : Cl q A v := by exact clA)
    (hw : Wt ops p ⟨some d, .load t x, ty, pos, af, gd⟩ = some true := by rfl) (hd : Nat.blt d f.n = true := by rfl) :
    XO P G f Q ops.toArray k (⟨some d, .load t x, ty, pos, af, gd⟩ :: rest) p ds cs q := .rd (Rd.load hx ht hc) K hw hd
theorem XO.ldA {b o sz : Nat} {l : List Value} {t' : TypeId} {fz : Nat × Nat} (ht : ∀ w, (isAgg t).run P w = .ok true w) (hs : ∀ w, (Go.sizeOf t).run P w = .ok sz w)
    (K : XO P G f Q ops.toArray k rest ((d, .agg (Wx.sub l o sz).toArray) :: p) ds cs q) (hx : evp p x = some (.pointer (some ⟨b, o, none⟩)) := by rfl) (hh : Has q b (.cells l.toArray t' fz) := by exact hasA) (hv : Nat.ble (o + sz) l.length = true := by rfl)
    (hw : Wt ops p ⟨some d, .load t x, ty, pos, af, gd⟩ = some true := by rfl) (hd : Nat.blt d f.n = true := by rfl) :
    XO P G f Q ops.toArray k (⟨some d, .load t x, ty, pos, af, gd⟩ :: rest) p ds cs q := .rd (Rd.loadA hx ht hs hh hv) K hw hd
theorem XO.ldS {α : Type} {fl : α → List Value} {l : List α} {q0 : List HP} {bk o n sz : Nat} {j : Int} (ht : ∀ w, (isAgg t).run P w = .ok true w) (hs : ∀ w, (Go.sizeOf t).run P w = .ok sz w)
    (h : Sees q0 (some ⟨bk, o, none⟩) (l.flatMap fl)) (hn : n < l.length) (K : XO P G f Q ops.toArray k rest ((d, .agg (fl l[n]).toArray) :: p) ds cs q) (hx : evp p x = some (.pointer (some ⟨bk, o + j.toNat * sz, none⟩)) := by rfl) (hj : j = n := by first | rfl | omega) (hf : ∀ x, (fl x).length = sz := by intro _; rfl) (hq : Le q q0 := by exact leA)
    (hw : Wt ops p ⟨some d, .load t x, ty, pos, af, gd⟩ = some true := by rfl) (hd : Nat.blt d f.n = true := by rfl) :
    XO P G f Q ops.toArray k (⟨some d, .load t x, ty, pos, af, gd⟩ :: rest) p ds cs q := .rd (Rd.loadS hx ht hs h hf hn hj hq) K hw hd
theorem Ef.st {b o : Nat} {l : List Value} {t' : TypeId} {r : List HP} {d : Option Tmp} (hs : ∀ w, (Go.sizeOf t).run P w = .ok 1 w) (hx : evp p x = some (.pointer (some ⟨b, o, none⟩)) := by rfl) (hy : evp p y = some v := by rfl)
    (hv : v.cells = #[v] := by rfl) (h1 : v.oneCell' = true := by rfl) (hq : Le q (pto b (.cells l.toArray t' (0, 0)) :: r) := by exact fndA) (ho : Nat.blt o l.length = true := by rfl) :
    Ef P G p q ⟨d, .store t x y, ty, pos, af, gd⟩ fun z q' => z = undef ∧ q' = pto b (.cells (setl l o v).toArray t' (0, 0)) :: r := .store hx hy hs hv h1 hq ho
theorem Ef.stA {bk o sz : Nat} {l vs : List Value} {t' : TypeId} {r : List HP} {d : Option Tmp} (hs : ∀ w, (Go.sizeOf t).run P w = .ok sz w) (hx : evp p x = some (.pointer (some ⟨bk, o, none⟩)) := by rfl) (hy : evp p y = some (.agg vs.toArray) := by rfl)
    (hl : vs.length = sz := by rfl) (h1 : vs.all (·.oneCell') = true := by rfl) (hq : Le q (pto bk (.cells l.toArray t' (0, 0)) :: r) := by exact fndA) (ho : Nat.ble (o + sz) l.length = true := by rfl) :
    Ef P G p q ⟨d, .store t x y, ty, pos, af, gd⟩ fun z q' => z = undef ∧ q' = pto bk (.cells (splice l o vs).toArray t' (0, 0)) :: r := .storeA hx hy hs hl h1 hq ho
end
section
variable {args : List Operand} {ats : Array TypeId} {ty : TypeId} {pos : String} {af : Array Edge} {gd : Option (Nat × Bool)} {vs : List Value} {pre F : List HP} {R : Value → List HP → Prop} {d : Tmp} {fn : FuncId} {fo : Operand} {fv : Value}
theorem XO.cF (hcf : ∀ args w, (callFunc fn args).run P w = .ok (.enter fn args) w) (hc : CallF P G fn vs pre (Ret R)) (x : ∀ v q', R v q' → ∀ q'', q'' = q' ++ F → XO P G f Q ops.toArray k rest ((d, v) :: p) ds cs q'') (hv : evl p args = some vs := by rfl) (hq : Le q (pre ++ F) := by exact leA)
    (hw : Wt ops p ⟨some d, .call ⟨.value (.func fn), args.toArray, ats⟩, ty, pos, af, gd⟩ = some true := by rfl) (hd : Nat.blt d f.n = true := by rfl) :
    XO P G f Q ops.toArray k (⟨some d, .call ⟨.value (.func fn), args.toArray, ats⟩, ty, pos, af, gd⟩ :: rest) p ds cs q := .callF hcf hc hv hq x hw hd
theorem XO.cF0 (hcf : ∀ args w, (callFunc fn args).run P w = .ok (.enter fn args) w) (hc : CallF P G fn vs pre (Ret R)) (x : ∀ v q', R v q' → ∀ q'', q'' = q' ++ F → XO P G f Q ops.toArray k rest p ds cs q'') (hv : evl p args = some vs := by rfl) (hq : Le q (pre ++ F) := by exact leA)
    (hw : Wt ops p ⟨none, .call ⟨.value (.func fn), args.toArray, ats⟩, ty, pos, af, gd⟩ = some true := by rfl) :
    XO P G f Q ops.toArray k (⟨none, .call ⟨.value (.func fn), args.toArray, ats⟩, ty, pos, af, gd⟩ :: rest) p ds cs q := .callF0 hcf hc hv hq x hw
theorem XO.cV (hc : CallV P G fv vs pre (Ret R)) (x : ∀ v q', R v q' → ∀ q'', q'' = q' ++ F → XO P G f Q ops.toArray k rest ((d, v) :: p) ds cs q'') (hf : evp p fo = some fv := by rfl) (hv : evl p args = some vs := by rfl) (hq : Le q (pre ++ F) := by exact leA)
    (hw : Wt ops p ⟨some d, .call ⟨.value fo, args.toArray, ats⟩, ty, pos, af, gd⟩ = some true := by rfl) (hd : Nat.blt d f.n = true := by rfl) :
    XO P G f Q ops.toArray k (⟨some d, .call ⟨.value fo, args.toArray, ats⟩, ty, pos, af, gd⟩ :: rest) p ds cs q := .call hf hv hc hq x hw hd
theorem XO.cV0 (hc : CallV P G fv vs pre (Ret R)) (x : ∀ v q', R v q' → ∀ q'', q'' = q' ++ F → XO P G f Q ops.toArray k rest p ds cs q'') (hf : evp p fo = some fv := by rfl) (hv : evl p args = some vs := by rfl) (hq : Le q (pre ++ F) := by exact leA)
    (hw : Wt ops p ⟨none, .call ⟨.value fo, args.toArray, ats⟩, ty, pos, af, gd⟩ = some true := by rfl) :
    XO P G f Q ops.toArray k (⟨none, .call ⟨.value fo, args.toArray, ats⟩, ty, pos, af, gd⟩ :: rest) p ds cs q := .call0 hf hv hc hq x hw
end
/-! ### drawn regions -/
section
variable {pk : PE} {L : Rds} {n : Nat} {done : List Nat} {d : Tmp} {ty : TypeId} {pos : String} {af : Array Edge} {gd : Option (Nat × Bool)} {t : TypeId} {x y : Operand}
theorem XD.ld (i : Nat) {b o : Nat} (ht : ∀ w, (isAgg t).run P w = .ok false w) (K : XD P G f Q ops k pk ((i, b, o, v) :: L) n (i :: done) ((d, v) :: p) ds cs q)
    (ho : ops[i]? = some ⟨some d, .load t x, ty, pos, af, gd⟩ := by rfl) (hx : evp p x = some (.pointer (some ⟨b, o, none⟩)) := by rfl) (hc : Cl q ⟨b, o, none⟩ v := by exact clA)
    (hr : rdy ops done i = true := by rfl) (hw : Wt ops p ⟨some d, .load t x, ty, pos, af, gd⟩ = some true := by rfl) (hd : Nat.blt d f.n = true := by rfl) : XD P G f Q ops k pk L (n + 1) done p ds cs q := .load i ho hx ht hc K hr hw hd
theorem XD.rdCs (i : Nat) {b o sz : Nat} {us : List Value} (ho : ops[i]? = some ⟨some d, .load t x, ty, pos, af, gd⟩) (hx : evp p x = some (.pointer (some ⟨b, o, none⟩))) (ht : ∀ w, (isAgg t).run P w = .ok true w) (hs : ∀ w, (Go.sizeOf t).run P w = .ok sz w)
    (hl : us.length = sz) (hc : ∀ (k : Nat) (v : Value), us[k]? = some v → Cl q ⟨b, o + k, none⟩ v) (K : XD P G f Q ops k pk (rdA i b o us ++ L) n (i :: done) ((d, .agg us.toArray) :: p) ds cs q)
    (hr : rdy ops done i = true := by rfl) (hw : Wt ops p ⟨some d, .load t x, ty, pos, af, gd⟩ = some true := by rfl) (hd : Nat.blt d f.n = true := by rfl) : XD P G f Q ops k pk L (n + 1) done p ds cs q := by
  refine XD.rdL i ho (rdA i b o us) (rdA_all _ _ _ _) (HL.rdA hc) (fun tm w ag hS => ?_) K hr hw hd
  have hc := run_loadCells_list (P := P) w ⟨b, o, none⟩ us (fun j u hj => by
    rw [add_addr]
    exact hS _ (rdA_mem hj))
  rw [hl] at hc
  simp [execOp, evA_of ag hx, Instr.loadAt, Instr.sureAddr, loadVar, ht, hs, hc]
theorem XD.ldS (i : Nat) {α : Type} {fl : α → List Value} {l : List α} {q0 : List HP} {bk o m sz : Nat} {j : Int} (ht : ∀ w, (isAgg t).run P w = .ok true w) (hs : ∀ w, (Go.sizeOf t).run P w = .ok sz w)
    (h : Sees q0 (some ⟨bk, o, none⟩) (l.flatMap fl)) (hn : m < l.length) (K : XD P G f Q ops k pk (rdA i bk (o + j.toNat * sz) (fl l[m]) ++ L) n (i :: done) ((d, .agg (fl l[m]).toArray) :: p) ds cs q)
    (ho : ops[i]? = some ⟨some d, .load t x, ty, pos, af, gd⟩ := by rfl) (hx : evp p x = some (.pointer (some ⟨bk, o + j.toNat * sz, none⟩)) := by rfl) (hj : j = m := by first | rfl | omega) (hf : ∀ x, (fl x).length = sz := by intro _; rfl) (hq : Le q q0 := by exact leA)
    (hr : rdy ops done i = true := by rfl) (hw : Wt ops p ⟨some d, .load t x, ty, pos, af, gd⟩ = some true := by rfl) (hd : Nat.blt d f.n = true := by rfl) : XD P G f Q ops k pk L (n + 1) done p ds cs q :=
  .rdCs i ho hx ht hs (hf _) (fun k v hk => Cl.row h hq hf hn hj k v hk) K hr hw hd
theorem XD.efN (i : Nat) {op : Op} {R : Value → List HP → Prop} (h : Ef P G p q ⟨some d, op, ty, pos, af, gd⟩ R) (K : ∀ v q', R v q' → XD P G f Q ops k pk [] n (i :: done) ((d, v) :: p) ds cs q')
    (ho : ops[i]? = some ⟨some d, op, ty, pos, af, gd⟩ := by rfl) (hL : cut ⟨some d, op, ty, pos, af, gd⟩ L = [] := by rfl)
    (h1 : onlyR ops done i = true := by rfl) (hr : rdy ops done i = true := by rfl) (hw : Wt ops p ⟨some d, op, ty, pos, af, gd⟩ = some true := by rfl) (hd : Nat.blt d f.n = true := by rfl) : XD P G f Q ops k pk L (n + 1) done p ds cs q :=
  .ef i ho h (fun v q' hR => ⟨by rw [hL]; trivial, by rw [hL]; exact K v q' hR⟩) h1 hr hw hd
theorem XD.efN0 (i : Nat) {op : Op} {R : Value → List HP → Prop} (h : Ef P G p q ⟨none, op, ty, pos, af, gd⟩ R) (K : ∀ v q', R v q' → XD P G f Q ops k pk [] n (i :: done) p ds cs q')
    (ho : ops[i]? = some ⟨none, op, ty, pos, af, gd⟩ := by rfl) (hL : cut ⟨none, op, ty, pos, af, gd⟩ L = [] := by rfl)
    (h1 : onlyR ops done i = true := by rfl) (hr : rdy ops done i = true := by rfl) (hw : Wt ops p ⟨none, op, ty, pos, af, gd⟩ = some true := by rfl) : XD P G f Q ops k pk L (n + 1) done p ds cs q :=
  .ef0 i ho h (fun v q' hR => ⟨by rw [hL]; trivial, by rw [hL]; exact K v q' hR⟩) h1 hr hw
section
variable {args : List Operand} {ats : Array TypeId} {vs : List Value} {pre F : List HP} {R : Value → List HP → Prop} {fn : FuncId} {fo : Operand} {fv : Value}
theorem XD.cF (i : Nat) (hcf : ∀ args w, (callFunc fn args).run P w = .ok (.enter fn args) w) (hc : CallF P G fn vs pre (Ret R))
    (K : ∀ v q', R v q' → ∀ q'', q'' = q' ++ F → HL q'' (cut ⟨some d, .call ⟨.value (.func fn), args.toArray, ats⟩, ty, pos, af, gd⟩ L) ∧ XD P G f Q ops k pk (cut ⟨some d, .call ⟨.value (.func fn), args.toArray, ats⟩, ty, pos, af, gd⟩ L) n (i :: done) ((d, v) :: p) ds cs q'')
    (ho : ops[i]? = some ⟨some d, .call ⟨.value (.func fn), args.toArray, ats⟩, ty, pos, af, gd⟩ := by rfl) (hv : evl p args = some vs := by rfl) (hq : Le q (pre ++ F) := by exact leA)
    (h1 : onlyR ops done i = true := by rfl) (hr : rdy ops done i = true := by rfl) (hw : Wt ops p ⟨some d, .call ⟨.value (.func fn), args.toArray, ats⟩, ty, pos, af, gd⟩ = some true := by rfl) (hd : Nat.blt d f.n = true := by rfl) : XD P G f Q ops k pk L (n + 1) done p ds cs q :=
  .callF i hcf hc ho hv hq K h1 hr hw hd
theorem XD.cF0 (i : Nat) (hcf : ∀ args w, (callFunc fn args).run P w = .ok (.enter fn args) w) (hc : CallF P G fn vs pre (Ret R))
    (K : ∀ v q', R v q' → ∀ q'', q'' = q' ++ F → HL q'' (cut ⟨none, .call ⟨.value (.func fn), args.toArray, ats⟩, ty, pos, af, gd⟩ L) ∧ XD P G f Q ops k pk (cut ⟨none, .call ⟨.value (.func fn), args.toArray, ats⟩, ty, pos, af, gd⟩ L) n (i :: done) p ds cs q'')
    (ho : ops[i]? = some ⟨none, .call ⟨.value (.func fn), args.toArray, ats⟩, ty, pos, af, gd⟩ := by rfl) (hv : evl p args = some vs := by rfl) (hq : Le q (pre ++ F) := by exact leA)
    (h1 : onlyR ops done i = true := by rfl) (hr : rdy ops done i = true := by rfl) (hw : Wt ops p ⟨none, .call ⟨.value (.func fn), args.toArray, ats⟩, ty, pos, af, gd⟩ = some true := by rfl) : XD P G f Q ops k pk L (n + 1) done p ds cs q :=
  .callF0 i hcf hc ho hv hq K h1 hr hw
theorem XD.cV (i : Nat) (hc : CallV P G fv vs pre (Ret R))
    (K : ∀ v q', R v q' → ∀ q'', q'' = q' ++ F → HL q'' (cut ⟨some d, .call ⟨.value fo, args.toArray, ats⟩, ty, pos, af, gd⟩ L) ∧ XD P G f Q ops k pk (cut ⟨some d, .call ⟨.value fo, args.toArray, ats⟩, ty, pos, af, gd⟩ L) n (i :: done) ((d, v) :: p) ds cs q'')
    (ho : ops[i]? = some ⟨some d, .call ⟨.value fo, args.toArray, ats⟩, ty, pos, af, gd⟩ := by rfl) (hf : evp p fo = some fv := by rfl) (hv : evl p args = some vs := by rfl) (hq : Le q (pre ++ F) := by exact leA)
    (h1 : onlyR ops done i = true := by rfl) (hr : rdy ops done i = true := by rfl) (hw : Wt ops p ⟨some d, .call ⟨.value fo, args.toArray, ats⟩, ty, pos, af, gd⟩ = some true := by rfl) (hd : Nat.blt d f.n = true := by rfl) : XD P G f Q ops k pk L (n + 1) done p ds cs q :=
  .call i ho hf hv hc hq K h1 hr hw hd
end
end
section
variable {d : Option Tmp} {ty : TypeId} {pos : String} {af : Array Edge} {gd : Option (Nat × Bool)} {x : Operand} {t t' : TypeId} {ats : List TypeId}
theorem eqlFNil_ (k : Nat) {u r : Array TypeId} {b : Bool} (ht : P.underlying t = some (.func u r b)) (fn : Fn) (l m : Array Value) (w : World) : (Op.equalIn (k + 1) t (.func fn l m) .nilFunc).run P w = .ok false w := by
  simp [Op.equalIn, run_underlying ht]
end
/-! ### calls that only read: they leave all chunks as they are -/
theorem le_nil_r (q : List HP) : Le q (q ++ []) := by rw [List.append_nil]; exact .refl _
section
variable {args : List Operand} {ats : Array TypeId} {ty : TypeId} {pos : String} {af : Array Edge} {gd : Option (Nat × Bool)} {vs : List Value} {u : Value} {d : Tmp} {fn : FuncId} {fo : Operand} {fv : Value}
theorem XO.cR (hcf : ∀ args w, (callFunc fn args).run P w = .ok (.enter fn args) w) (hc : CallF P G fn vs q (Ret fun v q' => v = u ∧ q' = q)) (x : XO P G f Q ops.toArray k rest ((d, u) :: p) ds cs q) (hv : evl p args = some vs := by rfl)
    (hw : Wt ops p ⟨some d, .call ⟨.value (.func fn), args.toArray, ats⟩, ty, pos, af, gd⟩ = some true := by rfl) (hd : Nat.blt d f.n = true := by rfl) :
    XO P G f Q ops.toArray k (⟨some d, .call ⟨.value (.func fn), args.toArray, ats⟩, ty, pos, af, gd⟩ :: rest) p ds cs q :=
  .callF hcf hc hv (le_nil_r q) (fun v q' h q'' e => by obtain ⟨rfl, rfl⟩ := h; rw [List.append_nil] at e; subst e; exact x) hw hd
theorem XD.cR {pk : PE} {L : Rds} {n : Nat} {done : List Nat} (i : Nat) (hcf : ∀ args w, (callFunc fn args).run P w = .ok (.enter fn args) w) (hc : CallF P G fn vs q (Ret fun v q' => v = u ∧ q' = q)) (hL : HL q (cut ⟨some d, .call ⟨.value (.func fn), args.toArray, ats⟩, ty, pos, af, gd⟩ L))
    (K : XD P G f Q ops k pk (cut ⟨some d, .call ⟨.value (.func fn), args.toArray, ats⟩, ty, pos, af, gd⟩ L) n (i :: done) ((d, u) :: p) ds cs q)
    (ho : ops[i]? = some ⟨some d, .call ⟨.value (.func fn), args.toArray, ats⟩, ty, pos, af, gd⟩ := by rfl) (hv : evl p args = some vs := by rfl)
    (h1 : onlyR ops done i = true := by rfl) (hr : rdy ops done i = true := by rfl) (hw : Wt ops p ⟨some d, .call ⟨.value (.func fn), args.toArray, ats⟩, ty, pos, af, gd⟩ = some true := by rfl) (hd : Nat.blt d f.n = true := by rfl) : XD P G f Q ops k pk L (n + 1) done p ds cs q :=
  .callF i hcf hc ho hv (le_nil_r q) (fun v q' h q'' e => by obtain ⟨rfl, rfl⟩ := h; rw [List.append_nil] at e; subst e; exact ⟨hL, K⟩) h1 hr hw hd
end
/-! ### the address behind a list that has elements -/
theorem X.adr {todo : List Item} {q0 : List HP} {a : Option Addr} {vs : List Value} (hs : Sees q0 a vs) (h : 0 < vs.length) (x : ∀ b o, a = some ⟨b, o, none⟩ → X P G f Q todo p ds cs q) (hq : Le q q0 := by exact leA) : X P G f Q todo p ds cs q := .addr (hs.le hq) h x
theorem XO.adr {q0 : List HP} {a : Option Addr} {vs : List Value} (hs : Sees q0 a vs) (h : 0 < vs.length) (x : ∀ b o, a = some ⟨b, o, none⟩ → XO P G f Q ops.toArray k rest p ds cs q) (hq : Le q q0 := by exact leA) : XO P G f Q ops.toArray k rest p ds cs q := .addr (hs.le hq) h x
theorem XD.adr {pk : PE} {L : Rds} {n : Nat} {done : List Nat} {q0 : List HP} {a : Option Addr} {vs : List Value} (hs : Sees q0 a vs) (h : 0 < vs.length) (x : ∀ b o, a = some ⟨b, o, none⟩ → XD P G f Q ops k pk L n done p ds cs q) (hq : Le q q0 := by exact leA) : XD P G f Q ops k pk L n done p ds cs q :=
  .fact (fun w s => (hs.le hq).addr h s) fun ⟨b, o, e⟩ => x b o e
/-! ### ends and loops -/
theorem X.part {todo : List Item} (s : Nat) {t : Bool} (h : lkp p s = some (.bool t)) (ht : t = true → X P G f Q todo ((s, .bool true) :: p) ds cs q)
    (hf : t = false → X P G f Q todo ((s, .bool false) :: p) ds cs q) : X P G f Q todo p ds cs q := by
  cases t with
  | true => exact X.know s (.bool true) h rfl (ht rfl)
  | false => exact X.know s (.bool false) h rfl (hf rfl)
section
variable {fn : FuncId} {R : Spec} {F : List HP} {fd : Func} {q' : List HP} {p' : PE}
theorem X.retL (q' : List HP) (hf : P.funcs[fn]? = some fd) (hr : ∀ tm w, Agr tm p → St G w q → (results fd tm).run P w = .ok v w) (h : R (.returned v) q') (hq : Le q (q' ++ F) := by exact leA) :
    X P G f (FQ P G fn cs R F) (.code .ret :: k) p [] cs q := X.ret ⟨rfl, Lv.ret hf hr h hq⟩
theorem X.fallL (q' : List HP) (hf : P.funcs[fn]? = some fd) (hr : ∀ tm w, Agr tm p → St G w q → (results fd tm).run P w = .ok v w) (h : R (.returned v) q') (hq : Le q (q' ++ F) := by exact leA) :
    X P G f (FQ P G fn cs R F) [] p [] cs q := X.fall ⟨rfl, Lv.ret hf hr h hq⟩
end
end
end Wx
