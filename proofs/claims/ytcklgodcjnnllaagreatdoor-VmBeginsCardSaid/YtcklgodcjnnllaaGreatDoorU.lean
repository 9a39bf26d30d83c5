/- What functions of package vm, of its references and of its laws do: contracts of calls, proved by walking their code. -/
import Derived.Test.YtcklgodcjnnllaaGreatDoorS
import Derived.KernelRfl
set_option maxRecDepth 100000
set_option linter.unusedVariables false
set_option linter.unusedSimpArgs false
namespace Go.Proofs.YtcklgodcjnnllaaGreatDoor
open Go Go.RowKit Wx
attribute [local irreducible] Wx.lsH Wx.rsH Wx.lsM Wx.rsM Wx.stars

/-! ### what an instruction does -/
abbrev isMk (c : Int) : Prop := c = 8 ∨ c = 9 ∨ c = 22 ∨ (10 ≤ c ∧ c ≤ 18)
abbrev lastS (l : List Int) : Int := l.getD (l.length - 1) 0
abbrev aheadS (l : List Int) : Int := l.getD (l.length - 2) 0
abbrev isUn (c : Int) : Prop := c = 8 ∨ c = 9 ∨ c = 22
/-- The access, and the stack behind it. -/
def accS (m : Mdl) (x : Ins) (l cells : List Int) : Option ((Int × Bool × Int) × List Int) :=
  if x.c = 2 then some ((x.a, false, cells.getD x.a.toNat 0), l ++ [cells.getD x.a.toNat 0])
  else if x.c = 5 then some ((x.a, true, lastS l), l.take (l.length - 1))
  else if x.c = 4 then if cellS m x.a (lastS l) < 0 then none else some ((cellS m x.a (lastS l), false, cells.getD (cellS m x.a (lastS l)).toNat 0), l.take (l.length - 1) ++ [cells.getD (cellS m x.a (lastS l)).toNat 0])
  else if cellS m x.a (aheadS l) < 0 then none else some ((cellS m x.a (aheadS l), true, lastS l), l.take (l.length - 2))
/-- The place, the locals, the stack behind what touches the frame alone. -/
def plainS (x : Ins) (pc : Int) (loc l : List Int) : Int × List Int × List Int :=
  if x.c = 1 then (pc, loc, l ++ [x.n])
  else if x.c = 3 then (pc, loc, l ++ [loc.getD x.a.toNat 0])
  else if x.c = 6 then (pc, loc.set x.a.toNat (lastS l), l.take (l.length - 1))
  else if x.c = 19 then (x.a, loc, l)
  else if x.c = 20 then (if lastS l = 0 then x.a else pc, loc, l.take (l.length - 1))
  else if x.c = 21 then (if lastS l ≠ 0 then x.a else pc, loc, l.take (l.length - 1))
  else (pc, loc, l)
def doS (m : Mdl) (x : Ins) (pc : Int) (loc l cells : List Int) : (Int × List Int × List Int) × Did :=
  if x.c = 34 then ((pc, loc, l), dVal 4 0)
  else if isMk x.c then
    let a := if isUn x.c then 0 else aheadS l
    let k := if isUn x.c then 1 else 2
    if (mkS x.c a (lastS l)).2 ≠ 0 then ((pc, loc, l), dTrap (mkS x.c a (lastS l)).2) else ((pc + 1, loc, l.take (l.length - k) ++ [(mkS x.c a (lastS l)).1]), dPlain)
  else if x.c = 2 ∨ x.c = 5 ∨ x.c = 4 ∨ x.c = 7 then match accS m x l cells with
    | none => ((pc, loc, l), dTrap 3)
    | some (y, l') => ((pc + 1, loc, l'), dAcc y.1 y.2.1 y.2.2)
  else if x.c = 23 then ((pc + 1, loc, l), dVal 3 x.a)
  else if x.c = 33 then ((pc + 1, loc, l.take (l.length - 1)), dVal 6 (lastS l))
  else if x.c = 29 then ((pc + 1, loc, l.take (l.length - 1)), dSync x (lastS l))
  else if 24 ≤ x.c ∧ x.c ≤ 32 then ((pc + 1, loc, l), dSync x 0)
  else (plainS x (pc + 1) loc l, dPlain)
theorem take_take_pred {l : List Int} : (l.take (l.length - 1)).take ((l.take (l.length - 1)).length - 1) = l.take (l.length - 2) := by
  rw [List.take_take, List.length_take]; congr 1; omega
theorem last_take_pred {l : List Int} (h : 2 ≤ l.length) : lastS (l.take (l.length - 1)) = aheadS l := by
  unfold lastS aheadS
  rw [List.length_take, show min (l.length - 1) l.length - 1 = l.length - 2 by omega]
  simp only [List.getD_eq_getElem?_getD, List.getElem?_take]
  rw [if_pos (by omega)]
theorem vals_getD {l : List Int} (h : vals l) (n : Nat) : val (l.getD n 0) := by
  rcases Nat.lt_or_ge n l.length with e | e
  · rw [getD_lt e]; exact h _ (List.getElem_mem e)
  · rw [List.getD_eq_getElem?_getD, List.getElem?_eq_none e]; unfold val; simp

structure StepQ (m : Mdl) (x : Ins) (loc l cells : List Int) : Prop where
  ok : mdlOk m
  ins : insOk x
  dep : (effS x.c).1 ≤ l.length
  var : x.c = 2 ∨ x.c = 5 → 0 ≤ x.a ∧ x.a < m.vars.length
  arr : x.c = 4 ∨ x.c = 7 → 0 ≤ x.a ∧ x.a < m.arrays.length
  loc : x.c = 3 ∨ x.c = 6 → 0 ≤ x.a ∧ x.a < loc.length
  vl : vals l
  len : l.length ≤ 1000
  cel : (cells.length : Int) = cntS m
theorem sumI_split (l : List Int) (n : Nat) : sumI l = sumI (l.take n) + sumI (l.drop n) := by
  conv => lhs; rw [← List.take_append_drop n l]
  generalize l.take n = r
  unfold sumI
  induction r with
  | nil => simp
  | cons x r ih => simp only [List.cons_append, List.foldr_cons]; omega
theorem cellS_rng {m : Mdl} (h : mdlOk m) {a i : Int} (ha : 0 ≤ a ∧ a < m.arrays.length) : -1 ≤ cellS m a i ∧ cellS m a i < cntS m := by
  have hx := h.2.2.2.1.2
  have h1 := sumI_take_le h a.toNat
  have h2 := sumI_split m.arrays (a.toNat + 1)
  have h3 := sumI_take (l := m.arrays) (n := a.toNat) (by omega)
  have h4 := (sumI_le (l := m.arrays.drop (a.toNat + 1)) (b := 256) (by omega) (fun x hx' => hx x (List.mem_of_mem_drop hx'))).1
  have h5 : m.arrays.getD a.toNat 0 = m.arrays[a.toNat]'(by omega) := getD_lt (by omega)
  have h6 : 0 ≤ sumI m.arrays := by have := sumI_take_le h m.arrays.length; rw [List.take_length] at this; exact this.1
  unfold cellS cntS
  rw [h5]
  split <;> omega
section
variable {G : World} {q pre : List HP} {a b A : Option Addr} {c d C p p0 p1 p2 i : Nat} {lo hi n cd dep : Int} {fv : Value} {x y : Ins} {t : Cod} {m : Mdl} {at_ : Int}
variable {l cells loc : List Int} {idx arr z k u pc code : Int} {x1 x2 x3 x4 x5 x6 old : Value} {pm cc lc : Nat} {la cda : Option Addr}
set_option maxHeartbeats 2000000 in
theorem place_ok (hw : CellsAt q p 0 [x1, .pointer (some ⟨pm, 0, none⟩), x2, x3, x4, x5, x6]) (hm : CellsAt q pm 0 (mdlC m)) (hq : MdlQ q m) (hmo : mdlOk m) (har : 0 ≤ arr ∧ arr < m.arrays.length) (hix : val idx) : CallF Tryz.prog G 110 [.pointer (some ⟨p, 0, none⟩), .int .i64 arr, .int .i64 idx] (q) (RP (fun v q' => 0 ≤ cellS m arr idx ∧ v = .int .i64 (cellS m arr idx) ∧ q' = q) (fun ch q' => cellS m arr idx < 0 ∧ ch = [trapE 3] ∧ q' = q)) := by
 refine CallF.of Tryz.func110 Tryz.ntmps110 rfl (fun F cs => ?_)
 have hv1 := hmo.2.2.1.1; have ha1 := hmo.2.2.2.1; have hix2 := hix; unfold val at hix2; have hal : arr.toNat < m.arrays.length := (by omega); have hka := hq.ka; have hx := ha1.2 _ (List.getElem_mem hal); unfold within at hx
 have hsl := sumI_take_le hmo arr.toNat; have hgd : m.arrays.getD arr.toNat 0 = m.arrays[arr.toNat] := getD_lt hal
 refine X.adr hq.a (by simp; omega) (fun b1 o1 e1 => ?_)
 have hs1 := hq.a; rw [e1] at hs1
 refine xo 10 ?_
 refine XO.sb [12, 6, 0, 1, 2] ?_
 apply XO.cutOr 13 25 12 rfl
 · skip
   intro g1 M1; have h1 := sp g1
   refine oo 4 ?_
   refine ld ?_ (hc := ((hw.le leA) 1 _ rfl))
   refine oo 2 ?_
   refine ld ?_ (hc := ((hm.le leA) 1 _ rfl))
   refine oo 1 ?_
   refine XO.know 20 (.slice (some ⟨b1, o1, none⟩) m.arrays.length m.ac) rfl (by rw [e1]) ?_
   refine oo 1 ?_
   refine ld ?_ (hc := (Cl.e1 hs1 leA hal (by omega)))
   refine oo 2 ?_
   exact XO.fin M1 ⟨orF g1, subB⟩
 · skip
   intro g1 M1; have h1 := sp g1
   refine oo 13 ?_
   exact XO.fin M1 ⟨orT g1, subB⟩
 · skip
   refine ox 1 ?_
   refine X.part 25 rfl (fun h1 => ?_) (fun h1 => ?_)
   · skip
     replace h1 := sp h1
     refine xo 2 ?_
     refine XO.cP Tryz.call144 (Le.refl _) (fail_ok) ?_ ?_
     · rintro _ _ ⟨rfl, rfl⟩
       exact FQ.panic Tryz.func110 (RP.thr ⟨by unfold cellS; rw [hgd, if_neg (by omega)]; omega, rfl, rfl⟩)
     rintro _ _ ⟨⟩
   · skip
     replace h1 := sp h1
     refine xo 7 ?_
     refine ld ?_ (hc := ((hw.le leA) 1 _ rfl))
     refine oo 2 ?_
     refine ld ?_ (hc := ((hm.le leA) 0 _ rfl))
     refine oo 11 ?_
     refine ld ?_ (hc := ((hw.le leA) 1 _ rfl))
     refine oo 2 ?_
     refine ld ?_ (hc := ((hm.le leA) 1 _ rfl))
     refine oo 1 ?_
     refine XO.know 43 (.slice (some ⟨b1, o1, none⟩) m.arrays.length m.ac) rfl (by rw [e1]) ?_
     refine ox 5 ?_
     refine X.sb [47, 46, 45, 7, 6] ?_
     have hci : cellS m arr idx = (m.vars.length : Int) + sumI (m.arrays.take arr.toNat) + idx := by unfold cellS; rw [hgd, if_pos (by omega)]
     refine X.know 7 (.int .i64 ((m.vars.length : Int) + idx + sumI (m.arrays.take 0))) rfl (congrArg (Value.int .i64) (by simp [sumI])) ?_
     refine X.at (X.loop (fun (s : Nat) => s ≤ arr.toNat) (fun s => [(47, .int .i64 (s : Int)), (46, .int .i64 (arr.toNat : Int)), (45, .slice (some ⟨b1, o1, none⟩) arr.toNat m.ac), (7, .int .i64 ((m.vars.length : Int) + idx + sumI (m.arrays.take s))), (6, .int .i64 0)]) (fun s => (q ++ F)) (fun s => arr.toNat - s) (fun s hi_ ih => ?_) 0 (Nat.zero_le _)) subA leA
     try dsimp only at hi_ ih ⊢
     obtain hs0 := hi_
     refine xx 5 ?_
     refine X.part 48 rfl (fun h0 => ?_) (fun h0 => ?_)
     · skip
       replace h0 := sp h0
       have hk1 : s < m.arrays.length := by omega
       have hsu := sumI_take_le hmo s; have hx2 := ha1.2 _ (List.getElem_mem hk1); unfold within at hx2
       refine xo 7 ?_
       refine ld ?_ (hc := (Cl.e1 hs1 leA hk1 rfl))
       refine ox 13 ?_
       refine X.know 7 (.int .i64 ((m.vars.length : Int) + idx + sumI (m.arrays.take (s + 1)))) rfl (congrArg (Value.int .i64) (by rw [sumI_take hk1]; omega)) ?_
       refine X.at (ih (s + 1) (by omega) (by omega)) subA leA
     · skip
       replace h0 := sp h0
       refine xx 7 ?_
       refine X.retL (q) Tryz.func110 (res1 Tryz.results110 rfl) (RP.ret ⟨by omega, by rw [show s = arr.toNat by omega]; congr 1; omega, rfl⟩)
set_option maxHeartbeats 4000000 in
theorem access_ok (hm : CellsAt q pm 0 (mdlC m)) (hq : MdlQ q m) (hc : Sees q cda (cells.map I64)) (hS : StepQ m x loc l cells) (hx : x.c = 2 ∨ x.c = 5 ∨ x.c = 4 ∨ x.c = 7) : CallF Tryz.prog G 67 [.pointer (some ⟨p, 0, none⟩), .agg (insC x).toArray] (pto p (.cells [.slice a (l).length c, .pointer (some ⟨pm, 0, none⟩), x2, x3, x4, x5, .slice cda cells.length cc].toArray 106 (0, 0)) :: lsH I64 2 a c (l) :: q) (RP (fun v q' => ∃ y l', accS m x l cells = some (y, l') ∧ v = .agg [.int .i64 y.1, .bool y.2.1, .int .i64 y.2.2].toArray ∧ ∃ a' c', q' = pto p (.cells [.slice a' (l').length c', .pointer (some ⟨pm, 0, none⟩), x2, x3, x4, x5, .slice cda cells.length cc].toArray 106 (0, 0)) :: lsH I64 2 a' c' (l') :: q) (fun ch q' => accS m x l cells = none ∧ ch = [trapE 3] ∧ q' = q)) := by
 refine CallF.of Tryz.func67 Tryz.ntmps67 rfl (fun F cs => ?_)
 have hdep := hS.dep; have hlen := hS.len; have hcel := hS.cel; have hsm := sumI_take_le hS.ok m.arrays.length; rw [List.take_length] at hsm; have hmv := hS.ok.2.2.1.1
 rcases hx with hx | hx | hx | hx
 · skip
   have hdx := hdep; rw [hx] at hdx; replace hdx : (0 : Int) ≤ l.length := hdx
   have hv := hS.var (by omega); have hlt : x.a.toNat < cells.length := by unfold cntS at hcel; omega
   refine xo 2 ?_
   refine XO.bx fun n1 => ?_
   refine XO.al Tryz.zeroValue71 fun n2 => ?_
   refine oo 3 ?_
   refine XO.al Tryz.zeroValue71 fun n3 => ?_
   refine oo 5 ?_
   refine ld ?_
   refine ox 7 ?_
   refine X.know 10 (.bool true) rfl (congrArg Value.bool (by simp [hx])) ?_
   refine xx 1 ?_
   refine drw ?_
   refine dd [0] ?_
   refine ldD 1 ?_
   refine dd [2, 3, 4] ?_
   refine ldD 5 ?_
   refine dd [6] ?_
   refine ldD 7 ?_
   refine XD.adr hc (by simp; omega) (fun b2 o2 e2 => ?_)
   have hs2 := hc; rw [e2] at hs2
   refine XD.know 17 (.slice (some ⟨b2, o2, none⟩) cells.length cc) rfl (by rw [e2]) ?_
   refine dd [8] ?_
   refine ldD 9 ?_ (hc := (Cl.e1 hs2 leA hlt (by omega)))
   refine dd [10] ?_
   refine stAD 11 ?_
   refine XD.nil ?_
   refine xo 5 ?_
   refine ld ?_
   refine XO.pu (Pu.not rfl) ?_
   refine ox 1 ?_
   refine X.sb [69, 5, 4, 0] ?_
   refine X.kt 69 ?_
   refine xx 1 ?_
   refine drw ?_
   refine dd [0, 1, 2, 3] ?_
   refine ldD 4 ?_
   refine XD.cF 5 Tryz.call66 (push_ok (l := l) (z := cells[x.a.toNat]) (by first | omega | (rw [List.length_take]; omega))) ?_
   rintro _ _ ⟨a2, c2, rfl⟩ _ e_; simp only [ca, na] at e_; subst e_
   refine ⟨trivial, ?_⟩
   refine XD.nil ?_
   refine xo 2 ?_
   refine ldA ?_
   refine stA ?_
   refine ox 1 ?_
   refine X.retL (pto p (.cells [.slice a2 (l ++ [cells[x.a.toNat]]).length c2, .pointer (some ⟨pm, 0, none⟩), x2, x3, x4, x5, .slice cda cells.length cc].toArray 106 (0, 0)) :: lsH I64 2 a2 c2 (l ++ [cells[x.a.toNat]]) :: q) Tryz.func67 (resC1 Tryz.results67 (ResOk.cell rfl (LV.agg Tryz.isAgg71 Tryz.sizeOf71 hasA rfl) ResOk.nil)) (RP.ret ⟨(x.a, false, cells[x.a.toNat]), l ++ [cells[x.a.toNat]], by unfold accS; rw [if_pos hx, getD_lt hlt], rfl, a2, c2, rfl⟩)
 · skip
   have hdx := hdep; rw [hx] at hdx; replace hdx : (1 : Int) ≤ l.length := hdx
   have hv := hS.var (by omega)
   refine xo 2 ?_
   refine XO.bx fun n4 => ?_
   refine XO.al Tryz.zeroValue71 fun n5 => ?_
   refine oo 3 ?_
   refine XO.al Tryz.zeroValue71 fun n6 => ?_
   refine oo 5 ?_
   refine ld ?_
   refine ox 7 ?_
   refine X.know 10 (.bool false) rfl (congrArg Value.bool (by simp [hx])) ?_
   refine xx 6 ?_
   refine X.know 23 (.bool true) rfl (congrArg Value.bool (by simp [hx])) ?_
   refine xx 1 ?_
   refine drw ?_
   refine dd [0] ?_
   refine ldD 1 ?_
   refine dd [2, 3, 4] ?_
   refine XD.cF 5 Tryz.call65 (pop_ok (l := l) (by omega)) ?_
   rintro _ _ ⟨rfl, rfl⟩ _ e_; simp only [ca, na] at e_; subst e_
   refine ⟨hlA, ?_⟩
   refine dd [6] ?_
   refine stAD 7 ?_
   refine XD.nil ?_
   refine xo 5 ?_
   refine ld ?_
   refine XO.pu (Pu.not rfl) ?_
   refine ox 1 ?_
   refine X.sb [69, 5, 4, 0] ?_
   refine X.kf 69 ?_
   refine xo 4 ?_
   refine ldA ?_
   refine stA ?_
   refine ox 1 ?_
   refine X.retL (pto p (.cells [.slice a (l.take (l.length - 1)).length c, .pointer (some ⟨pm, 0, none⟩), x2, x3, x4, x5, .slice cda cells.length cc].toArray 106 (0, 0)) :: lsH I64 2 a c (l.take (l.length - 1)) :: q) Tryz.func67 (resC1 Tryz.results67 (ResOk.cell rfl (LV.agg Tryz.isAgg71 Tryz.sizeOf71 hasA rfl) ResOk.nil)) (RP.ret ⟨(x.a, true, lastS l), l.take (l.length - 1), by unfold accS; rw [if_neg (by omega), if_pos hx], rfl, a, c, rfl⟩)
 · skip
   have hdx := hdep; rw [hx] at hdx; replace hdx : (1 : Int) ≤ l.length := hdx
   have hv := hS.arr (by omega)
   refine xo 2 ?_
   refine XO.bx fun n7 => ?_
   refine XO.al Tryz.zeroValue71 fun n8 => ?_
   refine oo 3 ?_
   refine XO.al Tryz.zeroValue71 fun n9 => ?_
   refine oo 5 ?_
   refine ld ?_
   refine ox 7 ?_
   refine X.know 10 (.bool false) rfl (congrArg Value.bool (by simp [hx])) ?_
   refine xx 6 ?_
   refine X.know 23 (.bool false) rfl (congrArg Value.bool (by simp [hx])) ?_
   refine xx 6 ?_
   refine X.know 32 (.bool true) rfl (congrArg Value.bool (by simp [hx])) ?_
   refine xx 2 ?_
   refine drw ?_
   refine dd [0, 1] ?_
   refine ldD 2 ?_
   refine dd [3, 4, 5] ?_
   refine XD.cF 6 Tryz.call65 (pop_ok (l := l) (by omega)) ?_
   rintro _ _ ⟨rfl, rfl⟩ _ e_; simp only [ca, na] at e_; subst e_
   refine ⟨hlA, ?_⟩
   refine XD.cP 7 Tryz.call110 (Le.refl _) (place_ok (arr := x.a) (idx := lastS l) (CellsAt.of hasA) (hm.le leA) (hq.le leA) hS.ok hv (vals_getD hS.vl _)) ?_ ?_ trivial
   · rintro _ _ ⟨h0, rfl, rfl⟩
     exact FQ.panic Tryz.func67 (RP.thr ⟨by unfold accS; rw [if_neg (by omega), if_neg (by omega)]; rw [if_pos hx, if_pos h0], rfl, rfl⟩)
   rintro _ _ ⟨h0, rfl, rfl⟩
   refine ⟨trivial, ?_⟩
   have hcr := cellS_rng hS.ok (a := x.a) (i := lastS l) hv; have hlt : (cellS m x.a (lastS l)).toNat < cells.length := by omega
   refine dd [8] ?_
   refine XD.nil ?_
   refine xo 5 ?_
   refine ld ?_
   refine oo 1 ?_
   refine XO.adr hc (by simp; omega) (fun b2 o2 e2 => ?_)
   have hs2 := hc; rw [e2] at hs2
   refine XO.know 46 (.slice (some ⟨b2, o2, none⟩) cells.length cc) rfl (by rw [e2]) ?_
   refine oo 1 ?_
   refine ld ?_ (hc := (Cl.e1 hs2 leA hlt (by omega)))
   refine oo 1 ?_
   refine stA ?_
   refine oo 6 ?_
   refine ld ?_
   refine XO.pu (Pu.not rfl) ?_
   refine ox 1 ?_
   refine X.sb [69, 5, 4, 0] ?_
   refine X.kt 69 ?_
   refine xx 1 ?_
   refine drw ?_
   refine dd [0, 1, 2, 3] ?_
   refine ldD 4 ?_
   refine XD.cF 5 Tryz.call66 (push_ok (l := l.take (l.length - 1)) (z := cells[(cellS m x.a (lastS l)).toNat]) (by first | omega | (rw [List.length_take]; omega))) ?_
   rintro _ _ ⟨a2, c2, rfl⟩ _ e_; simp only [ca, na] at e_; subst e_
   refine ⟨trivial, ?_⟩
   refine XD.nil ?_
   refine xo 2 ?_
   refine ldA ?_
   refine stA ?_
   refine ox 1 ?_
   refine X.retL (pto p (.cells [.slice a2 (l.take (l.length - 1) ++ [cells[(cellS m x.a (lastS l)).toNat]]).length c2, .pointer (some ⟨pm, 0, none⟩), x2, x3, x4, x5, .slice cda cells.length cc].toArray 106 (0, 0)) :: lsH I64 2 a2 c2 (l.take (l.length - 1) ++ [cells[(cellS m x.a (lastS l)).toNat]]) :: q) Tryz.func67 (resC1 Tryz.results67 (ResOk.cell rfl (LV.agg Tryz.isAgg71 Tryz.sizeOf71 hasA rfl) ResOk.nil)) (RP.ret ⟨(cellS m x.a (lastS l), false, cells[(cellS m x.a (lastS l)).toNat]), l.take (l.length - 1) ++ [cells[(cellS m x.a (lastS l)).toNat]], by unfold accS; rw [if_neg (by omega), if_neg (by omega), if_pos hx, if_neg (by omega), getD_lt hlt], rfl, a2, c2, rfl⟩)
 · skip
   have hdx := hdep; rw [hx] at hdx; replace hdx : (2 : Int) ≤ l.length := hdx
   have hv := hS.arr (by omega)
   refine xo 2 ?_
   refine XO.bx fun n10 => ?_
   refine XO.al Tryz.zeroValue71 fun n11 => ?_
   refine oo 3 ?_
   refine XO.al Tryz.zeroValue71 fun n12 => ?_
   refine oo 5 ?_
   refine ld ?_
   refine ox 7 ?_
   refine X.know 10 (.bool false) rfl (congrArg Value.bool (by simp [hx])) ?_
   refine xx 6 ?_
   refine X.know 23 (.bool false) rfl (congrArg Value.bool (by simp [hx])) ?_
   refine xx 6 ?_
   refine X.know 32 (.bool false) rfl (congrArg Value.bool (by simp [hx])) ?_
   refine xx 6 ?_
   refine X.know 51 (.bool true) rfl (congrArg Value.bool (by simp [hx])) ?_
   refine xo 6 ?_
   refine XO.cF Tryz.call65 (pop_ok (l := l) (by omega)) ?_
   rintro _ _ ⟨rfl, rfl⟩ _ e_; simp only [ca, na] at e_; subst e_
   refine ox 2 ?_
   refine X.sb [7, 5, 4, 3, 0] ?_
   refine drw ?_
   refine dd [0, 1] ?_
   refine ldD 2 ?_
   refine dd [3, 4, 5, 8] ?_
   refine XD.cF 6 Tryz.call65 (pop_ok (l := l.take (l.length - 1)) (by rw [List.length_take]; omega)) ?_
   rintro _ _ ⟨rfl, rfl⟩ _ e_; simp only [ca, na] at e_; subst e_
   refine ⟨hlA, ?_⟩
   rw [take_take_pred]
   refine XD.know 63 (.int .i64 (aheadS l)) rfl (congrArg (Value.int .i64) (last_take_pred (by omega))) ?_
   refine XD.cP 7 Tryz.call110 (Le.refl _) (place_ok (arr := x.a) (idx := aheadS l) (CellsAt.of hasA) (hm.le leA) (hq.le leA) hS.ok hv (vals_getD hS.vl _)) ?_ ?_ trivial
   · rintro _ _ ⟨h0, rfl, rfl⟩
     exact FQ.panic Tryz.func67 (RP.thr ⟨by unfold accS; rw [if_neg (by omega), if_neg (by omega)]; rw [if_neg (by omega), if_pos h0], rfl, rfl⟩)
   rintro _ _ ⟨h0, rfl, rfl⟩
   refine ⟨trivial, ?_⟩
   have hcr := cellS_rng hS.ok (a := x.a) (i := aheadS l) hv; have hlt : (cellS m x.a (aheadS l)).toNat < cells.length := by omega
   refine dd [9] ?_
   refine stAD 10 ?_
   refine XD.nil ?_
   refine xo 5 ?_
   refine ld ?_
   refine XO.pu (Pu.not rfl) ?_
   refine ox 1 ?_
   refine X.kf 69 ?_
   refine xo 4 ?_
   refine ldA ?_
   refine stA ?_
   refine ox 1 ?_
   refine X.retL (pto p (.cells [.slice a (l.take (l.length - 2)).length c, .pointer (some ⟨pm, 0, none⟩), x2, x3, x4, x5, .slice cda cells.length cc].toArray 106 (0, 0)) :: lsH I64 2 a c (l.take (l.length - 2)) :: q) Tryz.func67 (resC1 Tryz.results67 (ResOk.cell rfl (LV.agg Tryz.isAgg71 Tryz.sizeOf71 hasA rfl) ResOk.nil)) (RP.ret ⟨(cellS m x.a (aheadS l), true, lastS l), l.take (l.length - 2), by unfold accS; rw [if_neg (by omega), if_neg (by omega), if_neg (by omega), if_neg (by omega)], rfl, a, c, rfl⟩)
end
end Go.Proofs.YtcklgodcjnnllaaGreatDoor

