/- What functions of package verify, of its references and of its laws do: contracts of calls, proved by walking their code. -/
import Derived.Test.YtbeeplmgcdnadaaDoorE
import Derived.KernelRfl
set_option maxRecDepth 100000
set_option linter.unusedVariables false
set_option linter.unusedSimpArgs false
namespace Go.Proofs.YtbeeplmgcdnadaaDoor
open Go Go.RowKit Wx
attribute [local irreducible] Wx.lsH Wx.rsH Wx.lsM Wx.rsM Wx.stars

theorem Tryd.info3 : (Tryd.prog.info? 3).map (fun i => (i.zero, i.size, i.bytes)) = some (some (.int .i64 0), 1, 8) := by kernel_rfl
/-! ### instructions, and how deep the stack is at each -/
abbrev InsT := Int × Int × Int × Int
def effS (c : Int) : Int × Int :=
  if c ≤ 3 ∨ c = 30 then (0, 1) else if c = 4 ∨ c = 8 ∨ c = 9 ∨ c = 22 then (1, 1) else if 10 ≤ c ∧ c ≤ 18 then (2, 1) else if c = 7 then (2, 0) else if c = 5 ∨ c = 6 ∨ c = 20 ∨ c = 21 ∨ c = 29 ∨ c = 33 then (1, 0) else (0, 0)
theorem effS_nn (c : Int) : 0 ≤ (effS c).1 ∧ 0 ≤ (effS c).2 := by
  unfold effS
  split; · decide
  split; · decide
  split; · decide
  split; · decide
  split <;> decide
/-- What comes behind an instruction at a place. -/
def nextS (i : InsT) (a : Nat) : List Int :=
  if i.1 = 34 then [] else if i.1 = 19 then [i.2.1] else if i.1 = 20 ∨ i.1 = 21 then if i.2.1 = a + 1 then [i.2.1] else [i.2.1, a + 1] else [(a : Int) + 1]
def zI : InsT := (0, 0, 0, 0)
/-- The depth behind an instruction, or an error. -/
def oneS (ins : List InsT) (a : Nat) (d : Int) : Int × Int :=
  let i := ins.getD a zI
  if d < (effS i.1).1 ∨ d - (effS i.1).1 + (effS i.1).2 > 25 then (0, 173)
  else if (i.1 = 23 ∨ i.1 = 34) ∧ d ≠ 0 then (0, 175)
  else if ∃ x ∈ nextS i a, (ins.length : Int) ≤ x then (0, 172) else (d - (effS i.1).1 + (effS i.1).2, 0)
def dAt (D : List Int) (i : Nat) : Int := D.getD i (-1)
def visitS (b : Int) : List Int → List Int → Option (List Int)
  | D, [] => some D
  | D, x :: r => if 0 ≤ dAt D x.toNat ∧ dAt D x.toNat ≠ b then none else visitS b (D.set x.toNat b) r
/-- Is a place come to, and not yet looked at? -/
abbrev isOpen (D : List Int) (dn : List Bool) (i : Nat) : Prop := 0 ≤ dAt D i ∧ dn.getD i false = false
def leastS (D : List Int) (dn : List Bool) : Option Nat := (List.range D.length).find? fun i => decide (isOpen D dn i)
def thrS (ins : List InsT) : Nat → List Int → List Bool → List Int × Int
  | 0, D, _ => (D, 0)
  | k + 1, D, dn => match leastS D dn with
    | none => (D, 0)
    | some a => if (oneS ins a (dAt D a)).2 ≠ 0 then ([], (oneS ins a (dAt D a)).2) else match visitS (oneS ins a (dAt D a)).1 D (nextS (ins.getD a zI) a) with
      | none => ([], 174)
      | some D' => thrS ins k D' (dn.set a true)
theorem leastS_some {D : List Int} {dn : List Bool} {a : Nat} (h : leastS D dn = some a) : a < D.length ∧ isOpen D dn a ∧ ∀ j, j < a → ¬ isOpen D dn j := by
  unfold leastS at h
  have h1 := List.find?_some h
  have h2 := List.mem_of_find?_eq_some h
  refine ⟨by simpa using h2, of_decide_eq_true h1, fun j hj hop => ?_⟩
  obtain ⟨_, as1, bs1, e, hn⟩ := List.find?_eq_some_iff_append.1 h
  have hl : as1.length = a := by
    have h3 : (List.range D.length)[as1.length]? = some a := by rw [e]; simp
    have h4 : as1.length < D.length := by have := congrArg List.length e; simp at this; omega
    rw [List.getElem?_eq_getElem (by simpa using h4)] at h3
    simpa using h3
  have hm : j ∈ as1 := by
    have h3 : as1[j]? = some j := by
      have h5 : (List.range D.length)[j]? = as1[j]? := by rw [e, List.getElem?_append_left (by omega)]
      rw [← h5]
      have h4 : a < D.length := by simpa using h2
      rw [List.getElem?_eq_getElem (by simp; omega)]; simp
    exact List.mem_of_getElem? h3
  have := hn j hm
  rw [decide_eq_true hop] at this; cases this
theorem leastS_none {D : List Int} {dn : List Bool} (h : leastS D dn = none) : ∀ j, j < D.length → ¬ isOpen D dn j := by
  intro j hj hop
  have := List.find?_eq_none.1 h j (by simpa using hj)
  exact this (decide_eq_true hop)
theorem leastS_of {D : List Int} {dn : List Bool} {a : Nat} (h1 : a < D.length) (h2 : isOpen D dn a) (h3 : ∀ j, j < D.length → isOpen D dn j → a ≤ j) : leastS D dn = some a := by
  cases h : leastS D dn with
  | none => exact absurd h2 (leastS_none h a h1)
  | some b =>
    obtain ⟨k1, k2, k3⟩ := leastS_some h
    have := h3 b k1 k2
    rcases Nat.lt_or_ge a b with h4 | h4
    · exact absurd h2 (k3 a h4)
    · rw [show b = a by omega]
theorem leastS_of_none {D : List Int} {dn : List Bool} (h : ∀ j, j < D.length → ¬ isOpen D dn j) : leastS D dn = none := by
  cases h1 : leastS D dn with
  | none => rfl
  | some b => obtain ⟨k1, k2, _⟩ := leastS_some h1; exact absurd k2 (h b k1)
theorem dAt_set {D : List Int} {i j : Nat} {b : Int} (hi : i < D.length) : dAt (D.set i b) j = if j = i then b else dAt D j := by
  unfold dAt
  simp only [List.getD_eq_getElem?_getD, List.getElem?_set]
  by_cases h : j = i
  · subst h; simp [hi]
  · have h' : ¬ i = j := fun e => h e.symm
    simp [h, h']
theorem visitS_some {b : Int} (hb : 0 ≤ b) : ∀ {l D D' : List Int}, (∀ x ∈ l, 0 ≤ x ∧ x < (D.length : Int)) → visitS b D l = some D' → D'.length = D.length ∧ (∀ j, 0 ≤ dAt D j → dAt D' j = dAt D j) ∧ (∀ x ∈ l, dAt D' x.toNat = b) ∧ ∀ j, 0 ≤ dAt D' j → 0 ≤ dAt D j ∨ (j : Int) ∈ l
  | [], D, D', _, h => by cases h; exact ⟨rfl, fun _ _ => rfl, by simp, fun j h => .inl h⟩
  | x :: r, D, D', hx, h => by
    unfold visitS at h
    split at h
    · cases h
    · rename_i hc
      obtain ⟨hx0, hx1⟩ := hx x (List.mem_cons_self ..)
      have hxl : x.toNat < D.length := by omega
      obtain ⟨k1, k2, k3, k4⟩ := visitS_some hb (l := r) (D := D.set x.toNat b) (fun y hy => by rw [List.length_set]; exact hx y (List.mem_cons_of_mem _ hy)) h
      have e := fun j => dAt_set (D := D) (i := x.toNat) (j := j) (b := b) hxl
      refine ⟨by rw [k1, List.length_set], fun j hj => ?_, fun y hy => ?_, fun j hj => ?_⟩
      · have h1 : 0 ≤ dAt (D.set x.toNat b) j := by rw [e]; split <;> omega
        rw [k2 j h1, e]
        split
        · rename_i e1
          subst e1
          rcases Decidable.em (dAt D x.toNat = b) with h2 | h2
          · exact h2.symm
          · exact absurd ⟨hj, h2⟩ hc
        · rfl
      · rcases List.mem_cons.1 hy with rfl | hy
        · have h1 : 0 ≤ dAt (D.set y.toNat b) y.toNat := by rw [e, if_pos rfl]; exact hb
          rw [k2 _ h1, e, if_pos rfl]
        · exact k3 y hy
      · rcases k4 j hj with h1 | h1
        · rw [e] at h1
          split at h1
          · rename_i e1; right; rw [e1]; simp; left; omega
          · exact .inl h1
        · exact .inr (List.mem_cons_of_mem _ h1)
/-- All that was looked at goes on to what has its depth. -/
def Goes (ins : List InsT) (D : List Int) (a : Nat) : Prop := (oneS ins a (dAt D a)).2 = 0 ∧ ∀ x ∈ nextS (ins.getD a zI) a, dAt D x.toNat = (oneS ins a (dAt D a)).1
theorem oneS_next {ins : List InsT} {a : Nat} {d : Int} (h : (oneS ins a d).2 = 0) : (∀ x ∈ nextS (ins.getD a zI) a, x < (ins.length : Int)) ∧ (0 ≤ d → 0 ≤ (oneS ins a d).1) ∧ ¬ d < (effS (ins.getD a zI).1).1 := by
  unfold oneS at h ⊢
  simp only at h ⊢
  split at h
  · cases h
  · rename_i h1
    split at h
    · cases h
    · rename_i h2
      split at h
      · cases h
      · rename_i h3
        rw [if_neg h1, if_neg h2, if_neg h3]
        refine ⟨fun x hx => ?_, fun hd => ?_, fun h4 => h1 (.inl h4)⟩
        · rcases Int.lt_or_le x ins.length with h4 | h4
          · exact h4
          · exact absurd ⟨x, hx, h4⟩ h3
        · have := effS_nn (ins.getD a zI).1
          dsimp only; omega
theorem thrS_goes {ins : List InsT} (hA : ∀ i ∈ ins, (i.1 = 19 ∨ i.1 = 20 ∨ i.1 = 21) → 0 ≤ i.2.1) : ∀ (k : Nat) (D : List Int) (dn : List Bool), D.length = ins.length → dn.length = ins.length → (dn.filter (· == false)).length ≤ k →
    (∀ a, a < ins.length → dn.getD a false = true → 0 ≤ dAt D a ∧ Goes ins D a) → (thrS ins k D dn).2 = 0 → (thrS ins k D dn).1.length = ins.length ∧ (∀ a, 0 ≤ dAt D a → dAt (thrS ins k D dn).1 a = dAt D a) ∧ ∀ a, a < ins.length → 0 ≤ dAt (thrS ins k D dn).1 a → Goes ins (thrS ins k D dn).1 a := by
  have noF : ∀ dn : List Bool, (dn.filter (· == false)).length = 0 → ∀ a, a < dn.length → dn.getD a false = true := by
    intro dn h a ha
    have h1 := List.eq_nil_of_length_eq_zero h
    rw [List.filter_eq_nil_iff] at h1
    have := h1 dn[a] (List.getElem_mem ha)
    simp [List.getD, ha]
    simpa using this
  have cnt : ∀ (dn : List Bool) (a : Nat), a < dn.length → dn.getD a false = false → ((dn.set a true).filter (· == false)).length + 1 = (dn.filter (· == false)).length := by
    intro dn
    induction dn with
    | nil => intro a h; simp at h
    | cons x r ih =>
      intro a ha h
      cases a with
      | zero => simp at h; subst h; simp
      | succ a =>
        have := ih a (by simpa using ha) (by simpa using h)
        cases x
        · simp only [List.set_cons_succ, List.filter_cons, beq_self_eq_true, if_true, List.length_cons]; omega
        · simpa using this
  intro k
  induction k with
  | zero =>
    intro D dn h1 h2 h3 h4 _
    refine ⟨h1, fun a _ => rfl, fun a ha _ => (h4 a ha (noF dn (by omega) a (by omega))).2⟩
  | succ k ih =>
    intro D dn h1 h2 h3 h4 h5
    unfold thrS at h5 ⊢
    split at h5
    · rename_i hn
      refine ⟨h1, fun a _ => rfl, fun a ha hd => ?_⟩
      have hno := leastS_none hn a (by omega)
      have : dn.getD a false = true := by
        cases hb : dn.getD a false with
        | true => rfl
        | false => exact absurd ⟨hd, hb⟩ hno
      exact (h4 a ha this).2
    · rename_i a ha
      obtain ⟨k1, ⟨k2, k3⟩, _⟩ := leastS_some ha
      split at h5
      · rename_i h6; exact absurd h5 h6
      · rename_i h6
        have h6' : (oneS ins a (dAt D a)).2 = 0 := by omega
        rw [if_neg h6]
        split at h5
        · cases h5
        · rename_i D' hv
          obtain ⟨n1, n2, n3⟩ := oneS_next h6'
          have hx : ∀ x ∈ nextS (ins.getD a zI) a, 0 ≤ x ∧ x < (D.length : Int) := fun x hx => by
            refine ⟨?_, by rw [h1]; exact n1 x hx⟩
            unfold nextS at hx
            have hmem : ins.getD a zI ∈ ins := by
              have : ins.getD a zI = ins[a]'(by omega) := by simp [List.getD, show a < ins.length by omega]
              rw [this]; exact List.getElem_mem _
            have hAi := hA _ hmem
            split at hx
            · simp at hx
            · split at hx
              · rename_i e; rw [List.mem_singleton.1 hx]; exact hAi (.inl e)
              · split at hx
                · rename_i e
                  have h7 := hAi (by omega)
                  split at hx
                  · rw [List.mem_singleton.1 hx]; exact h7
                  · rcases List.mem_cons.1 hx with rfl | hx
                    · exact h7
                    · rw [List.mem_singleton.1 hx]; omega
                · simp at hx; omega
          obtain ⟨v1, v2, v3, v4⟩ := visitS_some (n2 k2) hx hv
          have hal : a < ins.length := by omega
          obtain ⟨r1, r2, r3⟩ := ih D' (dn.set a true) (by omega) (by rw [List.length_set]; exact h2) (by have := cnt dn a (by omega) k3; omega) (fun b hb hdb => by
            have hbD : 0 ≤ dAt D b ∧ ((oneS ins b (dAt D b)).2 = 0 ∧ ∀ x ∈ nextS (ins.getD b zI) b, dAt D' x.toNat = (oneS ins b (dAt D b)).1) := by
              by_cases e : b = a
              · subst e; exact ⟨k2, h6', v3⟩
              · have : dn.getD b false = true := by
                  simp only [List.getD_eq_getElem?_getD, List.getElem?_set, show ¬ a = b from fun x => e x.symm, if_false] at hdb
                  simpa [List.getD_eq_getElem?_getD] using hdb
                obtain ⟨g1, g2, g3⟩ := h4 b hb this
                refine ⟨g1, g2, fun x hx => ?_⟩
                have h8 := g3 x hx
                have h9 : 0 ≤ dAt D x.toNat := by rw [h8]; exact (oneS_next g2).2.1 g1
                rw [v2 _ h9]; exact h8
            obtain ⟨g1, g2, g3⟩ := hbD
            have e2 := v2 b g1
            refine ⟨by rw [e2]; exact g1, by rw [e2]; exact g2, fun x hx => by rw [e2]; exact g3 x hx⟩) h5
          refine ⟨r1, fun b hb => ?_, r3⟩
          have := v2 b hb
          rw [r2 b (by rw [this]; exact hb), this]

def Ins.t (i : Ins) : InsT := (i.c, i.a, i.b, i.n)
def efC (x : Int × Int) : List Value := [.int .i64 x.1, .int .i64 x.2]
def effL : List (Int × Int) := [(0, 0), (0, 1), (0, 1), (0, 1), (1, 1), (1, 0), (1, 0), (2, 0), (1, 1), (1, 1), (2, 1), (2, 1), (2, 1), (2, 1), (2, 1), (2, 1), (2, 1), (2, 1), (2, 1), (0, 0), (1, 0), (1, 0), (1, 1), (0, 0), (0, 0), (0, 0), (0, 0), (0, 0), (0, 0), (1, 0), (0, 1), (0, 0), (0, 0), (1, 0), (0, 0)]
theorem effL_at : ∀ k : Fin 35, 1 ≤ k.val → effL[k.val]'k.isLt = effS k.val := by decide

/-- What is read of the effects' table. -/
def GE (q : List HP) : Prop := Sees q (some ⟨0, 0, none⟩) (effL.flatMap efC)
theorem GE.le {q q' : List HP} (h : GE q') (k : Le q q') : GE q := Sees.le h k
theorem GE.cl {q q0 : List HP} (h : GE q0) (hq : Le q q0) {cd : Int} (hr : 1 ≤ cd ∧ cd ≤ 34) : Cl q ⟨0, 0 + cd.toNat * 2 + 0, none⟩ (.int .i64 (effS cd).1) ∧ Cl q ⟨0, 0 + cd.toNat * 2 + 1, none⟩ (.int .i64 (effS cd).2) := by
  have hk : cd.toNat < 35 := by omega
  have e := effL_at ⟨cd.toNat, hk⟩ (by show 1 ≤ cd.toNat; omega)
  have e1 : ((cd.toNat : Nat) : Int) = cd := by omega
  dsimp only at e; rw [e1] at e
  have h0 := Cl.row (f := efC) (sz := 2) (j := cd) (n := cd.toNat) h hq (fun _ => rfl) (show cd.toNat < effL.length from hk) (by omega) 0 (.int .i64 (effS cd).1) (by rw [← e]; rfl)
  have h1 := Cl.row (f := efC) (sz := 2) (j := cd) (n := cd.toNat) h hq (fun _ => rfl) (show cd.toNat < effL.length from hk) (by omega) 1 (.int .i64 (effS cd).2) (by rw [← e]; rfl)
  exact ⟨h0, h1⟩
section
variable {G : World} {q pre : List HP} {a b A : Option Addr} {c d C p p0 p1 p2 i : Nat} {lo hi n cd dep : Int} {fv : Value} {x y : Ins} {t : Cod} {m : Mdl} {at_ : Int}
set_option maxHeartbeats 1000000 in
theorem REffect_ok  : CallF Tryd.prog G 58 [.int .i64 cd] (q) (Ret fun v q' => v = (if 1 ≤ cd ∧ cd ≤ 34 then .tuple [.int .i64 (effS cd).1, .int .i64 (effS cd).2, .bool true].toArray else .tuple [.int .i64 0, .int .i64 0, .bool false].toArray) ∧ q' = q) := by
 refine CallF.of Tryd.func58 Tryd.ntmps58 rfl (fun F cs => ?_)
 refine xo 13 ?_
 refine XO.sb [8, 4, 3, 2, 0] ?_
 apply XO.cutOr 3 11 8 rfl
 · skip
   intro g1 M1; have h1 := sp g1
   refine oo 3 ?_
   exact XO.fin M1 ⟨orF g1, subB⟩
 · skip
   intro g1 M1; have h1 := sp g1
   refine oo 3 ?_
   exact XO.fin M1 ⟨orT g1, subB⟩
 · skip
   refine ox 2 ?_
   refine X.part 5 rfl (fun h1 => ?_) (fun h1 => ?_)
   · skip
     replace h1 := sp h1
     refine xx 7 ?_
     refine X.retL (q) Tryd.func58 (res3 Tryd.results58 rfl rfl rfl) ⟨_, rfl, by rw [if_neg (by omega)], rfl⟩
   · skip
     replace h1 := sp h1
     refine xo 6 ?_
     refine XO.sb [15, 4, 3, 2, 0] ?_
     apply XO.cutOr 3 18 15 rfl
     · skip
       intro g2 M2; have h2 := sp g2
       refine oo 3 ?_
       exact XO.fin M2 ⟨orF g2, subB⟩
     · skip
       intro g2 M2; have h2 := sp g2
       refine oo 3 ?_
       exact XO.fin M2 ⟨orT g2, subB⟩
     · skip
       refine ox 2 ?_
       refine X.part 12 rfl (fun h2 => ?_) (fun h2 => ?_)
       · skip
         replace h2 := sp h2
         refine xx 7 ?_
         refine X.retL (q) Tryd.func58 (res3 Tryd.results58 rfl rfl rfl) ⟨_, rfl, by rw [if_pos (by omega)]; unfold effS; (repeat' split) <;> first | rfl | omega, rfl⟩
       · skip
         replace h2 := sp h2
         refine xo 6 ?_
         refine XO.sb [22, 4, 3, 2, 0] ?_
         apply XO.cutOr 3 25 22 rfl
         · skip
           intro g3 M3; have h3 := sp g3
           refine oo 3 ?_
           exact XO.fin M3 ⟨orF g3, subB⟩
         · skip
           intro g3 M3; have h3 := sp g3
           refine oo 3 ?_
           exact XO.fin M3 ⟨orT g3, subB⟩
         · skip
           refine oo 1 ?_
           refine XO.sb [26, 4, 3, 2, 0] ?_
           apply XO.cutOr 3 29 26 rfl
           · skip
             intro g3 M3; have h3 := sp g3
             refine oo 3 ?_
             exact XO.fin M3 ⟨orF g3, subB⟩
           · skip
             intro g3 M3; have h3 := sp g3
             refine oo 3 ?_
             exact XO.fin M3 ⟨orT g3, subB⟩
           · skip
             refine oo 1 ?_
             refine XO.sb [30, 4, 3, 2, 0] ?_
             apply XO.cutOr 3 33 30 rfl
             · skip
               intro g3 M3; have h3 := sp g3
               refine oo 3 ?_
               exact XO.fin M3 ⟨orF g3, subB⟩
             · skip
               intro g3 M3; have h3 := sp g3
               refine oo 3 ?_
               exact XO.fin M3 ⟨orT g3, subB⟩
             · skip
               refine ox 2 ?_
               refine X.sb [19, 4, 3, 2, 0] ?_
               refine X.part 19 rfl (fun h3 => ?_) (fun h3 => ?_)
               · skip
                 replace h3 := sp h3
                 refine xx 7 ?_
                 refine X.retL (q) Tryd.func58 (res3 Tryd.results58 rfl rfl rfl) ⟨_, rfl, by rw [if_pos (by omega)]; unfold effS; (repeat' split) <;> first | rfl | omega, rfl⟩
               · skip
                 replace h3 := sp h3
                 refine xo 6 ?_
                 refine XO.sb [37, 4, 3, 2, 0] ?_
                 apply XO.cutAnd 3 40 37 rfl
                 · skip
                   intro g4 M4; have h4 := sp g4
                   refine oo 3 ?_
                   exact XO.fin M4 ⟨andT g4, subB⟩
                 · skip
                   intro g4 M4; have h4 := sp g4
                   refine oo 3 ?_
                   exact XO.fin M4 ⟨andF g4, subB⟩
                 · skip
                   refine ox 2 ?_
                   refine X.part 34 rfl (fun h4 => ?_) (fun h4 => ?_)
                   · skip
                     replace h4 := sp h4
                     refine xx 7 ?_
                     refine X.retL (q) Tryd.func58 (res3 Tryd.results58 rfl rfl rfl) ⟨_, rfl, by rw [if_pos (by omega)]; unfold effS; (repeat' split) <;> first | rfl | omega, rfl⟩
                   · skip
                     replace h4 := sp h4
                     refine xx 7 ?_
                     refine X.part 41 rfl (fun h5 => ?_) (fun h5 => ?_)
                     · skip
                       replace h5 := sp h5
                       refine xx 7 ?_
                       refine X.retL (q) Tryd.func58 (res3 Tryd.results58 rfl rfl rfl) ⟨_, rfl, by rw [if_pos (by omega)]; unfold effS; (repeat' split) <;> first | rfl | omega, rfl⟩
                     · skip
                       replace h5 := sp h5
                       refine xo 6 ?_
                       refine XO.sb [47, 4, 3, 2, 0] ?_
                       apply XO.cutOr 3 50 47 rfl
                       · skip
                         intro g6 M6; have h6 := sp g6
                         refine oo 3 ?_
                         exact XO.fin M6 ⟨orF g6, subB⟩
                       · skip
                         intro g6 M6; have h6 := sp g6
                         refine oo 3 ?_
                         exact XO.fin M6 ⟨orT g6, subB⟩
                       · skip
                         refine oo 1 ?_
                         refine XO.sb [51, 4, 3, 2, 0] ?_
                         apply XO.cutOr 3 54 51 rfl
                         · skip
                           intro g6 M6; have h6 := sp g6
                           refine oo 3 ?_
                           exact XO.fin M6 ⟨orF g6, subB⟩
                         · skip
                           intro g6 M6; have h6 := sp g6
                           refine oo 3 ?_
                           exact XO.fin M6 ⟨orT g6, subB⟩
                         · skip
                           refine oo 1 ?_
                           refine XO.sb [55, 4, 3, 2, 0] ?_
                           apply XO.cutOr 3 58 55 rfl
                           · skip
                             intro g6 M6; have h6 := sp g6
                             refine oo 3 ?_
                             exact XO.fin M6 ⟨orF g6, subB⟩
                           · skip
                             intro g6 M6; have h6 := sp g6
                             refine oo 3 ?_
                             exact XO.fin M6 ⟨orT g6, subB⟩
                           · skip
                             refine oo 1 ?_
                             refine XO.sb [59, 4, 3, 2, 0] ?_
                             apply XO.cutOr 3 62 59 rfl
                             · skip
                               intro g6 M6; have h6 := sp g6
                               refine oo 3 ?_
                               exact XO.fin M6 ⟨orF g6, subB⟩
                             · skip
                               intro g6 M6; have h6 := sp g6
                               refine oo 3 ?_
                               exact XO.fin M6 ⟨orT g6, subB⟩
                             · skip
                               refine oo 1 ?_
                               refine XO.sb [63, 4, 3, 2, 0] ?_
                               apply XO.cutOr 3 66 63 rfl
                               · skip
                                 intro g6 M6; have h6 := sp g6
                                 refine oo 3 ?_
                                 exact XO.fin M6 ⟨orF g6, subB⟩
                               · skip
                                 intro g6 M6; have h6 := sp g6
                                 refine oo 3 ?_
                                 exact XO.fin M6 ⟨orT g6, subB⟩
                               · skip
                                 refine ox 2 ?_
                                 refine X.sb [44, 4, 3, 2] ?_
                                 refine X.part 44 rfl (fun h6 => ?_) (fun h6 => ?_)
                                 · skip
                                   replace h6 := sp h6
                                   refine xx 7 ?_
                                   refine X.retL (q) Tryd.func58 (res3 Tryd.results58 rfl rfl rfl) ⟨_, rfl, by rw [if_pos (by omega)]; unfold effS; (repeat' split) <;> first | rfl | omega, rfl⟩
                                 · skip
                                   replace h6 := sp h6
                                   refine xx 9 ?_
                                   refine X.retL (q) Tryd.func58 (res3 Tryd.results58 rfl rfl rfl) ⟨_, rfl, by rw [if_pos (by omega)]; unfold effS; (repeat' split) <;> first | rfl | omega, rfl⟩
def nxt (x : Ins) (at_ : Int) : List Int := if x.c = 34 then [] else if x.c = 19 then [x.a] else if x.c = 20 ∨ x.c = 21 then if x.a = at_ + 1 then [x.a] else [x.a, at_ + 1] else [at_ + 1]
theorem nxt_eq (x : Ins) (k : Nat) : nxt x k = nextS x.t k := rfl
def ivs (n : Int) : List Value := [.int .i64 n]
theorem behindF_ok {y : Nat} {J : Nat → HP} {Jf : HP → Prop} (hat : 0 ≤ at_ ∧ at_ ≤ 1000000000000)
    (hy : ∀ i (h : i < ((nxt x at_).map ivs).length), CallV Tryd.prog G (.func (.yield y) #[] #[]) ((nxt x at_).map ivs)[i] (J i :: [im p1 (.cells (insC x).toArray 53 (0, 0)), im p2 (.cells [.int .i64 at_].toArray 3 (0, 0))]) (Ret fun v q => (v = .bool true ∧ q = J (i + 1) :: [im p1 (.cells (insC x).toArray 53 (0, 0)), im p2 (.cells [.int .i64 at_].toArray 3 (0, 0))]) ∨ (v = .bool false ∧ ∃ A, Jf A ∧ q = A :: [im p1 (.cells (insC x).toArray 53 (0, 0)), im p2 (.cells [.int .i64 at_].toArray 3 (0, 0))]))) :
    CallF Tryd.prog G 73 [.func (.yield y) #[] #[], .pointer (some ⟨p1, 0, none⟩), .pointer (some ⟨p2, 0, none⟩)] (J 0 :: [im p1 (.cells (insC x).toArray 53 (0, 0)), im p2 (.cells [.int .i64 at_].toArray 3 (0, 0))]) (Ret fun _ q => q = J (nxt x at_).length :: [im p1 (.cells (insC x).toArray 53 (0, 0)), im p2 (.cells [.int .i64 at_].toArray 3 (0, 0))] ∨ ∃ A, Jf A ∧ q = A :: [im p1 (.cells (insC x).toArray 53 (0, 0)), im p2 (.cells [.int .i64 at_].toArray 3 (0, 0))]) := by
 refine CallF.of Tryd.func73 Tryd.ntmps73 rfl (fun F cs => ?_)
 refine xo 4 ?_
 refine ld ?_
 refine ox 7 ?_
 refine X.part 6 rfl (fun h1 => ?_) (fun h1 => ?_)
 · skip
   replace h1 := sp h1; have hN : nxt x at_ = [] := by unfold nxt; rw [if_pos h1]
   refine xx 1 ?_
   refine X.retL (J 0 :: [im p1 (.cells (insC x).toArray 53 (0, 0)), im p2 (.cells [.int .i64 at_].toArray 3 (0, 0))]) Tryd.func73 (res0 Tryd.results73) ⟨_, rfl, .inl (by rw [hN]; rfl)⟩
 · skip
   replace h1 := sp h1
   refine xx 6 ?_
   refine X.part 8 rfl (fun h2 => ?_) (fun h2 => ?_)
   · skip
     replace h2 := sp h2; have hN : nxt x at_ = [x.a] := by unfold nxt; rw [if_neg h1, if_pos h2]
     rw [hN] at hy; have Y0 := hy 0 (by simp)
     refine xo 5 ?_
     refine ld ?_
     refine XO.cV (Y0) ?_
     rintro _ _ (⟨rfl, rfl⟩ | ⟨rfl, A, hA, rfl⟩) _ e_ <;> simp only [ca, na] at e_ <;> subst e_
     · skip
       refine ox 1 ?_
       refine X.retL (J 1 :: [im p1 (.cells (insC x).toArray 53 (0, 0)), im p2 (.cells [.int .i64 at_].toArray 3 (0, 0))]) Tryd.func73 (res0 Tryd.results73) ⟨_, rfl, .inl (by rw [hN]; rfl)⟩
     · skip
       refine ox 1 ?_
       refine X.retL (A :: [im p1 (.cells (insC x).toArray 53 (0, 0)), im p2 (.cells [.int .i64 at_].toArray 3 (0, 0))]) Tryd.func73 (res0 Tryd.results73) ⟨_, rfl, .inr ⟨A, hA, rfl⟩⟩
   · skip
     replace h2 := sp h2
     refine xx 7 ?_
     refine X.part 14 rfl (fun h3 => ?_) (fun h3 => ?_)
     · skip
       replace h3 := sp h3
       refine xo 7 ?_
       refine ld ?_
       have h3 : x.c = 20 ∨ x.c = 21 := .inl h3
       rcases Decidable.em (x.a = at_ + 1) with h5 | h5
       · skip
         have hN : nxt x at_ = [x.a] := by unfold nxt; rw [if_neg h1, if_neg h2, if_pos h3, if_pos h5]
         rw [hN] at hy; have Y0 := hy 0 (by simp)
         refine XO.cV (Y0) ?_
         rintro _ _ (⟨rfl, rfl⟩ | ⟨rfl, A, hA, rfl⟩) _ e_ <;> simp only [ca, na] at e_ <;> subst e_
         · skip
           refine XO.pu (Pu.not rfl) ?_
           refine oo 1 ?_
           refine XO.kf 22 ?_
           refine oo 1 ?_
           refine ld ?_
           refine ld ?_
           refine ox 4 ?_
           refine X.sb [28, 0, 2] ?_
           refine X.know 28 (.bool true) rfl (congrArg Value.bool (by rw [beq_iff_eq]; exact h5)) ?_
           refine xx 1 ?_
           refine X.retL (J 1 :: [im p1 (.cells (insC x).toArray 53 (0, 0)), im p2 (.cells [.int .i64 at_].toArray 3 (0, 0))]) Tryd.func73 (res0 Tryd.results73) ⟨_, rfl, .inl (by rw [hN]; rfl)⟩
         · skip
           refine XO.pu (Pu.not rfl) ?_
           refine oo 1 ?_
           refine XO.kt 22 ?_
           refine ox 8 ?_
           refine X.sb [0, 2] ?_
           refine X.retL (A :: [im p1 (.cells (insC x).toArray 53 (0, 0)), im p2 (.cells [.int .i64 at_].toArray 3 (0, 0))]) Tryd.func73 (res0 Tryd.results73) ⟨_, rfl, .inr ⟨A, hA, rfl⟩⟩
       · skip
         have hN : nxt x at_ = [x.a, at_ + 1] := by unfold nxt; rw [if_neg h1, if_neg h2, if_pos h3, if_neg h5]
         rw [hN] at hy; have Y0 := hy 0 (by simp); have Y1 := hy 1 (by simp)
         refine XO.cV (Y0) ?_
         rintro _ _ (⟨rfl, rfl⟩ | ⟨rfl, A, hA, rfl⟩) _ e_ <;> simp only [ca, na] at e_ <;> subst e_
         · skip
           refine XO.pu (Pu.not rfl) ?_
           refine oo 1 ?_
           refine XO.kf 22 ?_
           refine oo 1 ?_
           refine ld ?_
           refine ld ?_
           refine ox 4 ?_
           refine X.sb [28, 0, 2] ?_
           refine X.know 28 (.bool false) rfl (congrArg Value.bool (by rw [beq_eq_false_iff_ne]; exact h5)) ?_
           refine xo 5 ?_
           refine ld ?_
           refine oo 1 ?_
           refine XO.cV (Y1) ?_
           rintro _ _ (⟨rfl, rfl⟩ | ⟨rfl, A, hA, rfl⟩) _ e_ <;> simp only [ca, na] at e_ <;> subst e_
           · skip
             refine ox 1 ?_
             refine X.fallL (J 2 :: [im p1 (.cells (insC x).toArray 53 (0, 0)), im p2 (.cells [.int .i64 at_].toArray 3 (0, 0))]) Tryd.func73 (res0 Tryd.results73) ⟨_, rfl, .inl (by rw [hN]; rfl)⟩
           · skip
             refine ox 1 ?_
             refine X.fallL (A :: [im p1 (.cells (insC x).toArray 53 (0, 0)), im p2 (.cells [.int .i64 at_].toArray 3 (0, 0))]) Tryd.func73 (res0 Tryd.results73) ⟨_, rfl, .inr ⟨A, hA, rfl⟩⟩
         · skip
           refine XO.pu (Pu.not rfl) ?_
           refine oo 1 ?_
           refine XO.kt 22 ?_
           refine ox 8 ?_
           refine X.sb [0, 2] ?_
           refine X.retL (A :: [im p1 (.cells (insC x).toArray 53 (0, 0)), im p2 (.cells [.int .i64 at_].toArray 3 (0, 0))]) Tryd.func73 (res0 Tryd.results73) ⟨_, rfl, .inr ⟨A, hA, rfl⟩⟩
     · skip
       replace h3 := sp h3
       refine xx 5 ?_
       refine X.part 14 rfl (fun h4 => ?_) (fun h4 => ?_)
       · skip
         replace h4 := sp h4
         have h3 : x.c = 20 ∨ x.c = 21 := .inr h4
         rcases Decidable.em (x.a = at_ + 1) with h5 | h5
         · skip
           have hN : nxt x at_ = [x.a] := by unfold nxt; rw [if_neg h1, if_neg h2, if_pos h3, if_pos h5]
           rw [hN] at hy; have Y0 := hy 0 (by simp)
           refine xo 5 ?_
           refine ld ?_
           refine XO.cV (Y0) ?_
           rintro _ _ (⟨rfl, rfl⟩ | ⟨rfl, A, hA, rfl⟩) _ e_ <;> simp only [ca, na] at e_ <;> subst e_
           · skip
             refine XO.pu (Pu.not rfl) ?_
             refine oo 1 ?_
             refine XO.kf 22 ?_
             refine oo 1 ?_
             refine ld ?_
             refine ld ?_
             refine ox 4 ?_
             refine X.sb [28, 0, 2] ?_
             refine X.know 28 (.bool true) rfl (congrArg Value.bool (by rw [beq_iff_eq]; exact h5)) ?_
             refine xx 1 ?_
             refine X.retL (J 1 :: [im p1 (.cells (insC x).toArray 53 (0, 0)), im p2 (.cells [.int .i64 at_].toArray 3 (0, 0))]) Tryd.func73 (res0 Tryd.results73) ⟨_, rfl, .inl (by rw [hN]; rfl)⟩
           · skip
             refine XO.pu (Pu.not rfl) ?_
             refine oo 1 ?_
             refine XO.kt 22 ?_
             refine ox 8 ?_
             refine X.sb [0, 2] ?_
             refine X.retL (A :: [im p1 (.cells (insC x).toArray 53 (0, 0)), im p2 (.cells [.int .i64 at_].toArray 3 (0, 0))]) Tryd.func73 (res0 Tryd.results73) ⟨_, rfl, .inr ⟨A, hA, rfl⟩⟩
         · skip
           have hN : nxt x at_ = [x.a, at_ + 1] := by unfold nxt; rw [if_neg h1, if_neg h2, if_pos h3, if_neg h5]
           rw [hN] at hy; have Y0 := hy 0 (by simp); have Y1 := hy 1 (by simp)
           refine xo 5 ?_
           refine ld ?_
           refine XO.cV (Y0) ?_
           rintro _ _ (⟨rfl, rfl⟩ | ⟨rfl, A, hA, rfl⟩) _ e_ <;> simp only [ca, na] at e_ <;> subst e_
           · skip
             refine XO.pu (Pu.not rfl) ?_
             refine oo 1 ?_
             refine XO.kf 22 ?_
             refine oo 1 ?_
             refine ld ?_
             refine ld ?_
             refine ox 4 ?_
             refine X.sb [28, 0, 2] ?_
             refine X.know 28 (.bool false) rfl (congrArg Value.bool (by rw [beq_eq_false_iff_ne]; exact h5)) ?_
             refine xo 5 ?_
             refine ld ?_
             refine oo 1 ?_
             refine XO.cV (Y1) ?_
             rintro _ _ (⟨rfl, rfl⟩ | ⟨rfl, A, hA, rfl⟩) _ e_ <;> simp only [ca, na] at e_ <;> subst e_
             · skip
               refine ox 1 ?_
               refine X.fallL (J 2 :: [im p1 (.cells (insC x).toArray 53 (0, 0)), im p2 (.cells [.int .i64 at_].toArray 3 (0, 0))]) Tryd.func73 (res0 Tryd.results73) ⟨_, rfl, .inl (by rw [hN]; rfl)⟩
             · skip
               refine ox 1 ?_
               refine X.fallL (A :: [im p1 (.cells (insC x).toArray 53 (0, 0)), im p2 (.cells [.int .i64 at_].toArray 3 (0, 0))]) Tryd.func73 (res0 Tryd.results73) ⟨_, rfl, .inr ⟨A, hA, rfl⟩⟩
           · skip
             refine XO.pu (Pu.not rfl) ?_
             refine oo 1 ?_
             refine XO.kt 22 ?_
             refine ox 8 ?_
             refine X.sb [0, 2] ?_
             refine X.retL (A :: [im p1 (.cells (insC x).toArray 53 (0, 0)), im p2 (.cells [.int .i64 at_].toArray 3 (0, 0))]) Tryd.func73 (res0 Tryd.results73) ⟨_, rfl, .inr ⟨A, hA, rfl⟩⟩
       · skip
         replace h4 := sp h4
         have hN : nxt x at_ = [at_ + 1] := by unfold nxt; rw [if_neg h1, if_neg h2, if_neg (by omega)]
         rw [hN] at hy; have Y0 := hy 0 (by simp)
         refine xo 5 ?_
         refine ld ?_
         refine oo 1 ?_
         refine XO.cV (Y0) ?_
         rintro _ _ (⟨rfl, rfl⟩ | ⟨rfl, A, hA, rfl⟩) _ e_ <;> simp only [ca, na] at e_ <;> subst e_
         · skip
           refine ox 1 ?_
           refine X.sb [] ?_
           refine X.fallL (J 1 :: [im p1 (.cells (insC x).toArray 53 (0, 0)), im p2 (.cells [.int .i64 at_].toArray 3 (0, 0))]) Tryd.func73 (res0 Tryd.results73) ⟨_, rfl, .inl (by rw [hN]; rfl)⟩
         · skip
           refine ox 1 ?_
           refine X.sb [] ?_
           refine X.fallL (A :: [im p1 (.cells (insC x).toArray 53 (0, 0)), im p2 (.cells [.int .i64 at_].toArray 3 (0, 0))]) Tryd.func73 (res0 Tryd.results73) ⟨_, rfl, .inr ⟨A, hA, rfl⟩⟩
theorem behind_iter (hat : 0 ≤ at_ ∧ at_ ≤ 1000000000000) : Iter Tryd.prog G (.func (.func 73) [].toArray [.pointer (some ⟨p1, 0, none⟩), .pointer (some ⟨p2, 0, none⟩)].toArray) ((nxt x at_).map ivs) [im p1 (.cells (insC x).toArray 53 (0, 0)), im p2 (.cells [.int .i64 at_].toArray 3 (0, 0))] := by
  intro y J Jf hy
  rw [List.length_map]
  exact CallV.c12 Tryd.call73 (behindF_ok (G := G) (p1 := p1) (p2 := p2) (J := J) (Jf := Jf) hat hy)
theorem behind_ok  : CallF Tryd.prog G 55 [.agg (insC x).toArray, .int .i64 at_] ([]) (Ret fun v q' => ∃ p1 p2, v = .func (.func 73) [].toArray [.pointer (some ⟨p1, 0, none⟩), .pointer (some ⟨p2, 0, none⟩)].toArray ∧ q' = [pto p1 (.cells (insC x).toArray 53 (0, 0)), pto p2 (.cells [.int .i64 at_].toArray 3 (0, 0))]) := by
 refine CallF.of Tryd.func55 Tryd.ntmps55 rfl (fun F cs => ?_)
 refine xo 2 ?_
 refine XO.bx fun n1 => ?_
 refine XO.bx fun n2 => ?_
 refine ox 7 ?_
 refine X.retL [pto n1 (.cells (insC x).toArray 53 (0, 0)), pto n2 (.cells [.int .i64 at_].toArray 3 (0, 0))] Tryd.func55 (res1 Tryd.results55 rfl) ⟨_, rfl, n1, n2, rfl, rfl⟩
theorem RNext_ok (hat : 0 ≤ at_ ∧ at_ ≤ 1000000000000) : CallF Tryd.prog G 38 [.agg (insC x).toArray, .int .i64 at_] (q) (Ret fun v q' => ∃ a' c', v = .slice a' (nxt x at_).length c' ∧ q' = lsH I64 3 a' c' (nxt x at_) :: q) := by
 refine CallF.of Tryd.func38 Tryd.ntmps38 rfl (fun F cs => ?_)
 refine xo 2 ?_
 refine XO.bx fun n1 => ?_
 refine oo 6 ?_
 refine ld ?_
 refine ox 7 ?_
 refine X.part 7 rfl (fun h1 => ?_) (fun h1 => ?_)
 · skip
   replace h1 := sp h1
   refine xx 5 ?_
   have hN : nxt x at_ = [] := by unfold nxt; (repeat' split) <;> first | rfl | omega
   refine X.retL (lsH I64 3 none 0 (nxt x at_) :: q) Tryd.func38 (res1 Tryd.results38 rfl) ⟨_, by rw [hN]; rfl, none, 0, rfl, rfl⟩ (by rw [hN]; exact (leA).trans (Le.lsH_nil _ _ _))
 · skip
   replace h1 := sp h1
   refine xx 6 ?_
   refine X.part 9 rfl (fun h2 => ?_) (fun h2 => ?_)
   · skip
     replace h2 := sp h2
     refine xo 4 ?_
     refine ld ?_
     refine XO.ef (Ef.litL I64 ([x.a]) Tryd.underlying23 Tryd.info3 rfl rfl rfl rfl rfl rfl (fun _ => rfl)) ?_
     rintro _ _ ⟨g1, rfl, rfl⟩
     refine ox 2 ?_
     have hN : nxt x at_ = [x.a] := by unfold nxt; (repeat' split) <;> first | rfl | omega
     refine X.retL (lsH I64 3 (some ⟨g1, 0, none⟩) 1 (nxt x at_) :: q) Tryd.func38 (res1 Tryd.results38 rfl) ⟨_, by rw [hN]; rfl, _, _, rfl, rfl⟩ (by rw [hN]; exact leA)
   · skip
     replace h2 := sp h2
     refine xx 7 ?_
     refine X.part 14 rfl (fun h3 => ?_) (fun h3 => ?_)
     · skip
       replace h3 := sp h3
       refine xo 7 ?_
       refine ld ?_
       refine ox 4 ?_
       refine X.sb [21, 4, 2, 1] ?_
       refine X.part 21 rfl (fun h4 => ?_) (fun h4 => ?_)
       · skip
         replace h4 := sp h4
         refine xo 4 ?_
         refine ld ?_
         refine XO.ef (Ef.litL I64 ([x.a]) Tryd.underlying23 Tryd.info3 rfl rfl rfl rfl rfl rfl (fun _ => rfl)) ?_
         rintro _ _ ⟨g1, rfl, rfl⟩
         refine ox 2 ?_
         have hN : nxt x at_ = [x.a] := by unfold nxt; (repeat' split) <;> first | rfl | omega
         refine X.retL (lsH I64 3 (some ⟨g1, 0, none⟩) 1 (nxt x at_) :: q) Tryd.func38 (res1 Tryd.results38 rfl) ⟨_, by rw [hN]; rfl, _, _, rfl, rfl⟩ (by rw [hN]; exact leA)
       · skip
         replace h4 := sp h4
         refine xo 5 ?_
         refine ld ?_
         refine oo 2 ?_
         refine XO.ef (Ef.litL I64 ([x.a, at_ + 1]) Tryd.underlying23 Tryd.info3 rfl rfl rfl rfl rfl rfl (fun _ => rfl)) ?_
         rintro _ _ ⟨g1, rfl, rfl⟩
         refine ox 2 ?_
         have hN : nxt x at_ = [x.a, at_ + 1] := by unfold nxt; (repeat' split) <;> first | rfl | omega
         refine X.retL (lsH I64 3 (some ⟨g1, 0, none⟩) 2 (nxt x at_) :: q) Tryd.func38 (res1 Tryd.results38 rfl) ⟨_, by rw [hN]; rfl, _, _, rfl, rfl⟩ (by rw [hN]; exact leA)
     · skip
       replace h3 := sp h3
       refine xx 5 ?_
       refine X.part 14 rfl (fun h4 => ?_) (fun h4 => ?_)
       · skip
         replace h4 := sp h4
         refine xo 5 ?_
         refine ld ?_
         refine ox 4 ?_
         refine X.sb [21, 4, 2, 1] ?_
         refine X.part 21 rfl (fun h5 => ?_) (fun h5 => ?_)
         · skip
           replace h5 := sp h5
           refine xo 4 ?_
           refine ld ?_
           refine XO.ef (Ef.litL I64 ([x.a]) Tryd.underlying23 Tryd.info3 rfl rfl rfl rfl rfl rfl (fun _ => rfl)) ?_
           rintro _ _ ⟨g1, rfl, rfl⟩
           refine ox 2 ?_
           have hN : nxt x at_ = [x.a] := by unfold nxt; (repeat' split) <;> first | rfl | omega
           refine X.retL (lsH I64 3 (some ⟨g1, 0, none⟩) 1 (nxt x at_) :: q) Tryd.func38 (res1 Tryd.results38 rfl) ⟨_, by rw [hN]; rfl, _, _, rfl, rfl⟩ (by rw [hN]; exact leA)
         · skip
           replace h5 := sp h5
           refine xo 5 ?_
           refine ld ?_
           refine oo 2 ?_
           refine XO.ef (Ef.litL I64 ([x.a, at_ + 1]) Tryd.underlying23 Tryd.info3 rfl rfl rfl rfl rfl rfl (fun _ => rfl)) ?_
           rintro _ _ ⟨g1, rfl, rfl⟩
           refine ox 2 ?_
           have hN : nxt x at_ = [x.a, at_ + 1] := by unfold nxt; (repeat' split) <;> first | rfl | omega
           refine X.retL (lsH I64 3 (some ⟨g1, 0, none⟩) 2 (nxt x at_) :: q) Tryd.func38 (res1 Tryd.results38 rfl) ⟨_, by rw [hN]; rfl, _, _, rfl, rfl⟩ (by rw [hN]; exact leA)
       · skip
         replace h4 := sp h4
         refine xo 7 ?_
         refine XO.ef (Ef.litL I64 ([at_ + 1]) Tryd.underlying23 Tryd.info3 rfl rfl rfl rfl rfl rfl (fun _ => rfl)) ?_
         rintro _ _ ⟨g1, rfl, rfl⟩
         refine ox 2 ?_
         refine X.sb [4] ?_
         have hN : nxt x at_ = [at_ + 1] := by unfold nxt; (repeat' split) <;> first | rfl | omega
         refine X.retL (lsH I64 3 (some ⟨g1, 0, none⟩) 1 (nxt x at_) :: q) Tryd.func38 (res1 Tryd.results38 rfl) ⟨_, by rw [hN]; rfl, _, _, rfl, rfl⟩ (by rw [hN]; exact leA)
end
end Go.Proofs.YtbeeplmgcdnadaaDoor

