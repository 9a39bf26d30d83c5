/-
  Plain program logic, part 4: regions that draw their order.
-/
import Derived.Test.YtjkkefgkhafmfaaWx3
namespace Wx
open Go Go.RowKit

/-! ### which operations may come next -/
def rdyO (done : List Nat) (o : Oper) : Bool := o.after.toList.all fun e => !Region.binds .any e || done.contains e.on
def rdy (ops : List Oper) (done : List Nat) (j : Nat) : Bool := !done.contains j && match ops[j]? with | some o => rdyO done o | none => false
/-- The slots that an operation looks at. -/
def looks (ops : List Oper) (o : Oper) : List Tmp :=
  (o.op.operands.toList.filterMap fun | .tmp t => some t | _ => none) ++ (match o.guard with | some (j, _) => ((ops[j]?).bind (·.dst)).toList | none => [])
def apartO (ops : List Oper) (x y : Oper) : Bool :=
  (match x.dst with | some d => !(looks ops y).contains d && y.dst != some d | none => true) && (match y.dst with | some d => !(looks ops x).contains d | none => true)
def onB (o : Oper) (i : Nat) : Bool := o.after.toList.any fun e => Region.binds .any e && e.on == i
/-- Of each two operations one waits for the other, or they have nothing to do with one another; none is a select. -/
def okR (ops : List Oper) : Bool :=
  (ops.zipIdx.all fun (x, i) => ops.zipIdx.all fun (y, j) => i == j || onB x j || onB y i || apartO ops x y) &&
  ops.all fun o => match o.op with | .select .. => false | .defer _ => false | _ => true
def pkFree (ops : List Oper) (pk : PE) : Bool := ops.all fun o => match o.dst with | some d => pk.all fun e => !(e.1 == d) | none => true

/-- One operation, from slots tm and world w. -/
def OW (P : Program) (ops : List Oper) (o : Oper) (tm : Array Value) (w : World) (K : Array Value → World → Prop) (Kp : List PanicEntry → Array Value → World → Prop) : Prop :=
  if Region.wanted o (yielded ops.toArray tm) = true then
    Ap P (execOp (evA tm) o) w fun e w' => match e with | .returned v => K (putA tm o.dst v) w' | .panicked ch => Kp ch tm w' | .outgrown => False
  else K (putA tm o.dst undef) w
theorem Ap.mono {P : Program} {s : Sem Next} {w : World} {R R' : Ending → World → Prop} (h : Ap P s w R) (hr : ∀ e w', e ≠ .outgrown → R e w' → R' e w') : Ap P s w R' :=
  fun fr cs hm ho => let ⟨e, w', r, hne, rest⟩ := h fr cs hm ho; ⟨e, w', hr _ _ hne r, hne, rest⟩
theorem OW.mono {P : Program} {ops : List Oper} {o : Oper} {tm : Array Value} {w : World} {K K' : Array Value → World → Prop} {Kp : List PanicEntry → Array Value → World → Prop}
    (h : OW P ops o tm w K Kp) (hk : ∀ t w', K t w' → K' t w') : OW P ops o tm w K' Kp := by
  unfold OW at *
  split
  · rename_i hw; rw [if_pos hw] at h
    exact h.mono fun e w' _ r => by cases e <;> first | exact hk _ _ r | exact r
  · rename_i hw; rw [if_neg hw] at h; exact hk _ _ h
/-- What has been read: the operation that read it, the cell, what it held. -/
abbrev Rds := List (Nat × Nat × Nat × Value)
def SL (L : Rds) (w : World) : Prop := ∀ e ∈ L, w.cell? ⟨e.2.1, e.2.2.1, none⟩ = some e.2.2.2
/-- Behind operation o: what o waits for need be kept no more. -/
def cut (o : Oper) : Rds → Rds
  | [] => []
  | e :: r => bif onB o e.1 then cut o r else e :: cut o r
theorem mem_cut {o : Oper} {L : Rds} {e : Nat × Nat × Nat × Value} : e ∈ cut o L ↔ e ∈ L ∧ onB o e.1 = false := by
  induction L with
  | nil => simp [cut]
  | cons x r ih =>
    unfold cut
    cases hx : onB o x.1 with
    | true =>
      simp only [cond_true, ih, List.mem_cons]
      constructor
      · rintro ⟨h, k⟩; exact ⟨.inr h, k⟩
      · rintro ⟨h | h, k⟩
        · subst h; rw [hx] at k; cases k
        · exact ⟨h, k⟩
    | false =>
      simp only [cond_false, List.mem_cons, ih]
      constructor
      · rintro (h | ⟨h, k⟩)
        · subst h; exact ⟨.inl rfl, hx⟩
        · exact ⟨.inr h, k⟩
      · rintro ⟨h | h, k⟩
        · exact .inl h
        · exact .inr ⟨h, k⟩
/-- All orders of what is not done. -/
def WA (P : Program) (ops : List Oper) (Kend : Array Value → World → Prop) (Kp : List PanicEntry → Array Value → World → Prop) : Nat → Rds → List Nat → Array Value → World → Prop
  | 0, _, done, tm, w => (∀ j, rdy ops done j = false) ∧ Kend tm w
  | n + 1, L, done, tm, w => ((∀ j, rdy ops done j = false) → Kend tm w) ∧
    ∀ j o, ops[j]? = some o → rdy ops done j = true → OW P ops o tm w (fun tm' w' => SL (cut o L) w' ∧ WA P ops Kend Kp n (cut o L) (j :: done) tm' w') Kp
section
variable {P : Program} {ops : List Oper} {Kend : Array Value → World → Prop} {Kp : List PanicEntry → Array Value → World → Prop}
theorem SL.mono {L L' : Rds} {w : World} (hs : ∀ e ∈ L', e ∈ L) (h : SL L w) : SL L' w := fun e he => h e (hs e he)
theorem cut_mono {L L' : Rds} (o : Oper) (hs : ∀ e ∈ L', e ∈ L) : ∀ e ∈ cut o L', e ∈ cut o L := fun e he => by
  rw [mem_cut] at he ⊢; exact ⟨hs e he.1, he.2⟩
theorem WA.mono : ∀ n {L L' : Rds} {done tm w}, (∀ e ∈ L', e ∈ L) → WA P ops Kend Kp n L done tm w → WA P ops Kend Kp n L' done tm w := by
  intro n
  induction n with
  | zero => exact fun _ h => h
  | succ n ih => exact fun hs ⟨h0, h⟩ => ⟨h0, fun j o ho hr => (h j o ho hr).mono fun t w' ⟨a, b⟩ => ⟨a.mono (cut_mono o hs), ih (cut_mono o hs) b⟩⟩
theorem rdy_congr {done done' : List Nat} (h : ∀ j, j ∈ done ↔ j ∈ done') (j : Nat) : rdy ops done j = rdy ops done' j := by
  have hc : ∀ x, done.contains x = done'.contains x := fun x => by
    rw [Bool.eq_iff_iff]; simp [h x]
  unfold rdy rdyO
  simp only [hc]
theorem WA.congr : ∀ n {L : Rds} {done done' : List Nat} {tm : Array Value} {w : World}, (∀ j, j ∈ done ↔ j ∈ done') → WA P ops Kend Kp n L done tm w → WA P ops Kend Kp n L done' tm w := by
  intro n
  induction n with
  | zero => exact fun h ⟨a, b⟩ => ⟨fun j => by rw [← rdy_congr h]; exact a j, b⟩
  | succ n ih =>
    intro L done done' tm w h ⟨a, b⟩
    refine ⟨fun hn => a fun j => by rw [rdy_congr h]; exact hn j, fun j o ho hr => (b j o ho (by rw [rdy_congr h]; exact hr)).mono fun t w' ⟨s, x⟩ => ⟨s, ih (fun i => by simp [h i]) x⟩⟩
theorem rdy_later {done : List Nat} {i j : Nat} (h : rdy ops done j = true) (hne : j ≠ i) : rdy ops (i :: done) j = true := by
  unfold rdy at *
  simp only [Bool.and_eq_true, Bool.not_eq_true'] at h ⊢
  refine ⟨by simpa [hne] using h.1, ?_⟩
  cases ho : ops[j]? with
  | none => rw [ho] at h; simp at h
  | some o =>
    rw [ho] at h
    have h2 := h.2
    simp only [rdyO, List.all_eq_true] at h2 ⊢
    intro e he
    have := h2 e he
    simp only [Bool.or_eq_true] at this ⊢
    rcases this with x | x
    · exact .inl x
    · right; simp at x ⊢; exact .inr x
theorem putA_comm (tm : Array Value) {x y : Option Tmp} (v u : Value) (h : ∀ d, x = some d → y ≠ some d) : putA (putA tm x v) y u = putA (putA tm y u) x v := by
  cases x <;> cases y <;> simp only [putA]
  rename_i a b
  have hne : a ≠ b := fun e => h a rfl (by rw [e])
  exact Array.setIfInBounds_comm v u hne
theorem evA_put {tm : Array Value} {x : Option Tmp} {v : Value} {y : Operand} (h : ∀ d, x = some d → y ≠ .tmp d) : evA (putA tm x v) y = evA tm y := by
  cases x with
  | none => rfl
  | some d =>
    cases y with
    | tmp t =>
      have hne : d ≠ t := fun e => h d rfl (by rw [e])
      simp [evA, putA, hne]
    | _ => rfl
theorem exec_put {o : Oper} (hs : ∀ cs b, o.op ≠ .select cs b) {tm : Array Value} {x : Option Tmp} {v : Value} (h : ∀ d, x = some d → d ∉ looks ops o) : execOp (evA (putA tm x v)) o = execOp (evA tm) o :=
  execOp_congr o hs fun y hy => evA_put fun d hd e => h d hd (by
    subst e
    exact List.mem_append_left _ (List.mem_filterMap.2 ⟨.tmp d, by simpa using hy, rfl⟩))
theorem wanted_putA {o : Oper} {tm : Array Value} {x : Option Tmp} {v : Value} (h : ∀ d, x = some d → d ∉ looks ops o) :
    Region.wanted o (yielded ops.toArray (putA tm x v)) = Region.wanted o (yielded ops.toArray tm) := by
  cases x with
  | none => rfl
  | some d =>
    unfold Region.wanted
    cases hg : o.guard with
    | none => rfl
    | some g =>
      obtain ⟨j, want⟩ := g
      have hd := h d rfl
      simp only [looks, hg, List.mem_append, not_or] at hd
      dsimp only
      unfold yielded
      simp only [List.getElem?_toArray]
      cases hj : (ops[j]?).bind (·.dst) with
      | none => simp
      | some e =>
        have hne : d ≠ e := fun q => by rw [hj] at hd; simp [q] at hd
        simp [putA, Array.getElem?_setIfInBounds_ne hne]
/-- Operation i, here, whenever S holds: passed over, or a value without any change. -/
def Yv (P : Program) (ops : List Oper) (S : World → Prop) (o : Oper) (v : Value) (tm : Array Value) : Prop :=
  (Region.wanted o (yielded ops.toArray tm) = true ∧ ∀ w, S w → (execOp (evA tm) o).run P w = .ok (.value v) w) ∨ (Region.wanted o (yielded ops.toArray tm) = false ∧ v = undef)
theorem Ap.value {s : Sem Next} {w : World} {v : Value} {R : Ending → World → Prop} (h : s.run P w = .ok (.value v) w) (hR : R (.returned v) w) : Ap P s w R :=
  fun fr cs _ _ => ⟨.returned v, w, hR, by simp, fr.finish v, cs, w, by simp [stepG.apply, h], .refl P _⟩
theorem OW.of_yv {o : Oper} {v : Value} {tm : Array Value} {w : World} {S : World → Prop} {K : Array Value → World → Prop} (hy : Yv P ops S o v tm) (hS : S w) (hK : K (putA tm o.dst v) w) : OW P ops o tm w K Kp := by
  unfold OW
  rcases hy with ⟨hw, hr⟩ | ⟨hw, rfl⟩
  · rw [if_pos hw]; exact Ap.value (hr w hS) hK
  · rw [if_neg (by simp [hw])]; exact hK
theorem apart_spec {x y : Oper} (h : apartO ops x y = true) : (∀ d, x.dst = some d → d ∉ looks ops y ∧ y.dst ≠ some d) ∧ (∀ d, y.dst = some d → d ∉ looks ops x) := by
  unfold apartO at h
  rw [Bool.and_eq_true] at h
  refine ⟨fun d hd => ?_, fun d hd => ?_⟩
  · have h1 := h.1; rw [hd] at h1; simp at h1; exact ⟨h1.1, h1.2⟩
  · have h2 := h.2; rw [hd] at h2; simpa using h2
theorem okR_pair (hok : okR ops = true) {i j : Nat} {x y : Oper} (hx : ops[i]? = some x) (hy : ops[j]? = some y) (hne : i ≠ j) : onB x j = true ∨ onB y i = true ∨ apartO ops x y = true := by
  unfold okR at hok
  rw [Bool.and_eq_true] at hok
  have h1 := List.all_eq_true.1 hok.1 (x, i) (List.mem_zipIdx_iff_getElem?.2 hx)
  have h2 := List.all_eq_true.1 h1 (y, j) (List.mem_zipIdx_iff_getElem?.2 hy)
  simp only [Bool.or_eq_true, beq_iff_eq] at h2
  rcases h2 with ((h | h) | h) | h
  · exact absurd h hne
  · exact .inl h
  · exact .inr (.inl h)
  · exact .inr (.inr h)
theorem okR_sel (hok : okR ops = true) {j : Nat} {y : Oper} (hy : ops[j]? = some y) : (∀ cs b, y.op ≠ .select cs b) ∧ (∀ c, y.op ≠ .defer c) := by
  unfold okR at hok
  rw [Bool.and_eq_true] at hok
  have h1 := List.all_eq_true.1 hok.2 y (List.mem_of_getElem? hy)
  refine ⟨fun cs b e => ?_, fun c e => ?_⟩ <;> · rw [e] at h1; simp at h1
theorem not_on {done : List Nat} {i j : Nat} {o : Oper} (ho : ops[i]? = some o) (hr : rdy ops done i = true) (hj : onB o j = true) : j ∈ done := by
  unfold rdy at hr
  rw [ho] at hr
  simp only [Bool.and_eq_true, rdyO, List.all_eq_true] at hr
  obtain ⟨e, he, hb⟩ := List.any_eq_true.1 hj
  simp only [Bool.and_eq_true, beq_iff_eq] at hb
  have := hr.2 e he
  simp [hb.1] at this
  rw [← hb.2]; exact this
/-- What is quiet, and ready, may be taken first; what it reads is kept till it is over. -/
theorem WA.first (hok : okR ops = true) {i : Nat} {o : Oper} {v : Value} {Li : Rds} (ho : ops[i]? = some o) (hKp : ∀ ch tm w, Kp ch (putA tm o.dst v) w → Kp ch tm w) (hLi : ∀ e ∈ Li, e.1 = i) :
    ∀ n L done tm w, (∀ e ∈ Li, e ∈ L) → rdy ops done i = true → Yv P ops (SL Li) o v tm → SL L w → WA P ops Kend Kp n L (i :: done) (putA tm o.dst v) w → WA P ops Kend Kp (n + 1) L done tm w := by
  intro n
  have same : ∀ {n L done tm w}, (∀ e ∈ Li, e ∈ L) → Yv P ops (SL Li) o v tm → SL L w → WA P ops Kend Kp n L (i :: done) (putA tm o.dst v) w →
      OW P ops o tm w (fun tm' w' => SL (cut o L) w' ∧ WA P ops Kend Kp n (cut o L) (i :: done) tm' w') Kp := fun hsub hy hS H =>
    OW.of_yv hy (hS.mono hsub) ⟨hS.mono fun e he => (mem_cut.1 he).1, H.mono _ fun e he => (mem_cut.1 he).1⟩
  induction n with
  | zero =>
    intro L done tm w hsub hr hy hS H
    refine ⟨fun hn => absurd hr (by simp [hn i]), fun j oj hj hrj => ?_⟩
    by_cases hji : j = i
    · subst hji
      rw [ho] at hj; cases hj
      exact same hsub hy hS H
    · have := rdy_later hrj hji
      rw [H.1 j] at this; cases this
  | succ n ih =>
    intro L done tm w hsub hr hy hS H
    refine ⟨fun hn => absurd hr (by simp [hn i]), fun j oj hj hrj => ?_⟩
    by_cases hji : j = i
    · subst hji
      rw [ho] at hj; cases hj
      exact same hsub hy hS H
    · have hap : apartO ops o oj = true := by
        rcases okR_pair hok ho hj (Ne.symm hji) with h | h | h
        · have := not_on ho hr h
          unfold rdy at hrj; simp [this] at hrj
        · have := not_on hj hrj h
          unfold rdy at hr; simp [this] at hr
        · exact h
      obtain ⟨ha, hb⟩ := apart_spec hap
      have Hj := H.2 j oj hj (rdy_later hrj hji)
      have hsel := okR_sel hok hj
      have hex : execOp (evA (putA tm o.dst v)) oj = execOp (evA tm) oj := exec_put hsel.1 fun d hd => (ha d hd).1
      have hwt : Region.wanted oj (yielded ops.toArray (putA tm o.dst v)) = Region.wanted oj (yielded ops.toArray tm) := wanted_putA fun d hd => (ha d hd).1
      have honb : onB oj i = false := by
        cases hb : onB oj i with
        | false => rfl
        | true => have := not_on hj hrj hb; unfold rdy at hr; simp [this] at hr
      have hsub' : ∀ e ∈ Li, e ∈ cut oj L := fun e he => mem_cut.2 ⟨hsub e he, by rw [hLi e he]; exact honb⟩
      have step : ∀ u w', SL (cut oj L) w' ∧ WA P ops Kend Kp n (cut oj L) (j :: i :: done) (putA (putA tm o.dst v) oj.dst u) w' → SL (cut oj L) w' ∧ WA P ops Kend Kp (n + 1) (cut oj L) (j :: done) (putA tm oj.dst u) w' := by
        rintro u w' ⟨hS', hx⟩
        refine ⟨hS', ih (cut oj L) (j :: done) (putA tm oj.dst u) w' hsub' (rdy_later hr (Ne.symm hji)) ?_ hS' ?_⟩
        · have hsel' := okR_sel hok ho
          unfold Yv at *
          rw [wanted_putA (ops := ops) (o := o) fun d hd => hb d hd, exec_put (ops := ops) hsel'.1 fun d hd => hb d hd]
          exact hy
        · rw [putA_comm _ _ _ (fun d hd e => (ha d e).2 hd)]
          exact hx.congr n fun x => by simp only [List.mem_cons]; exact ⟨fun h => by rcases h with h | h | h <;> simp [h], fun h => by rcases h with h | h | h <;> simp [h]⟩
      unfold OW at Hj ⊢
      rw [hwt, hex] at Hj
      split
      · rename_i hw
        rw [if_pos hw] at Hj
        refine Hj.mono fun e w' _ r => ?_
        cases e with
        | returned u => exact step u w' r
        | panicked ch => exact hKp _ _ _ r
        | outgrown => exact r
      · rename_i hw
        rw [if_neg hw] at Hj
        exact step undef w Hj
end

/-! ### the machine takes one of the orders -/
section
variable {P : Program} {ops : List Oper} {Kend : Array Value → World → Prop} {Kp : List PanicEntry → Array Value → World → Prop} {f : Fc} {k : List Item} {ds : List Deferred} {cs : List Frame}
theorem OW.run {o : Oper} {i : Nat} {r : List Nat} {tm : Array Value} {w : World} {K : Array Value → World → Prop} (ho : ops[i]? = some o) (hdf : ∀ c, o.op ≠ .defer c) (h : OW P ops o tm w K Kp) :
    (∃ tm' w', K tm' w' ∧ tm'.size = tm.size ∧ Steps P (lone (f.fr tm ds (.inRegion ops.toArray (i :: r) :: k)) cs w) (lone (f.fr tm' ds (.inRegion ops.toArray r :: k)) cs w')) ∨
    (∃ ch w', Kp ch tm w' ∧ ∃ k', Steps P (lone (f.fr tm ds (.inRegion ops.toArray (i :: r) :: k)) cs w) (lone { f.fr tm ds k' with mode := .panicking ch } cs w')) := by
  have ho' : ops.toArray[i]? = some o := by simpa using ho
  unfold OW at h
  split at h
  · rename_i hw
    obtain ⟨e, w', hR, hne, fr₁, cs₁, w₁, hap, hst⟩ := h (f.fr tm ds (.inRegion ops.toArray (i :: r) :: k)) cs rfl trivial
    have hstep : step P (lone (f.fr tm ds (.inRegion ops.toArray (i :: r) :: k)) cs w) = .next (lone fr₁ cs₁ w₁) := by
      refine step_lone_go ?_
      rw [stepG_oper f tm ds cs w _ i r k ho' hw hdf]
      exact hap
    cases e with
    | returned v =>
      refine .inl ⟨putA tm o.dst v, w', hR, putA_size _ _ _, ?_⟩
      have := (Steps.one hstep).trans hst
      rwa [ApTo, finish_fr f tm ds _ i r k v ho'] at this
    | panicked ch =>
      refine .inr ⟨ch, w', hR, .inRegion ops.toArray (i :: r) :: k, ?_⟩
      have := (Steps.one hstep).trans hst
      simpa [ApTo, Frame.raise, Fc.fr] using this
    | outgrown => exact absurd rfl hne
  · rename_i hw
    refine .inl ⟨putA tm o.dst undef, w, h, putA_size _ _ _, .one (step_lone_go ?_)⟩
    rw [← finish_fr f tm ds _ i r k undef ho']
    simp [stepG, stepG.exec, Fc.fr, ho', hw]
def Cor (ops : List Oper) (listed : Array Bool) (done : List Nat) : Prop := listed.size = ops.length ∧ ∀ j, j < ops.length → listed[j]? = some (decide (j ∈ done))
theorem Cor.ready {listed : Array Bool} {done : List Nat} (hc : Cor ops listed done) (hd : ∀ o ∈ ops, ∀ e ∈ o.after, Region.binds .any e = true → e.on < ops.length) (j : Nat) : j ∈ Region.ready .any ops.toArray listed ↔ rdy ops done j = true := by
  rw [mem_ready]
  unfold rdy rdyO
  by_cases hj : j < ops.length
  · have h1 := hc.2 j hj
    have ho : ops[j]? = some ops[j] := by simp [hj]
    rw [ho]
    simp only [List.getElem?_toArray, ho, Option.some.injEq, exists_eq_left', Bool.and_eq_true, Bool.not_eq_true', List.all_eq_true, Bool.or_eq_true]
    have e1 : (listed.getD j true = false) ↔ done.contains j = false := by
      simp [Array.getD_eq_getD_getElem?, h1]
    rw [e1]
    refine and_congr_right fun _ => ?_
    constructor
    · intro h e he
      by_cases hb : Region.binds .any e = true
      · right
        have := h e (by simpa using he) hb
        have hl := hd _ (List.getElem_mem hj) e (by simpa using he) hb
        simp [Array.getD_eq_getD_getElem?, hc.2 _ hl] at this
        simpa using this
      · left; simpa using hb
    · intro h e he hb
      have hl := hd _ (List.getElem_mem hj) e (by simpa using he) hb
      rcases h e (by simpa using he) with x | x
      · rw [hb] at x; cases x
      · simp [Array.getD_eq_getD_getElem?, hc.2 _ hl]
        simpa using x
  · have : ops[j]? = none := by simp; omega
    simp [this]
theorem Cor.set {listed : Array Bool} {done : List Nat} (hc : Cor ops listed done) (i : Nat) : Cor ops (listed.setIfInBounds i true) (i :: done) := by
  refine ⟨by simp [hc.1], fun j hj => ?_⟩
  by_cases h : i = j
  · subst h; simp [hc.1, hj]
  · rw [Array.getElem?_setIfInBounds_ne h, hc.2 j hj]
    have : j ≠ i := fun e => h e.symm
    simp [this]
theorem WA.sound (hsel : okR ops = true) (hd : ∀ o ∈ ops, ∀ e ∈ o.after, Region.binds .any e = true → e.on < ops.length) : ∀ fuel t listed L done tm w, Cor ops listed done → WA P ops Kend Kp fuel L done tm w →
    (∃ tm' w', Kend tm' w' ∧ tm'.size = tm.size ∧ Steps P (lone (f.fr tm ds (.inRegion ops.toArray (Region.linearise.go .any ops.toArray fuel t listed []) :: k)) cs w) (lone (f.fr tm' ds k) cs w')) ∨
    (∃ ch tm' w', Kp ch tm' w' ∧ tm'.size = tm.size ∧ ∃ k', Steps P (lone (f.fr tm ds (.inRegion ops.toArray (Region.linearise.go .any ops.toArray fuel t listed []) :: k)) cs w) (lone { f.fr tm' ds k' with mode := .panicking ch } cs w')) := by
  intro fuel
  have hend : ∀ tm w, Kend tm w → ∃ tm' w', Kend tm' w' ∧ tm'.size = tm.size ∧ Steps P (lone (f.fr tm ds (.inRegion ops.toArray [] :: k)) cs w) (lone (f.fr tm' ds k) cs w') :=
    fun tm w h => ⟨tm, w, h, rfl, .one (step_lone_go (by simp [stepG, stepG.exec, Fc.fr]))⟩
  induction fuel with
  | zero => exact fun t listed L done tm w _ h => .inl (by simpa [Region.linearise.go] using hend tm w h.2)
  | succ fuel ih =>
    intro t listed L done tm w hc h
    obtain ⟨h₀, h₁⟩ := h
    simp only [Region.linearise.go]
    have hgo : (match (Region.ready .any ops.toArray listed)[t % (Region.ready .any ops.toArray listed).length]? with
      | some i => Region.linearise.go .any ops.toArray fuel (t / (Region.ready .any ops.toArray listed).length) (listed.setIfInBounds i true) [i]
      | none => [].reverse) = (match (Region.ready .any ops.toArray listed)[t % (Region.ready .any ops.toArray listed).length]? with
      | some i => i :: Region.linearise.go .any ops.toArray fuel (t / (Region.ready .any ops.toArray listed).length) (listed.setIfInBounds i true) []
      | none => []) := by
      split
      · rw [linearise_go_acc]; rfl
      · rfl
    change (∃ tm' w', Kend tm' w' ∧ tm'.size = tm.size ∧ Steps P (lone (f.fr tm ds (.inRegion ops.toArray (match (Region.ready .any ops.toArray listed)[t % (Region.ready .any ops.toArray listed).length]? with
      | some i => Region.linearise.go .any ops.toArray fuel (t / (Region.ready .any ops.toArray listed).length) (listed.setIfInBounds i true) [i]
      | none => [].reverse) :: k)) cs w) (lone (f.fr tm' ds k) cs w')) ∨ (∃ ch tm' w', Kp ch tm' w' ∧ tm'.size = tm.size ∧ ∃ k', Steps P (lone (f.fr tm ds (.inRegion ops.toArray (match (Region.ready .any ops.toArray listed)[t % (Region.ready .any ops.toArray listed).length]? with
      | some i => Region.linearise.go .any ops.toArray fuel (t / (Region.ready .any ops.toArray listed).length) (listed.setIfInBounds i true) [i]
      | none => [].reverse) :: k)) cs w) (lone { f.fr tm' ds k' with mode := .panicking ch } cs w'))
    rw [hgo]
    cases hi : (Region.ready .any ops.toArray listed)[t % (Region.ready .any ops.toArray listed).length]? with
    | none =>
      have hnil : Region.ready .any ops.toArray listed = [] := by
        cases hr : Region.ready .any ops.toArray listed with
        | nil => rfl
        | cons x xs =>
          rw [hr] at hi
          have hlt : t % (x :: xs).length < (x :: xs).length := Nat.mod_lt _ (by simp)
          simp at hi
          simp at hlt
          omega
      refine .inl (hend tm w (h₀ fun j => ?_))
      cases hj : rdy ops done j with
      | false => rfl
      | true => have := (hc.ready hd j).2 hj; rw [hnil] at this; cases this
    | some i =>
      dsimp only
      have hmem := List.mem_of_getElem? hi
      have hr := (hc.ready hd i).1 hmem
      have ho : ∃ o, ops[i]? = some o := by
        unfold rdy at hr
        cases hx : ops[i]? with
        | none => rw [hx] at hr; simp at hr
        | some o => exact ⟨o, rfl⟩
      obtain ⟨o, ho⟩ := ho
      rcases OW.run (f := f) (k := k) (ds := ds) (cs := cs) (r := Region.linearise.go .any ops.toArray fuel (t / (Region.ready .any ops.toArray listed).length) (listed.setIfInBounds i true) []) ho (okR_sel hsel ho).2 (h₁ i o ho hr) with ⟨tm', w', ⟨_, hW⟩, hsz, hst⟩ | ⟨ch, w', hk, k', hst⟩
      · rcases ih (t / (Region.ready .any ops.toArray listed).length) _ _ _ tm' w' (hc.set i) hW with ⟨tm2, w2, hK, hs2, hst2⟩ | ⟨ch, tm2, w2, hK, hs2, k', hst2⟩
        · exact .inl ⟨tm2, w2, hK, hs2.trans hsz, hst.trans hst2⟩
        · exact .inr ⟨ch, tm2, w2, hK, hs2.trans hsz, k', hst.trans hst2⟩
      · exact .inr ⟨ch, tm, w', hk, rfl, k', hst⟩
end

/-! ### the rules -/
/-- Of the cells that have been read, each still holds what it held. -/
def HL (q : List HP) : Rds → Prop
  | [] => True
  | (_, b, o, v) :: r => Cl q ⟨b, o, none⟩ v ∧ HL q r
theorem HL.sl {G w : World} {q : List HP} {L : Rds} (h : HL q L) (s : St G w q) : SL L w := by
  induction L with
  | nil => intro e he; cases he
  | cons x r ih =>
    obtain ⟨i, b, o, v⟩ := x
    intro e he
    rcases List.mem_cons.1 he with rfl | he
    · exact h.1 G w s
    · exact ih h.2 e he
section rules
variable {P : Program} {G : World} {f : Fc} {Q : Post} {ops : List Oper} {k : List Item} {pk p : PE} {ds : List Deferred} {cs : List Frame} {q : List HP} {n : Nat} {done : List Nat} {L : Rds} {o : Oper} {v : Value}
def Kp' (G : World) (Q : Post) (n : Nat) (pk : PE) (ds : List Deferred) (cs : List Frame) (ch : List PanicEntry) (tm : Array Value) (w : World) : Prop := tm.size = n ∧ Agr tm pk ∧ ∃ q', Q (.panic ch) pk ds cs q' ∧ St G w q'
def Ke' (P : Program) (G : World) (f : Fc) (Q : Post) (k : List Item) (ds : List Deferred) (cs : List Frame) (tm : Array Value) (w : World) : Prop :=
  tm.size = f.n → ∃ o tm' p' ds' cs' w' q', Q o p' ds' cs' q' ∧ tm'.size = f.n ∧ Agr tm' p' ∧ St G w' q' ∧ Arr P f (lone (f.fr tm ds k) cs w) o tm' ds' cs' w'
/-- In a region that draws its order: the operations in done are over; the cells in L have been read. -/
def XD (P : Program) (G : World) (f : Fc) (Q : Post) (ops : List Oper) (k : List Item) (pk : PE) (L : Rds) (n : Nat) (done : List Nat) (p : PE) (ds : List Deferred) (cs : List Frame) (q : List HP) : Prop :=
  okR ops = true → pkFree ops pk = true → ∀ tm w, tm.size = f.n → Agr tm p → St G w q → SL L w → WA P ops (Ke' P G f Q k ds cs) (Kp' G Q f.n pk ds cs) n L done tm w
def edgesIn (ops : List Oper) : Bool := ops.all fun o => o.after.toList.all fun e => Nat.blt e.on ops.length
theorem X.draw {id : Nat} (pk : PE) (hm : P.follows .mixedOrders = true) (h1 : okR ops = true) (h2 : edgesIn ops = true) (h3 : pkFree ops pk = true)
    (x : XD P G f Q ops k pk [] ops.length [] p ds cs q) : X P G f Q (.code (.region id ops.toArray true) :: k) p ds cs q := by
  intro tm w hn ag s
  have hd : ∀ o ∈ ops, ∀ e ∈ o.after, Region.binds .any e = true → e.on < ops.length := by
    intro o ho e he _
    have := List.all_eq_true.1 (List.all_eq_true.1 h2 o ho) e (by simpa using he)
    simpa [Nat.blt_eq] using this
  have s' : St G { w with drawn := w.drawn + 1 } q := s.same rfl rfl rfl rfl
  have hW := x h1 h3 tm _ hn ag s' (fun e he => by cases he)
  have h0 : Go.step P (lone (f.fr tm ds (.code (.region id ops.toArray true) :: k)) cs w) =
      .next (lone (f.fr tm ds (.inRegion ops.toArray (Region.linearise.go .any ops.toArray ops.length (w.tape w.drawn (.order f.fn id)) (Array.replicate ops.length false) []) :: k)) cs { w with drawn := w.drawn + 1 }) :=
    step_lone_go (by simp [stepG, stepG.exec, Fc.fr, choose, Sem.run, Question.forced, Question.cut, Region.schedule, hm, Region.linearise])
  have hc : Cor ops (Array.replicate ops.length false) [] := ⟨by simp, fun j hj => by simp [hj]⟩
  rcases WA.sound (f := f) (k := k) (ds := ds) (cs := cs) h1 hd ops.length (w.tape w.drawn (.order f.fn id)) _ [] [] tm _ hc hW with ⟨tm', w', hK, hsz, hst⟩ | ⟨ch, tm', w', hK, hsz, k', hst⟩
  · obtain ⟨o, tm2, p2, ds2, cs2, w2, q2, hQ, a, b, c, arr⟩ := hK (hsz.trans hn)
    exact ⟨o, tm2, p2, ds2, cs2, w2, q2, hQ, a, b, c, arr.head ((Steps.one h0).trans hst)⟩
  · obtain ⟨h4, h5, q', hQ, hs⟩ := hK
    exact ⟨.panic ch, tm', pk, ds, cs, w', q', hQ, h4, h5, hs, Arr.head ((Steps.one h0).trans hst) ⟨k', .refl P _⟩⟩
theorem XD.nil (x : X P G f Q k p ds cs q) (h : (List.range ops.length).all (done.contains ·) = true := by rfl) : XD P G f Q ops k pk L 0 done p ds cs q := by
  intro _ _ tm w hn ag s hs
  refine ⟨fun j => ?_, fun _ => x tm w hn ag s⟩
  unfold rdy
  by_cases hj : j < ops.length
  · have := List.all_eq_true.1 h j (by simpa using hj)
    simp at this
    simp [this]
  · have : ops[j]? = none := by simp; omega
    simp [this]
theorem XD.le {q' : List HP} (h : Le q q') (x : XD P G f Q ops k pk L n done p ds cs q') : XD P G f Q ops k pk L n done p ds cs q := fun a b tm w hn ag s hs => x a b tm w hn ag (s.le h) hs
theorem XD.sub {p' : PE} (h : SubP p' p) (x : XD P G f Q ops k pk L n done p' ds cs q) : XD P G f Q ops k pk L n done p ds cs q := fun a b tm w hn ag s hs => x a b tm w hn (ag.sub h) s hs
theorem XD.pure {φ : Prop} (x : φ → XD P G f Q ops k pk L n done p ds cs q) : XD P G f Q ops k pk L n done p ds cs (Wx.pure φ :: q) := fun a b tm w hn ag s hs => x s.get_pure a b tm w hn ag (s.le (.drop _ _)) hs
theorem XD.ex {α : Sort _} {A : α → HP} (x : ∀ y, XD P G f Q ops k pk L n done p ds cs (A y :: q)) : XD P G f Q ops k pk L n done p ds cs (Wx.ex A :: q) := fun a b tm w hn ag s hs => let ⟨y, s'⟩ := s.get_ex; x y a b tm w hn ag s' hs
theorem XD.freeze {b : Nat} {o : Obj} (x : XD P G f Q ops k pk L n done p ds cs (im b o :: q)) : XD P G f Q ops k pk L n done p ds cs (pto b o :: q) := fun a c tm w hn ag s hs => x a c tm w hn ag s.freeze hs
/-- A slot's value is another one. -/
theorem XD.know (s : Nat) {v : Value} (u : Value) (h : lkp p s = some v) (e : v = u) (K : XD P G f Q ops k pk L n done ((s, u) :: p) ds cs q) : XD P G f Q ops k pk L n done p ds cs q := by
  subst e
  refine fun a b tm w hn ag st hs => K a b tm w hn (fun j u' hj => ag j u' ?_) st hs
  simp only [lkp] at hj
  cases hb : Nat.beq s j with
  | true => rw [hb] at hj; have := Nat.eq_of_beq_eq_true hb; subst this; rw [h]; simpa using hj
  | false => rw [hb] at hj; simpa using hj
theorem XD.part (s : Nat) {t : Bool} (h : lkp p s = some (.bool t)) (ht : t = true → XD P G f Q ops k pk L n done ((s, .bool true) :: p) ds cs q)
    (hf : t = false → XD P G f Q ops k pk L n done ((s, .bool false) :: p) ds cs q) : XD P G f Q ops k pk L n done p ds cs q := by
  cases t with
  | true => exact .know s _ h rfl (ht rfl)
  | false => exact .know s _ h rfl (hf rfl)
theorem Agr.of_put {tm : Array Value} {d : Option Tmp} {v : Value} {p : PE} (h : ∀ e, d = some e → p.all (fun x => !(x.1 == e)) = true) (a : Agr (putA tm d v) p) : Agr tm p := by
  intro t u e
  have := a t u e
  cases d with
  | none => exact this
  | some d =>
    have hne : d ≠ t := by
      rintro rfl
      have h1 := h d rfl
      have : ∀ (l : PE), l.all (fun x => !(x.1 == d)) = true → lkp l d = none := by
        intro l
        induction l with
        | nil => intro _; rfl
        | cons x r ih =>
          obtain ⟨y, z⟩ := x
          intro hl
          simp only [List.all_cons, Bool.and_eq_true] at hl
          simp only [lkp]
          have : Nat.beq y d = false := by
            have h := hl.1
            cases hb : Nat.beq y d with
            | false => rfl
            | true => rw [Nat.eq_of_beq_eq_true hb] at h; simp at h
          rw [this]
          exact ih hl.2
      rw [this p h1] at e; cases e
    simpa [putA, Array.getElem?_setIfInBounds, hne] using this
theorem pkFree_of {ops : List Oper} {pk : PE} (h : pkFree ops pk = true) {i : Nat} {o : Oper} (ho : ops[i]? = some o) : ∀ e, o.dst = some e → pk.all (fun x => !(x.1 == e)) = true := by
  intro e he
  have := List.all_eq_true.1 h o (List.mem_of_getElem? ho)
  rw [he] at this
  exact this
theorem Kp'.of_put (h3 : pkFree ops pk = true) {i : Nat} (ho : ops[i]? = some o) (ch : List PanicEntry) (tm : Array Value) (w : World) (h : Kp' G Q f.n pk ds cs ch (putA tm o.dst v) w) : Kp' G Q f.n pk ds cs ch tm w := by
  obtain ⟨a, b, c⟩ := h
  exact ⟨by rwa [putA_size] at a, b.of_put (pkFree_of h3 ho), c⟩
/-- The next quiet operation is taken first: i. -/
theorem XD.pu_ (i : Nat) (ho : ops[i]? = some o) (h : Pu P p o v) (K : XD P G f Q ops k pk L n (i :: done) (putp p o.dst v) ds cs q)
    (hr : rdy ops done i = true := by rfl) (hw : Wt ops p o = some true := by rfl) (hd : dOk f.n o.dst = true := by rfl) : XD P G f Q ops k pk L (n + 1) done p ds cs q :=
  fun a b tm w hn ag s hs => WA.first (Li := []) a ho (fun ch tm w => Kp'.of_put b ho ch tm w) (fun e he => by cases he) n L done tm w (fun e he => by cases he) hr (.inl ⟨wanted_of ag hw, fun w' _ => h tm w' ag⟩) hs
    (K a b _ w (by rw [putA_size]; exact hn) (ag.put (hn ▸ hd)) s hs)
/-- The next operation is passed over. -/
theorem XD.pass_ (i : Nat) (ho : ops[i]? = some o) (K : XD P G f Q ops k pk L n (i :: done) (putp p o.dst undef) ds cs q)
    (hr : rdy ops done i = true := by rfl) (hw : Wt ops p o = some false := by rfl) (hd : dOk f.n o.dst = true := by rfl) : XD P G f Q ops k pk L (n + 1) done p ds cs q :=
  fun a b tm w hn ag s hs => WA.first (Li := []) a ho (fun ch tm w => Kp'.of_put b ho ch tm w) (fun e he => by cases he) n L done tm w (fun e he => by cases he) hr (.inr ⟨wanted_of ag hw, rfl⟩) hs
    (K a b _ w (by rw [putA_size]; exact hn) (ag.put (hn ▸ hd)) s hs)
/-- A cell is read; till it is over it keeps what it holds. -/
theorem XD.load (i : Nat) {d : Tmp} {t : TypeId} {x : Operand} {ty : TypeId} {pos : String} {af : Array Edge} {gd : Option (Nat × Bool)} {b o : Nat} (ho : ops[i]? = some ⟨some d, .load t x, ty, pos, af, gd⟩)
    (hx : evp p x = some (.pointer (some ⟨b, o, none⟩))) (ht : ∀ w, (isAgg t).run P w = .ok false w) (hc : Cl q ⟨b, o, none⟩ v) (K : XD P G f Q ops k pk ((i, b, o, v) :: L) n (i :: done) ((d, v) :: p) ds cs q)
    (hr : rdy ops done i = true := by rfl) (hw : Wt ops p ⟨some d, .load t x, ty, pos, af, gd⟩ = some true := by rfl) (hd : Nat.blt d f.n = true := by rfl) : XD P G f Q ops k pk L (n + 1) done p ds cs q := by
  intro a h3 tm w hn ag s hs
  have hs' : SL ((i, b, o, v) :: L) w := by
    intro e he
    rcases List.mem_cons.1 he with rfl | he
    · exact hc G w s
    · exact hs e he
  refine WA.mono _ (L := (i, b, o, v) :: L) (fun e he => List.mem_cons_of_mem _ he) ?_
  refine WA.first (Li := [(i, b, o, v)]) a ho (fun ch tm w => Kp'.of_put h3 ho ch tm w) (fun e he => by rw [List.mem_singleton.1 he]) n _ done tm w (fun e he => by rw [List.mem_singleton.1 he]; exact List.mem_cons_self) hr (.inl ⟨wanted_of ag hw, fun w' h => ?_⟩) hs'
    (K a h3 _ w (by rw [putA_size]; exact hn) (Agr.put (d := some d) ag (hn ▸ hd)) s hs')
  have hcell := h (i, b, o, v) List.mem_cons_self
  simp [execOp, evA_of ag hx, Instr.loadAt, Instr.sureAddr, loadVar, ht, hcell]
/-- Any reading operation, if what it reads is kept: told by hand. -/
theorem XD.rdL (i : Nat) (ho : ops[i]? = some o) (L' : Rds) (hi : L'.all (fun e => Nat.beq e.1 i) = true) (hL : HL q L') (h : ∀ tm w, Agr tm p → SL L' w → (execOp (evA tm) o).run P w = .ok (.value v) w) (K : XD P G f Q ops k pk (L' ++ L) n (i :: done) (putp p o.dst v) ds cs q)
    (hr : rdy ops done i = true := by rfl) (hw : Wt ops p o = some true := by rfl) (hd : dOk f.n o.dst = true := by rfl) : XD P G f Q ops k pk L (n + 1) done p ds cs q := by
  intro a h3 tm w hn ag s hs
  have hs1 := hL.sl s
  have hs' : SL (L' ++ L) w := by
    intro e he
    rcases List.mem_append.1 he with he | he
    · exact hs1 e he
    · exact hs e he
  refine WA.mono _ (L := L' ++ L) (fun e he => List.mem_append_right _ he) ?_
  exact WA.first (Li := L') a ho (fun ch tm w => Kp'.of_put h3 ho ch tm w) (fun e he => Nat.eq_of_beq_eq_true (List.all_eq_true.1 hi e he)) n _ done tm w (fun e he => List.mem_append_left _ he) hr (.inl ⟨wanted_of ag hw, fun w' hw' => h tm w' ag hw'⟩) hs'
    (K a h3 _ w (by rw [putA_size]; exact hn) (ag.put (hn ▸ hd)) s hs')
def onlyR (ops : List Oper) (done : List Nat) (i : Nat) : Bool := (List.range ops.length).all fun j => j == i || !rdy ops done j
/-- One operation alone may come next: whatever it does. -/
theorem XD.one {R : Ending → List HP → Prop} (i : Nat) (ho : ops[i]? = some o) (h : ∀ tm w, Agr tm p → St G w q → Ap P (execOp (evA tm) o) w fun e w' => ∃ q', R e q' ∧ St G w' q')
    (K : ∀ v q', R (.returned v) q' → HL q' (cut o L) ∧ XD P G f Q ops k pk (cut o L) n (i :: done) (putp p o.dst v) ds cs q') (Kp : ∀ ch q', R (.panicked ch) q' → Q (.panic ch) pk ds cs q' ∧ SubP pk p)
    (h1 : onlyR ops done i = true := by rfl) (hr : rdy ops done i = true := by rfl) (hw : Wt ops p o = some true := by rfl) (hd : dOk f.n o.dst = true := by rfl) : XD P G f Q ops k pk L (n + 1) done p ds cs q := by
  intro a h3 tm w hn ag s hs
  refine ⟨fun hnone => absurd hr (by simp [hnone i]), fun j oj hj hrj => ?_⟩
  have hji : j = i := by
    have hjl : j < ops.length := (List.getElem?_eq_some_iff.1 hj).1
    have := List.all_eq_true.1 h1 j (by simpa using hjl)
    simpa [hrj] using this
  subst hji
  rw [ho] at hj; cases hj
  unfold OW
  rw [if_pos (wanted_of ag hw)]
  refine (h tm w ag s).mono fun e w' hne ⟨q', hR, s'⟩ => ?_
  cases e with
  | returned v =>
    obtain ⟨hl, x⟩ := K v q' hR
    exact ⟨hl.sl s', x a h3 _ w' (by rw [putA_size]; exact hn) (ag.put (hn ▸ hd)) s' (hl.sl s')⟩
  | panicked ch =>
    obtain ⟨hQ, hp⟩ := Kp ch q' hR
    exact ⟨hn, ag.sub hp, q', hQ, s'⟩
  | outgrown => exact absurd rfl hne
theorem Ap.skip {P : Program} {s : Sem Next} {w w' : World} {R : Ending → World → Prop} (h : s.run P w = .ok .skip w') (hR : R (.returned undef) w') : Ap P s w R :=
  fun fr cs _ _ => ⟨.returned undef, w', hR, by simp, fr.finish undef, cs, w', by simp [stepG.apply, h], .refl P _⟩
theorem Ap.value' {P : Program} {s : Sem Next} {w w' : World} {v : Value} {R : Ending → World → Prop} (h : s.run P w = .ok (.value v) w') (hR : R (.returned v) w') : Ap P s w R :=
  fun fr cs _ _ => ⟨.returned v, w', hR, by simp, fr.finish v, cs, w', by simp [stepG.apply, h], .refl P _⟩
theorem Ef.ap {R : Value → List HP → Prop} (h : Ef P G p q o R) (tm : Array Value) (w : World) (ag : Agr tm p) (s : St G w q) : Ap P (execOp (evA tm) o) w fun e w' => ∃ q', Ret R e q' ∧ St G w' q' := by
  obtain ⟨v, w', q', hr, s', hR⟩ := h tm w ag s
  rcases hr with hr | ⟨rfl, hr⟩
  · exact Ap.value' hr ⟨q', ⟨v, rfl, hR⟩, s'⟩
  · exact Ap.skip hr ⟨q', ⟨undef, rfl, hR⟩, s'⟩
theorem XD.ef_ (i : Nat) {R : Value → List HP → Prop} (ho : ops[i]? = some o) (h : Ef P G p q o R) (K : ∀ v q', R v q' → HL q' (cut o L) ∧ XD P G f Q ops k pk (cut o L) n (i :: done) (putp p o.dst v) ds cs q')
    (h1 : onlyR ops done i = true := by rfl) (hr : rdy ops done i = true := by rfl) (hw : Wt ops p o = some true := by rfl) (hd : dOk f.n o.dst = true := by rfl) : XD P G f Q ops k pk L (n + 1) done p ds cs q :=
  .one i ho (fun tm w ag s => h.ap tm w ag s) (fun v q' ⟨_, e, r⟩ => by cases e; exact K v q' r) (fun ch q' ⟨_, e, _⟩ => by cases e) h1 hr hw hd
theorem exec_call {d : Option Tmp} {fo : Operand} {args : List Operand} {ats : Array TypeId} {ty : TypeId} {pos : String} {af : Array Edge} {gd : Option (Nat × Bool)} {fv : Value} {vs : List Value} {tm : Array Value} (ag : Agr tm p)
    (hf : evp p fo = some fv) (hv : evl p args = some vs) : execOp (evA tm) ⟨d, .call ⟨.value fo, args.toArray, ats⟩, ty, pos, af, gd⟩ = (do let d ← Deferred.ofValue fv vs.toArray; invoke d.target d.args) := by
  have h1 := evA_of ag hf
  have h2 := evl_of ag hv
  simp only [execOp, resolve, h1]
  have : (args.toArray.map (evA tm)) = vs.toArray := by rw [← h2]; simp
  rw [this]
theorem XD.call_ (i : Nat) {d : Option Tmp} {fo : Operand} {args : List Operand} {ats : Array TypeId} {ty : TypeId} {pos : String} {af : Array Edge} {gd : Option (Nat × Bool)}
    {fv : Value} {vs : List Value} {pre F : List HP} {R : Value → List HP → Prop} (ho : ops[i]? = some ⟨d, .call ⟨.value fo, args.toArray, ats⟩, ty, pos, af, gd⟩)
    (hf : evp p fo = some fv) (hv : evl p args = some vs) (hc : CallV P G fv vs pre (Ret R)) (hq : Le q (pre ++ F))
    (K : ∀ v q', R v q' → ∀ q'', q'' = q' ++ F → HL q'' (cut ⟨d, .call ⟨.value fo, args.toArray, ats⟩, ty, pos, af, gd⟩ L) ∧ XD P G f Q ops k pk (cut ⟨d, .call ⟨.value fo, args.toArray, ats⟩, ty, pos, af, gd⟩ L) n (i :: done) (putp p d v) ds cs q'')
    (h1 : onlyR ops done i = true := by rfl) (hr : rdy ops done i = true := by rfl) (hw : Wt ops p ⟨d, .call ⟨.value fo, args.toArray, ats⟩, ty, pos, af, gd⟩ = some true := by rfl) (hd : dOk f.n d = true := by rfl) : XD P G f Q ops k pk L (n + 1) done p ds cs q :=
  .one (R := fun e q'' => ∃ q', Ret R e q' ∧ q'' = q' ++ F) i ho (fun tm w ag s => by
      rw [exec_call ag hf hv]
      exact (hc F w (s.le hq)).mono fun e w' _ ⟨q', hR, s'⟩ => ⟨q' ++ F, ⟨q', hR, rfl⟩, s'⟩)
    (fun v q'' ⟨q', ⟨_, e, r⟩, e'⟩ => by cases e; exact K v q' r q'' e') (fun ch q'' ⟨_, ⟨_, e, _⟩, _⟩ => by cases e) h1 hr hw hd
theorem XD.callF_ (i : Nat) {d : Option Tmp} {fn : FuncId} {args : List Operand} {ats : Array TypeId} {ty : TypeId} {pos : String} {af : Array Edge} {gd : Option (Nat × Bool)}
    {vs : List Value} {pre F : List HP} {R : Value → List HP → Prop} (hcf : ∀ args w, (callFunc fn args).run P w = .ok (.enter fn args) w) (hc : CallF P G fn vs pre (Ret R)) (ho : ops[i]? = some ⟨d, .call ⟨.value (.func fn), args.toArray, ats⟩, ty, pos, af, gd⟩)
    (hv : evl p args = some vs) (hq : Le q (pre ++ F))
    (K : ∀ v q', R v q' → ∀ q'', q'' = q' ++ F → HL q'' (cut ⟨d, .call ⟨.value (.func fn), args.toArray, ats⟩, ty, pos, af, gd⟩ L) ∧ XD P G f Q ops k pk (cut ⟨d, .call ⟨.value (.func fn), args.toArray, ats⟩, ty, pos, af, gd⟩ L) n (i :: done) (putp p d v) ds cs q'')
    (h1 : onlyR ops done i = true := by rfl) (hr : rdy ops done i = true := by rfl) (hw : Wt ops p ⟨d, .call ⟨.value (.func fn), args.toArray, ats⟩, ty, pos, af, gd⟩ = some true := by rfl) (hd : dOk f.n d = true := by rfl) : XD P G f Q ops k pk L (n + 1) done p ds cs q :=
  .call_ i (fv := .func (.func fn) #[] #[]) ho rfl hv (CallV.of_callF (a := []) (b := []) hcf (by simpa using hc)) hq K h1 hr hw hd
theorem XD.call (i : Nat) {d : Tmp} {fo : Operand} {args : List Operand} {ats : Array TypeId} {ty : TypeId} {pos : String} {af : Array Edge} {gd : Option (Nat × Bool)}
    {fv : Value} {vs : List Value} {pre F : List HP} {R : Value → List HP → Prop} (ho : ops[i]? = some ⟨some d, .call ⟨.value fo, args.toArray, ats⟩, ty, pos, af, gd⟩)
    (hf : evp p fo = some fv) (hv : evl p args = some vs) (hc : CallV P G fv vs pre (Ret R)) (hq : Le q (pre ++ F))
    (K : ∀ v q', R v q' → ∀ q'', q'' = q' ++ F → HL q'' (cut ⟨some d, .call ⟨.value fo, args.toArray, ats⟩, ty, pos, af, gd⟩ L) ∧ XD P G f Q ops k pk (cut ⟨some d, .call ⟨.value fo, args.toArray, ats⟩, ty, pos, af, gd⟩ L) n (i :: done) ((d, v) :: p) ds cs q'')
    (h1 : onlyR ops done i = true := by rfl) (hr : rdy ops done i = true := by rfl) (hw : Wt ops p ⟨some d, .call ⟨.value fo, args.toArray, ats⟩, ty, pos, af, gd⟩ = some true := by rfl) (hd : Nat.blt d f.n = true := by rfl) : XD P G f Q ops k pk L (n + 1) done p ds cs q := .call_ i ho hf hv hc hq K h1 hr hw hd
theorem XD.callF (i : Nat) {d : Tmp} {fn : FuncId} {args : List Operand} {ats : Array TypeId} {ty : TypeId} {pos : String} {af : Array Edge} {gd : Option (Nat × Bool)}
    {vs : List Value} {pre F : List HP} {R : Value → List HP → Prop} (hcf : ∀ args w, (callFunc fn args).run P w = .ok (.enter fn args) w) (hc : CallF P G fn vs pre (Ret R)) (ho : ops[i]? = some ⟨some d, .call ⟨.value (.func fn), args.toArray, ats⟩, ty, pos, af, gd⟩)
    (hv : evl p args = some vs) (hq : Le q (pre ++ F))
    (K : ∀ v q', R v q' → ∀ q'', q'' = q' ++ F → HL q'' (cut ⟨some d, .call ⟨.value (.func fn), args.toArray, ats⟩, ty, pos, af, gd⟩ L) ∧ XD P G f Q ops k pk (cut ⟨some d, .call ⟨.value (.func fn), args.toArray, ats⟩, ty, pos, af, gd⟩ L) n (i :: done) ((d, v) :: p) ds cs q'')
    (h1 : onlyR ops done i = true := by rfl) (hr : rdy ops done i = true := by rfl) (hw : Wt ops p ⟨some d, .call ⟨.value (.func fn), args.toArray, ats⟩, ty, pos, af, gd⟩ = some true := by rfl) (hd : Nat.blt d f.n = true := by rfl) : XD P G f Q ops k pk L (n + 1) done p ds cs q := .callF_ i hcf hc ho hv hq K h1 hr hw hd
theorem XD.call0 (i : Nat) {fo : Operand} {args : List Operand} {ats : Array TypeId} {ty : TypeId} {pos : String} {af : Array Edge} {gd : Option (Nat × Bool)}
    {fv : Value} {vs : List Value} {pre F : List HP} {R : Value → List HP → Prop} (ho : ops[i]? = some ⟨none, .call ⟨.value fo, args.toArray, ats⟩, ty, pos, af, gd⟩)
    (hf : evp p fo = some fv) (hv : evl p args = some vs) (hc : CallV P G fv vs pre (Ret R)) (hq : Le q (pre ++ F))
    (K : ∀ v q', R v q' → ∀ q'', q'' = q' ++ F → HL q'' (cut ⟨none, .call ⟨.value fo, args.toArray, ats⟩, ty, pos, af, gd⟩ L) ∧ XD P G f Q ops k pk (cut ⟨none, .call ⟨.value fo, args.toArray, ats⟩, ty, pos, af, gd⟩ L) n (i :: done) p ds cs q'')
    (h1 : onlyR ops done i = true := by rfl) (hr : rdy ops done i = true := by rfl) (hw : Wt ops p ⟨none, .call ⟨.value fo, args.toArray, ats⟩, ty, pos, af, gd⟩ = some true := by rfl) : XD P G f Q ops k pk L (n + 1) done p ds cs q := .call_ i ho hf hv hc hq K h1 hr hw rfl
theorem XD.callF0 (i : Nat) {fn : FuncId} {args : List Operand} {ats : Array TypeId} {ty : TypeId} {pos : String} {af : Array Edge} {gd : Option (Nat × Bool)}
    {vs : List Value} {pre F : List HP} {R : Value → List HP → Prop} (hcf : ∀ args w, (callFunc fn args).run P w = .ok (.enter fn args) w) (hc : CallF P G fn vs pre (Ret R)) (ho : ops[i]? = some ⟨none, .call ⟨.value (.func fn), args.toArray, ats⟩, ty, pos, af, gd⟩)
    (hv : evl p args = some vs) (hq : Le q (pre ++ F))
    (K : ∀ v q', R v q' → ∀ q'', q'' = q' ++ F → HL q'' (cut ⟨none, .call ⟨.value (.func fn), args.toArray, ats⟩, ty, pos, af, gd⟩ L) ∧ XD P G f Q ops k pk (cut ⟨none, .call ⟨.value (.func fn), args.toArray, ats⟩, ty, pos, af, gd⟩ L) n (i :: done) p ds cs q'')
    (h1 : onlyR ops done i = true := by rfl) (hr : rdy ops done i = true := by rfl) (hw : Wt ops p ⟨none, .call ⟨.value (.func fn), args.toArray, ats⟩, ty, pos, af, gd⟩ = some true := by rfl) : XD P G f Q ops k pk L (n + 1) done p ds cs q := .callF_ i hcf hc ho hv hq K h1 hr hw rfl
section
variable {d : Tmp} {op : Op} {ty : TypeId} {pos : String} {af : Array Edge} {gd : Option (Nat × Bool)}
theorem XD.pu (i : Nat) (ho : ops[i]? = some ⟨some d, op, ty, pos, af, gd⟩) (h : Pu P p ⟨some d, op, ty, pos, af, gd⟩ v) (K : XD P G f Q ops k pk L n (i :: done) ((d, v) :: p) ds cs q)
    (hr : rdy ops done i = true := by rfl) (hw : Wt ops p ⟨some d, op, ty, pos, af, gd⟩ = some true := by rfl) (hd : Nat.blt d f.n = true := by rfl) : XD P G f Q ops k pk L (n + 1) done p ds cs q := .pu_ i ho h K hr hw hd
theorem XD.pass (i : Nat) (ho : ops[i]? = some ⟨some d, op, ty, pos, af, gd⟩) (K : XD P G f Q ops k pk L n (i :: done) ((d, undef) :: p) ds cs q)
    (hr : rdy ops done i = true := by rfl) (hw : Wt ops p ⟨some d, op, ty, pos, af, gd⟩ = some false := by rfl) (hd : Nat.blt d f.n = true := by rfl) : XD P G f Q ops k pk L (n + 1) done p ds cs q := .pass_ i ho K hr hw hd
theorem XD.pass0 (i : Nat) (ho : ops[i]? = some ⟨none, op, ty, pos, af, gd⟩) (K : XD P G f Q ops k pk L n (i :: done) p ds cs q)
    (hr : rdy ops done i = true := by rfl) (hw : Wt ops p ⟨none, op, ty, pos, af, gd⟩ = some false := by rfl) : XD P G f Q ops k pk L (n + 1) done p ds cs q := .pass_ i ho K hr hw rfl
theorem XD.ef (i : Nat) {R : Value → List HP → Prop} (ho : ops[i]? = some ⟨some d, op, ty, pos, af, gd⟩) (h : Ef P G p q ⟨some d, op, ty, pos, af, gd⟩ R) (K : ∀ v q', R v q' → HL q' (cut ⟨some d, op, ty, pos, af, gd⟩ L) ∧ XD P G f Q ops k pk (cut ⟨some d, op, ty, pos, af, gd⟩ L) n (i :: done) ((d, v) :: p) ds cs q')
    (h1 : onlyR ops done i = true := by rfl) (hr : rdy ops done i = true := by rfl) (hw : Wt ops p ⟨some d, op, ty, pos, af, gd⟩ = some true := by rfl) (hd : Nat.blt d f.n = true := by rfl) : XD P G f Q ops k pk L (n + 1) done p ds cs q := .ef_ i ho h K h1 hr hw hd
theorem XD.ef0 (i : Nat) {R : Value → List HP → Prop} (ho : ops[i]? = some ⟨none, op, ty, pos, af, gd⟩) (h : Ef P G p q ⟨none, op, ty, pos, af, gd⟩ R) (K : ∀ v q', R v q' → HL q' (cut ⟨none, op, ty, pos, af, gd⟩ L) ∧ XD P G f Q ops k pk (cut ⟨none, op, ty, pos, af, gd⟩ L) n (i :: done) p ds cs q')
    (h1 : onlyR ops done i = true := by rfl) (hr : rdy ops done i = true := by rfl) (hw : Wt ops p ⟨none, op, ty, pos, af, gd⟩ = some true := by rfl) : XD P G f Q ops k pk L (n + 1) done p ds cs q := .ef_ i ho h K h1 hr hw rfl
end
end rules
end Wx
