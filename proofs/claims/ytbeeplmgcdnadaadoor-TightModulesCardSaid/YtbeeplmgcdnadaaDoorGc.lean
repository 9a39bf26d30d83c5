/- What functions of package tight, of its references and of its laws do: contracts of calls, proved by walking their code. -/
import Derived.Test.YtbeeplmgcdnadaaDoorGb
import Derived.KernelRfl
set_option maxRecDepth 100000
set_option linter.unusedVariables false
set_option linter.unusedSimpArgs false
namespace Go.Proofs.YtbeeplmgcdnadaaDoor
open Go Go.RowKit Wx
attribute [local irreducible] Wx.lsH Wx.rsH Wx.lsM Wx.rsM Wx.stars

/-! ### what a module that may run is like (from the verify laws) -/
theorem vchk_zero {m : Mdl} (h : vchk m = 0) : mchk m = 0 ∧ ∀ t ∈ m.threads, (dOf m t).2 = 0 := by
  unfold vchk at h
  split at h
  · contradiction
  · rename_i h0
    refine ⟨by omega, ?_⟩
    generalize m.threads = l at h ⊢
    induction l with
    | nil => intro t ht; cases ht
    | cons x r ih =>
      unfold vErr at h
      split at h
      · contradiction
      · rename_i h1
        intro t ht
        rcases List.mem_cons.1 ht with rfl | ht
        · omega
        · exact ih h t ht
theorem goes_of {m : Mdl} {t : Cod} (hin : ∀ x ∈ t.ins, insOk x) (h : (dOf m t).2 = 0) : 0 < t.ins.length ∧ dAt (dOf m t).1 0 = 0 ∧ ∀ a (ha : a < t.ins.length), 0 ≤ dAt (dOf m t).1 a →
    ¬ dAt (dOf m t).1 a < (effS t.ins[a].c).1 ∧ dAt (dOf m t).1 a - (effS t.ins[a].c).1 + (effS t.ins[a].c).2 ≤ 25 ∧ ((t.ins[a].c = 23 ∨ t.ins[a].c = 34) → dAt (dOf m t).1 a = 0) ∧
    ∀ y ∈ nxt t.ins[a] a, 0 ≤ y ∧ y.toNat < t.ins.length ∧ dAt (dOf m t).1 y.toNat = dAt (dOf m t).1 a - (effS t.ins[a].c).1 + (effS t.ins[a].c).2 := by
  unfold dOf at h ⊢
  split at h
  · exact absurd h (by decide)
  · rename_i h0
    split at h
    · exact absurd h (by decide)
    · rename_i h1
      rw [if_neg h0, if_neg h1]
      have hA : ∀ i ∈ insT t, (i.1 = 19 ∨ i.1 = 20 ∨ i.1 = 21) → 0 ≤ i.2.1 := by
        intro i hi hc
        obtain ⟨x, hx, rfl⟩ := List.mem_map.1 hi
        have := (hin x hx).2.1
        have hn : nmA x.c = true := by unfold nmA; simp only [decide_eq_true_eq]; have : (Ins.t x).1 = x.c := rfl; omega
        rw [if_pos hn] at this
        exact this.1
      have e := fun j => dAt_set (D := List.replicate t.ins.length (-1)) (i := 0) (j := j) (b := 0) (by simp; omega)
      obtain ⟨r1, r2, r3⟩ := thrS_goes hA t.ins.length ((List.replicate t.ins.length (-1)).set 0 0) (List.replicate t.ins.length false) (by simp [insT_len]) (by simp [insT_len]) (by simp)
        (fun a ha hd => by rw [List.getD_eq_getElem?_getD, List.getElem?_replicate] at hd; split at hd <;> simp at hd) h
      have e0 : dAt ((List.replicate t.ins.length (-1)).set 0 0) 0 = 0 := by rw [e]; simp
      refine ⟨by omega, by rw [r2 0 (by rw [e0]; omega), e0], fun a ha hd => ?_⟩
      obtain ⟨g1, g2⟩ := r3 a (by rw [insT_len]; exact ha) hd
      obtain ⟨n1, n2, n3⟩ := oneS_next g1
      have o1 : oneS (insT t) a (dAt (thrS (insT t) t.ins.length ((List.replicate t.ins.length (-1)).set 0 0) (List.replicate t.ins.length false)).1 a) = (dAt (thrS (insT t) t.ins.length ((List.replicate t.ins.length (-1)).set 0 0) (List.replicate t.ins.length false)).1 a - (effS t.ins[a].c).1 + (effS t.ins[a].c).2, 0) ∧ dAt (thrS (insT t) t.ins.length ((List.replicate t.ins.length (-1)).set 0 0) (List.replicate t.ins.length false)).1 a - (effS t.ins[a].c).1 + (effS t.ins[a].c).2 ≤ 25 ∧ ((t.ins[a].c = 23 ∨ t.ins[a].c = 34) → dAt (thrS (insT t) t.ins.length ((List.replicate t.ins.length (-1)).set 0 0) (List.replicate t.ins.length false)).1 a = 0) := by
        generalize dAt (thrS (insT t) t.ins.length ((List.replicate t.ins.length (-1)).set 0 0) (List.replicate t.ins.length false)).1 a = d at g1 ⊢
        unfold oneS at g1 ⊢
        rw [insT_at ha] at g1 ⊢
        dsimp only [Ins.t] at g1 ⊢
        split at g1
        · exact absurd g1 (by decide)
        · rename_i k1
          split at g1
          · exact absurd g1 (by decide)
          · rename_i k2
            split at g1
            · exact absurd g1 (by decide)
            · rename_i k3
              rw [if_neg k1, if_neg k2, if_neg k3]
              exact ⟨rfl, by omega, fun hc => Decidable.byContradiction fun hd => k2 ⟨hc, hd⟩⟩
      rw [insT_at ha] at n1 n3 g2
      refine ⟨n3, o1.2.1, o1.2.2, fun y hy => ?_⟩
      rw [nxt_eq] at hy
      have h2 := g2 y hy
      rw [o1.1] at h2
      have h3 := n1 y hy
      rw [insT_len] at h3
      have h4 : 0 ≤ y := by
        unfold nextS at hy
        have hAi := hA (t.ins[a].t) (List.mem_map.2 ⟨_, List.getElem_mem ha, rfl⟩)
        split at hy
        · simp at hy
        · split at hy
          · rename_i e; rw [List.mem_singleton.1 hy]; exact hAi (.inl e)
          · split at hy
            · rename_i e
              have h7 := hAi (by omega)
              split at hy
              · rw [List.mem_singleton.1 hy]; exact h7
              · rcases List.mem_cons.1 hy with rfl | hy
                · exact h7
                · rw [List.mem_singleton.1 hy]; omega
            · simp at hy; omega
      exact ⟨h4, by omega, h2⟩
theorem nxt_two (x : Ins) (a : Int) : (nxt x a).length ≤ 2 := by
  unfold nxt
  (repeat' split) <;> simp
theorem nxt_none {x : Ins} {a : Int} (h : (nxt x a).length = 0) : x.c = 34 := by
  unfold nxt at h
  (repeat' split at h) <;> first | assumption | simp at h
theorem tmod_in (x : Int) {n : Nat} (h : 0 < n) : -(n : Int) < x.tmod n ∧ x.tmod n < n := by
  have h1 := Int.tmod_lt_of_pos x (show (0 : Int) < n by omega)
  have h2 := Int.lt_tmod_of_pos x (show (0 : Int) < n by omega)
  exact ⟨h2, h1⟩

/-! ### what is tight -/
def prI (l : List Ins) : List Ins := takeI (unr (straS l)) (straS l)
def tiI (l : List Ins) : List Ins := takeI (cl (prI l)) (prI l)
def tiL {α : Type} (l : List Ins) (ln : List α) : List α := cutS (cl (prI l)) 0 (cutS (unr (straS l)) 0 ln)
def tiR (l : List Ins) : Nat → Bool := both2 (unr (straS l)) (cl (prI l))
theorem tiI_eq (l : List Ins) : tiI l = takeI (tiR l) (straS l) := by unfold tiI prI tiR; rw [takeI_two]; rfl
theorem tiL_eq {α : Type} (l : List Ins) (ln : List α) : tiL l ln = cutS (tiR l) 0 ln := by
  unfold tiL tiR
  have h := cutS_two (unr (straS l)) (cl (prI l)) ln 0
  rw [show kb (unr (straS l)) 0 = 0 from rfl] at h
  exact h
def nowS (l : List Ins) (i : Nat) : Int := if unr (straS l) i = true then -1 else if cl (prI l) (kb (unr (straS l)) i) = true then -1 else kb (cl (prI l)) (kb (unr (straS l)) i)
theorem nowS_eq (l : List Ins) (i : Nat) : nowS l i = if tiR l i = true then -1 else (kb (tiR l) i : Int) := by
  unfold nowS tiR
  rw [kb_two]
  unfold both2
  by_cases h1 : unr (straS l) i = true
  · simp [h1]
  · by_cases h2 : cl (prI l) (kb (unr (straS l)) i) = true
    · simp [h1, h2]
    · simp [h1, h2]
/-- A thread's code that may run: depths of what is come to. -/
structure Snd (l : List Ins) (D : Nat → Int) : Prop where
  pos : 0 < l.length
  z : D 0 = 0
  go : ∀ a, a < l.length → 0 ≤ D a → ¬ D a < (effS (l.getD a zIns).c).1 ∧ D a - (effS (l.getD a zIns).c).1 + (effS (l.getD a zIns).c).2 ≤ 25 ∧ (((l.getD a zIns).c = 23 ∨ (l.getD a zIns).c = 34) → D a = 0) ∧
    ∀ y ∈ nxt (l.getD a zIns) a, 0 ≤ y ∧ y.toNat < l.length ∧ D y.toNat = D a - (effS (l.getD a zIns).c).1 + (effS (l.getD a zIns).c).2
theorem Snd.of {m : Mdl} {t : Cod} (hin : ∀ x ∈ t.ins, insOk x) (h : (dOf m t).2 = 0) : Snd t.ins (dAt (dOf m t).1) := by
  obtain ⟨h1, h2, h3⟩ := goes_of hin h
  refine ⟨h1, h2, fun a ha hd => ?_⟩
  rw [getD_lt' ha]; exact h3 a ha hd
theorem eff19 : effS 19 = (0, 0) := by decide
section
variable {l : List Ins} {D : Nat → Int}
theorem Snd.nn (h : Snd l D) {a : Nat} (ha : a < l.length) (hd : 0 ≤ D a) : 0 ≤ D a - (effS (l.getD a zIns).c).1 + (effS (l.getD a zIns).c).2 := by
  have h1 := (h.go a ha hd).1; have := effS_nn (l.getD a zIns).c; omega
theorem Snd.rch (h : Snd l D) {j : Nat} (hr : Rch l j) : 0 ≤ D j := by
  induction hr with
  | zero _ => rw [h.z]; exact Int.le_refl _
  | step hr hy h1 h2 ih => rw [((h.go _ hr.lt ih).2.2.2 _ hy).2.2]; exact h.nn hr.lt ih
theorem Snd.in (h : Snd l D) {j : Nat} (hr : Rch l j) : ∀ y ∈ nxt (l.getD j zIns) j, 0 ≤ y ∧ y < (l.length : Int) := by
  intro y hy
  obtain ⟨h1, h2, _⟩ := (h.go j hr.lt (h.rch hr)).2.2.2 y hy
  exact ⟨h1, by omega⟩
theorem nxt19 {i : Ins} (h : i.c = 19) (a : Int) : nxt i a = [i.a] := by unfold nxt; rw [if_neg (by omega), if_pos h]
theorem Snd.led (h : Snd l D) {j : Nat} : ∀ {k a : Nat}, a < l.length → 0 ≤ D a → led l k a = some j → j < l.length ∧ D j = D a
  | 0, _, _, _, hl => by simp [Go.Proofs.YtbeeplmgcdnadaaDoor.led] at hl
  | k + 1, a, ha, hd, hl => by
    simp only [Go.Proofs.YtbeeplmgcdnadaaDoor.led] at hl
    split at hl
    · rename_i e
      obtain ⟨h1, h2, h3⟩ := (h.go a ha hd).2.2.2 (l.getD a zIns).a (by rw [nxt19 e]; exact List.mem_singleton_self _)
      rw [e, eff19] at h3
      obtain ⟨k1, k2⟩ := Snd.led h h2 (by rw [h3]; simpa using hd) hl
      exact ⟨k1, by rw [k2, h3]; simp⟩
    · cases hl; exact ⟨ha, rfl⟩
theorem Snd.leadS (h : Snd l D) {a : Nat} (ha : a < l.length) (hd : 0 ≤ D a) : leadS l a < l.length ∧ D (leadS l a) = D a := by
  unfold Go.Proofs.YtbeeplmgcdnadaaDoor.leadS
  cases e : Go.Proofs.YtbeeplmgcdnadaaDoor.led l (l.length + 1) a with
  | none => exact ⟨ha, rfl⟩
  | some j => exact h.led ha hd e
/-- What comes behind a jump that is renumbered. -/
theorem nxt_mv {f : Nat → Nat} {i : Ins} {a b : Int} (hn : jm i = true → 0 ≤ i.a) {y : Int} (hy : y ∈ nxt (i.mv f) b) : (jm i = true ∧ i.a ∈ nxt i a ∧ y = (f i.a.toNat : Int)) ∨ (y = b + 1 ∧ a + 1 ∈ nxt i a) := by
  unfold Ins.mv at hy
  by_cases hj : jm i = true
  · rw [if_pos hj] at hy
    have hc : 19 ≤ i.c ∧ i.c ≤ 21 := by unfold jm at hj; simpa using hj
    have h1 : i.a ∈ nxt i a := by
      unfold nxt
      rw [if_neg (by omega)]
      split
      · exact List.mem_singleton_self _
      · rw [if_pos (by omega)]; split <;> simp
    unfold nxt at hy
    simp only at hy
    rw [if_neg (by omega)] at hy
    split at hy
    · exact .inl ⟨hj, h1, List.mem_singleton.1 hy⟩
    · rename_i h19
      rw [if_pos (by omega)] at hy
      have h2 : a + 1 ∈ nxt i a := by
        unfold nxt
        rw [if_neg (by omega), if_neg h19, if_pos (by omega)]
        split
        · rename_i e; rw [e]; exact List.mem_singleton_self _
        · simp
      split at hy
      · exact .inl ⟨hj, h1, List.mem_singleton.1 hy⟩
      · rcases List.mem_cons.1 hy with h | h
        · exact .inl ⟨hj, h1, h⟩
        · exact .inr ⟨List.mem_singleton.1 h, h2⟩
  · rw [if_neg hj] at hy
    have hc : ¬ (19 ≤ i.c ∧ i.c ≤ 21) := by unfold jm at hj; simpa using hj
    unfold nxt at hy ⊢
    split at hy
    · cases hy
    · rename_i h34
      rw [if_neg (by omega), if_neg (by omega)] at hy
      rw [if_neg h34, if_neg (by omega), if_neg (by omega)]
      exact .inr ⟨List.mem_singleton.1 hy, List.mem_singleton_self _⟩
theorem Snd.stra (h : Snd l D) (hn : ∀ i ∈ l, jm i = true → 0 ≤ i.a) : Snd (straS l) D := by
  refine ⟨by rw [straS_len]; exact h.pos, h.z, fun a ha hd => ?_⟩
  rw [straS_len] at ha
  rw [straS_at l ha, mv_c, straS_len]
  obtain ⟨h1, h2, h3, h4⟩ := h.go a ha hd
  refine ⟨h1, h2, h3, fun y hy => ?_⟩
  rcases nxt_mv (hn _ (by rw [getD_lt' ha]; exact List.getElem_mem ha)) hy with ⟨k1, k2, rfl⟩ | ⟨rfl, k2⟩
  · obtain ⟨n1, n2, n3⟩ := h4 _ k2
    have hz := h.nn ha hd
    obtain ⟨m1, m2⟩ := h.leadS n2 (by omega)
    exact ⟨by omega, by rw [Int.toNat_natCast]; exact m1, by rw [Int.toNat_natCast, m2, n3]⟩
  · exact h4 _ k2
/-! ### what is cut out of a thread that may run -/
/-- What is come to and cut out is a jump to what stands behind it. -/
theorem tiR_gone (l : List Ins) {D : Nat → Int} (h : Snd (straS l) D) (hb : ∀ i ∈ straS l, 0 ≤ i.a) {p : Nat} (hr : Rch (straS l) p) (hR : tiR l p = true) :
    ((straS l).getD p zIns).c = 19 ∧ p < ((straS l).getD p zIns).a.toNat ∧ ((straS l).getD p zIns).a.toNat < l.length ∧ Rch (straS l) ((straS l).getD p zIns).a.toNat ∧ kb (tiR l) ((straS l).getD p zIns).a.toNat = kb (tiR l) p := by
  have hp := hr.lt
  have hu : unr (straS l) p = false := (unr_iff hb p).2 hr
  have hc : cl (prI l) (kb (unr (straS l)) p) = true := by unfold tiR both2 at hR; rw [hu] at hR; simpa using hR
  have hlt : kb (unr (straS l)) p < (prI l).length := by unfold prI; rw [takeI_len]; exact kb_lt hu hp
  have hx : (prI l).getD (kb (unr (straS l)) p) zIns = ((straS l).getD p zIns).mv (kb (unr (straS l))) := takeI_at hp hu
  have hjp : ((straS l).getD p zIns).c = 19 := by
    have h0 : (clo (kb (unr (straS l)) p) ((prI l).drop (kb (unr (straS l)) p))).getD 0 false = true := by rw [clo_at]; exact hc
    rw [List.drop_eq_getElem_cons hlt] at h0
    simp only [clo, List.getD_cons_zero, Bool.and_eq_true, decide_eq_true_eq] at h0
    rw [← getD_lt' (z := zIns) hlt, hx, mv_c] at h0; exact h0.1.1
  have hj : jm ((straS l).getD p zIns) = true := by unfold jm; rw [hjp]; decide
  obtain ⟨i0, i1⟩ := h.in hr ((straS l).getD p zIns).a (by rw [nxt19 hjp]; exact List.mem_singleton_self _)
  have hA : Rch (straS l) ((straS l).getD p zIns).a.toNat := .step hr (by rw [nxt19 hjp]; exact List.mem_singleton_self _) i0 (by omega)
  have hax : ((prI l).getD (kb (unr (straS l)) p) zIns).a = (kb (unr (straS l)) ((straS l).getD p zIns).a.toNat : Int) := by rw [hx]; unfold Ins.mv; rw [if_pos hj]
  have hkA : kb (unr (straS l)) ((straS l).getD p zIns).a.toNat ≤ (prI l).length := by unfold prI; rw [takeI_len]; exact kb_mono _ (by omega)
  obtain ⟨c1, c2, c3⟩ := (cl_iff hlt (by rw [hax, Int.toNat_natCast]; exact hkA)).1 hc
  rw [hax] at c2
  rw [hax, Int.toNat_natCast] at c3
  have hpA : p < ((straS l).getD p zIns).a.toNat := by
    rcases Nat.lt_or_ge p ((straS l).getD p zIns).a.toNat with e | e
    · exact e
    · have := kb_mono (unr (straS l)) e; omega
  have hgone : ∀ j, p ≤ j → j < ((straS l).getD p zIns).a.toNat → tiR l j = true := by
    intro j h2 h3
    rcases Nat.lt_or_ge p j with h4 | h4
    · unfold tiR both2
      cases hj2 : unr (straS l) j with
      | true => rfl
      | false => rw [Bool.false_or]; exact c3 _ (kb_lt hu h4) (kb_lt hj2 h3)
    · rw [show j = p by omega]; exact hR
  have hk := kb_all (R := tiR l) (a := p) (b := ((straS l).getD p zIns).a.toNat) (by omega) hgone
  rw [straS_len] at i1
  exact ⟨hjp, hpA, by omega, hA, hk.symm⟩
/-- Each place that is come to has one behind it that is kept, with its depth. -/
theorem keeps (l : List Ins) {D : Nat → Int} (h : Snd (straS l) D) (hb : ∀ i ∈ straS l, 0 ≤ i.a) : ∀ (d p : Nat), l.length - p ≤ d → Rch (straS l) p → ∃ q, p ≤ q ∧ q < l.length ∧ Rch (straS l) q ∧ tiR l q = false ∧ kb (tiR l) q = kb (tiR l) p ∧ D q = D p ∧ (lost l p → lost l q) := by
  intro d
  induction d with
  | zero => intro p h1 hr; have := hr.lt; rw [straS_len] at this; omega
  | succ d ih =>
    intro p h1 hr
    have hp := hr.lt
    rw [straS_len] at hp
    cases hR : tiR l p with
    | false => exact ⟨p, Nat.le_refl _, hp, hr, hR, rfl, rfl, fun h => h⟩
    | true =>
      obtain ⟨hjp, hpA, hA2, hA, hk⟩ := tiR_gone l h hb hr hR
      obtain ⟨q, q1, q2, q3, q4, q5, q6, q7⟩ := ih _ (by omega) hA
      have hD := (h.go p (by rw [straS_len]; exact hp) (h.rch hr)).2.2.2 ((straS l).getD p zIns).a (by rw [nxt19 hjp]; exact List.mem_singleton_self _)
      rw [hjp, eff19] at hD
      refine ⟨q, by omega, q2, q3, q4, by rw [q5, hk], by rw [q6, hD.2.2]; simp, fun hlo => q7 ?_⟩
      have hc0 := lost_c hlo
      have hlo2 := (lost_jump hc0).1 hlo
      have e1 : ((straS l).getD p zIns).a = (leadS l (l.getD p zIns).a.toNat : Int) := by
        rw [straS_at l hp]; unfold Ins.mv; rw [if_pos (by unfold jm; rw [hc0]; decide)]
      rw [e1, Int.toNat_natCast]
      unfold Go.Proofs.YtbeeplmgcdnadaaDoor.leadS
      rw [hlo2]; exact hlo2
/-- Where a place of a tight thread stood. -/
def oriS (l : List Ins) (k : Nat) : Nat := (cutS (tiR l) 0 (List.range l.length)).getD k 0
theorem oriS_kb {p : Nat} (hp : p < l.length) (hr : tiR l p = false) : oriS l (kb (tiR l) p) = p := by
  unfold oriS
  rw [List.getD_eq_getElem?_getD, cutS_at0 (by simpa using hp) hr]; simp [hp]
theorem tiI_len (l : List Ins) : (tiI l).length = kb (tiR l) l.length := by rw [tiI_eq, takeI_len, straS_len]
theorem tiI_at {p : Nat} (hp : p < l.length) (hr : tiR l p = false) : (tiI l).getD (kb (tiR l) p) zIns = ((straS l).getD p zIns).mv (kb (tiR l)) := by rw [tiI_eq]; exact takeI_at (by rw [straS_len]; exact hp) hr
theorem tiR_rch (hb : ∀ i ∈ straS l, 0 ≤ i.a) {p : Nat} (h : tiR l p = false) : Rch (straS l) p := by
  rw [← unr_iff hb]; unfold tiR both2 at h; rw [Bool.or_eq_false_iff] at h; exact h.1
theorem tight_snd (h : Snd (straS l) D) (hb : ∀ i ∈ straS l, 0 ≤ i.a) : Snd (tiI l) (fun k => D (oriS l k)) := by
  have hz := Rch.zero h.pos
  obtain ⟨q, _, q2, q3, q4, q5, q6, _⟩ := keeps l h hb l.length 0 (by omega) hz
  have hq0 : kb (tiR l) q = 0 := by rw [q5]; rfl
  refine ⟨by rw [tiI_len]; have := kb_lt q4 q2; omega, ?_, fun k hk hd => ?_⟩
  · show D (oriS l 0) = 0
    rw [← hq0, oriS_kb q2 q4, q6, h.z]
  · rw [tiI_len] at hk
    obtain ⟨p, hp, hr, rfl⟩ := kb_onto hk
    have hR := tiR_rch hb hr
    show ¬ D (oriS l (kb (tiR l) p)) < _ ∧ _
    rw [oriS_kb hp hr] at hd ⊢
    rw [tiI_at hp hr, mv_c]
    obtain ⟨h1, h2, h3, h4⟩ := h.go p hR.lt hd
    refine ⟨h1, h2, h3, fun y hy => ?_⟩
    have go : ∀ z : Int, z ∈ nxt ((straS l).getD p zIns) p → y = (kb (tiR l) z.toNat : Int) → 0 ≤ y ∧ y.toNat < (tiI l).length ∧ D (oriS l y.toNat) = D p - (effS ((straS l).getD p zIns).c).1 + (effS ((straS l).getD p zIns).c).2 := by
      intro z hz2 e
      obtain ⟨z1, z2, z3⟩ := h4 z hz2
      obtain ⟨w, _, w2, w3, w4, w5, w6, _⟩ := keeps l h hb l.length z.toNat (by omega) (.step hR hz2 z1 z2)
      refine ⟨by omega, ?_, ?_⟩
      · rw [tiI_len, e, Int.toNat_natCast, ← w5]; exact kb_lt w4 w2
      · rw [e, Int.toNat_natCast, ← w5, oriS_kb w2 w4, w6, z3]
    rcases nxt_mv (a := (p : Int)) (fun _ => hb _ (by rw [getD_lt' hR.lt]; exact List.getElem_mem hR.lt)) hy with ⟨k1, k2, k3⟩ | ⟨k3, k2⟩
    · exact go _ k2 k3
    · refine go _ k2 ?_
      rw [k3, show ((p : Int) + 1).toNat = p + 1 by omega, kb_kept hr]; omega
/-- Where a tight thread's jumps lead: to what they name. -/
theorem tight_lost (h : Snd (straS l) D) (hb : ∀ i ∈ straS l, 0 ≤ i.a) : ∀ (k : Nat) {a : Nat}, Rch (straS l) a → lost l a → led (tiI l) k (kb (tiR l) a) = none
  | 0, _, _, _ => rfl
  | k + 1, a, hr, hlo => by
    obtain ⟨q, _, q2, q3, q4, q5, _, q7⟩ := keeps l h hb l.length a (by omega) hr
    have hlq := q7 hlo
    have hc := lost_c hlq
    have hjq : jm (l.getD q zIns) = true := by unfold jm; rw [hc]; decide
    have e1 : (straS l).getD q zIns = { l.getD q zIns with a := (leadS l (l.getD q zIns).a.toNat : Int) } := by rw [straS_at l q2]; unfold Ins.mv; rw [if_pos hjq]
    have e2 : leadS l (l.getD q zIns).a.toNat = (l.getD q zIns).a.toNat := by unfold Go.Proofs.YtbeeplmgcdnadaaDoor.leadS; rw [(lost_jump hc).1 hlq]; rfl
    rw [e2] at e1
    have hjs : jm ((straS l).getD q zIns) = true := by rw [e1]; exact hjq
    have hcs : ((straS l).getD q zIns).c = 19 := by rw [e1]; exact hc
    have hnx : ((straS l).getD q zIns).a ∈ nxt ((straS l).getD q zIns) q := by rw [nxt19 hcs]; exact List.mem_singleton_self _
    obtain ⟨i0, i1⟩ := h.in q3 _ hnx
    have hra : Rch (straS l) ((straS l).getD q zIns).a.toNat := .step q3 hnx i0 (by omega)
    have hat : ((straS l).getD q zIns).a.toNat = (l.getD q zIns).a.toNat := by rw [e1]; exact Int.toNat_natCast _
    have := tight_lost h hb k hra (by rw [hat]; exact (lost_jump hc).1 hlq)
    rw [← q5, led_jump (by rw [tiI_at q2 q4, mv_c]; exact hcs), tiI_at q2 q4]
    unfold Ins.mv
    rw [if_pos hjs, Int.toNat_natCast]; exact this
theorem tight_stra (h : Snd (straS l) D) (hb : ∀ i ∈ straS l, 0 ≤ i.a) : straS (tiI l) = tiI l := by
  unfold straS
  conv => rhs; rw [← List.map_id (tiI l)]
  apply List.map_congr_left
  intro i hi
  obtain ⟨k, hk, rfl⟩ := List.getElem_of_mem hi
  have hk2 := hk
  rw [tiI_len] at hk2
  obtain ⟨p, hp, hr, rfl⟩ := kb_onto hk2
  have hR := tiR_rch hb hr
  rw [← getD_lt' (z := zIns) hk, tiI_at hp hr]
  by_cases hj : jm ((straS l).getD p zIns) = true
  · have hnx : ((straS l).getD p zIns).a ∈ nxt ((straS l).getD p zIns) p := by
      have hc : 19 ≤ ((straS l).getD p zIns).c ∧ ((straS l).getD p zIns).c ≤ 21 := by unfold jm at hj; simpa using hj
      unfold nxt
      rw [if_neg (by omega)]
      split
      · exact List.mem_singleton_self _
      · rw [if_pos (by omega)]; split <;> simp
    obtain ⟨i0, i1⟩ := h.in hR _ hnx
    have hra : Rch (straS l) ((straS l).getD p zIns).a.toNat := .step hR hnx i0 (by omega)
    have hjl : jm (l.getD p zIns) = true := by rw [straS_at l hp, mv_jm] at hj; exact hj
    have e1 : ((straS l).getD p zIns).a = (leadS l (l.getD p zIns).a.toNat : Int) := by rw [straS_at l hp]; unfold Ins.mv; rw [if_pos hjl]
    have key : leadS (tiI l) (kb (tiR l) ((straS l).getD p zIns).a.toNat) = kb (tiR l) ((straS l).getD p zIns).a.toNat := by
      cases e : led l (l.length + 1) (l.getD p zIns).a.toNat with
      | some j =>
        have hl : leadS l (l.getD p zIns).a.toNat = j := by unfold Go.Proofs.YtbeeplmgcdnadaaDoor.leadS; rw [e]; rfl
        rw [e1, Int.toNat_natCast, hl] at hra ⊢
        have hj19 := led_end e
        have hjl2 := hra.lt
        rw [straS_len] at hjl2
        have hkept : tiR l j = false := by
          have hu : unr (straS l) j = false := (unr_iff hb j).2 hra
          have hlt : kb (unr (straS l)) j < (prI l).length := by unfold prI; rw [takeI_len, straS_len]; exact kb_lt hu hjl2
          have hx : (prI l).getD (kb (unr (straS l)) j) zIns = ((straS l).getD j zIns).mv (kb (unr (straS l))) := takeI_at (by rw [straS_len]; exact hjl2) hu
          cases hc : cl (prI l) (kb (unr (straS l)) j) with
          | false => unfold tiR both2; rw [hu, hc]; rfl
          | true =>
            exfalso
            have h0 : (clo (kb (unr (straS l)) j) ((prI l).drop (kb (unr (straS l)) j))).getD 0 false = true := by rw [clo_at]; exact hc
            rw [List.drop_eq_getElem_cons hlt] at h0
            simp only [clo, List.getD_cons_zero, Bool.and_eq_true, decide_eq_true_eq] at h0
            rw [← getD_lt' (z := zIns) hlt, hx, mv_c, straS_at l hjl2, mv_c] at h0
            exact hj19 h0.1.1
        unfold Go.Proofs.YtbeeplmgcdnadaaDoor.leadS
        simp only [Go.Proofs.YtbeeplmgcdnadaaDoor.led]
        rw [if_neg (by rw [tiI_at hjl2 hkept, mv_c, straS_at l hjl2, mv_c]; exact hj19)]; rfl
      | none =>
        have hl : leadS l (l.getD p zIns).a.toNat = (l.getD p zIns).a.toNat := by unfold Go.Proofs.YtbeeplmgcdnadaaDoor.leadS; rw [e]; rfl
        unfold Go.Proofs.YtbeeplmgcdnadaaDoor.leadS
        have hlost : lost l ((straS l).getD p zIns).a.toNat := by
          rw [e1, hl, Int.toNat_natCast]
          exact lost_of_len e
        rw [tight_lost h hb _ hra hlost]; rfl
    have hj2 : jm (((straS l).getD p zIns).mv (kb (tiR l))) = true := by rw [mv_jm]; exact hj
    rw [mv_two]
    show _ = ((straS l).getD p zIns).mv (kb (tiR l))
    exact mv_congr fun _ => key
  · have e1 : ((straS l).getD p zIns).mv (kb (tiR l)) = (straS l).getD p zIns := by unfold Ins.mv; rw [if_neg hj]
    rw [e1]
    show ((straS l).getD p zIns).mv _ = _
    unfold Ins.mv; rw [if_neg hj]; rfl
/-- All of a tight thread is come to. -/
theorem nxt_in {f : Nat → Nat} {i : Ins} {a b y : Int} (hy : y ∈ nxt i a) : (jm i = true ∧ y = i.a ∧ (f i.a.toNat : Int) ∈ nxt (i.mv f) b) ∨ (y = a + 1 ∧ b + 1 ∈ nxt (i.mv f) b) := by
  by_cases hj : jm i = true
  · have hc : 19 ≤ i.c ∧ i.c ≤ 21 := by unfold jm at hj; simpa using hj
    have e : i.mv f = { i with a := (f i.a.toNat : Int) } := by unfold Ins.mv; rw [if_pos hj]
    have h1 : (f i.a.toNat : Int) ∈ nxt (i.mv f) b := by
      rw [e]; unfold nxt
      rw [if_neg (by show ¬ i.c = 34; omega)]
      split
      · exact List.mem_singleton_self _
      · rw [if_pos (by show i.c = 20 ∨ i.c = 21; rename_i h; have : ¬ i.c = 19 := h; omega)]; split <;> simp
    unfold nxt at hy
    rw [if_neg (by omega)] at hy
    split at hy
    · exact .inl ⟨hj, List.mem_singleton.1 hy, h1⟩
    · rename_i h19
      rw [if_pos (by omega)] at hy
      have h2 : b + 1 ∈ nxt (i.mv f) b := by
        rw [e]; unfold nxt
        rw [if_neg (by show ¬ i.c = 34; omega), if_neg (by show ¬ i.c = 19; omega), if_pos (by show i.c = 20 ∨ i.c = 21; omega)]
        split
        · rename_i e2; exact List.mem_singleton.2 e2.symm
        · simp
      split at hy
      · exact .inl ⟨hj, List.mem_singleton.1 hy, h1⟩
      · rcases List.mem_cons.1 hy with h | h
        · exact .inl ⟨hj, h, h1⟩
        · exact .inr ⟨List.mem_singleton.1 h, h2⟩
  · have e : i.mv f = i := by unfold Ins.mv; rw [if_neg hj]
    have hc : ¬ (19 ≤ i.c ∧ i.c ≤ 21) := by unfold jm at hj; simpa using hj
    rw [e]
    unfold nxt at hy ⊢
    split at hy
    · cases hy
    · rename_i h34
      rw [if_neg (by omega), if_neg (by omega)] at hy
      rw [if_neg h34, if_neg (by omega), if_neg (by omega)]
      exact .inr ⟨List.mem_singleton.1 hy, List.mem_singleton_self _⟩
theorem tight_in (h : Snd (straS l) D) (hb : ∀ i ∈ straS l, 0 ≤ i.a) {p : Nat} (hr : Rch (straS l) p) : kb (tiR l) p < (tiI l).length := by
  obtain ⟨q, _, q2, _, q4, q5, _⟩ := keeps l h hb l.length p (by omega) hr
  rw [tiI_len, ← q5]; exact kb_lt q4 q2
theorem tight_rch (h : Snd (straS l) D) (hb : ∀ i ∈ straS l, 0 ≤ i.a) {p : Nat} (hr : Rch (straS l) p) : Rch (tiI l) (kb (tiR l) p) := by
  induction hr with
  | zero h0 => exact .zero (by have := tight_in h hb (.zero h0); omega)
  | @step i y hr hy h1 h2 ih =>
    have hi := hr.lt
    rw [straS_len] at hi
    have hin := tight_in h hb (.step hr hy h1 h2)
    cases hR : tiR l i with
    | false =>
      have hx := tiI_at hi hR
      have := nxt_in (f := kb (tiR l)) (b := (kb (tiR l) i : Int)) hy
      rw [← hx] at this
      rcases this with ⟨_, e, k⟩ | ⟨e, k⟩
      · subst e
        have := Rch.step ih k (by omega) (by rw [Int.toNat_natCast]; exact hin)
        rwa [Int.toNat_natCast] at this
      · have e2 : kb (tiR l) y.toNat = kb (tiR l) i + 1 := by rw [e, show ((i : Int) + 1).toNat = i + 1 by omega, kb_kept hR]
        have := Rch.step ih k (by omega) (by rw [show ((kb (tiR l) i : Int) + 1).toNat = kb (tiR l) i + 1 by omega, ← e2]; exact hin)
        rwa [show ((kb (tiR l) i : Int) + 1).toNat = kb (tiR l) i + 1 by omega, ← e2] at this
    | true =>
      obtain ⟨g1, _, _, _, g5⟩ := tiR_gone l h hb hr hR
      rw [nxt19 g1] at hy
      rw [List.mem_singleton.1 hy, g5]; exact ih
theorem tight_all (h : Snd (straS l) D) (hb : ∀ i ∈ straS l, 0 ≤ i.a) {k : Nat} (hk : k < (tiI l).length) : Rch (tiI l) k := by
  rw [tiI_len] at hk
  obtain ⟨p, _, hr, rfl⟩ := kb_onto hk
  exact tight_rch h hb (tiR_rch hb hr)
/-- No jump of a tight thread leads to what stands behind it. -/
theorem tight_cl (h : Snd (straS l) D) (hb : ∀ i ∈ straS l, 0 ≤ i.a) : ∀ (d k : Nat), (tiI l).length - k ≤ d → cl (tiI l) k = false := by
  intro d
  induction d with
  | zero => intro k hk; exact cl_out (by omega)
  | succ d ih =>
    intro k hd
    cases hc : cl (tiI l) k with
    | false => rfl
    | true =>
      exfalso
      have hk : k < (tiI l).length := by
        rcases Nat.lt_or_ge k (tiI l).length with e | e
        · exact e
        · rw [cl_out e] at hc; cases hc
      have hk2 := hk
      rw [tiI_len] at hk2
      obtain ⟨p, hp, hr, rfl⟩ := kb_onto hk2
      have hR := tiR_rch hb hr
      have hx := tiI_at hp hr
      have hcc : ((straS l).getD p zIns).c = 19 := by
        have h0 : (clo (kb (tiR l) p) ((tiI l).drop (kb (tiR l) p))).getD 0 false = true := by rw [clo_at]; exact hc
        rw [List.drop_eq_getElem_cons hk] at h0
        simp only [clo, List.getD_cons_zero, Bool.and_eq_true, decide_eq_true_eq] at h0
        rw [← getD_lt' (z := zIns) hk, hx, mv_c] at h0; exact h0.1.1
      have hj : jm ((straS l).getD p zIns) = true := by unfold jm; rw [hcc]; decide
      obtain ⟨i0, i1⟩ := h.in hR ((straS l).getD p zIns).a (by rw [nxt19 hcc]; exact List.mem_singleton_self _)
      rw [straS_len] at i1
      have hax : ((tiI l).getD (kb (tiR l) p) zIns).a = (kb (tiR l) ((straS l).getD p zIns).a.toNat : Int) := by rw [hx]; unfold Ins.mv; rw [if_pos hj]
      have hle : kb (tiR l) ((straS l).getD p zIns).a.toNat ≤ (tiI l).length := by rw [tiI_len]; exact kb_mono _ (by omega)
      obtain ⟨_, c2, c3⟩ := (cl_iff hk (by rw [hax, Int.toNat_natCast]; exact hle)).1 hc
      rw [hax] at c2
      rw [hax, Int.toNat_natCast] at c3
      have hone : kb (tiR l) ((straS l).getD p zIns).a.toNat = kb (tiR l) p + 1 := by
        rcases Nat.lt_or_ge (kb (tiR l) p + 1) (kb (tiR l) ((straS l).getD p zIns).a.toNat) with e | e
        · have := c3 (kb (tiR l) p + 1) (by omega) e
          rw [ih _ (by omega)] at this; cases this
        · omega
      have hpA : p < ((straS l).getD p zIns).a.toNat := by
        rcases Nat.lt_or_ge p ((straS l).getD p zIns).a.toNat with e | e
        · exact e
        · have := kb_mono (tiR l) e; omega
      have hgone := kb_eq (R := tiR l) (a := p + 1) (b := ((straS l).getD p zIns).a.toNat) (by omega) (by rw [kb_kept hr]; omega)
      have hu : unr (straS l) p = false := (unr_iff hb p).2 hR
      have hlt : kb (unr (straS l)) p < (prI l).length := by unfold prI; rw [takeI_len]; exact kb_lt hu hR.lt
      have hx2 : (prI l).getD (kb (unr (straS l)) p) zIns = ((straS l).getD p zIns).mv (kb (unr (straS l))) := takeI_at hR.lt hu
      have hax2 : ((prI l).getD (kb (unr (straS l)) p) zIns).a = (kb (unr (straS l)) ((straS l).getD p zIns).a.toNat : Int) := by rw [hx2]; unfold Ins.mv; rw [if_pos hj]
      have hkA : kb (unr (straS l)) ((straS l).getD p zIns).a.toNat ≤ (prI l).length := by unfold prI; rw [takeI_len]; exact kb_mono _ (by rw [straS_len]; omega)
      have hcl : cl (prI l) (kb (unr (straS l)) p) = true := by
        refine (cl_iff hlt (by rw [hax2, Int.toNat_natCast]; exact hkA)).2 ⟨by rw [hx2, mv_c]; exact hcc, ?_, ?_⟩
        · rw [hax2]
          have := kb_kept hu; have := kb_mono (unr (straS l)) (show p + 1 ≤ ((straS l).getD p zIns).a.toNat by omega); omega
        · rw [hax2, Int.toNat_natCast]
          intro j h1 h2
          obtain ⟨w, w1, w2, rfl⟩ := kb_onto (R := unr (straS l)) (n := ((straS l).getD p zIns).a.toNat) h2
          have hpw : p < w := by
            rcases Nat.lt_or_ge p w with e | e
            · exact e
            · have := kb_mono (unr (straS l)) e; omega
          have := hgone w (by omega) w1
          unfold tiR both2 at this; rw [w2, Bool.false_or] at this; exact this
      unfold tiR both2 at hr
      rw [hcl, Bool.or_true] at hr; cases hr
theorem kb_id {R : Nat → Bool} {k : Nat} (h : ∀ j, j < k → R j = false) : kb R k = k := by
  induction k with
  | zero => rfl
  | succ k ih => rw [kb_kept (h k (by omega)), ih fun j hj => h j (by omega)]
theorem takeI_none {R : Nat → Bool} {l : List Ins} (hn : ∀ i ∈ l, jm i = true → 0 ≤ i.a ∧ i.a.toNat ≤ l.length) (h : ∀ j, j < l.length → R j = false) : takeI R l = l := by
  unfold takeI
  rw [cutS_none l 0 fun j _ h2 => h j (by omega)]
  conv => rhs; rw [← List.map_id l]
  apply List.map_congr_left
  intro i hi
  unfold Ins.mv
  split
  · rename_i hj
    obtain ⟨h1, h2⟩ := hn i hi hj
    rw [kb_id fun j hj => h j (by omega), Int.toNat_of_nonneg h1]; rfl
  · rfl
/-- Made tight once more it is the same. -/
theorem tight_a (h : Snd (straS l) D) (hb : ∀ i ∈ straS l, 0 ≤ i.a) : ∀ i ∈ tiI l, jm i = true → 0 ≤ i.a ∧ i.a.toNat < (tiI l).length := by
  intro i hi hj
  obtain ⟨k, hk, rfl⟩ := List.getElem_of_mem hi
  have hr := tight_all h hb hk
  have hs := tight_snd h hb
  have hc : 19 ≤ (tiI l)[k].c ∧ (tiI l)[k].c ≤ 21 := by unfold jm at hj; simpa using hj
  have hx : (tiI l)[k].a ∈ nxt (tiI l)[k] (k : Int) := by
    unfold nxt
    rw [if_neg (by omega)]
    split
    · exact List.mem_singleton_self _
    · rw [if_pos (by omega)]; split <;> simp
  rw [← getD_lt' (z := zIns) hk] at hx ⊢
  obtain ⟨h1, h2⟩ := hs.in hr _ hx
  exact ⟨h1, by omega⟩
theorem tight_b (h : Snd (straS l) D) (hb : ∀ i ∈ straS l, 0 ≤ i.a) : ∀ i ∈ tiI l, 0 ≤ i.a := by
  intro i hi
  obtain ⟨k, hk, rfl⟩ := List.getElem_of_mem hi
  have hk2 := hk
  rw [tiI_len] at hk2
  obtain ⟨p, hp, hr, rfl⟩ := kb_onto hk2
  rw [← getD_lt' (z := zIns) hk, tiI_at hp hr]
  unfold Ins.mv
  split
  · exact Int.natCast_nonneg _
  · rw [getD_lt' (by rw [straS_len]; exact hp)]; exact hb _ (List.getElem_mem _)
theorem tight_unr (h : Snd (straS l) D) (hb : ∀ i ∈ straS l, 0 ≤ i.a) : ∀ j, j < (tiI l).length → unr (tiI l) j = false := fun _ hj => (unr_iff (tight_b h hb) _).2 (tight_all h hb hj)
theorem tight_pr (h : Snd (straS l) D) (hb : ∀ i ∈ straS l, 0 ≤ i.a) : prI (tiI l) = tiI l := by
  unfold prI
  rw [tight_stra h hb]
  exact takeI_none (fun i hi hj => by obtain ⟨h1, h2⟩ := tight_a h hb i hi hj; exact ⟨h1, by omega⟩) (tight_unr h hb)
theorem tight_R (h : Snd (straS l) D) (hb : ∀ i ∈ straS l, 0 ≤ i.a) : ∀ j, j < (tiI l).length → tiR (tiI l) j = false := by
  intro j hj
  unfold tiR both2
  rw [tight_pr h hb, tight_stra h hb, tight_unr h hb j hj, tight_cl h hb _ _ (Nat.le_refl _)]; rfl
theorem tight_idem (h : Snd (straS l) D) (hb : ∀ i ∈ straS l, 0 ≤ i.a) : tiI (tiI l) = tiI l := by
  rw [tiI_eq (tiI l), tight_stra h hb]
  exact takeI_none (fun i hi hj => by obtain ⟨h1, h2⟩ := tight_a h hb i hi hj; exact ⟨h1, by omega⟩) (tight_R h hb)
theorem tight_lines {α : Type} (h : Snd (straS l) D) (hb : ∀ i ∈ straS l, 0 ≤ i.a) {ln : List α} (hl : ln.length = (tiI l).length) : tiL (tiI l) ln = ln := by
  rw [tiL_eq]; exact cutS_none ln 0 fun j _ h2 => tight_R h hb j (by omega)
end
/-! ### where instructions are, cut by cut -/
def nowR (R : Nat → Bool) (x : Int) : Int := if x < 0 then x else if R x.toNat = true then -1 else (kb R x.toNat : Int)
def nowsS (l : List Ins) : List Int := (List.range l.length).map (nowS l)
theorem nows_two (l : List Ins) : (((List.range l.length).map fun (i : Nat) => (i : Int)).map (nowR (unr (straS l)))).map (nowR (cl (prI l))) = nowsS l := by
  unfold nowsS
  rw [List.map_map, List.map_map]
  apply List.map_congr_left
  intro i _
  simp only [Function.comp_apply]
  have e1 : ∀ (R : Nat → Bool) (n : Nat), nowR R (n : Int) = if R n = true then -1 else (kb R n : Int) := fun R n => by unfold nowR; rw [if_neg (by omega), Int.toNat_natCast]
  have e2 : ∀ R : Nat → Bool, nowR R (-1) = -1 := fun R => rfl
  rw [e1]
  unfold nowS
  by_cases h1 : unr (straS l) i = true
  · rw [if_pos h1, if_pos h1, e2]
  · rw [if_neg h1, if_neg h1, e1]
theorem nowR_congr {R S : Nat → Bool} {n : Nat} {W : List Int} (hW : ∀ x ∈ W, x < 0 ∨ x.toNat < n) (h : ∀ j, j < n → R j = S j) : W.map (nowR R) = W.map (nowR S) := by
  apply List.map_congr_left
  intro x hx
  unfold nowR
  rcases hW x hx with h1 | h1
  · rw [if_pos h1, if_pos h1]
  · rw [h x.toNat h1, kb_congr (R := R) (S := S) fun j hj => h j (by omega)]
theorem set_next {α : Type} {A B : List α} {s : Nat} (h : A.length = B.length) (hs : s < B.length) : (A.take s ++ B.drop s).set s (A[s]'(by omega)) = A.take (s + 1) ++ B.drop (s + 1) := by
  have : (A.take s).length = s := by rw [List.length_take]; omega
  rw [List.set_append_right _ _ (by omega), this, Nat.sub_self, List.drop_eq_getElem_cons hs, List.set_cons_zero, List.take_succ_eq_append_getElem (show s < A.length by omega), List.append_assoc]; rfl
theorem same_next {α : Type} {A B : List α} {s : Nat} (h : A.length = B.length) (hs : s < B.length) (he : A[s]'(by omega) = B[s]) : A.take s ++ B.drop s = A.take (s + 1) ++ B.drop (s + 1) := by
  rw [List.drop_eq_getElem_cons hs, List.take_succ_eq_append_getElem (show s < A.length by omega), he]; simp
theorem cutS_mem {α : Type} {R : Nat → Bool} {x : α} : ∀ {l : List α} {k : Nat}, x ∈ cutS R k l → x ∈ l
  | [], _, h => by simp [cutS] at h
  | y :: r, k, h => by
    simp only [cutS] at h
    split at h
    · exact List.mem_cons_of_mem _ (cutS_mem h)
    · rcases List.mem_cons.1 h with h | h
      · exact h ▸ List.mem_cons_self ..
      · exact List.mem_cons_of_mem _ (cutS_mem h)
theorem mid_at {α : Type} {A B : List α} {s : Nat} (h : A.length = B.length) (hs : s < B.length) (hl : s < (A.take s ++ B.drop s).length) : (A.take s ++ B.drop s)[s] = B[s] := by
  have e : (A.take s).length = s := by rw [List.length_take]; omega
  rw [List.getElem_append_right (by omega)]
  simp only [List.getElem_drop, e, Nat.sub_self, Nat.add_zero]
/-! ### the way back over a thread, from its last place on -/
def bwd (I : List Ins) : List (List Value) := (List.range I.length).map fun (k : Nat) => [.int .i64 ((I.length : Int) - 1 - (k : Int)), .agg (insC (I.getD (I.length - 1 - k) zIns)).toArray]
theorem bwd_len (I : List Ins) : (bwd I).length = I.length := by simp [bwd]
theorem bwd_at {I : List Ins} {k : Nat} (h : k < (bwd I).length) : (bwd I)[k] = [.int .i64 ((I.length : Int) - 1 - (k : Int)), .agg (insC (I.getD (I.length - 1 - k) zIns)).toArray] := by simp only [bwd, List.getElem_map, List.getElem_range]
def outL (I : List Ins) : Nat → List Bool
  | 0 => List.replicate I.length false
  | k + 1 => if cl I (I.length - 1 - k) = true then (outL I k).set (I.length - 1 - k) true else outL I k
def leftL (I : List Ins) : Nat → List Int
  | 0 => (List.replicate (I.length + 1) 0).set I.length (I.length : Int)
  | k + 1 => (leftL I k).set (I.length - 1 - k) (if cl I (I.length - 1 - k) = true then (leftL I k).getD (I.length - 1 - k + 1) 0 else ((I.length - 1 - k : Nat) : Int))
theorem outL_len (I : List Ins) (k : Nat) : (outL I k).length = I.length := by
  induction k with
  | zero => simp [outL]
  | succ k ih => simp only [outL]; split <;> simp [ih]
theorem outL_at {I : List Ins} {j : Nat} (hj : j < I.length) : ∀ {k : Nat}, k ≤ I.length → (outL I k).getD j false = (decide (I.length - k ≤ j) && cl I j)
  | 0, _ => by
    have : (List.replicate I.length false).getD j false = false := by simp [List.getD_eq_getElem?_getD, hj]
    rw [show outL I 0 = List.replicate I.length false from rfl, this, decide_eq_false (by omega), Bool.false_and]
  | k + 1, hk => by
    have ih := outL_at hj (k := k) (by omega)
    have g := fun b => getD_setB (o := outL I k) (i := I.length - 1 - k) (j := j) (b := b) (by rw [outL_len]; omega)
    simp only [outL]
    by_cases e : j = I.length - 1 - k
    · split
      · rename_i h; rw [g, if_pos e, e, h]; simp; omega
      · rename_i h
        rw [ih, e]
        have : cl I (I.length - 1 - k) = false := by simpa using h
        rw [this]; simp
    · have e2 : decide (I.length - (k + 1) ≤ j) = decide (I.length - k ≤ j) := decide_eq_decide.2 (by omega)
      rw [e2, ← ih]
      split
      · rw [g, if_neg e]
      · rfl
theorem leftL_q (I : List Ins) : ∀ {k : Nat}, k ≤ I.length → LeftQ I (I.length - k) (leftL I k)
  | 0, _ => LeftQ.init I
  | k + 1, hk => by
    have ih := leftL_q I (k := k) (by omega)
    have e : I.length - k = (I.length - 1 - k) + 1 := by omega
    rw [e] at ih
    have := ih.step (by omega)
    rw [show I.length - (k + 1) = I.length - 1 - k by omega]; exact this
theorem cl_test {I : List Ins} {a : Nat} {left : List Int} (h : LeftQ I (a + 1) left) (ha : a < I.length) (hA : jm (I.getD a zIns) = true → 0 ≤ (I.getD a zIns).a ∧ (I.getD a zIns).a.toNat < I.length) :
    cl I a = true ↔ (I.getD a zIns).c = 19 ∧ (a : Int) < (I.getD a zIns).a ∧ left.getD (I.getD a zIns).a.toNat 0 = left.getD (a + 1) 0 := by
  by_cases hc : (I.getD a zIns).c = 19
  · obtain ⟨h0, h1⟩ := hA (by unfold jm; rw [hc]; decide)
    rw [cl_iff ha (by omega)]
    refine and_congr_right fun _ => and_congr_right fun h2 => ?_
    rw [h.eq (Nat.le_refl _) (show a + 1 ≤ (I.getD a zIns).a.toNat by omega) (by omega)]
    constructor
    · intro h3 j h4 h5; exact h3 j (by omega) h5
    · intro h3 j h4 h5; exact h3 j (by omega) h5
  · constructor
    · intro h3
      exfalso
      have h0 : (clo a (I.drop a)).getD 0 false = true := by rw [clo_at]; exact h3
      rw [List.drop_eq_getElem_cons ha] at h0
      simp only [clo, List.getD_cons_zero, Bool.and_eq_true, decide_eq_true_eq] at h0
      rw [getD_lt' ha] at hc; exact hc h0.1.1
    · intro h3; exact absurd h3.1 hc

/-! ### a thread may run, if depths are known -/
theorem visitS_fine {b : Int} {E : Nat → Int} (hb : 0 ≤ b) : ∀ {l D : List Int}, (∀ x ∈ l, 0 ≤ x ∧ x.toNat < D.length ∧ E x.toNat = b) → (∀ j, 0 ≤ dAt D j → dAt D j = E j) → ∃ D', visitS b D l = some D' ∧ D'.length = D.length ∧ ∀ j, 0 ≤ dAt D' j → dAt D' j = E j
  | [], D, _, h => ⟨D, rfl, rfl, h⟩
  | x :: r, D, hx, h => by
    obtain ⟨x0, x1, x2⟩ := hx x (List.mem_cons_self ..)
    unfold visitS
    rw [if_neg (by rintro ⟨h1, h2⟩; rw [h _ h1, x2] at h2; exact h2 rfl)]
    have e := fun j => dAt_set (D := D) (i := x.toNat) (j := j) (b := b) x1
    obtain ⟨D', h1, h2, h3⟩ := visitS_fine hb (l := r) (D := D.set x.toNat b) (fun y hy => by rw [List.length_set]; exact hx y (List.mem_cons_of_mem _ hy)) (fun j hj => by
      rw [e] at hj ⊢
      split
      · rename_i e1; rw [e1, x2]
      · rename_i e1; rw [if_neg e1] at hj; exact h j hj)
    exact ⟨D', h1, by rw [h2, List.length_set], h3⟩
theorem thrS_fine {ins : List InsT} {E : Nat → Int} (hE : ∀ a, a < ins.length → 0 ≤ E a → (oneS ins a (E a)).2 = 0 ∧ 0 ≤ (oneS ins a (E a)).1 ∧ ∀ x ∈ nextS (ins.getD a zI) a, 0 ≤ x ∧ x.toNat < ins.length ∧ E x.toNat = (oneS ins a (E a)).1) :
    ∀ (k : Nat) (D : List Int) (dn : List Bool), D.length = ins.length → (∀ j, 0 ≤ dAt D j → dAt D j = E j) → (thrS ins k D dn).2 = 0
  | 0, _, _, _, _ => rfl
  | k + 1, D, dn, hl, h => by
    unfold thrS
    split
    · rfl
    · rename_i a ha
      obtain ⟨a1, ⟨a2, _⟩, _⟩ := leastS_some ha
      have ea := h a a2
      rw [ea] at a2 ⊢
      obtain ⟨e1, e2, e3⟩ := hE a (by omega) a2
      rw [if_neg (by omega)]
      obtain ⟨D', h1, h2, h3⟩ := visitS_fine e2 (l := nextS (ins.getD a zI) a) (D := D) (fun x hx => by rw [hl]; exact e3 x hx) h
      rw [h1]
      exact thrS_fine hE k D' _ (by omega) h3
theorem Snd.dOf {m : Mdl} {t : Cod} {E : Nat → Int} (h : Snd t.ins E) (hs : ∀ x ∈ t.ins, slotOk m t x) : (dOf m t).2 = 0 := by
  unfold Go.Proofs.YtbeeplmgcdnadaaDoor.dOf
  have hp := h.pos
  rw [if_neg (by omega), if_neg (fun k => k hs)]
  refine thrS_fine (E := E) (fun a ha hd => ?_) _ _ _ (by simp [insT_len]) (fun j hj => ?_)
  · rw [insT_len] at ha
    obtain ⟨h1, h2, h3, h4⟩ := h.go a ha hd
    have hn := h.nn ha hd
    rw [getD_lt' ha] at h1 h2 h3 h4 hn
    have e : oneS (insT t) a (E a) = (E a - (effS t.ins[a].c).1 + (effS t.ins[a].c).2, 0) := by
      unfold oneS
      rw [insT_at ha]
      dsimp only [Ins.t]
      rw [if_neg (by omega), if_neg (fun k => k.2 (h3 k.1)), if_neg]
      rintro ⟨x, hx, hxl⟩
      have := h4 x hx
      rw [insT_len] at hxl; omega
    rw [e, insT_at ha, insT_len]
    exact ⟨rfl, hn, h4⟩
  · have e := dAt_set (D := List.replicate t.ins.length (-1)) (i := 0) (j := j) (b := 0) (by simp; omega)
    rw [e] at hj ⊢
    split
    · rename_i e1; rw [e1, h.z]
    · rename_i e1
      rw [if_neg e1] at hj
      exfalso
      unfold dAt at hj
      rw [List.getD_eq_getElem?_getD, List.getElem?_replicate] at hj
      split at hj <;> simp at hj

section
variable {G : World} {q : List HP} {a b A : Option Addr} {c d : Nat} {cd : Int} {l : List Ins} {ln : List Int} {o : List Bool}
variable {nt : Nat} {nm : ByteArray} {lo : Int} {ia la wa : Option Addr} {ic lc wc : Nat} {I : List Ins} {L W : List Int}
set_option maxHeartbeats 4000000 in
theorem straighten_ok (hA : ∀ i ∈ I, jm i = true → 0 ≤ i.a ∧ i.a.toNat < I.length) (h0I : 0 < I.length) (hL : I.length ≤ 65536) : CallF Tryd.prog G 59 [.pointer (some ⟨nt, 0, none⟩)] (pto nt (.cells [.string nm, .int .i64 lo, .slice ia I.length ic, .slice la L.length lc, .slice wa W.length wc].toArray 64 (0, 0)) :: rsH insC 4 53 ia ic (I) :: q) (Ret fun v q' => q' = pto nt (.cells [.string nm, .int .i64 lo, .slice ia I.length ic, .slice la L.length lc, .slice wa W.length wc].toArray 64 (0, 0)) :: rsH insC 4 53 ia ic (straS I) :: q) := by
 refine CallF.of Tryd.func59 Tryd.ntmps59 rfl (fun F cs => ?_)
 refine X.rsadr (fl := insC) (l := I) h0I (fun g e_ => ?_); subst e_
 refine xo 6 ?_
 refine ld ?_
 refine XO.cX Tryd.call22 (Le.refl _) (leads_ok (l := I) ((Sees.rsH _).le fndA) (fun i hi hc => hA i hi (by unfold jm; rw [hc]; decide)) hL) ?_
 rintro _ _ ⟨gs, rfl, rfl⟩
 refine oo 8 ?_
 refine ld ?_
 refine ox 4 ?_
 refine X.at (X.loop (fun (s : Nat) => s ≤ I.length) (fun s => [(17, .int .i64 (s : Int)), (16, .int .i64 (I.length : Int)), (15, .slice (some ⟨g, 0, none⟩) I.length ic), (2, .slice (some ⟨gs, 0, none⟩) I.length I.length), (0, .pointer (some ⟨nt, 0, none⟩))]) (fun s => rsH insC 4 53 (some ⟨g, 0, none⟩) ic (((straS I).take s ++ I.drop s)) :: lsH I64 3 (some ⟨gs, 0, none⟩) I.length (leadsS I) :: pto nt (.cells [.string nm, .int .i64 lo, .slice (some ⟨g, 0, none⟩) I.length ic, .slice la L.length lc, .slice wa W.length wc].toArray 64 (0, 0)) :: (q ++ F)) (fun s => I.length - s) (fun s hi_ ih => ?_) 0 (Nat.zero_le _)) subA leA
 try dsimp only at hi_ ih ⊢
 obtain hs0 := hi_
 have hstl := straS_len I; have hcl : ((straS I).take s ++ I.drop s).length = I.length := (by simp; omega)
 refine xx 5 ?_
 refine X.part 18 rfl (fun h0 => ?_) (fun h0 => ?_)
 · skip
   replace h0 := sp h0; have hlt : s < I.length := (by omega); have hlc : s < ((straS I).take s ++ I.drop s).length := (by omega); have hgt : ((straS I).take s ++ I.drop s)[s] = I[s] := (by rw [List.getElem_append_right (by simp; omega)]; simp [Nat.min_eq_left (show s ≤ (straS I).length by omega)])
   refine xo 8 ?_
   refine XO.ldS (n := s) (fl := insC) (l := ((straS I).take s ++ I.drop s)) Tryd.isAgg53 Tryd.sizeOf53 (Sees.rsH _) hlc ?_ (hq := fndA)
   refine XO.know 21 (.agg (insC I[s]).toArray) rfl (by rw [hgt]) ?_
   refine XO.al Tryd.zeroValue53 fun n1 => ?_
   refine oo 1 ?_
   refine stA ?_
   refine oo 4 ?_
   refine ld ?_
   refine XO.cR Tryd.call77 (isJump_ok) ?_
   refine ox 1 ?_
   refine X.part 24 rfl (fun h1 => ?_) (fun h1 => ?_)
   · skip
     replace h1 := sp h1
     refine xx 1 ?_
     refine drw ?_
     refine dd [0, 1, 2, 3] ?_
     refine ldD 4 ?_
     refine dd [5, 6, 7] ?_
     refine ldD 8 ?_
     have hjm : jm I[s] = true := (by unfold jm; exact decide_eq_true h1); obtain ⟨hA0, hA1⟩ := hA _ (List.getElem_mem hlt) hjm; have hll : I[s].a.toNat < (leadsS I).length := (by unfold leadsS; simp; exact hA1)
     refine dd [9] ?_
     refine ldD 10 ?_ (hc := (Cl.e1 (Sees.lsH _) fndA hll (by omega)))
     refine dd [11, 12] ?_
     have hsr : straS I = straS I := rfl; have hu : (straS I)[s]'(by omega) = { I[s] with a := (leadsS I)[I[s].a.toNat] } := (by have e1 : (leadsS I)[I[s].a.toNat] = (leadS I I[s].a.toNat : Int) := (by simp only [leadsS, List.getElem_map, List.getElem_range]); rw [e1]; unfold straS; rw [List.getElem_map]; unfold Ins.mv; rw [if_pos hjm])
     refine XD.ef0 13 rfl (Ef.setR (f := insC) (sz := 4) (l := ((straS I).take s ++ I.drop s)) (n := s) (k := 1) (u := (straS I)[s]'(by omega)) rfl rfl Tryd.sizeOf3 (fun _ => rfl) rfl hlc rfl (by rw [hgt, hu]; rfl) rfl rfl fndA) ?_
     rintro _ _ ⟨rfl, rfl⟩
     refine ⟨trivial, ?_⟩
     refine XD.nil ?_
     refine xx 5 ?_
     refine X.sb [17, 16, 15, 2, 0] ?_
     have hnx : ((straS I).take s ++ I.drop s).set s ((straS I)[s]'(by omega)) = (straS I).take (s + 1) ++ I.drop (s + 1) := set_next hstl hlt; rw [hnx]
     refine X.at (ih (s + 1) (by omega) (by omega)) subA leA
   · skip
     replace h1 := sp h1
     refine xx 7 ?_
     have hnx : ((straS I).take s ++ I.drop s) = (straS I).take (s + 1) ++ I.drop (s + 1) := same_next hstl hlt (by simp [straS, Ins.mv, jm]; intro h2 h3; simp [h2, h3] at h1)
     refine X.le (Le.trans fndA (Le.rsEq (f := insC) (sz := 4) (ty := 53) (a := some ⟨g, 0, none⟩) (c := ic) hnx _)) ?_
     refine X.at (ih (s + 1) (by omega) (by omega)) subA leA
 · skip
   replace h0 := sp h0; obtain rfl : s = I.length := by omega
   have hfin : ((straS I).take I.length ++ I.drop I.length) = straS I := (by rw [List.drop_length, List.append_nil, List.take_of_length_le (by omega)])
   rw [hfin]
   refine xx 2 ?_
   refine X.fallL (pto nt (.cells [.string nm, .int .i64 lo, .slice (some ⟨g, 0, none⟩) I.length ic, .slice la L.length lc, .slice wa W.length wc].toArray 64 (0, 0)) :: rsH insC 4 53 (some ⟨g, 0, none⟩) ic (straS I) :: q) Tryd.func59 (res0 Tryd.results59) ⟨_, rfl, rfl⟩
end
end Go.Proofs.YtbeeplmgcdnadaaDoor

