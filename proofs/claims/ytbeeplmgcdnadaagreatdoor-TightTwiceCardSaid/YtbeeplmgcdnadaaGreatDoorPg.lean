/- Contracts of functions, proved by walking their code, and the logic that they need: what the last text reaches. -/
import Derived.Test.YtbeeplmgcdnadaaGreatDoorPf
import Derived.KernelRfl
set_option maxRecDepth 100000
set_option linter.unusedVariables false
set_option linter.unusedSimpArgs false
namespace Go.Proofs.YtbeeplmgcdnadaaGreatDoor
open Go Go.RowKit Wx
attribute [local irreducible] Wx.lsH Wx.rsH Wx.stars
theorem vchkZ {m : Mdl} (h : vchk m = 0) : mchk m = 0 ∧ ∀ t ∈ m.threads, (dOf m t).2 = 0 := by
 unfold vchk at h
 split at h
 · contradiction
 rename_i h0
 refine ⟨by omega, ?_⟩
 generalize m.threads = l at h ⊢
 induction l with
 | nil => intro t ht; cases ht
 | cons x r ih =>
  unfold vErr at h
  split at h
  · contradiction
  rename_i h1
  intro t ht
  rcases List.mem_cons.1 ht with rfl | ht
  · omega
  exact ih h t ht
theorem goes_of {m : Mdl} {t : Cod} (hin : ∀ x ∈ t.ins, insOk x) (h : (dOf m t).2 = 0) : 0 < t.ins.length ∧ dAt (dOf m t).1 0 = 0 ∧ ∀ a (ha : a < t.ins.length), 0 ≤ dAt (dOf m t).1 a →
 ¬ dAt (dOf m t).1 a < (effS t.ins[a].c).1 ∧ dAt (dOf m t).1 a - (effS t.ins[a].c).1 + (effS t.ins[a].c).2 ≤ 25 ∧ ((t.ins[a].c = 23 ∨ t.ins[a].c = 34) → dAt (dOf m t).1 a = 0) ∧
 ∀ y ∈ nxt t.ins[a] a, 0 ≤ y ∧ y.toNat < t.ins.length ∧ dAt (dOf m t).1 y.toNat = dAt (dOf m t).1 a - (effS t.ins[a].c).1 + (effS t.ins[a].c).2 := by
 unfold dOf at h ⊢
 split at h
 · exact absurd h (by decide)
 rename_i h0
 split at h
 · exact absurd h (by decide)
 rename_i h1
 rw [if_neg h0, if_neg h1]
 have hA : ∀ i ∈ insT t, (i.1 = 19 ∨ i.1 = 20 ∨ i.1 = 21) → 0 ≤ i.2.1 := by
  intro i hi hc
  obtain ⟨x, hx, rfl⟩ := List.mem_map.1 hi
  have := (hin x hx).2.1
  have hn : nmA x.c = true := by unfold nmA; simp only [decide_eq_true_eq]; have : (Ins.t x).1 = x.c := rfl; omega
  rw [if_pos hn] at this
  exact this.1
 have e := fun j => dAt_set (D := List.replicate t.ins.length (-1)) (i := 0) (j := j) (b := 0) (by simp; omega)
 obtain ⟨r1, r2, r3⟩ := thrS_goes hA t.ins.length ((List.replicate t.ins.length (-1)).set 0 0) (List.replicate t.ins.length false) (by simp [insT_len]) (by simp [insT_len]) (by simp)
  (fun a ha hd => by rw [List.getD_eq_getElem?_getD, List.getElem?_replicate] at hd; split at hd <;> simp at hd) h
 have e0 : dAt ((List.replicate t.ins.length (-1)).set 0 0) 0 = 0 := by rw [e]; simp
 refine ⟨by omega, by rw [r2 0 (by rw [e0]; omega), e0], fun a ha hd => ?_⟩
 obtain ⟨g1, g2⟩ := r3 a (by rw [insT_len]; exact ha) hd
 obtain ⟨n1, n2, n3⟩ := oneS_next g1
 have o1 : oneS (insT t) a (dAt (thrS (insT t) t.ins.length ((List.replicate t.ins.length (-1)).set 0 0) (List.replicate t.ins.length false)).1 a) = (dAt (thrS (insT t) t.ins.length ((List.replicate t.ins.length (-1)).set 0 0) (List.replicate t.ins.length false)).1 a - (effS t.ins[a].c).1 + (effS t.ins[a].c).2, 0) ∧ dAt (thrS (insT t) t.ins.length ((List.replicate t.ins.length (-1)).set 0 0) (List.replicate t.ins.length false)).1 a - (effS t.ins[a].c).1 + (effS t.ins[a].c).2 ≤ 25 ∧ ((t.ins[a].c = 23 ∨ t.ins[a].c = 34) → dAt (thrS (insT t) t.ins.length ((List.replicate t.ins.length (-1)).set 0 0) (List.replicate t.ins.length false)).1 a = 0) := by
  generalize dAt (thrS (insT t) t.ins.length ((List.replicate t.ins.length (-1)).set 0 0) (List.replicate t.ins.length false)).1 a = d at g1 ⊢
  unfold oneS at g1 ⊢
  rw [insT_at ha] at g1 ⊢
  dsimp only [Ins.t] at g1 ⊢
  split at g1
  · exact absurd g1 (by decide)
  rename_i k1
  split at g1
  · exact absurd g1 (by decide)
  rename_i k2
  split at g1
  · exact absurd g1 (by decide)
  rename_i k3
  rw [if_neg k1, if_neg k2, if_neg k3]
  exact ⟨rfl, by omega, fun hc => Decidable.byContradiction fun hd => k2 ⟨hc, hd⟩⟩
 rw [insT_at ha] at n1 n3 g2
 refine ⟨n3, o1.2.1, o1.2.2, fun y hy => ?_⟩
 rw [nxt_eq] at hy
 have h2 := g2 y hy
 rw [o1.1] at h2
 have h3 := n1 y hy
 rw [insT_len] at h3
 have h4 : 0 ≤ y := by
  unfold nextS at hy
  have hAi := hA (t.ins[a].t) (List.mem_map.2 ⟨_, List.getElem_mem ha, rfl⟩)
  split at hy
  · simp at hy
  split at hy
  · rename_i e; rw [List.mem_singleton.1 hy]; exact hAi (.inl e)
  split at hy
  · rename_i e
    have h7 := hAi (by omega)
    split at hy
    · rw [List.mem_singleton.1 hy]; exact h7
    rcases List.mem_cons.1 hy with rfl | hy
    · exact h7
    rw [List.mem_singleton.1 hy]; omega
  simp at hy; omega
 exact ⟨h4, by omega, h2⟩
def prI (l : List Ins) : List Ins := takeI (unr (straS l)) (straS l)
def tiI (l : List Ins) : List Ins := takeI (cl (prI l)) (prI l)
def tiL {α : Type} (l : List Ins) (ln : List α) : List α := cutS (cl (prI l)) 0 (cutS (unr (straS l)) 0 ln)
def tiR (l : List Ins) : Nat → Bool := both2 (unr (straS l)) (cl (prI l))
theorem tiI_eq (l : List Ins) : tiI l = takeI (tiR l) (straS l) := by unfold tiI prI tiR; rw [takeI_two]; rfl
theorem tiL_eq {α : Type} (l : List Ins) (ln : List α) : tiL l ln = cutS (tiR l) 0 ln := by
 unfold tiL tiR
 have h := cutS_two (unr (straS l)) (cl (prI l)) ln 0
 rw [show kb (unr (straS l)) 0 = 0 from rfl] at h
 exact h
def nowS (l : List Ins) (i : Nat) : Int := if unr (straS l) i = true then -1 else if cl (prI l) (kb (unr (straS l)) i) = true then -1 else kb (cl (prI l)) (kb (unr (straS l)) i)
structure Snd (l : List Ins) (D : Nat → Int) : Prop where
 pos : 0 < l.length
 z : D 0 = 0
 go : ∀ a, a < l.length → 0 ≤ D a → ¬ D a < (effS (l.getD a zInT).c).1 ∧ D a - (effS (l.getD a zInT).c).1 + (effS (l.getD a zInT).c).2 ≤ 25 ∧ (((l.getD a zInT).c = 23 ∨ (l.getD a zInT).c = 34) → D a = 0) ∧
  ∀ y ∈ nxt (l.getD a zInT) a, 0 ≤ y ∧ y.toNat < l.length ∧ D y.toNat = D a - (effS (l.getD a zInT).c).1 + (effS (l.getD a zInT).c).2
theorem Snd.of {m : Mdl} {t : Cod} (hin : ∀ x ∈ t.ins, insOk x) (h : (dOf m t).2 = 0) : Snd t.ins (dAt (dOf m t).1) := by
 obtain ⟨h1, h2, h3⟩ := goes_of hin h
 refine ⟨h1, h2, fun a ha hd => ?_⟩
 rw [getD_lt' ha]; exact h3 a ha hd
theorem eff19 : effS 19 = (0, 0) := by decide
section
variable {l : List Ins} {D : Nat → Int}
theorem Snd.nn (h : Snd l D) {a : Nat} (ha : a < l.length) (hd : 0 ≤ D a) : 0 ≤ D a - (effS (l.getD a zInT).c).1 + (effS (l.getD a zInT).c).2 := by
 have h1 := (h.go a ha hd).1; have := effS_nn (l.getD a zInT).c; omega
theorem Snd.rch (h : Snd l D) {j : Nat} (hr : Rch l j) : 0 ≤ D j := by
 induction hr with
 | zero _ => rw [h.z]; exact Int.le_refl _
 | step hr hy h1 h2 ih => rw [((h.go _ hr.lt ih).2.2.2 _ hy).2.2]; exact h.nn hr.lt ih
theorem Snd.in (h : Snd l D) {j : Nat} (hr : Rch l j) : ∀ y ∈ nxt (l.getD j zInT) j, 0 ≤ y ∧ y < (l.length : Int) := by
 intro y hy
 obtain ⟨h1, h2, _⟩ := (h.go j hr.lt (h.rch hr)).2.2.2 y hy
 exact ⟨h1, by omega⟩
theorem nxt19 {i : Ins} (h : i.c = 19) (a : Int) : nxt i a = [i.a] := by unfold nxt; rw [if_neg (by omega), if_pos h]
theorem Snd.led (h : Snd l D) {j : Nat} : ∀ {k a : Nat}, a < l.length → 0 ≤ D a → led l k a = some j → j < l.length ∧ D j = D a
 | 0, _, _, _, hl => by simp [Go.Proofs.YtbeeplmgcdnadaaGreatDoor.led] at hl
 | k + 1, a, ha, hd, hl => by
  simp only [Go.Proofs.YtbeeplmgcdnadaaGreatDoor.led] at hl
  split at hl
  · rename_i e
    obtain ⟨h1, h2, h3⟩ := (h.go a ha hd).2.2.2 (l.getD a zInT).a (by rw [nxt19 e]; exact List.mem_singleton_self _)
    rw [e, eff19] at h3
    obtain ⟨k1, k2⟩ := Snd.led h h2 (by rw [h3]; simpa using hd) hl
    exact ⟨k1, by rw [k2, h3]; simp⟩
  cases hl; exact ⟨ha, rfl⟩
theorem Snd.leadS (h : Snd l D) {a : Nat} (ha : a < l.length) (hd : 0 ≤ D a) : leadS l a < l.length ∧ D (leadS l a) = D a := by
 unfold Go.Proofs.YtbeeplmgcdnadaaGreatDoor.leadS
 cases e : Go.Proofs.YtbeeplmgcdnadaaGreatDoor.led l (l.length + 1) a with
 | none => exact ⟨ha, rfl⟩
 | some j => exact h.led ha hd e
theorem nxt_mv {f : Nat → Nat} {i : Ins} {a b : Int} (hn : jm i = true → 0 ≤ i.a) {y : Int} (hy : y ∈ nxt (i.mv f) b) : (jm i = true ∧ i.a ∈ nxt i a ∧ y = (f i.a.toNat : Int)) ∨ (y = b + 1 ∧ a + 1 ∈ nxt i a) := by
 unfold Ins.mv at hy
 by_cases hj : jm i = true
 · rw [if_pos hj] at hy
   have hc : 19 ≤ i.c ∧ i.c ≤ 21 := by unfold jm at hj; simpa using hj
   have h1 : i.a ∈ nxt i a := by
    unfold nxt
    rw [if_neg (by omega)]
    split
    · exact List.mem_singleton_self _
    rw [if_pos (by omega)]; split <;> simp
   unfold nxt at hy
   simp only at hy
   rw [if_neg (by omega)] at hy
   split at hy
   · exact .inl ⟨hj, h1, List.mem_singleton.1 hy⟩
   rename_i h19
   rw [if_pos (by omega)] at hy
   have h2 : a + 1 ∈ nxt i a := by
    unfold nxt
    rw [if_neg (by omega), if_neg h19, if_pos (by omega)]
    split
    · rename_i e; rw [e]; exact List.mem_singleton_self _
    simp
   split at hy
   · exact .inl ⟨hj, h1, List.mem_singleton.1 hy⟩
   rcases List.mem_cons.1 hy with h | h
   · exact .inl ⟨hj, h1, h⟩
   exact .inr ⟨List.mem_singleton.1 h, h2⟩
 rw [if_neg hj] at hy
 have hc : ¬ (19 ≤ i.c ∧ i.c ≤ 21) := by unfold jm at hj; simpa using hj
 unfold nxt at hy ⊢
 split at hy
 · cases hy
 rename_i h34
 rw [if_neg (by omega), if_neg (by omega)] at hy
 rw [if_neg h34, if_neg (by omega), if_neg (by omega)]
 exact .inr ⟨List.mem_singleton.1 hy, List.mem_singleton_self _⟩
theorem Snd.stra (h : Snd l D) (hn : ∀ i ∈ l, jm i = true → 0 ≤ i.a) : Snd (straS l) D := by
 refine ⟨by rw [straS_len]; exact h.pos, h.z, fun a ha hd => ?_⟩
 rw [straS_len] at ha
 rw [straS_at l ha, mv_c, straS_len]
 obtain ⟨h1, h2, h3, h4⟩ := h.go a ha hd
 refine ⟨h1, h2, h3, fun y hy => ?_⟩
 rcases nxt_mv (hn _ (by rw [getD_lt' ha]; exact List.getElem_mem ha)) hy with ⟨k1, k2, rfl⟩ | ⟨rfl, k2⟩
 · obtain ⟨n1, n2, n3⟩ := h4 _ k2
   have hz := h.nn ha hd
   obtain ⟨m1, m2⟩ := h.leadS n2 (by omega)
   exact ⟨by omega, by rw [Int.toNat_natCast]; exact m1, by rw [Int.toNat_natCast, m2, n3]⟩
 exact h4 _ k2
theorem tiR_gone (l : List Ins) {D : Nat → Int} (h : Snd (straS l) D) (hb : ∀ i ∈ straS l, 0 ≤ i.a) {p : Nat} (hr : Rch (straS l) p) (hR : tiR l p = true) :
 ((straS l).getD p zInT).c = 19 ∧ p < ((straS l).getD p zInT).a.toNat ∧ ((straS l).getD p zInT).a.toNat < l.length ∧ Rch (straS l) ((straS l).getD p zInT).a.toNat ∧ kb (tiR l) ((straS l).getD p zInT).a.toNat = kb (tiR l) p := by
 have hp := hr.lt
 have hu : unr (straS l) p = false := (unr_iff hb p).2 hr
 have hc : cl (prI l) (kb (unr (straS l)) p) = true := by unfold tiR both2 at hR; rw [hu] at hR; simpa using hR
 have hlt : kb (unr (straS l)) p < (prI l).length := by unfold prI; rw [takeI_len]; exact kb_lt hu hp
 have hx : (prI l).getD (kb (unr (straS l)) p) zInT = ((straS l).getD p zInT).mv (kb (unr (straS l))) := takeI_at hp hu
 have hjp : ((straS l).getD p zInT).c = 19 := by
  have h0 : (clo (kb (unr (straS l)) p) ((prI l).drop (kb (unr (straS l)) p))).getD 0 false = true := by rw [clo_at]; exact hc
  rw [List.drop_eq_getElem_cons hlt] at h0
  simp only [clo, List.getD_cons_zero, Bool.and_eq_true, decide_eq_true_eq] at h0
  rw [← getD_lt' (z := zInT) hlt, hx, mv_c] at h0; exact h0.1.1
 have hj : jm ((straS l).getD p zInT) = true := by unfold jm; rw [hjp]; decide
 obtain ⟨i0, i1⟩ := h.in hr ((straS l).getD p zInT).a (by rw [nxt19 hjp]; exact List.mem_singleton_self _)
 have hA : Rch (straS l) ((straS l).getD p zInT).a.toNat := .step hr (by rw [nxt19 hjp]; exact List.mem_singleton_self _) i0 (by omega)
 have hax : ((prI l).getD (kb (unr (straS l)) p) zInT).a = (kb (unr (straS l)) ((straS l).getD p zInT).a.toNat : Int) := by rw [hx]; unfold Ins.mv; rw [if_pos hj]
 have hkA : kb (unr (straS l)) ((straS l).getD p zInT).a.toNat ≤ (prI l).length := by unfold prI; rw [takeI_len]; exact kb_mono _ (by omega)
 obtain ⟨c1, c2, c3⟩ := (cl_iff hlt (by rw [hax, Int.toNat_natCast]; exact hkA)).1 hc
 rw [hax] at c2
 rw [hax, Int.toNat_natCast] at c3
 have hpA : p < ((straS l).getD p zInT).a.toNat := by
  rcases Nat.lt_or_ge p ((straS l).getD p zInT).a.toNat with e | e
  · exact e
  have := kb_mono (unr (straS l)) e; omega
 have hgone : ∀ j, p ≤ j → j < ((straS l).getD p zInT).a.toNat → tiR l j = true := by
  intro j h2 h3
  rcases Nat.lt_or_ge p j with h4 | h4
  · unfold tiR both2
    cases hj2 : unr (straS l) j with
    | true => rfl
    | false => rw [Bool.false_or]; exact c3 _ (kb_lt hu h4) (kb_lt hj2 h3)
  rw [show j = p by omega]; exact hR
 have hk := kb_all (R := tiR l) (a := p) (b := ((straS l).getD p zInT).a.toNat) (by omega) hgone
 rw [straS_len] at i1
 exact ⟨hjp, hpA, by omega, hA, hk.symm⟩
theorem keeps (l : List Ins) {D : Nat → Int} (h : Snd (straS l) D) (hb : ∀ i ∈ straS l, 0 ≤ i.a) : ∀ (d p : Nat), l.length - p ≤ d → Rch (straS l) p → ∃ q, p ≤ q ∧ q < l.length ∧ Rch (straS l) q ∧ tiR l q = false ∧ kb (tiR l) q = kb (tiR l) p ∧ D q = D p ∧ (lost l p → lost l q) := by
 intro d
 induction d with
 | zero => intro p h1 hr; have := hr.lt; rw [straS_len] at this; omega
 | succ d ih =>
  intro p h1 hr
  have hp := hr.lt
  rw [straS_len] at hp
  cases hR : tiR l p with
  | false => exact ⟨p, Nat.le_refl _, hp, hr, hR, rfl, rfl, fun h => h⟩
  | true =>
   obtain ⟨hjp, hpA, hA2, hA, hk⟩ := tiR_gone l h hb hr hR
   obtain ⟨q, q1, q2, q3, q4, q5, q6, q7⟩ := ih _ (by omega) hA
   have hD := (h.go p (by rw [straS_len]; exact hp) (h.rch hr)).2.2.2 ((straS l).getD p zInT).a (by rw [nxt19 hjp]; exact List.mem_singleton_self _)
   rw [hjp, eff19] at hD
   refine ⟨q, by omega, q2, q3, q4, by rw [q5, hk], by rw [q6, hD.2.2]; simp, fun hlo => q7 ?_⟩
   have hc0 := lost_c hlo
   have hlo2 := (lost_jump hc0).1 hlo
   have e1 : ((straS l).getD p zInT).a = (leadS l (l.getD p zInT).a.toNat : Int) := by
    rw [straS_at l hp]; unfold Ins.mv; rw [if_pos (by unfold jm; rw [hc0]; decide)]
   rw [e1, Int.toNat_natCast]
   unfold Go.Proofs.YtbeeplmgcdnadaaGreatDoor.leadS
   rw [hlo2]; exact hlo2
def oriS (l : List Ins) (k : Nat) : Nat := (cutS (tiR l) 0 (List.range l.length)).getD k 0
theorem oriS_kb {p : Nat} (hp : p < l.length) (hr : tiR l p = false) : oriS l (kb (tiR l) p) = p := by
 unfold oriS
 rw [List.getD_eq_getElem?_getD, cutS_at0 (by simpa using hp) hr]; simp [hp]
theorem tiI_len (l : List Ins) : (tiI l).length = kb (tiR l) l.length := by rw [tiI_eq, takeI_len, straS_len]
theorem tiI_at {p : Nat} (hp : p < l.length) (hr : tiR l p = false) : (tiI l).getD (kb (tiR l) p) zInT = ((straS l).getD p zInT).mv (kb (tiR l)) := by rw [tiI_eq]; exact takeI_at (by rw [straS_len]; exact hp) hr
theorem tiR_rch (hb : ∀ i ∈ straS l, 0 ≤ i.a) {p : Nat} (h : tiR l p = false) : Rch (straS l) p := by
 rw [← unr_iff hb]; unfold tiR both2 at h; rw [Bool.or_eq_false_iff] at h; exact h.1
theorem tight_snd (h : Snd (straS l) D) (hb : ∀ i ∈ straS l, 0 ≤ i.a) : Snd (tiI l) (fun k => D (oriS l k)) := by
 have hz := Rch.zero h.pos
 obtain ⟨q, _, q2, q3, q4, q5, q6, _⟩ := keeps l h hb l.length 0 (by omega) hz
 have hq0 : kb (tiR l) q = 0 := by rw [q5]; rfl
 refine ⟨by rw [tiI_len]; have := kb_lt q4 q2; omega, ?_, fun k hk hd => ?_⟩
 · show D (oriS l 0) = 0
   rw [← hq0, oriS_kb q2 q4, q6, h.z]
 rw [tiI_len] at hk
 obtain ⟨p, hp, hr, rfl⟩ := kb_onto hk
 have hR := tiR_rch hb hr
 show ¬ D (oriS l (kb (tiR l) p)) < _ ∧ _
 rw [oriS_kb hp hr] at hd ⊢
 rw [tiI_at hp hr, mv_c]
 obtain ⟨h1, h2, h3, h4⟩ := h.go p hR.lt hd
 refine ⟨h1, h2, h3, fun y hy => ?_⟩
 have go : ∀ z : Int, z ∈ nxt ((straS l).getD p zInT) p → y = (kb (tiR l) z.toNat : Int) → 0 ≤ y ∧ y.toNat < (tiI l).length ∧ D (oriS l y.toNat) = D p - (effS ((straS l).getD p zInT).c).1 + (effS ((straS l).getD p zInT).c).2 := by
  intro z hz2 e
  obtain ⟨z1, z2, z3⟩ := h4 z hz2
  obtain ⟨w, _, w2, w3, w4, w5, w6, _⟩ := keeps l h hb l.length z.toNat (by omega) (.step hR hz2 z1 z2)
  refine ⟨by omega, ?_, ?_⟩
  · rw [tiI_len, e, Int.toNat_natCast, ← w5]; exact kb_lt w4 w2
  rw [e, Int.toNat_natCast, ← w5, oriS_kb w2 w4, w6, z3]
 rcases nxt_mv (a := (p : Int)) (fun _ => hb _ (by rw [getD_lt' hR.lt]; exact List.getElem_mem hR.lt)) hy with ⟨k1, k2, k3⟩ | ⟨k3, k2⟩
 · exact go _ k2 k3
 refine go _ k2 ?_
 rw [k3, show ((p : Int) + 1).toNat = p + 1 by omega, kb_kept hr]; omega
theorem tight_lost (h : Snd (straS l) D) (hb : ∀ i ∈ straS l, 0 ≤ i.a) : ∀ (k : Nat) {a : Nat}, Rch (straS l) a → lost l a → led (tiI l) k (kb (tiR l) a) = none
 | 0, _, _, _ => rfl
 | k + 1, a, hr, hlo => by
  obtain ⟨q, _, q2, q3, q4, q5, _, q7⟩ := keeps l h hb l.length a (by omega) hr
  have hlq := q7 hlo
  have hc := lost_c hlq
  have hjq : jm (l.getD q zInT) = true := by unfold jm; rw [hc]; decide
  have e1 : (straS l).getD q zInT = { l.getD q zInT with a := (leadS l (l.getD q zInT).a.toNat : Int) } := by rw [straS_at l q2]; unfold Ins.mv; rw [if_pos hjq]
  have e2 : leadS l (l.getD q zInT).a.toNat = (l.getD q zInT).a.toNat := by unfold Go.Proofs.YtbeeplmgcdnadaaGreatDoor.leadS; rw [(lost_jump hc).1 hlq]; rfl
  rw [e2] at e1
  have hjs : jm ((straS l).getD q zInT) = true := by rw [e1]; exact hjq
  have hcs : ((straS l).getD q zInT).c = 19 := by rw [e1]; exact hc
  have hnx : ((straS l).getD q zInT).a ∈ nxt ((straS l).getD q zInT) q := by rw [nxt19 hcs]; exact List.mem_singleton_self _
  obtain ⟨i0, i1⟩ := h.in q3 _ hnx
  have hra : Rch (straS l) ((straS l).getD q zInT).a.toNat := .step q3 hnx i0 (by omega)
  have hat : ((straS l).getD q zInT).a.toNat = (l.getD q zInT).a.toNat := by rw [e1]; exact Int.toNat_natCast _
  have := tight_lost h hb k hra (by rw [hat]; exact (lost_jump hc).1 hlq)
  rw [← q5, led_jump (by rw [tiI_at q2 q4, mv_c]; exact hcs), tiI_at q2 q4]
  unfold Ins.mv
  rw [if_pos hjs, Int.toNat_natCast]; exact this
theorem tight_stra (h : Snd (straS l) D) (hb : ∀ i ∈ straS l, 0 ≤ i.a) : straS (tiI l) = tiI l := by
 unfold straS
 conv => rhs; rw [← List.map_id (tiI l)]
 apply List.map_congr_left
 intro i hi
 obtain ⟨k, hk, rfl⟩ := List.getElem_of_mem hi
 have hk2 := hk
 rw [tiI_len] at hk2
 obtain ⟨p, hp, hr, rfl⟩ := kb_onto hk2
 have hR := tiR_rch hb hr
 rw [← getD_lt' (z := zInT) hk, tiI_at hp hr]
 by_cases hj : jm ((straS l).getD p zInT) = true
 · have hnx : ((straS l).getD p zInT).a ∈ nxt ((straS l).getD p zInT) p := by
    have hc : 19 ≤ ((straS l).getD p zInT).c ∧ ((straS l).getD p zInT).c ≤ 21 := by unfold jm at hj; simpa using hj
    unfold nxt
    rw [if_neg (by omega)]
    split
    · exact List.mem_singleton_self _
    rw [if_pos (by omega)]; split <;> simp
   obtain ⟨i0, i1⟩ := h.in hR _ hnx
   have hra : Rch (straS l) ((straS l).getD p zInT).a.toNat := .step hR hnx i0 (by omega)
   have hjl : jm (l.getD p zInT) = true := by rw [straS_at l hp, mv_jm] at hj; exact hj
   have e1 : ((straS l).getD p zInT).a = (leadS l (l.getD p zInT).a.toNat : Int) := by rw [straS_at l hp]; unfold Ins.mv; rw [if_pos hjl]
   have key : leadS (tiI l) (kb (tiR l) ((straS l).getD p zInT).a.toNat) = kb (tiR l) ((straS l).getD p zInT).a.toNat := by
    cases e : led l (l.length + 1) (l.getD p zInT).a.toNat with
    | some j =>
     have hl : leadS l (l.getD p zInT).a.toNat = j := by unfold Go.Proofs.YtbeeplmgcdnadaaGreatDoor.leadS; rw [e]; rfl
     rw [e1, Int.toNat_natCast, hl] at hra ⊢
     have hj19 := led_end e
     have hjl2 := hra.lt
     rw [straS_len] at hjl2
     have hkept : tiR l j = false := by
      have hu : unr (straS l) j = false := (unr_iff hb j).2 hra
      have hlt : kb (unr (straS l)) j < (prI l).length := by unfold prI; rw [takeI_len, straS_len]; exact kb_lt hu hjl2
      have hx : (prI l).getD (kb (unr (straS l)) j) zInT = ((straS l).getD j zInT).mv (kb (unr (straS l))) := takeI_at (by rw [straS_len]; exact hjl2) hu
      cases hc : cl (prI l) (kb (unr (straS l)) j) with
      | false => unfold tiR both2; rw [hu, hc]; rfl
      | true =>
       exfalso
       have h0 : (clo (kb (unr (straS l)) j) ((prI l).drop (kb (unr (straS l)) j))).getD 0 false = true := by rw [clo_at]; exact hc
       rw [List.drop_eq_getElem_cons hlt] at h0
       simp only [clo, List.getD_cons_zero, Bool.and_eq_true, decide_eq_true_eq] at h0
       rw [← getD_lt' (z := zInT) hlt, hx, mv_c, straS_at l hjl2, mv_c] at h0
       exact hj19 h0.1.1
     unfold Go.Proofs.YtbeeplmgcdnadaaGreatDoor.leadS
     simp only [Go.Proofs.YtbeeplmgcdnadaaGreatDoor.led]
     rw [if_neg (by rw [tiI_at hjl2 hkept, mv_c, straS_at l hjl2, mv_c]; exact hj19)]; rfl
    | none =>
     have hl : leadS l (l.getD p zInT).a.toNat = (l.getD p zInT).a.toNat := by unfold Go.Proofs.YtbeeplmgcdnadaaGreatDoor.leadS; rw [e]; rfl
     unfold Go.Proofs.YtbeeplmgcdnadaaGreatDoor.leadS
     have hlost : lost l ((straS l).getD p zInT).a.toNat := by
      rw [e1, hl, Int.toNat_natCast]
      exact lost_of_len e
     rw [tight_lost h hb _ hra hlost]; rfl
   have hj2 : jm (((straS l).getD p zInT).mv (kb (tiR l))) = true := by rw [mv_jm]; exact hj
   rw [mv_two]
   show _ = ((straS l).getD p zInT).mv (kb (tiR l))
   exact mv_congr fun _ => key
 have e1 : ((straS l).getD p zInT).mv (kb (tiR l)) = (straS l).getD p zInT := by unfold Ins.mv; rw [if_neg hj]
 rw [e1]
 show ((straS l).getD p zInT).mv _ = _
 unfold Ins.mv; rw [if_neg hj]; rfl
theorem nxt_in {f : Nat → Nat} {i : Ins} {a b y : Int} (hy : y ∈ nxt i a) : (jm i = true ∧ y = i.a ∧ (f i.a.toNat : Int) ∈ nxt (i.mv f) b) ∨ (y = a + 1 ∧ b + 1 ∈ nxt (i.mv f) b) := by
 by_cases hj : jm i = true
 · have hc : 19 ≤ i.c ∧ i.c ≤ 21 := by unfold jm at hj; simpa using hj
   have e : i.mv f = { i with a := (f i.a.toNat : Int) } := by unfold Ins.mv; rw [if_pos hj]
   have h1 : (f i.a.toNat : Int) ∈ nxt (i.mv f) b := by
    rw [e]; unfold nxt
    rw [if_neg (by show ¬ i.c = 34; omega)]
    split
    · exact List.mem_singleton_self _
    rw [if_pos (by show i.c = 20 ∨ i.c = 21; rename_i h; have : ¬ i.c = 19 := h; omega)]; split <;> simp
   unfold nxt at hy
   rw [if_neg (by omega)] at hy
   split at hy
   · exact .inl ⟨hj, List.mem_singleton.1 hy, h1⟩
   rename_i h19
   rw [if_pos (by omega)] at hy
   have h2 : b + 1 ∈ nxt (i.mv f) b := by
    rw [e]; unfold nxt
    rw [if_neg (by show ¬ i.c = 34; omega), if_neg (by show ¬ i.c = 19; omega), if_pos (by show i.c = 20 ∨ i.c = 21; omega)]
    split
    · rename_i e2; exact List.mem_singleton.2 e2.symm
    simp
   split at hy
   · exact .inl ⟨hj, List.mem_singleton.1 hy, h1⟩
   rcases List.mem_cons.1 hy with h | h
   · exact .inl ⟨hj, h, h1⟩
   exact .inr ⟨List.mem_singleton.1 h, h2⟩
 have e : i.mv f = i := by unfold Ins.mv; rw [if_neg hj]
 have hc : ¬ (19 ≤ i.c ∧ i.c ≤ 21) := by unfold jm at hj; simpa using hj
 rw [e]
 unfold nxt at hy ⊢
 split at hy
 · cases hy
 rename_i h34
 rw [if_neg (by omega), if_neg (by omega)] at hy
 rw [if_neg h34, if_neg (by omega), if_neg (by omega)]
 exact .inr ⟨List.mem_singleton.1 hy, List.mem_singleton_self _⟩
theorem tight_in (h : Snd (straS l) D) (hb : ∀ i ∈ straS l, 0 ≤ i.a) {p : Nat} (hr : Rch (straS l) p) : kb (tiR l) p < (tiI l).length := by
 obtain ⟨q, _, q2, _, q4, q5, _⟩ := keeps l h hb l.length p (by omega) hr
 rw [tiI_len, ← q5]; exact kb_lt q4 q2
theorem tight_rch (h : Snd (straS l) D) (hb : ∀ i ∈ straS l, 0 ≤ i.a) {p : Nat} (hr : Rch (straS l) p) : Rch (tiI l) (kb (tiR l) p) := by
 induction hr with
 | zero h0 => exact .zero (by have := tight_in h hb (.zero h0); omega)
 | @step i y hr hy h1 h2 ih =>
  have hi := hr.lt
  rw [straS_len] at hi
  have hin := tight_in h hb (.step hr hy h1 h2)
  cases hR : tiR l i with
  | false =>
   have hx := tiI_at hi hR
   have := nxt_in (f := kb (tiR l)) (b := (kb (tiR l) i : Int)) hy
   rw [← hx] at this
   rcases this with ⟨_, e, k⟩ | ⟨e, k⟩
   · subst e
     have := Rch.step ih k (by omega) (by rw [Int.toNat_natCast]; exact hin)
     rwa [Int.toNat_natCast] at this
   have e2 : kb (tiR l) y.toNat = kb (tiR l) i + 1 := by rw [e, show ((i : Int) + 1).toNat = i + 1 by omega, kb_kept hR]
   have := Rch.step ih k (by omega) (by rw [show ((kb (tiR l) i : Int) + 1).toNat = kb (tiR l) i + 1 by omega, ← e2]; exact hin)
   rwa [show ((kb (tiR l) i : Int) + 1).toNat = kb (tiR l) i + 1 by omega, ← e2] at this
  | true =>
   obtain ⟨g1, _, _, _, g5⟩ := tiR_gone l h hb hr hR
   rw [nxt19 g1] at hy
   rw [List.mem_singleton.1 hy, g5]; exact ih
theorem tight_all (h : Snd (straS l) D) (hb : ∀ i ∈ straS l, 0 ≤ i.a) {k : Nat} (hk : k < (tiI l).length) : Rch (tiI l) k := by
 rw [tiI_len] at hk
 obtain ⟨p, _, hr, rfl⟩ := kb_onto hk
 exact tight_rch h hb (tiR_rch hb hr)
theorem tight_cl (h : Snd (straS l) D) (hb : ∀ i ∈ straS l, 0 ≤ i.a) : ∀ (d k : Nat), (tiI l).length - k ≤ d → cl (tiI l) k = false := by
 intro d
 induction d with
 | zero => intro k hk; exact cl_out (by omega)
 | succ d ih =>
  intro k hd
  cases hc : cl (tiI l) k with
  | false => rfl
  | true =>
   exfalso
   have hk : k < (tiI l).length := by
    rcases Nat.lt_or_ge k (tiI l).length with e | e
    · exact e
    rw [cl_out e] at hc; cases hc
   have hk2 := hk
   rw [tiI_len] at hk2
   obtain ⟨p, hp, hr, rfl⟩ := kb_onto hk2
   have hR := tiR_rch hb hr
   have hx := tiI_at hp hr
   have hcc : ((straS l).getD p zInT).c = 19 := by
    have h0 : (clo (kb (tiR l) p) ((tiI l).drop (kb (tiR l) p))).getD 0 false = true := by rw [clo_at]; exact hc
    rw [List.drop_eq_getElem_cons hk] at h0
    simp only [clo, List.getD_cons_zero, Bool.and_eq_true, decide_eq_true_eq] at h0
    rw [← getD_lt' (z := zInT) hk, hx, mv_c] at h0; exact h0.1.1
   have hj : jm ((straS l).getD p zInT) = true := by unfold jm; rw [hcc]; decide
   obtain ⟨i0, i1⟩ := h.in hR ((straS l).getD p zInT).a (by rw [nxt19 hcc]; exact List.mem_singleton_self _)
   rw [straS_len] at i1
   have hax : ((tiI l).getD (kb (tiR l) p) zInT).a = (kb (tiR l) ((straS l).getD p zInT).a.toNat : Int) := by rw [hx]; unfold Ins.mv; rw [if_pos hj]
   have hle : kb (tiR l) ((straS l).getD p zInT).a.toNat ≤ (tiI l).length := by rw [tiI_len]; exact kb_mono _ (by omega)
   obtain ⟨_, c2, c3⟩ := (cl_iff hk (by rw [hax, Int.toNat_natCast]; exact hle)).1 hc
   rw [hax] at c2
   rw [hax, Int.toNat_natCast] at c3
   have hone : kb (tiR l) ((straS l).getD p zInT).a.toNat = kb (tiR l) p + 1 := by
    rcases Nat.lt_or_ge (kb (tiR l) p + 1) (kb (tiR l) ((straS l).getD p zInT).a.toNat) with e | e
    · have := c3 (kb (tiR l) p + 1) (by omega) e
      rw [ih _ (by omega)] at this; cases this
    omega
   have hpA : p < ((straS l).getD p zInT).a.toNat := by
    rcases Nat.lt_or_ge p ((straS l).getD p zInT).a.toNat with e | e
    · exact e
    have := kb_mono (tiR l) e; omega
   have hgone := kb_eq (R := tiR l) (a := p + 1) (b := ((straS l).getD p zInT).a.toNat) (by omega) (by rw [kb_kept hr]; omega)
   have hu : unr (straS l) p = false := (unr_iff hb p).2 hR
   have hlt : kb (unr (straS l)) p < (prI l).length := by unfold prI; rw [takeI_len]; exact kb_lt hu hR.lt
   have hx2 : (prI l).getD (kb (unr (straS l)) p) zInT = ((straS l).getD p zInT).mv (kb (unr (straS l))) := takeI_at hR.lt hu
   have hax2 : ((prI l).getD (kb (unr (straS l)) p) zInT).a = (kb (unr (straS l)) ((straS l).getD p zInT).a.toNat : Int) := by rw [hx2]; unfold Ins.mv; rw [if_pos hj]
   have hkA : kb (unr (straS l)) ((straS l).getD p zInT).a.toNat ≤ (prI l).length := by unfold prI; rw [takeI_len]; exact kb_mono _ (by rw [straS_len]; omega)
   have hcl : cl (prI l) (kb (unr (straS l)) p) = true := by
    refine (cl_iff hlt (by rw [hax2, Int.toNat_natCast]; exact hkA)).2 ⟨by rw [hx2, mv_c]; exact hcc, ?_, ?_⟩
    · rw [hax2]
      have := kb_kept hu; have := kb_mono (unr (straS l)) (show p + 1 ≤ ((straS l).getD p zInT).a.toNat by omega); omega
    rw [hax2, Int.toNat_natCast]
    intro j h1 h2
    obtain ⟨w, w1, w2, rfl⟩ := kb_onto (R := unr (straS l)) (n := ((straS l).getD p zInT).a.toNat) h2
    have hpw : p < w := by
     rcases Nat.lt_or_ge p w with e | e
     · exact e
     have := kb_mono (unr (straS l)) e; omega
    have := hgone w (by omega) w1
    unfold tiR both2 at this; rw [w2, Bool.false_or] at this; exact this
   unfold tiR both2 at hr
   rw [hcl, Bool.or_true] at hr; cases hr
theorem kb_id {R : Nat → Bool} {k : Nat} (h : ∀ j, j < k → R j = false) : kb R k = k := by
 induction k with
 | zero => rfl
 | succ k ih => rw [kb_kept (h k (by omega)), ih fun j hj => h j (by omega)]
theorem takeI_none {R : Nat → Bool} {l : List Ins} (hn : ∀ i ∈ l, jm i = true → 0 ≤ i.a ∧ i.a.toNat ≤ l.length) (h : ∀ j, j < l.length → R j = false) : takeI R l = l := by
 unfold takeI
 rw [cutS_none l 0 fun j _ h2 => h j (by omega)]
 conv => rhs; rw [← List.map_id l]
 apply List.map_congr_left
 intro i hi
 unfold Ins.mv
 split
 · rename_i hj
   obtain ⟨h1, h2⟩ := hn i hi hj
   rw [kb_id fun j hj => h j (by omega), Int.toNat_of_nonneg h1]; rfl
 rfl
theorem tight_a (h : Snd (straS l) D) (hb : ∀ i ∈ straS l, 0 ≤ i.a) : ∀ i ∈ tiI l, jm i = true → 0 ≤ i.a ∧ i.a.toNat < (tiI l).length := by
 intro i hi hj
 obtain ⟨k, hk, rfl⟩ := List.getElem_of_mem hi
 have hr := tight_all h hb hk
 have hs := tight_snd h hb
 have hc : 19 ≤ (tiI l)[k].c ∧ (tiI l)[k].c ≤ 21 := by unfold jm at hj; simpa using hj
 have hx : (tiI l)[k].a ∈ nxt (tiI l)[k] (k : Int) := by
  unfold nxt
  rw [if_neg (by omega)]
  split
  · exact List.mem_singleton_self _
  rw [if_pos (by omega)]; split <;> simp
 rw [← getD_lt' (z := zInT) hk] at hx ⊢
 obtain ⟨h1, h2⟩ := hs.in hr _ hx
 exact ⟨h1, by omega⟩
theorem tight_b (h : Snd (straS l) D) (hb : ∀ i ∈ straS l, 0 ≤ i.a) : ∀ i ∈ tiI l, 0 ≤ i.a := by
 intro i hi
 obtain ⟨k, hk, rfl⟩ := List.getElem_of_mem hi
 have hk2 := hk
 rw [tiI_len] at hk2
 obtain ⟨p, hp, hr, rfl⟩ := kb_onto hk2
 rw [← getD_lt' (z := zInT) hk, tiI_at hp hr]
 unfold Ins.mv
 split
 · exact Int.natCast_nonneg _
 rw [getD_lt' (by rw [straS_len]; exact hp)]; exact hb _ (List.getElem_mem _)
theorem tight_unr (h : Snd (straS l) D) (hb : ∀ i ∈ straS l, 0 ≤ i.a) : ∀ j, j < (tiI l).length → unr (tiI l) j = false := fun _ hj => (unr_iff (tight_b h hb) _).2 (tight_all h hb hj)
theorem tight_pr (h : Snd (straS l) D) (hb : ∀ i ∈ straS l, 0 ≤ i.a) : prI (tiI l) = tiI l := by
 unfold prI
 rw [tight_stra h hb]
 exact takeI_none (fun i hi hj => by obtain ⟨h1, h2⟩ := tight_a h hb i hi hj; exact ⟨h1, by omega⟩) (tight_unr h hb)
theorem tight_R (h : Snd (straS l) D) (hb : ∀ i ∈ straS l, 0 ≤ i.a) : ∀ j, j < (tiI l).length → tiR (tiI l) j = false := by
 intro j hj
 unfold tiR both2
 rw [tight_pr h hb, tight_stra h hb, tight_unr h hb j hj, tight_cl h hb _ _ (Nat.le_refl _)]; rfl
theorem tight_idem (h : Snd (straS l) D) (hb : ∀ i ∈ straS l, 0 ≤ i.a) : tiI (tiI l) = tiI l := by
 rw [tiI_eq (tiI l), tight_stra h hb]
 exact takeI_none (fun i hi hj => by obtain ⟨h1, h2⟩ := tight_a h hb i hi hj; exact ⟨h1, by omega⟩) (tight_R h hb)
theorem tight_lines {α : Type} (h : Snd (straS l) D) (hb : ∀ i ∈ straS l, 0 ≤ i.a) {ln : List α} (hl : ln.length = (tiI l).length) : tiL (tiI l) ln = ln := by
 rw [tiL_eq]; exact cutS_none ln 0 fun j _ h2 => tight_R h hb j (by omega)
end
def nowR (R : Nat → Bool) (x : Int) : Int := if x < 0 then x else if R x.toNat = true then -1 else (kb R x.toNat : Int)
def nowsS (l : List Ins) : List Int := (List.range l.length).map (nowS l)
theorem nows_two (l : List Ins) : (((List.range l.length).map fun (i : Nat) => (i : Int)).map (nowR (unr (straS l)))).map (nowR (cl (prI l))) = nowsS l := by
 unfold nowsS
 rw [List.map_map, List.map_map]
 apply List.map_congr_left
 intro i _
 simp only [Function.comp_apply]
 have e1 : ∀ (R : Nat → Bool) (n : Nat), nowR R (n : Int) = if R n = true then -1 else (kb R n : Int) := fun R n => by unfold nowR; rw [if_neg (by omega), Int.toNat_natCast]
 have e2 : ∀ R : Nat → Bool, nowR R (-1) = -1 := fun R => rfl
 rw [e1]
 unfold nowS
 by_cases h1 : unr (straS l) i = true
 · rw [if_pos h1, if_pos h1, e2]
 rw [if_neg h1, if_neg h1, e1]
theorem set_next {α : Type} {A B : List α} {s : Nat} (h : A.length = B.length) (hs : s < B.length) : (A.take s ++ B.drop s).set s (A[s]'(by omega)) = A.take (s + 1) ++ B.drop (s + 1) := by
 have : (A.take s).length = s := by rw [List.length_take]; omega
 rw [List.set_append_right _ _ (by omega), this, Nat.sub_self, List.drop_eq_getElem_cons hs, List.set_cons_zero, List.take_succ_eq_append_getElem (show s < A.length by omega), List.append_assoc]; rfl
theorem same_next {α : Type} {A B : List α} {s : Nat} (h : A.length = B.length) (hs : s < B.length) (he : A[s]'(by omega) = B[s]) : A.take s ++ B.drop s = A.take (s + 1) ++ B.drop (s + 1) := by
 rw [List.drop_eq_getElem_cons hs, List.take_succ_eq_append_getElem (show s < A.length by omega), he]; simp
theorem cutS_mem {α : Type} {R : Nat → Bool} {x : α} : ∀ {l : List α} {k : Nat}, x ∈ cutS R k l → x ∈ l
 | [], _, h => by simp [cutS] at h
 | y :: r, k, h => by
  simp only [cutS] at h
  split at h
  · exact List.mem_cons_of_mem _ (cutS_mem h)
  rcases List.mem_cons.1 h with h | h
  · exact h ▸ List.mem_cons_self ..
  exact List.mem_cons_of_mem _ (cutS_mem h)
theorem mid_at {α : Type} {A B : List α} {s : Nat} (h : A.length = B.length) (hs : s < B.length) (hl : s < (A.take s ++ B.drop s).length) : (A.take s ++ B.drop s)[s] = B[s] := by
 have e : (A.take s).length = s := by rw [List.length_take]; omega
 rw [List.getElem_append_right (by omega)]
 simp only [List.getElem_drop, e, Nat.sub_self, Nat.add_zero]
def bwd (I : List Ins) : List (List Value) := (List.range I.length).map fun (k : Nat) => [.int .i64 ((I.length : Int) - 1 - (k : Int)), .agg (insC (I.getD (I.length - 1 - k) zInT)).toArray]
theorem bwd_len (I : List Ins) : (bwd I).length = I.length := by simp [bwd]
theorem bwd_at {I : List Ins} {k : Nat} (h : k < (bwd I).length) : (bwd I)[k] = [.int .i64 ((I.length : Int) - 1 - (k : Int)), .agg (insC (I.getD (I.length - 1 - k) zInT)).toArray] := by simp only [bwd, List.getElem_map, List.getElem_range]
def outL (I : List Ins) : Nat → List Bool
 | 0 => List.replicate I.length false
 | k + 1 => if cl I (I.length - 1 - k) = true then (outL I k).set (I.length - 1 - k) true else outL I k
def leftL (I : List Ins) : Nat → List Int
 | 0 => (List.replicate (I.length + 1) 0).set I.length (I.length : Int)
 | k + 1 => (leftL I k).set (I.length - 1 - k) (if cl I (I.length - 1 - k) = true then (leftL I k).getD (I.length - 1 - k + 1) 0 else ((I.length - 1 - k : Nat) : Int))
theorem outL_len (I : List Ins) (k : Nat) : (outL I k).length = I.length := by
 induction k with
 | zero => simp [outL]
 | succ k ih => simp only [outL]; split <;> simp [ih]
theorem outL_at {I : List Ins} {j : Nat} (hj : j < I.length) : ∀ {k : Nat}, k ≤ I.length → (outL I k).getD j false = (decide (I.length - k ≤ j) && cl I j)
 | 0, _ => by
  have : (List.replicate I.length false).getD j false = false := by simp [List.getD_eq_getElem?_getD, hj]
  rw [show outL I 0 = List.replicate I.length false from rfl, this, decide_eq_false (by omega), Bool.false_and]
 | k + 1, hk => by
  have ih := outL_at hj (k := k) (by omega)
  have g := fun b => getD_setB (o := outL I k) (i := I.length - 1 - k) (j := j) (b := b) (by rw [outL_len]; omega)
  simp only [outL]
  by_cases e : j = I.length - 1 - k
  · split
    · rename_i h; rw [g, if_pos e, e, h]; simp; omega
    rename_i h
    rw [ih, e]
    have : cl I (I.length - 1 - k) = false := by simpa using h
    rw [this]; simp
  have e2 : decide (I.length - (k + 1) ≤ j) = decide (I.length - k ≤ j) := decide_eq_decide.2 (by omega)
  rw [e2, ← ih]
  split
  · rw [g, if_neg e]
  rfl
theorem leftL_q (I : List Ins) : ∀ {k : Nat}, k ≤ I.length → LeftQ I (I.length - k) (leftL I k)
 | 0, _ => LeftQ.init I
 | k + 1, hk => by
  have ih := leftL_q I (k := k) (by omega)
  have e : I.length - k = (I.length - 1 - k) + 1 := by omega
  rw [e] at ih
  have := ih.step (by omega)
  rw [show I.length - (k + 1) = I.length - 1 - k by omega]; exact this
theorem cl_test {I : List Ins} {a : Nat} {left : List Int} (h : LeftQ I (a + 1) left) (ha : a < I.length) (hA : jm (I.getD a zInT) = true → 0 ≤ (I.getD a zInT).a ∧ (I.getD a zInT).a.toNat < I.length) :
 cl I a = true ↔ (I.getD a zInT).c = 19 ∧ (a : Int) < (I.getD a zInT).a ∧ left.getD (I.getD a zInT).a.toNat 0 = left.getD (a + 1) 0 := by
 by_cases hc : (I.getD a zInT).c = 19
 · obtain ⟨h0, h1⟩ := hA (by unfold jm; rw [hc]; decide)
   rw [cl_iff ha (by omega)]
   refine and_congr_right fun _ => and_congr_right fun h2 => ?_
   rw [h.eq (Nat.le_refl _) (show a + 1 ≤ (I.getD a zInT).a.toNat by omega) (by omega)]
   constructor
   · intro h3 j h4 h5; exact h3 j (by omega) h5
   intro h3 j h4 h5; exact h3 j (by omega) h5
 constructor
 · intro h3
   exfalso
   have h0 : (clo a (I.drop a)).getD 0 false = true := by rw [clo_at]; exact h3
   rw [List.drop_eq_getElem_cons ha] at h0
   simp only [clo, List.getD_cons_zero, Bool.and_eq_true, decide_eq_true_eq] at h0
   rw [getD_lt' ha] at hc; exact hc h0.1.1
 intro h3; exact absurd h3.1 hc
theorem visitS_fine {b : Int} {E : Nat → Int} (hb : 0 ≤ b) : ∀ {l D : List Int}, (∀ x ∈ l, 0 ≤ x ∧ x.toNat < D.length ∧ E x.toNat = b) → (∀ j, 0 ≤ dAt D j → dAt D j = E j) → ∃ D', visitS b D l = some D' ∧ D'.length = D.length ∧ ∀ j, 0 ≤ dAt D' j → dAt D' j = E j
 | [], D, _, h => ⟨D, rfl, rfl, h⟩
 | x :: r, D, hx, h => by
  obtain ⟨x0, x1, x2⟩ := hx x (List.mem_cons_self ..)
  unfold visitS
  rw [if_neg (by rintro ⟨h1, h2⟩; rw [h _ h1, x2] at h2; exact h2 rfl)]
  have e := fun j => dAt_set (D := D) (i := x.toNat) (j := j) (b := b) x1
  obtain ⟨D', h1, h2, h3⟩ := visitS_fine hb (l := r) (D := D.set x.toNat b) (fun y hy => by rw [List.length_set]; exact hx y (List.mem_cons_of_mem _ hy)) (fun j hj => by
   rw [e] at hj ⊢
   split
   · rename_i e1; rw [e1, x2]
   rename_i e1; rw [if_neg e1] at hj; exact h j hj)
  exact ⟨D', h1, by rw [h2, List.length_set], h3⟩
theorem thrS_fine {ins : List InsT} {E : Nat → Int} (hE : ∀ a, a < ins.length → 0 ≤ E a → (oneS ins a (E a)).2 = 0 ∧ 0 ≤ (oneS ins a (E a)).1 ∧ ∀ x ∈ nextS (ins.getD a zI) a, 0 ≤ x ∧ x.toNat < ins.length ∧ E x.toNat = (oneS ins a (E a)).1) :
 ∀ (k : Nat) (D : List Int) (dn : List Bool), D.length = ins.length → (∀ j, 0 ≤ dAt D j → dAt D j = E j) → (thrS ins k D dn).2 = 0
 | 0, _, _, _, _ => rfl
 | k + 1, D, dn, hl, h => by
  unfold thrS
  split
  · rfl
  rename_i a ha
  obtain ⟨a1, ⟨a2, _⟩, _⟩ := leastS_some ha
  have ea := h a a2
  rw [ea] at a2 ⊢
  obtain ⟨e1, e2, e3⟩ := hE a (by omega) a2
  rw [if_neg (by omega)]
  obtain ⟨D', h1, h2, h3⟩ := visitS_fine e2 (l := nextS (ins.getD a zI) a) (D := D) (fun x hx => by rw [hl]; exact e3 x hx) h
  rw [h1]
  exact thrS_fine hE k D' _ (by omega) h3
theorem Snd.dOf {m : Mdl} {t : Cod} {E : Nat → Int} (h : Snd t.ins E) (hs : ∀ x ∈ t.ins, slotOk m t x) : (dOf m t).2 = 0 := by
 unfold Go.Proofs.YtbeeplmgcdnadaaGreatDoor.dOf
 have hp := h.pos
 rw [if_neg (by omega), if_neg (fun k => k hs)]
 refine thrS_fine (E := E) (fun a ha hd => ?_) _ _ _ (by simp [insT_len]) (fun j hj => ?_)
 · rw [insT_len] at ha
   obtain ⟨h1, h2, h3, h4⟩ := h.go a ha hd
   have hn := h.nn ha hd
   rw [getD_lt' ha] at h1 h2 h3 h4 hn
   have e : oneS (insT t) a (E a) = (E a - (effS t.ins[a].c).1 + (effS t.ins[a].c).2, 0) := by
    unfold oneS
    rw [insT_at ha]
    dsimp only [Ins.t]
    rw [if_neg (by omega), if_neg (fun k => k.2 (h3 k.1)), if_neg]
    rintro ⟨x, hx, hxl⟩
    have := h4 x hx
    rw [insT_len] at hxl; omega
   rw [e, insT_at ha, insT_len]
   exact ⟨rfl, hn, h4⟩
 have e := dAt_set (D := List.replicate t.ins.length (-1)) (i := 0) (j := j) (b := 0) (by simp; omega)
 rw [e] at hj ⊢
 split
 · rename_i e1; rw [e1, h.z]
 rename_i e1
 rw [if_neg e1] at hj
 exfalso
 unfold dAt at hj
 rw [List.getD_eq_getElem?_getD, List.getElem?_replicate] at hj
 split at hj <;> simp at hj
section
variable {G : World} {q : List HP} {a b A : Option Addr} {c d : Nat} {cd : Int} {l : List Ins} {ln : List Int} {o : List Bool}
variable {nt : Nat} {nm : ByteArray} {lo : Int} {ia la wa : Option Addr} {ic lc wc : Nat} {I : List Ins} {L W : List Int}
set_option maxHeartbeats 4000000 in
theorem straighten_ok (hA : ∀ i ∈ I, jm i = true → 0 ≤ i.a ∧ i.a.toNat < I.length) (h0I : 0 < I.length) (hL : I.length ≤ 65536) : CallF Tryz.prog G 125 [.pointer (some ⟨nt, 0, none⟩)] (pto nt (.cells [.string nm, .int .i64 lo, .slice ia I.length ic, .slice la L.length lc, .slice wa W.length wc].toArray 123 (0, 0)) :: rsH insC 4 65 ia ic (I) :: q) (Ret fun v q' => q' = pto nt (.cells [.string nm, .int .i64 lo, .slice ia I.length ic, .slice la L.length lc, .slice wa W.length wc].toArray 123 (0, 0)) :: rsH insC 4 65 ia ic (straS I) :: q) := by
 refine CallF.of Tryz.func125 Tryz.ntmps125 rfl (fun F cs => ?_)
 refine X.rsadr (fl := insC) (l := I) h0I (fun g e_ => ?_); subst e_
 refine xo 6 ?_; refine ld ?_; refine XO.cX Tryz.call161 (Le.refl _) (leads_ok (l := I) ((Sees.rsH _).le fndA) (fun i hi hc => hA i hi (by unfold jm; rw [hc]; decide)) hL) ?_
 rintro _ _ ⟨gs, rfl, rfl⟩
 refine oo 8 ?_; refine ld ?_; refine ox 4 ?_; refine X.at (X.loop (fun (s : Nat) => s ≤ I.length) (fun s => [(17, .int .i64 (s : Int)), (16, .int .i64 (I.length : Int)), (15, .slice (some ⟨g, 0, none⟩) I.length ic), (2, .slice (some ⟨gs, 0, none⟩) I.length I.length), (0, .pointer (some ⟨nt, 0, none⟩))]) (fun s => rsH insC 4 65 (some ⟨g, 0, none⟩) ic (((straS I).take s ++ I.drop s)) :: lsH I64 3 (some ⟨gs, 0, none⟩) I.length (leadsS I) :: pto nt (.cells [.string nm, .int .i64 lo, .slice (some ⟨g, 0, none⟩) I.length ic, .slice la L.length lc, .slice wa W.length wc].toArray 123 (0, 0)) :: (q ++ F)) (fun s => I.length - s) (fun s hi_ ih => ?_) 0 (Nat.zero_le _)) subA leA
 try dsimp only at hi_ ih ⊢
 obtain hs0 := hi_
 have hstl := straS_len I; have hcl : ((straS I).take s ++ I.drop s).length = I.length := (by simp; omega)
 refine xx 5 ?_; refine X.part 18 rfl (fun h0 => ?_) (fun h0 => ?_)
 · replace h0 := sp h0; have hlt : s < I.length := (by omega); have hlc : s < ((straS I).take s ++ I.drop s).length := (by omega); have hgt : ((straS I).take s ++ I.drop s)[s] = I[s] := (by rw [List.getElem_append_right (by simp; omega)]; simp [Nat.min_eq_left (show s ≤ (straS I).length by omega)])
   refine xo 8 ?_; refine XO.ldS (n := s) (fl := insC) (l := ((straS I).take s ++ I.drop s)) Tryz.isAgg65 Tryz.sizeOf65 (Sees.rsH _) hlc ?_ (hq := fndA)
   refine XO.know 21 (.agg (insC I[s]).toArray) rfl (by rw [hgt]) ?_
   refine XO.al Tryz.zeroValue65 fun n1 => ?_
   refine oo 1 ?_; refine stA ?_; refine oo 4 ?_; refine ld ?_; refine XO.cR Tryz.call162 (isJump_ok) ?_; refine ox 1 ?_; refine X.part 24 rfl (fun h1 => ?_) (fun h1 => ?_)
   · replace h1 := sp h1
     refine xx 1 ?_; refine drw ?_; refine dd [0, 1, 2, 3] ?_; refine ldD 4 ?_; refine dd [5, 6, 7] ?_; refine ldD 8 ?_
     have hjm : jm I[s] = true := (by unfold jm; exact decide_eq_true h1); obtain ⟨hA0, hA1⟩ := hA _ (List.getElem_mem hlt) hjm; have hll : I[s].a.toNat < (leadsS I).length := (by unfold leadsS; simp; exact hA1)
     refine dd [9] ?_; refine ldD 10 ?_ (hc := (Cl.e1 (Sees.lsH _) fndA hll (by omega)))
     refine dd [11, 12] ?_
     have hsr : straS I = straS I := rfl; have hu : (straS I)[s]'(by omega) = { I[s] with a := (leadsS I)[I[s].a.toNat] } := (by have e1 : (leadsS I)[I[s].a.toNat] = (leadS I I[s].a.toNat : Int) := (by simp only [leadsS, List.getElem_map, List.getElem_range]); rw [e1]; unfold straS; rw [List.getElem_map]; unfold Ins.mv; rw [if_pos hjm])
     refine XD.ef0 13 rfl (Ef.setR (f := insC) (sz := 4) (l := ((straS I).take s ++ I.drop s)) (n := s) (k := 1) (u := (straS I)[s]'(by omega)) rfl rfl Tryz.sizeOf3 (fun _ => rfl) rfl hlc rfl (by rw [hgt, hu]; rfl) rfl rfl fndA) ?_
     rintro _ _ ⟨rfl, rfl⟩
     refine ⟨trivial, ?_⟩
     refine XD.nil ?_; refine xx 5 ?_; refine X.sb [17, 16, 15, 2, 0] ?_
     have hnx : ((straS I).take s ++ I.drop s).set s ((straS I)[s]'(by omega)) = (straS I).take (s + 1) ++ I.drop (s + 1) := set_next hstl hlt; rw [hnx]
     refine X.at (ih (s + 1) (by omega) (by omega)) subA leA
   replace h1 := sp h1
   refine xx 7 ?_
   have hnx : ((straS I).take s ++ I.drop s) = (straS I).take (s + 1) ++ I.drop (s + 1) := same_next hstl hlt (by simp [straS, Ins.mv, jm]; intro h2 h3; simp [h2, h3] at h1)
   refine X.le (Le.trans fndA (Le.rsEq (f := insC) (sz := 4) (ty := 65) (a := some ⟨g, 0, none⟩) (c := ic) hnx _)) ?_
   refine X.at (ih (s + 1) (by omega) (by omega)) subA leA
 replace h0 := sp h0; obtain rfl : s = I.length := by omega
 have hfin : ((straS I).take I.length ++ I.drop I.length) = straS I := (by rw [List.drop_length, List.append_nil, List.take_of_length_le (by omega)])
 rw [hfin]
 refine xx 2 ?_; refine X.fallL (pto nt (.cells [.string nm, .int .i64 lo, .slice (some ⟨g, 0, none⟩) I.length ic, .slice la L.length lc, .slice wa W.length wc].toArray 123 (0, 0)) :: rsH insC 4 65 (some ⟨g, 0, none⟩) ic (straS I) :: q) Tryz.func125 (res0 Tryz.results125) ⟨_, rfl, rfl⟩
end
section
variable {G : World} {q : List HP} {a b A : Option Addr} {c d : Nat} {cd : Int} {l : List Ins} {ln : List Int} {o : List Bool}
variable {nt : Nat} {nm : ByteArray} {lo : Int} {ia la wa : Option Addr} {ic lc wc : Nat} {I : List Ins} {L W : List Int}
variable {R : Nat → Bool}
set_option maxHeartbeats 8000000 in
theorem takeT_ok (ho : Sees q b (o.map Value.bool)) (hon : o.length = I.length) (hR : ∀ j, j < o.length → o.getD j false = R j) (hA : ∀ i ∈ I, jm i = true → 0 ≤ i.a ∧ i.a.toNat < I.length) (hLn : L.length = I.length) (hW : ∀ x ∈ W, x < 0 ∨ x.toNat < I.length) (hWn : W.length ≤ 65536) (h0I : 0 < I.length) (hL : I.length ≤ 65536) : CallF Tryz.prog G 163 [.pointer (some ⟨nt, 0, none⟩), .slice b o.length d] (pto nt (.cells [.string nm, .int .i64 lo, .slice ia I.length ic, .slice la L.length lc, .slice wa W.length wc].toArray 123 (0, 0)) :: rsH insC 4 65 ia ic (I) :: lsH I64 3 la lc (L) :: lsH I64 3 wa wc (W) :: q) (Ret fun v q' => ∃ a1 c1 a2 c2, q' = pto nt (.cells [.string nm, .int .i64 lo, .slice a1 (takeI R I).length c1, .slice a2 (cutS R 0 L).length c2, .slice wa W.length wc].toArray 123 (0, 0)) :: rsH insC 4 65 a1 c1 (takeI R I) :: lsH I64 3 a2 c2 (cutS R 0 L) :: lsH I64 3 wa wc (W.map (nowR R)) :: q) := by
 refine CallF.of Tryz.func163 Tryz.ntmps163 rfl (fun F cs => ?_)
 refine X.adr ho (by rw [List.length_map, hon]; exact h0I) (fun gb ob eb => ?_); subst eb
 have hob : ∀ j (h : j < o.length), o[j] = R j := fun j h => by rw [← hR j h]; exact (getD_lt' h).symm
 refine xo 6 ?_; refine ld ?_; refine oo 1 ?_; refine XO.ef (Ef.make (n := I.length) rfl rfl Tryz.underlying23 ginfo3 rfl rfl (by omega) (by omega)) ?_
 rintro _ _ ⟨g, rfl, rfl⟩
 refine XO.le (q' := lsH I64 3 (some ⟨g, 0, none⟩) I.length (List.replicate I.length 0) :: _) (Le.trans fndA (by rw [← ls_made (f := I64) (u := 0) rfl]; exact Le.refl _)) ?_
 refine oo 13 ?_; refine ld ?_; refine ox 4 ?_; refine X.at (X.loop (fun (s : List Int × Nat) => s.1.length = I.length ∧ s.2 ≤ I.length ∧ ∀ i, i < s.2 → s.1.getD i 0 = (kb R i : Int)) (fun s => [(24, .int .i64 (s.2 : Int)), (23, .int .i64 (I.length : Int)), (4, .slice (some ⟨g, 0, none⟩) I.length I.length), (5, .int .i64 (kb R s.2 : Int)), (0, .pointer (some ⟨nt, 0, none⟩)), (1, .slice (some ⟨gb, ob, none⟩) o.length d)]) (fun s => lsH I64 3 (some ⟨g, 0, none⟩) I.length (s.1) :: pto nt (.cells [.string nm, .int .i64 lo, .slice ia I.length ic, .slice la L.length lc, .slice wa W.length wc].toArray 123 (0, 0)) :: rsH insC 4 65 ia ic (I) :: lsH I64 3 la lc (L) :: lsH I64 3 wa wc (W) :: (q ++ F)) (fun s => I.length - s.2) (fun s hi_ ih => ?_) (List.replicate I.length 0, 0) ⟨by simp, Nat.zero_le _, fun i h => absurd h (Nat.not_lt_zero i)⟩) subA leA
 try dsimp only at hi_ ih ⊢
 obtain ⟨hl1, hl2, hl3⟩ := hi_
 obtain ⟨D, s⟩ := s; dsimp only at *; have hkb := kb_le R s
 refine xx 5 ?_; refine X.part 25 rfl (fun h0 => ?_) (fun h0 => ?_)
 · replace h0 := sp h0; have hlt : s < D.length := (by omega); have hlo : s < o.length := (by omega)
   refine xo 15 ?_; refine XO.ef0 (Ef.setL (f := I64) (l := D) (n := s) (u := (kb R s : Int)) rfl rfl Tryz.sizeOf3 rfl hlt rfl rfl fndA) ?_
   rintro _ _ ⟨rfl, rfl⟩
   refine oo 6 ?_; refine ld ?_ (hc := (Cl.e1 ho leA hlo rfl))
   refine XO.pu (Pu.not rfl) ?_; refine ox 1 ?_; refine X.part 35 rfl (fun h1 => ?_) (fun h1 => ?_)
   · replace h1 := sp h1
     refine xx 11 ?_; refine X.sb [24, 5, 23, 4, 0, 1] ?_
     have hrs : R s = false := (by rw [← hob s hlo]; simpa using h1); have hks : kb R (s + 1) = kb R s + 1 := kb_kept hrs
     refine X.know 5 (.int .i64 (kb R (s + 1) : Int)) rfl (by rw [hks]; rfl) ?_
     refine X.at (ih (D.set s (kb R s : Int), s + 1) ⟨by rw [List.length_set]; exact hl1, by dsimp only; omega, fun i hi => by dsimp only at hi ⊢; rw [getD_setI hlt]; split; (rename_i e; rw [e]); exact hl3 i (by omega)⟩ (by dsimp only; omega)) subA leA
   replace h1 := sp h1
   refine xx 7 ?_
   have hrs : R s = true := (by rw [← hob s hlo]; simpa using h1); have hks : kb R (s + 1) = kb R s := kb_gone hrs
   refine X.know 5 (.int .i64 (kb R (s + 1) : Int)) rfl (by rw [hks]) ?_
   refine X.at (ih (D.set s (kb R s : Int), s + 1) ⟨by rw [List.length_set]; exact hl1, by dsimp only; omega, fun i hi => by dsimp only at hi ⊢; rw [getD_setI hlt]; split; (rename_i e; rw [e]); exact hl3 i (by omega)⟩ (by dsimp only; omega)) subA leA
 replace h0 := sp h0; replace hl3 : ∀ i, i < I.length → D.getD i 0 = (kb R i : Int) := (fun i hi => hl3 i (by omega)); clear ih hkb
 refine xo 8 ?_; refine ld ?_; refine ox 4 ?_; refine X.at (X.loop (fun (s : Nat) => s ≤ W.length) (fun s => [(44, .int .i64 (s : Int)), (43, .int .i64 (W.length : Int)), (42, .slice wa W.length wc), (4, .slice (some ⟨g, 0, none⟩) I.length I.length), (0, .pointer (some ⟨nt, 0, none⟩)), (1, .slice (some ⟨gb, ob, none⟩) o.length d)]) (fun s => lsH I64 3 (some ⟨g, 0, none⟩) I.length (D) :: pto nt (.cells [.string nm, .int .i64 lo, .slice ia I.length ic, .slice la L.length lc, .slice wa W.length wc].toArray 123 (0, 0)) :: rsH insC 4 65 ia ic (I) :: lsH I64 3 la lc (L) :: lsH I64 3 wa wc (((W.map (nowR R)).take s ++ W.drop s)) :: (q ++ F)) (fun s => W.length - s) (fun s hi_ ih => ?_) 0 (Nat.zero_le _)) subA leA
 try dsimp only at hi_ ih ⊢
 obtain hs0 := hi_
 have hwl : (W.map (nowR R)).length = W.length := (List.length_map _); have hcw : ((W.map (nowR R)).take s ++ W.drop s).length = W.length := (by simp; omega)
 refine xx 5 ?_; refine X.part 45 rfl (fun h0 => ?_) (fun h0 => ?_)
 · replace h0 := sp h0; have hlt : s < W.length := (by omega); have hlc : s < ((W.map (nowR R)).take s ++ W.drop s).length := (by omega); have hgt : ((W.map (nowR R)).take s ++ W.drop s)[s] = W[s] := mid_at hwl hlt hlc
   refine X.lsadr (fl := I64) (l := ((W.map (nowR R)).take s ++ W.drop s)) (by omega) (fun gw e_ => ?_); subst e_
   have hWs := hW _ (List.getElem_mem hlt)
   refine xo 8 ?_; refine ld ?_ (hc := (Cl.e1 (Sees.lsH _) fndA hlc rfl))
   refine XO.know 48 (.int .i64 W[s]) rfl (by rw [hgt]) ?_
   refine ox 10 ?_; refine X.part 59 rfl (fun h1 => ?_) (fun h1 => ?_)
   · replace h1 := sp h1
     refine xx 8 ?_
     have hv : (W.map (nowR R))[s]'(by omega) = W[s] := (by rw [List.getElem_map]; unfold nowR; rw [if_pos (by omega)])
     have hnx := same_next hwl hlt hv; refine X.le (Le.trans fndA (Le.lsEq (f := I64) (ty := 3) (a := some ⟨gw, 0, none⟩) (c := wc) hnx _)) ?_
     refine X.at (ih (s + 1) (by omega) (by omega)) subA leA
   replace h1 := sp h1
   refine xo 5 ?_
   have hat : W[s].toNat < I.length := (by omega); have hlo : W[s].toNat < o.length := (by omega); have hlD : W[s].toNat < D.length := (by omega)
   refine oo 1 ?_; refine ld ?_ (hc := (Cl.e1 ho leA hlo (by omega)))
   refine ox 2 ?_; refine X.sb [62, 8, 7, 44, 43, 42, 4, 0, 1] ?_; refine X.part 62 rfl (fun h2 => ?_) (fun h2 => ?_)
   · replace h2 := sp h2
     refine xo 5 ?_; refine ld ?_; refine oo 2 ?_; refine XO.ef0 (Ef.setL (f := I64) (l := ((W.map (nowR R)).take s ++ W.drop s)) (n := s) (u := -1) rfl rfl Tryz.sizeOf3 rfl hlc rfl rfl fndA) ?_
     rintro _ _ ⟨rfl, rfl⟩
     refine ox 7 ?_
     have hv : (W.map (nowR R))[s]'(by omega) = -1 := (by rw [List.getElem_map]; unfold nowR; rw [if_neg (by omega), if_pos (by rw [← hob _ hlo]; simpa using h2)])
     have hnx := set_next hwl hlt; rw [hv] at hnx; refine X.le (Le.trans fndA (Le.lsEq (f := I64) (ty := 3) (a := some ⟨gw, 0, none⟩) (c := wc) hnx _)) ?_
     refine X.at (ih (s + 1) (by omega) (by omega)) subA leA
   replace h2 := sp h2
   refine xx 1 ?_; refine drw ?_; refine dd [0, 1, 2] ?_; refine ldD 3 ?_; refine dd [4, 5, 6, 7] ?_; refine ldD 8 ?_ (hc := (Cl.e1 (Sees.lsH _) fndA hlD (by omega)))
   refine dd [9] ?_; refine XD.ef0 10 rfl (Ef.setL (f := I64) (l := ((W.map (nowR R)).take s ++ W.drop s)) (n := s) (u := (D[W[s].toNat])) rfl rfl Tryz.sizeOf3 rfl hlc rfl rfl fndA) ?_
   rintro _ _ ⟨rfl, rfl⟩
   refine ⟨trivial, ?_⟩
   refine XD.nil ?_; refine xx 6 ?_
   have hv : (W.map (nowR R))[s]'(by omega) = D[W[s].toNat] := (by rw [List.getElem_map]; unfold nowR; rw [if_neg (by omega), if_neg (by rw [← hob _ hlo]; simpa using h2), ← hl3 _ hat]; exact getD_lt' hlD)
   have hnx := set_next hwl hlt; rw [hv] at hnx; refine X.le (Le.trans fndA (Le.lsEq (f := I64) (ty := 3) (a := some ⟨gw, 0, none⟩) (c := wc) hnx _)) ?_
   refine X.at (ih (s + 1) (by omega) (by omega)) subA leA
 replace h0 := sp h0; obtain rfl : s = W.length := by omega
 have hfin : ((W.map (nowR R)).take W.length ++ W.drop W.length) = W.map (nowR R) := (by rw [List.drop_length, List.append_nil, List.take_of_length_le (by omega)])
 rw [hfin]; clear ih hcw hfin hwl
 refine xx 3 ?_; refine drw ?_; refine dd [0, 1, 2, 3, 4, 5] ?_; refine ldD 6 ?_; refine dd [7, 9, 10, 11, 12] ?_; refine ldD 13 ?_; refine dd [14] ?_
 have hcI : cutS (fun j => o.getD j false) 0 I = cutS R 0 I := (cutS_congr I 0 fun j _ h2 => hR j (by omega)); have hcL : cutS (fun j => o.getD j false) 0 L = cutS R 0 L := (cutS_congr L 0 fun j _ h2 => hR j (by omega))
 refine XD.cX 8 Tryz.call194 (Le.refl _) (cutIns_ok (m := I) (a := ia) (c := ic) ((Sees.rsH _).le fndA) (ho.le leA) (by omega) (by omega)) ?_
 rintro _ _ ⟨a1, c1, rfl, rfl⟩
 refine ⟨hlA, ?_⟩
 rw [hcI]
 refine XD.cX 15 Tryz.call195 (Le.refl _) (cutint_ok (m := L) (a := la) (c := lc) ((Sees.lsH _).le fndA) (ho.le leA) (by omega) (by omega)) ?_
 rintro _ _ ⟨a2, c2, rfl, rfl⟩
 refine ⟨trivial, ?_⟩
 rw [hcL]
 refine dd [16, 17, 18] ?_; refine stD 19 ?_; refine dd [20, 21, 22] ?_; refine stD 23 ?_; refine XD.nil ?_; refine xo 6 ?_; refine ld ?_; refine ox 4 ?_; refine X.sb [102, 101, 100, 4, 0] ?_
 have hti : (takeI R I).length = (cutS R 0 I).length := List.length_map _; have hkl : (cutS R 0 I).length ≤ I.length := cutS_le R I
 refine X.at (X.loop (fun (s : Nat) => s ≤ (cutS R 0 I).length) (fun s => [(102, .int .i64 (s : Int)), (101, .int .i64 ((cutS R 0 I).length : Int)), (100, .slice a1 (cutS R 0 I).length c1), (4, .slice (some ⟨g, 0, none⟩) I.length I.length), (0, .pointer (some ⟨nt, 0, none⟩))]) (fun s => rsH insC 4 65 a1 c1 (((takeI R I).take s ++ (cutS R 0 I).drop s)) :: lsH I64 3 (some ⟨g, 0, none⟩) I.length (D) :: pto nt (.cells [.string nm, .int .i64 lo, .slice a1 (cutS R 0 I).length c1, .slice a2 (cutS R 0 L).length c2, .slice wa W.length wc].toArray 123 (0, 0)) :: lsH I64 3 a2 c2 (cutS R 0 L) :: lsH I64 3 wa wc (W.map (nowR R)) :: (q ++ F)) (fun s => (cutS R 0 I).length - s) (fun s hi_ ih => ?_) 0 (Nat.zero_le _)) subA leA
 try dsimp only at hi_ ih ⊢
 obtain hs0 := hi_
 have hcl : ((takeI R I).take s ++ (cutS R 0 I).drop s).length = (cutS R 0 I).length := (by rw [List.length_append, List.length_take, List.length_drop]; omega)
 refine xx 5 ?_; refine X.part 103 rfl (fun h0 => ?_) (fun h0 => ?_)
 · replace h0 := sp h0; have hlt : s < (cutS R 0 I).length := (by omega); have hlc : s < ((takeI R I).take s ++ (cutS R 0 I).drop s).length := (by omega); have hgt : ((takeI R I).take s ++ (cutS R 0 I).drop s)[s] = (cutS R 0 I)[s] := mid_at hti hlt hlc
   refine X.rsadr (fl := insC) (l := ((takeI R I).take s ++ (cutS R 0 I).drop s)) (by omega) (fun ga e_ => ?_); subst e_
   refine xo 8 ?_; refine XO.ldS (n := s) (fl := insC) (l := ((takeI R I).take s ++ (cutS R 0 I).drop s)) Tryz.isAgg65 Tryz.sizeOf65 (Sees.rsH _) hlc ?_ (hq := fndA)
   refine XO.know 106 (.agg (insC (cutS R 0 I)[s]).toArray) rfl (by rw [hgt]) ?_
   refine XO.al Tryz.zeroValue65 fun n1 => ?_
   refine oo 1 ?_; refine stA ?_; refine oo 4 ?_; refine ld ?_; refine XO.cR Tryz.call162 (isJump_ok) ?_; refine ox 1 ?_; refine X.part 109 rfl (fun h1 => ?_) (fun h1 => ?_)
   · replace h1 := sp h1
     refine xx 1 ?_; refine drw ?_; refine dd [0, 1, 2, 3] ?_; refine ldD 4 ?_; refine dd [5, 6, 7] ?_; refine ldD 8 ?_
     have hjm : jm (cutS R 0 I)[s] = true := (by unfold jm; exact decide_eq_true h1); have hmI : (cutS R 0 I)[s] ∈ I := cutS_mem (List.getElem_mem hlt); obtain ⟨hA0, hA1⟩ := hA _ hmI hjm; have hll : (cutS R 0 I)[s].a.toNat < D.length := (by omega)
     refine dd [9] ?_; refine ldD 10 ?_ (hc := (Cl.e1 (Sees.lsH _) fndA hll (by omega)))
     refine dd [11, 12] ?_
     have hu : (takeI R I)[s]'(by omega) = { (cutS R 0 I)[s] with a := D[(cutS R 0 I)[s].a.toNat] } := (by have e1 : D[(cutS R 0 I)[s].a.toNat] = (kb R (cutS R 0 I)[s].a.toNat : Int) := (by rw [← hl3 _ hA1]; exact (getD_lt' hll).symm); rw [e1]; unfold takeI; rw [List.getElem_map]; unfold Ins.mv; rw [if_pos hjm])
     refine XD.ef0 13 rfl (Ef.setR (f := insC) (sz := 4) (l := ((takeI R I).take s ++ (cutS R 0 I).drop s)) (n := s) (k := 1) (u := (takeI R I)[s]'(by omega)) rfl rfl Tryz.sizeOf3 (fun _ => rfl) rfl hlc rfl (by rw [hgt, hu]; rfl) rfl rfl fndA) ?_
     rintro _ _ ⟨rfl, rfl⟩
     refine ⟨trivial, ?_⟩
     refine XD.nil ?_; refine xx 5 ?_; refine X.sb [102, 101, 100, 4, 0] ?_
     have hnx := set_next hti hlt; refine X.le (Le.trans fndA (Le.rsEq (f := insC) (sz := 4) (ty := 65) (a := some ⟨ga, 0, none⟩) (c := c1) hnx _)) ?_
     refine X.at (ih (s + 1) (by omega) (by omega)) subA leA
   replace h1 := sp h1
   refine xx 7 ?_
   have hnx := same_next hti hlt (by unfold takeI; rw [List.getElem_map]; unfold Ins.mv; rw [if_neg (by unfold jm; simpa using h1)]); refine X.le (Le.trans fndA (Le.rsEq (f := insC) (sz := 4) (ty := 65) (a := some ⟨ga, 0, none⟩) (c := c1) hnx _)) ?_
   refine X.at (ih (s + 1) (by omega) (by omega)) subA leA
 replace h0 := sp h0; have hse : s = (cutS R 0 I).length := (by omega); have hfin : ((takeI R I).take s ++ (cutS R 0 I).drop s) = takeI R I := (by rw [hse, List.drop_length, List.append_nil, List.take_of_length_le (by omega)])
 rw [hfin]
 refine xx 2 ?_; refine X.fallL (pto nt (.cells [.string nm, .int .i64 lo, .slice a1 (cutS R 0 I).length c1, .slice a2 (cutS R 0 L).length c2, .slice wa W.length wc].toArray 123 (0, 0)) :: rsH insC 4 65 a1 c1 (takeI R I) :: lsH I64 3 a2 c2 (cutS R 0 L) :: lsH I64 3 wa wc (W.map (nowR R)) :: q) Tryz.func163 (res0 Tryz.results163) ⟨_, rfl, a1, c1, a2, c2, by rw [hti]⟩
end
theorem fill3 {D : List Bool} {N : Nat} (h : D.length = N) (h2 : ∀ i, i < N → D.getD i false = true) : D = List.replicate N true := by
 refine List.ext_getElem (by simp [h]) (fun i h1 h3 => ?_)
 rw [List.getElem_replicate, ← getD_lt' (z := false) h1]; exact h2 i (by omega)
theorem cnt_off : ∀ {o : List Bool} {a : Nat}, a < o.length → o.getD a false = true → (o.set a false).countP id + 1 = o.countP id
 | [], _, h, _ => by simp at h
 | x :: r, 0, _, h => by simp only [List.getD_cons_zero] at h; subst h; simp [List.countP_cons]
 | x :: r, a + 1, h, h1 => by
  have := cnt_off (o := r) (a := a) (by simpa using h) (by simpa using h1)
  rw [List.set_cons_succ, List.countP_cons, List.countP_cons]; omega
section
variable {G : World} {q : List HP} {a b A : Option Addr} {c d : Nat} {cd : Int} {l : List Ins} {ln : List Int} {o : List Bool}
variable {nt : Nat} {nm : ByteArray} {lo : Int} {ia la wa : Option Addr} {ic lc wc : Nat} {I : List Ins} {L W : List Int}
set_option maxHeartbeats 8000000 in
theorem prune_ok (hA : ∀ i ∈ I, jm i = true → 0 ≤ i.a ∧ i.a.toNat < I.length) (hLn : L.length = I.length) (hW : ∀ x ∈ W, x < 0 ∨ x.toNat < I.length) (hWn : W.length ≤ 65536) (h0I : 0 < I.length) (hL : I.length ≤ 65536) (hb : ∀ i ∈ I, 0 ≤ i.a) (hV : ∀ j, Rch I j → ∀ y ∈ nxt (I.getD j zInT) j, y < (I.length : Int)) : CallF Tryz.prog G 126 [.pointer (some ⟨nt, 0, none⟩)] (pto nt (.cells [.string nm, .int .i64 lo, .slice ia I.length ic, .slice la L.length lc, .slice wa W.length wc].toArray 123 (0, 0)) :: rsH insC 4 65 ia ic (I) :: lsH I64 3 la lc (L) :: lsH I64 3 wa wc (W) :: q) (Ret fun v q' => ∃ a1 c1 a2 c2, q' = pto nt (.cells [.string nm, .int .i64 lo, .slice a1 (takeI (unr I) I).length c1, .slice a2 (cutS (unr I) 0 L).length c2, .slice wa W.length wc].toArray 123 (0, 0)) :: rsH insC 4 65 a1 c1 (takeI (unr I) I) :: lsH I64 3 a2 c2 (cutS (unr I) 0 L) :: lsH I64 3 wa wc (W.map (nowR (unr I))) :: q) := by
 refine CallF.of Tryz.func126 Tryz.ntmps126 rfl (fun F cs => ?_)
 refine X.rsadr (fl := insC) (l := I) h0I (fun g e_ => ?_); subst e_
 refine xo 6 ?_; refine ld ?_; refine oo 1 ?_; refine XO.ef (Ef.make (n := I.length) rfl rfl Tryz.underlying98 ginfo4 rfl rfl (by omega) (by omega)) ?_
 rintro _ _ ⟨go, rfl, rfl⟩
 refine XO.le (q' := lsH Value.bool 4 (some ⟨go, 0, none⟩) I.length (List.replicate I.length false) :: _) (Le.trans fndA (by rw [← ls_made (f := Value.bool) (u := false) rfl]; exact Le.refl _)) ?_
 refine ox 10 ?_; refine X.at (X.loop (fun (s : List Bool × Nat) => s.1.length = I.length ∧ s.2 ≤ I.length ∧ ∀ i, i < s.2 → s.1.getD i false = true) (fun s => [(16, .int .i64 (s.2 : Int)), (15, .int .i64 (I.length : Int)), (2, .slice (some ⟨go, 0, none⟩) I.length I.length), (0, .pointer (some ⟨nt, 0, none⟩))]) (fun s => lsH Value.bool 4 (some ⟨go, 0, none⟩) I.length (s.1) :: pto nt (.cells [.string nm, .int .i64 lo, .slice (some ⟨g, 0, none⟩) I.length ic, .slice la L.length lc, .slice wa W.length wc].toArray 123 (0, 0)) :: rsH insC 4 65 (some ⟨g, 0, none⟩) ic (I) :: lsH I64 3 la lc (L) :: lsH I64 3 wa wc (W) :: (q ++ F)) (fun s => I.length - s.2) (fun s hi_ ih => ?_) (List.replicate I.length false, 0) ⟨by simp, Nat.zero_le _, fun i h => absurd h (Nat.not_lt_zero i)⟩) subA leA
 try dsimp only at hi_ ih ⊢
 obtain ⟨hl1, hl2, hl3⟩ := hi_
 obtain ⟨D, s⟩ := s; dsimp only at *
 refine xx 5 ?_; refine X.part 17 rfl (fun h0 => ?_) (fun h0 => ?_)
 · replace h0 := sp h0; have hlt : s < D.length := (by omega)
   refine xo 13 ?_; refine XO.ef0 (Ef.setL (f := Value.bool) (l := D) (n := s) (u := true) rfl rfl Tryz.sizeOf4 rfl hlt rfl rfl fndA) ?_
   rintro _ _ ⟨rfl, rfl⟩
   refine ox 6 ?_; refine X.at (ih (D.set s true, s + 1) ⟨by rw [List.length_set]; exact hl1, by dsimp only; omega, fun i hi => by dsimp only at hi ⊢; rw [getD_setB hlt]; split; rfl; exact hl3 i (by omega)⟩ (by dsimp only; omega)) subA leA
 replace h0 := sp h0; have hD : D = List.replicate I.length true := fill3 hl1 (fun i hi => hl3 i (by omega)); subst hD; clear ih hl1 hl2 hl3 h0
 refine xo 4 ?_; refine XO.ef (Ef.lit1 (u := 0) I64 Tryz.underlying23 ginfo3 rfl rfl) ?_
 rintro _ _ ⟨gt, rfl, rfl⟩
 refine ox 4 ?_; refine X.at (X.loop (fun (s : List Bool × List Int × Option Addr × Nat) => PI I s.1 s.2.1 ∧ 2 * s.1.countP id + s.2.1.length ≤ 2 * I.length + 1) (fun s => [(2, .slice (some ⟨go, 0, none⟩) I.length I.length), (4, .slice s.2.2.1 s.2.1.length s.2.2.2), (0, .pointer (some ⟨nt, 0, none⟩))]) (fun s => lsH I64 3 s.2.2.1 s.2.2.2 (s.2.1) :: lsH Value.bool 4 (some ⟨go, 0, none⟩) I.length (s.1) :: pto nt (.cells [.string nm, .int .i64 lo, .slice (some ⟨g, 0, none⟩) I.length ic, .slice la L.length lc, .slice wa W.length wc].toArray 123 (0, 0)) :: rsH insC 4 65 (some ⟨g, 0, none⟩) ic (I) :: lsH I64 3 la lc (L) :: lsH I64 3 wa wc (W) :: (q ++ F)) (fun s => 2 * s.1.countP id + s.2.1.length) (fun s hi_ ih => ?_) (List.replicate I.length true, [0], some ⟨gt, 0, none⟩, 1) ⟨PI.init h0I, by simp [List.countP_replicate]⟩) subA leA
 try dsimp only at hi_ ih ⊢
 obtain ⟨hP, hcb⟩ := hi_
 obtain ⟨out, T, ta, tc⟩ := s; dsimp only at *; have hol := hP.len
 refine X.fact (fun w s => (s.le (cs := _) (ds := lsH I64 3 ta tc (T) :: _) fndA).lsLen) (fun hTl => ?_)
 refine xx 7 ?_; refine X.part 26 rfl (fun h0 => ?_) (fun h0 => ?_)
 · replace h0 := sp h0; obtain ⟨T2, x, rfl⟩ : ∃ T2 x, T = T2 ++ [x] := ⟨T.dropLast, T.getLast (by rintro rfl; simp at h0), (List.dropLast_concat_getLast _).symm⟩; obtain ⟨x0, x1, x2⟩ := hP.td x (by simp); obtain ⟨a, rfl⟩ : ∃ a : Nat, x = (a : Int) := ⟨x.toNat, by omega⟩; rw [Int.toNat_natCast] at x1 x2; have hT0 : 0 < (T2 ++ [(a : Int)]).length := by simp
   have hTn : (T2 ++ [(a : Int)]).length = T2.length + 1 := by simp
   have hao : a < out.length := by omega
   refine X.lsadr (fl := I64) (l := T2 ++ [(a : Int)]) (by omega) (fun ga e_ => ?_); subst e_
   have hlast : (T2 ++ [(a : Int)])[(T2 ++ [(a : Int)]).length - 1]'(Nat.sub_lt hT0 Nat.one_pos) = (a : Int) := by simp
   refine xo 10 ?_; refine ld ?_ (hc := (Cl.e1z (Sees.lsH _) fndA hT0))
   refine XO.know 32 (.int .i64 (a : Int)) rfl (by rw [hlast]) ?_
   refine oo 9 ?_; refine XO.know 37 (.slice (some ⟨ga, 0, none⟩) T2.length tc) rfl (by congr 1; simp) ?_
   refine XO.le (q' := lsH I64 3 (some ⟨ga, 0, none⟩) tc (T2) :: _) (Le.trans fndA (Le.trans (Le.lsH_take I64 3 (some ⟨ga, 0, none⟩) tc (T2 ++ [(a : Int)]) T2.length _) (by rw [List.take_left]; exact Le.refl _))) ?_
   refine oo 8 ?_; refine ld ?_ (hc := (Cl.e1 (Sees.lsH _) fndA hao rfl))
   refine XO.pu (Pu.not rfl) ?_; refine ox 1 ?_; refine X.sb [42, 4, 5, 2, 0] ?_; refine X.part 42 rfl (fun h1 => ?_) (fun h1 => ?_)
   · replace h1 := sp h1
     refine xx 2 ?_
     have hga : out.getD a false = out[a] := getD_lt' hao
     refine X.at (ih (out, T2, some ⟨ga, 0, none⟩, tc) ⟨PI.skip hP (by rw [Int.toNat_natCast, hga]; simpa using h1), by dsimp only; omega⟩ (by dsimp only; omega)) subA leA
   replace h1 := sp h1
   refine xo 7 ?_; refine XO.ef0 (Ef.setL (f := Value.bool) (l := out) (n := a) (u := false) rfl rfl Tryz.sizeOf4 rfl hao rfl rfl fndA) ?_
   rintro _ _ ⟨rfl, rfl⟩
   refine oo 7 ?_; refine ld ?_; refine oo 2 ?_; refine XO.ldS (n := a) (fl := insC) (l := I) Tryz.isAgg65 Tryz.sizeOf65 (Sees.rsH _) x1 ?_ (hq := fndA)
   refine XO.al Tryz.zeroValue65 fun n1 => ?_
   refine stA ?_; refine oo 5 ?_; refine ld ?_; refine XO.cR Tryz.call162 (isJump_ok) ?_; refine ox 1 ?_; refine X.part 56 rfl (fun h2 => ?_) (fun h2 => ?_)
   · replace h2 := sp h2
     refine xo 4 ?_; refine ld ?_; refine XO.ef (Ef.lit1 (u := I[a].a) I64 Tryz.underlying23 ginfo3 rfl rfl) ?_
     rintro _ _ ⟨gb0, rfl, rfl⟩
     refine XO.ef (Ef.appA (f := I64) (l := T2) (m := [I[a].a]) Tryz.underlying23 ginfo3 rfl rfl rfl fndA ((Sees.lsH _).le fndA) (fun _ => rfl) (by simp only [List.length_append, List.length_cons, List.length_nil]; omega) (by simp only [List.length_append, List.length_cons, List.length_nil]; omega)) ?_
     rintro _ _ ⟨at0, ct0, rfl, rfl⟩
     refine oo 5 ?_; refine ld ?_; refine oo 2 ?_; refine XO.sb [65, 4, 6, 5, 2, 0] ?_
     apply XO.cutAnd 4 69 65 rfl
     · intro g3 M3; have h3 := sp g3
       refine oo 1 ?_; refine ld ?_; refine oo 2 ?_; exact XO.fin M3 ⟨andT g3, subB⟩
     · intro g3 M3; have h3 := sp g3
       refine oo 4 ?_; exact XO.fin M3 ⟨andF g3, subB⟩
     refine ox 1 ?_; refine X.sb [69, 4, 5, 2, 0] ?_; refine X.part 69 rfl (fun h3 => ?_) (fun h3 => ?_)
     · replace h3 := sp h3
       refine xo 5 ?_; refine XO.ef (Ef.lit1 (u := (a : Int) + 1) I64 Tryz.underlying23 ginfo3 rfl rfl) ?_
       rintro _ _ ⟨gb1, rfl, rfl⟩
       refine XO.ef (Ef.appA (f := I64) (l := T2 ++ [I[a].a]) (m := [(a : Int) + 1]) Tryz.underlying23 ginfo3 rfl rfl rfl fndA ((Sees.lsH _).le fndA) (fun _ => rfl) (by simp only [List.length_append, List.length_cons, List.length_nil]; omega) (by simp only [List.length_append, List.length_cons, List.length_nil]; omega)) ?_
       rintro _ _ ⟨at1, ct1, rfl, rfl⟩
       refine ox 3 ?_
       have hga : out.getD a false = out[a] := getD_lt' hao
       have hgi : I.getD a zInT = I[a] := getD_lt' x1; have hM := PI.mark hb hV hP; rw [Int.toNat_natCast, hgi] at hM
       have hpu : pushS I[a] a = [I[a].a, (a : Int) + 1] := (by unfold pushS jm; rw [if_pos (decide_eq_true (by omega))]; rw [if_pos (by omega)]; rfl)
       have hcnt := cnt_off hao (by rw [hga]; simpa using h1); rw [hpu] at hM; have hel : ([I[a].a, (a : Int) + 1] : List Int).length ≤ 2 := (by simp)
       rw [show T2 ++ [I[a].a, (a : Int) + 1] = T2 ++ [I[a].a] ++ [(a : Int) + 1] by simp] at hM
       refine X.at (ih (out.set a false, T2 ++ [I[a].a] ++ [(a : Int) + 1], at1, ct1) ⟨hM, by dsimp only; simp only [List.length_append, List.length_cons, List.length_nil] at *; omega⟩ (by dsimp only; simp only [List.length_append, List.length_cons, List.length_nil] at *; omega)) subA leA
     replace h3 := sp h3
     refine xx 3 ?_
     have hga : out.getD a false = out[a] := getD_lt' hao
     have hgi : I.getD a zInT = I[a] := getD_lt' x1; have hM := PI.mark hb hV hP; rw [Int.toNat_natCast, hgi] at hM
     have hpu : pushS I[a] a = [I[a].a] := (by unfold pushS jm; rw [if_pos (decide_eq_true (by omega))]; rw [if_neg (by omega)]; rfl)
     have hcnt := cnt_off hao (by rw [hga]; simpa using h1); rw [hpu] at hM; have hel : ([I[a].a] : List Int).length ≤ 2 := (by simp)
     refine X.at (ih (out.set a false, T2 ++ [I[a].a], at0, ct0) ⟨hM, by dsimp only; simp only [List.length_append, List.length_cons, List.length_nil] at *; omega⟩ (by dsimp only; simp only [List.length_append, List.length_cons, List.length_nil] at *; omega)) subA leA
   replace h2 := sp h2
   refine xo 5 ?_; refine ld ?_; refine oo 2 ?_; refine XO.sb [65, 6, 4, 5, 2, 0] ?_
   apply XO.cutAnd 4 69 65 rfl
   · intro g3 M3; have h3 := sp g3
     refine oo 1 ?_; refine ld ?_; refine oo 2 ?_; exact XO.fin M3 ⟨andT g3, subB⟩
   · intro g3 M3; have h3 := sp g3
     refine oo 4 ?_; exact XO.fin M3 ⟨andF g3, subB⟩
   refine ox 1 ?_; refine X.sb [69, 4, 5, 2, 0] ?_; refine X.part 69 rfl (fun h3 => ?_) (fun h3 => ?_)
   · replace h3 := sp h3
     refine xo 5 ?_; refine XO.ef (Ef.lit1 (u := (a : Int) + 1) I64 Tryz.underlying23 ginfo3 rfl rfl) ?_
     rintro _ _ ⟨gb0, rfl, rfl⟩
     refine XO.ef (Ef.appA (f := I64) (l := T2) (m := [(a : Int) + 1]) Tryz.underlying23 ginfo3 rfl rfl rfl fndA ((Sees.lsH _).le fndA) (fun _ => rfl) (by simp only [List.length_append, List.length_cons, List.length_nil]; omega) (by simp only [List.length_append, List.length_cons, List.length_nil]; omega)) ?_
     rintro _ _ ⟨at0, ct0, rfl, rfl⟩
     refine ox 3 ?_
     have hga : out.getD a false = out[a] := getD_lt' hao
     have hgi : I.getD a zInT = I[a] := getD_lt' x1; have hM := PI.mark hb hV hP; rw [Int.toNat_natCast, hgi] at hM
     have hpu : pushS I[a] a = [(a : Int) + 1] := (by unfold pushS jm; rw [if_neg (by simp; omega)]; rw [if_pos (by omega)]; rfl)
     have hcnt := cnt_off hao (by rw [hga]; simpa using h1); rw [hpu] at hM; have hel : ([(a : Int) + 1] : List Int).length ≤ 2 := (by simp)
     refine X.at (ih (out.set a false, T2 ++ [(a : Int) + 1], at0, ct0) ⟨hM, by dsimp only; simp only [List.length_append, List.length_cons, List.length_nil] at *; omega⟩ (by dsimp only; simp only [List.length_append, List.length_cons, List.length_nil] at *; omega)) subA leA
   replace h3 := sp h3
   refine xx 3 ?_
   have hga : out.getD a false = out[a] := getD_lt' hao
   have hgi : I.getD a zInT = I[a] := getD_lt' x1; have hM := PI.mark hb hV hP; rw [Int.toNat_natCast, hgi] at hM
   have hpu : pushS I[a] a = [] := (by unfold pushS jm; rw [if_neg (by simp; omega)]; rw [if_neg (by omega)]; rfl)
   have hcnt := cnt_off hao (by rw [hga]; simpa using h1); rw [hpu] at hM; have hel : ([] : List Int).length ≤ 2 := (by simp)
   rw [List.append_nil] at hM
   refine X.at (ih (out.set a false, T2, some ⟨ga, 0, none⟩, tc) ⟨hM, by dsimp only; simp only [List.length_append, List.length_cons, List.length_nil] at *; omega⟩ (by dsimp only; simp only [List.length_append, List.length_cons, List.length_nil] at *; omega)) subA leA
 replace h0 := sp h0; have hT : T = [] := List.eq_nil_of_length_eq_zero (by omega); subst hT; have hov := PI.over hb hP; clear ih
 refine xo 5 ?_; refine XO.know 76 (.slice (some ⟨go, 0, none⟩) out.length I.length) rfl (by rw [hol]) ?_
 refine XO.cX Tryz.call163 leA (takeT_ok (q := lsH Value.bool 4 (some ⟨go, 0, none⟩) I.length (out) :: (q ++ F)) (R := unr I) (o := out) (Sees.lsH _) hol (fun j hj => hov j (by omega)) hA hLn hW hWn h0I hL) ?_
 rintro _ _ ⟨a1, c1, a2, c2, rfl⟩
 refine ox 1 ?_; refine X.fallL (pto nt (.cells [.string nm, .int .i64 lo, .slice a1 (takeI (unr I) I).length c1, .slice a2 (cutS (unr I) 0 L).length c2, .slice wa W.length wc].toArray 123 (0, 0)) :: rsH insC 4 65 a1 c1 (takeI (unr I) I) :: lsH I64 3 a2 c2 (cutS (unr I) 0 L) :: lsH I64 3 wa wc (W.map (nowR (unr I))) :: q) Tryz.func126 (res0 Tryz.results126) ⟨_, rfl, a1, c1, a2, c2, rfl⟩
end
section
variable {G : World} {q : List HP} {a b A : Option Addr} {c d : Nat} {cd : Int} {l : List Ins} {ln : List Int} {o : List Bool}
variable {nt : Nat} {nm : ByteArray} {lo : Int} {ia la wa : Option Addr} {ic lc wc : Nat} {I : List Ins} {L W : List Int}
variable {p1 : Nat}
theorem backF_ok {y : Nat} {J : Nat → HP} {Jf : HP → Prop} (hL : I.length ≤ 65536)
 (hy : ∀ i (h : i < (bwd I).length), CallV Tryz.prog G (.func (.yield y) #[] #[]) (bwd I)[i] (J i :: [pto p1 (.cells [.slice a I.length c].toArray 45 (0, 0)), rsH insC 4 65 a c (I)]) (Ret fun v q => (v = .bool true ∧ q = J (i + 1) :: [pto p1 (.cells [.slice a I.length c].toArray 45 (0, 0)), rsH insC 4 65 a c (I)]) ∨ (v = .bool false ∧ ∃ A, Jf A ∧ q = A :: [pto p1 (.cells [.slice a I.length c].toArray 45 (0, 0)), rsH insC 4 65 a c (I)]))) :
 CallF Tryz.prog G 196 [.func (.yield y) #[] #[], .pointer (some ⟨p1, 0, none⟩)] (J 0 :: [pto p1 (.cells [.slice a I.length c].toArray 45 (0, 0)), rsH insC 4 65 a c (I)]) (Ret fun _ q => q = J (bwd I).length :: [pto p1 (.cells [.slice a I.length c].toArray 45 (0, 0)), rsH insC 4 65 a c (I)] ∨ ∃ A, Jf A ∧ q = A :: [pto p1 (.cells [.slice a I.length c].toArray 45 (0, 0)), rsH insC 4 65 a c (I)]) := by
 refine CallF.of Tryz.func196 Tryz.ntmps196 rfl (fun F cs => ?_)
 have hbl := bwd_len I
 refine xo 2 ?_; refine ld ?_; refine ox 5 ?_; refine X.at (X.loop (fun (s : Nat) => s ≤ I.length) (fun s => [(0, .func (.yield y) #[] #[]), (1, .pointer (some ⟨p1, 0, none⟩)), (3, .int .i64 ((I.length : Int) - 1 - (s : Int)))]) (fun s => J s :: pto p1 (.cells [.slice a I.length c].toArray 45 (0, 0)) :: rsH insC 4 65 a c (I) :: F) (fun s => I.length - s) (fun s hi_ ih => ?_) 0 (Nat.zero_le _)) subA leA
 try dsimp only at hi_ ih ⊢
 obtain hs0 := hi_
 refine xx 6 ?_; refine X.part 8 rfl (fun h0 => ?_) (fun h0 => ?_)
 · replace h0 := sp h0; have hlt : s < I.length := (by omega); obtain ⟨n, hn⟩ : ∃ n, n = I.length - 1 - s := ⟨_, rfl⟩; have hnl : n < I.length := (by omega)
   refine X.rsadr (fl := insC) (l := I) (by omega) (fun g e_ => ?_); subst e_
   have hy1 := hy s (by omega); rw [bwd_at, ← hn, getD_lt' hnl] at hy1
   refine xo 8 ?_; refine ld ?_; refine oo 2 ?_; refine XO.ldS (n := n) (fl := insC) (l := I) Tryz.isAgg65 Tryz.sizeOf65 (Sees.rsH _) hnl ?_ (hq := fndA)
   refine XO.cV hy1 ?_; rintro _ _ (⟨rfl, rfl⟩ | ⟨rfl, A, hA, rfl⟩) _ e_ <;> simp only [ca, na] at e_ <;> subst e_
   · refine XO.pu (Pu.not rfl) ?_; refine ox 1 ?_; refine X.kf 18 ?_; refine xx 8 ?_
     have hstep : (I.length : Int) - 1 - (s : Int) - 1 = (I.length : Int) - 1 - ((s + 1 : Nat) : Int) := (by omega)
     refine X.know 3 (.int .i64 ((I.length : Int) - 1 - ((s + 1 : Nat) : Int))) rfl (by rw [← hstep]) ?_
     refine X.at (ih (s + 1) (by omega) (by omega)) subA leA
   refine XO.pu (Pu.not rfl) ?_; refine ox 1 ?_; refine X.kt 18 ?_; refine xx 1 ?_; refine X.retL (A :: [pto p1 (.cells [.slice (some ⟨g, 0, none⟩) I.length c].toArray 45 (0, 0)), rsH insC 4 65 (some ⟨g, 0, none⟩) c (I)]) Tryz.func196 (res0 Tryz.results196) ⟨_, rfl, .inr ⟨A, hA, rfl⟩⟩
 replace h0 := sp h0; obtain rfl : s = I.length := by omega
 refine xx 2 ?_; refine X.fallL (J I.length :: [pto p1 (.cells [.slice a I.length c].toArray 45 (0, 0)), rsH insC 4 65 a c (I)]) Tryz.func196 (res0 Tryz.results196) ⟨_, rfl, .inl (by rw [hbl])⟩
theorem back_iter (hL : I.length ≤ 65536) : Iter Tryz.prog G (.func (.func 196) [].toArray [.pointer (some ⟨p1, 0, none⟩)].toArray) (bwd I) [pto p1 (.cells [.slice a I.length c].toArray 45 (0, 0)), rsH insC 4 65 a c (I)] := by
 intro y J Jf hy
 exact CallV.c11 Tryz.call196 (backF_ok (G := G) (p1 := p1) (J := J) (Jf := Jf) hL hy)
theorem back_ok  : CallF Tryz.prog G 164 [.slice a I.length c] ([]) (Ret fun v q' => ∃ p1, v = .func (.func 196) [].toArray [.pointer (some ⟨p1, 0, none⟩)].toArray ∧ q' = [pto p1 (.cells [.slice a I.length c].toArray 45 (0, 0))]) := by
 refine CallF.of Tryz.func164 Tryz.ntmps164 rfl (fun F cs => ?_)
 refine xo 2 ?_; refine XO.bx fun n1 => ?_
 refine ox 7 ?_; refine X.retL [pto n1 (.cells [.slice a I.length c].toArray 45 (0, 0))] Tryz.func164 (res1 Tryz.results164 rfl) ⟨_, rfl, n1, rfl, rfl⟩
set_option maxHeartbeats 8000000 in
theorem close_ok (hA : ∀ i ∈ I, jm i = true → 0 ≤ i.a ∧ i.a.toNat < I.length) (hLn : L.length = I.length) (hW : ∀ x ∈ W, x < 0 ∨ x.toNat < I.length) (hWn : W.length ≤ 65536) (h0I : 0 < I.length) (hL : I.length ≤ 65536) : CallF Tryz.prog G 127 [.pointer (some ⟨nt, 0, none⟩)] (pto nt (.cells [.string nm, .int .i64 lo, .slice ia I.length ic, .slice la L.length lc, .slice wa W.length wc].toArray 123 (0, 0)) :: rsH insC 4 65 ia ic (I) :: lsH I64 3 la lc (L) :: lsH I64 3 wa wc (W) :: q) (Ret fun v q' => ∃ a1 c1 a2 c2, q' = pto nt (.cells [.string nm, .int .i64 lo, .slice a1 (takeI (cl I) I).length c1, .slice a2 (cutS (cl I) 0 L).length c2, .slice wa W.length wc].toArray 123 (0, 0)) :: rsH insC 4 65 a1 c1 (takeI (cl I) I) :: lsH I64 3 a2 c2 (cutS (cl I) 0 L) :: lsH I64 3 wa wc (W.map (nowR (cl I))) :: q) := by
 refine CallF.of Tryz.func127 Tryz.ntmps127 rfl (fun F cs => ?_)
 refine X.rsadr (fl := insC) (l := I) h0I (fun g e_ => ?_); subst e_
 refine xo 6 ?_; refine ld ?_; refine oo 6 ?_; refine XO.ef (Ef.make (n := I.length) rfl rfl Tryz.underlying98 ginfo4 rfl rfl (by omega) (by omega)) ?_
 rintro _ _ ⟨go, rfl, rfl⟩
 refine XO.le (q' := lsH Value.bool 4 (some ⟨go, 0, none⟩) I.length (outL I 0) :: _) (Le.trans fndA (by rw [show outL I 0 = List.replicate I.length false from rfl, ← ls_made (f := Value.bool) (u := false) rfl]; exact Le.refl _)) ?_
 refine XO.al Tryz.zeroValue98 fun n1 => ?_
 refine st ?_; refine oo 5 ?_; refine XO.know 16 (.int .i64 ((I.length + 1 : Nat) : Int)) rfl (rfl) ?_; refine XO.ef (Ef.make (n := I.length + 1) rfl rfl Tryz.underlying23 ginfo3 rfl rfl (by omega) (by omega)) ?_
 rintro _ _ ⟨gl, rfl, rfl⟩
 refine XO.le (q' := lsH I64 3 (some ⟨gl, 0, none⟩) (I.length + 1) (List.replicate (I.length + 1) 0) :: _) (Le.trans fndA (by rw [← ls_made (f := I64) (u := 0) rfl]; exact Le.refl _)) ?_
 refine XO.al Tryz.zeroValue23 fun n2 => ?_
 refine st ?_; refine oo 3 ?_; refine ld ?_; refine oo 3 ?_; refine XO.ef0 (Ef.setL (f := I64) (l := List.replicate (I.length + 1) 0) (n := I.length) (u := (I.length : Int)) rfl rfl Tryz.sizeOf3 rfl (by simp) rfl rfl fndA) ?_
 rintro _ _ ⟨rfl, rfl⟩
 refine oo 8 ?_; refine ld ?_; refine XO.cF Tryz.call164 (back_ok (I := I)) ?_
 rintro _ _ ⟨p1, rfl, rfl⟩ _ e_; simp only [ca, na] at e_; subst e_
 refine ox 2 ?_; refine X.sb [27, 4, 3, 0] ?_
 have hbl := bwd_len I; refine X.range [pto p1 (.cells [.slice (some ⟨g, 0, none⟩) I.length ic].toArray 45 (0, 0)), rsH insC 4 65 (some ⟨g, 0, none⟩) ic (I)] (fun k => lsH Value.bool 4 (some ⟨go, 0, none⟩) I.length (outL I (k)) :: lsH I64 3 (some ⟨gl, 0, none⟩) (I.length + 1) (leftL I (k)) :: pto n1 (.cells [.slice (some ⟨go, 0, none⟩) I.length I.length].toArray 98 (0, 0)) :: pto n2 (.cells [.slice (some ⟨gl, 0, none⟩) (I.length + 1) (I.length + 1)].toArray 23 (0, 0)) :: [pto nt (.cells [.string nm, .int .i64 lo, .slice (some ⟨g, 0, none⟩) I.length ic, .slice la L.length lc, .slice wa W.length wc].toArray 123 (0, 0))]) (fun e qs => False) (F := lsH I64 3 la lc (L) :: lsH I64 3 wa wc (W) :: (q ++ F)) (back_iter hL) rfl ?_ (by intro x hx; obtain ⟨k, hk, rfl⟩ := List.getElem_of_mem hx; rw [bwd_at]; rfl) rfl (by rw [Tryz.func127]; rfl) rfl (fun i hi l2 rec F0 cs0 => ?_) (fun r => ?_) (fun r c2 qs2 hJ => hJ.elim)
 · simp only [ca, na]; exact leA
 · have hi' : i < I.length := (by omega); rw [bwd_at]
   simp only [zipP]
   refine X.sb [29, 28, 27, 4, 3, 0] ?_
   simp only [ca, na]
   obtain ⟨n, hn⟩ : ∃ n, n = I.length - 1 - i := ⟨_, rfl⟩; have hnl : n < I.length := (by omega); rw [← hn, getD_lt' hnl]; have hni : (I.length : Int) - 1 - (i : Int) = (n : Int) := (by omega); rw [hni]
   have hq := leftL_q I (k := i) (by omega); rw [show I.length - i = n + 1 by omega] at hq; have hct := cl_test hq hnl (by rw [getD_lt' hnl]; exact hA _ (List.getElem_mem hnl)); rw [getD_lt' hnl] at hct; have hll := hq.1; have hol := outL_len I i
   have hout : outL I (i + 1) = if cl I n = true then (outL I i).set n true else outL I i := (by rw [hn]; rfl); have hlef : leftL I (i + 1) = (leftL I i).set n (if cl I n = true then (leftL I i).getD (n + 1) 0 else (n : Int)) := (by rw [hn]; rfl)
   have hl1 : ((leftL I i).set n (n : Int)).length = I.length + 1 := (by rw [List.length_set]; exact hll); have hx1 : n + 1 < ((leftL I i).set n (n : Int)).length := (by omega); have hg1 : ((leftL I i).set n (n : Int))[n + 1] = (leftL I i).getD (n + 1) 0 := (by rw [List.getElem_set_ne (by omega)]; exact (getD_lt' (by omega)).symm)
   refine xo 5 ?_; refine XO.al Tryz.zeroValue65 fun n3 => ?_
   refine stA ?_; refine ox 1 ?_; refine X.beginRound rfl leA ?_; refine xo 3 ?_; refine ld ?_; refine oo 3 ?_; refine XO.ef0 (Ef.setL (f := I64) (l := leftL I i) (n := n) (u := (n : Int)) rfl rfl Tryz.sizeOf3 rfl (by omega) rfl rfl fndA) ?_
   rintro _ _ ⟨rfl, rfl⟩
   refine ox 2 ?_; refine drw ?_; refine dd [0] ?_; refine ldD 1 ?_; refine dd [2, 3] ?_; refine XD.part 37 rfl (fun k1 => ?_) (fun k1 => ?_)
   · replace k1 := sp k1
     refine dd [4] ?_; refine ldD 5 ?_; refine dd [6, 7, 8, 9] ?_; refine XD.part 43 rfl (fun k2 => ?_) (fun k2 => ?_)
     · replace k2 := sp k2
       refine ldD 10 ?_; refine dd [11] ?_; refine ldD 12 ?_; obtain ⟨hA0, hA1⟩ := hA _ (List.getElem_mem hnl) (by unfold jm; rw [show I[n].c = 19 by omega]; decide); have hxA : I[n].a.toNat < ((leftL I i).set n (n : Int)).length := (by omega); have hgA : ((leftL I i).set n (n : Int))[I[n].a.toNat] = (leftL I i).getD I[n].a.toNat 0 := (by rw [List.getElem_set_ne (by omega)]; exact (getD_lt' (by omega)).symm)
       refine dd [13] ?_; refine ldD 14 ?_ (hc := (Cl.e1 (Sees.lsH _) fndA hxA (by omega)))
       refine XD.know 48 (.int .i64 ((leftL I i).getD I[n].a.toNat 0)) rfl (by rw [hgA]) ?_
       refine ldD 15 ?_; refine dd [16, 17, 18] ?_; refine ldD 19 ?_ (hc := (Cl.e1 (Sees.lsH _) fndA hx1 (by omega)))
       refine XD.know 53 (.int .i64 ((leftL I i).getD (n + 1) 0)) rfl (by rw [hg1]) ?_
       refine dd [20, 21] ?_; refine XD.nil ?_; refine X.part 55 rfl (fun k3 => ?_) (fun k3 => ?_)
       · replace k3 := sp k3
         refine xx 1 ?_; refine X.sb [5, 4, 3] ?_; refine drw ?_; refine ldD 0 ?_; refine dd [1] ?_; refine ldD 2 ?_; refine dd [3] ?_; refine ldD 4 ?_; refine dd [5, 6, 7] ?_; refine ldD 8 ?_ (hc := (Cl.e1 (Sees.lsH _) fndA hx1 (by omega)))
         refine XD.know 64 (.int .i64 ((leftL I i).getD (n + 1) 0)) rfl (by rw [hg1]) ?_
         refine dd [9] ?_; refine XD.ef0 10 rfl (Ef.setL (f := Value.bool) (l := outL I i) (n := n) (u := true) rfl rfl Tryz.sizeOf4 rfl (by omega) rfl rfl fndA) ?_
         rintro _ _ ⟨rfl, rfl⟩
         refine ⟨hlA, ?_⟩
         refine dd [11] ?_; refine XD.ef0 12 rfl (Ef.setL (f := I64) (l := ((leftL I i).set n (n : Int))) (n := n) (u := (leftL I i).getD (n + 1) 0) rfl rfl Tryz.sizeOf3 rfl (by omega) rfl rfl fndA) ?_
         rintro _ _ ⟨rfl, rfl⟩
         refine ⟨trivial, ?_⟩
         refine XD.nil ?_; refine xx 1 ?_
         have hcl : cl I n = true := hct.2 ⟨by omega, by omega, by omega⟩; rw [if_pos hcl] at hout hlef
         refine X.fall ⟨rfl, rfl, ?_⟩
         simp only [ca, na]; rw [hout, hlef]; simp only [List.set_set]; exact leA
       replace k3 := sp k3
       refine xx 3 ?_; refine X.sb [] ?_
       have hcl : ¬ cl I n = true := (fun e => by have := hct.1 e; omega); rw [if_neg hcl] at hout hlef
       refine X.fall ⟨rfl, rfl, ?_⟩
       simp only [ca, na]; rw [hout, hlef]; exact leA
     replace k2 := sp k2
     refine dd [10, 11, 12, 13, 14, 15, 16, 17, 18, 19, 20, 21] ?_; refine XD.nil ?_; refine xx 3 ?_; refine X.sb [] ?_
     have hcl : ¬ cl I n = true := (fun e => by have := hct.1 e; omega); rw [if_neg hcl] at hout hlef
     refine X.fall ⟨rfl, rfl, ?_⟩
     simp only [ca, na]; rw [hout, hlef]; exact leA
   replace k1 := sp k1
   refine dd [4, 5, 6, 7, 8, 9, 10, 11, 12, 13, 14, 15, 16, 17, 18, 19, 20, 21] ?_; refine XD.nil ?_; refine xx 3 ?_; refine X.sb [] ?_
   have hcl : ¬ cl I n = true := (fun e => by have := hct.1 e; omega); rw [if_neg hcl] at hout hlef
   refine X.fall ⟨rfl, rfl, ?_⟩
   simp only [ca, na]; rw [hout, hlef]; exact leA
 simp only [ca, na]; rw [hbl]; have hol := outL_len I I.length
 refine xo 3 ?_; refine ld ?_; refine XO.know 68 (.slice (some ⟨go, 0, none⟩) (outL I I.length).length I.length) rfl (by rw [hol]) ?_
 refine XO.cF Tryz.call163 (takeT_ok (q := [lsH Value.bool 4 (some ⟨go, 0, none⟩) I.length (outL I I.length)]) (R := cl I) (o := outL I I.length) (Sees.lsH _) hol (fun j hj => by rw [outL_at (by omega) (Nat.le_refl _), decide_eq_true (by omega), Bool.true_and]) hA hLn hW hWn h0I hL) ?_
 rintro _ _ ⟨a1, c1, a2, c2, rfl⟩ _ e_; simp only [ca, na] at e_; subst e_
 refine ox 1 ?_; refine X.fall ⟨rfl, Lv.marks ?_⟩
 exact Lv.ret (q' := pto nt (.cells [.string nm, .int .i64 lo, .slice a1 (takeI (cl I) I).length c1, .slice a2 (cutS (cl I) 0 L).length c2, .slice wa W.length wc].toArray 123 (0, 0)) :: rsH insC 4 65 a1 c1 (takeI (cl I) I) :: lsH I64 3 a2 c2 (cutS (cl I) 0 L) :: lsH I64 3 wa wc (W.map (nowR (cl I))) :: q) Tryz.func127 (res0 Tryz.results127) ⟨_, rfl, a1, c1, a2, c2, rfl⟩ leA
end
structure ThOk (t : Cod) : Prop where
 a : ∀ i ∈ t.ins, jm i = true → 0 ≤ i.a ∧ i.a.toNat < t.ins.length
 b : ∀ i ∈ t.ins, 0 ≤ i.a
 ln : t.lines.length = t.ins.length
 n : t.ins.length ≤ 65536
 s : ∃ D, Snd t.ins D
section
variable {l : List Ins} {D : Nat → Int}
theorem leadS_lt (hA : ∀ i ∈ l, jm i = true → 0 ≤ i.a ∧ i.a.toNat < l.length) {a : Nat} (ha : a < l.length) : leadS l a < l.length := by
 unfold leadS
 cases e : led l (l.length + 1) a with
 | none => exact ha
 | some j => exact led_lt (fun i hi hc => (hA i hi (by unfold jm; rw [hc]; decide)).2) ha e
theorem stra_A (hA : ∀ i ∈ l, jm i = true → 0 ≤ i.a ∧ i.a.toNat < l.length) : ∀ i ∈ straS l, jm i = true → 0 ≤ i.a ∧ i.a.toNat < (straS l).length := by
 intro i hi hj
 obtain ⟨x, hx, rfl⟩ := List.mem_map.1 hi
 rw [mv_jm] at hj
 rw [straS_len]
 unfold Ins.mv
 rw [if_pos hj]
 exact ⟨Int.natCast_nonneg _, by simp only [Int.toNat_natCast]; exact leadS_lt hA (hA x hx hj).2⟩
theorem stra_b (hb : ∀ i ∈ l, 0 ≤ i.a) : ∀ i ∈ straS l, 0 ≤ i.a := by
 intro i hi
 obtain ⟨x, hx, rfl⟩ := List.mem_map.1 hi
 unfold Ins.mv
 split
 · exact Int.natCast_nonneg _
 exact hb x hx
theorem nxt_jm {i : Ins} (hj : jm i = true) (a : Int) : i.a ∈ nxt i a := by
 have hc : 19 ≤ i.c ∧ i.c ≤ 21 := by unfold jm at hj; simpa using hj
 unfold nxt
 rw [if_neg (by omega)]
 split
 · exact List.mem_singleton_self _
 rw [if_pos (by omega)]; split <;> simp
theorem prI_len (l : List Ins) : (prI l).length = kb (unr (straS l)) l.length := by unfold prI; rw [takeI_len, straS_len]
theorem pri_A (h : Snd (straS l) D) (hb : ∀ i ∈ straS l, 0 ≤ i.a) : ∀ i ∈ prI l, jm i = true → 0 ≤ i.a ∧ i.a.toNat < (prI l).length := by
 intro i hi hj
 obtain ⟨k, hk, rfl⟩ := List.getElem_of_mem hi
 have hk2 := hk
 rw [prI_len] at hk2
 obtain ⟨p, hp, hr, rfl⟩ := kb_onto hk2
 have hx : (prI l).getD (kb (unr (straS l)) p) zInT = ((straS l).getD p zInT).mv (kb (unr (straS l))) := takeI_at (by rw [straS_len]; exact hp) hr
 rw [getD_lt' hk] at hx
 rw [hx] at hj ⊢
 rw [mv_jm] at hj
 have hR := (unr_iff hb p).1 hr
 have hnx := nxt_jm hj (p : Int)
 obtain ⟨i0, i1⟩ := h.in hR _ hnx
 have hra : Rch (straS l) ((straS l).getD p zInT).a.toNat := .step hR hnx i0 (by omega)
 have hua := (unr_iff hb _).2 hra
 unfold Ins.mv
 rw [if_pos hj, prI_len]
 refine ⟨Int.natCast_nonneg _, ?_⟩
 simp only [Int.toNat_natCast]
 rw [straS_len] at i1
 exact kb_lt hua (by omega)
theorem pri_pos (h : Snd (straS l) D) (hb : ∀ i ∈ straS l, 0 ≤ i.a) : 0 < (prI l).length := by
 have hz := (unr_iff hb 0).2 (.zero h.pos)
 have hp := h.pos
 rw [straS_len] at hp
 rw [prI_len]
 have := kb_lt hz hp
 omega
theorem nowR_lt {R : Nat → Bool} {n : Nat} {W : List Int} (hW : ∀ x ∈ W, x < 0 ∨ x.toNat < n) : ∀ x ∈ W.map (nowR R), x < 0 ∨ x.toNat < kb R n := by
 intro x hx
 obtain ⟨y, hy, rfl⟩ := List.mem_map.1 hx
 unfold nowR
 split
 · rename_i h; exact .inl h
 rename_i h
 split
 · left; decide
 rename_i h2
 right
 rw [Int.toNat_natCast]
 have h3 := hW y hy
 exact kb_lt (by simpa using h2) (by omega)
end
theorem ThOk.of {m : Mdl} {t : Cod} (h : vchk m = 0) (ht : t ∈ m.threads) : ThOk t := by
 obtain ⟨h0, h1⟩ := vchkZ h
 obtain ⟨hin, hn⟩ := mdlOk_thr h0 ht
 have hd := h1 t ht
 have hok := (mchk_iff.1 h0).2.2.2.2.2.2 t ht
 have hb : ∀ i ∈ t.ins, 0 ≤ i.a := fun i hi => by
  have := (hin i hi).2.1
  split at this <;> omega
 refine ⟨fun i hi hj => ?_, hb, by have := hok.2.2.1; omega, hn, _, Snd.of hin hd⟩
 have hsl : ∀ x ∈ t.ins, slotOk m t x := by
  unfold dOf at hd
  split at hd
  · exact absurd hd (by decide)
  split at hd
  · exact absurd hd (by decide)
  rename_i k; exact Decidable.not_not.1 k
 have hc : 19 ≤ i.c ∧ i.c ≤ 21 := by unfold jm at hj; simpa using hj
 have := (hsl i hi).1 t.ins.length (by unfold cntOf; rw [if_neg (by omega), if_neg (by omega), if_neg (by omega), if_pos (by omega)])
 have := hb i hi
 exact ⟨this, by omega⟩
theorem Le.ptoEq {A B : HP} (e : A = B) (q : List HP) : Le (A :: q) (B :: q) := by subst e; exact Le.refl _
theorem range_eq {D : List Int} {n : Nat} (h : D.length = n) (h2 : ∀ i, i < n → D.getD i 0 = (i : Int)) : D = (List.range n).map (fun (i : Nat) => (i : Int)) := by
 refine List.ext_getElem (by simp [h]) (fun i h1 h3 => ?_)
 rw [← getD_lt' (z := 0) h1, h2 i (by omega)]; simp
section
variable {G : World} {q : List HP} {a b A : Option Addr} {c d : Nat} {cd : Int} {l : List Ins} {ln : List Int} {o : List Bool}
variable {nt : Nat} {nm : ByteArray} {lo : Int} {ia la wa : Option Addr} {ic lc wc : Nat} {I : List Ins} {L W : List Int}
variable {t : Cod}
def stpL : List Value := [.func (.func 125) #[] #[], .func (.func 126) #[] #[], .func (.func 127) #[] #[]]
theorem steps_ok  : CallF Tryz.prog G 81 [] ([]) (Ret fun v q' => v = .agg stpL.toArray ∧ q' = []) := by
 refine CallF.of Tryz.func81 Tryz.ntmps81 rfl (fun F cs => ?_)
 refine xo 2 ?_; refine XO.al Tryz.zeroValue162 fun n1 => ?_
 refine oo 3 ?_; refine XO.pu (Pu.buildA (cells := stpL.toArray) Tryz.zeroValue162 Tryz.underlying162 Tryz.sizeOf161 rfl (by kernel_rfl)) ?_
 refine stA ?_; refine ox 1 ?_; refine X.retL [] Tryz.func81 (resC1 Tryz.results81 (ResOk.cell rfl (LV.agg Tryz.isAgg162 Tryz.sizeOf162 hasA rfl) ResOk.nil)) ⟨_, rfl, rfl, rfl⟩
set_option maxHeartbeats 8000000 in
theorem tight_ok (hq : CodQ q t) (hT : ThOk t) : CallF Tryz.prog G 53 [.agg (codC t).toArray] (q) (Ret fun v q' => ∃ nt a1 c1 a2 c2 a3 c3, v = .pointer (some ⟨nt, 0, none⟩) ∧ q' = pto nt (.cells [.string t.name, .int .i64 t.locals, .slice a1 (tiI t.ins).length c1, .slice a2 (tiL t.ins t.lines).length c2, .slice a3 (nowsS t.ins).length c3].toArray 123 (0, 0)) :: rsH insC 4 65 a1 c1 (tiI t.ins) :: lsH I64 3 a2 c2 (tiL t.ins t.lines) :: lsH I64 3 a3 c3 (nowsS t.ins) :: q) := by
 refine CallF.of Tryz.func53 Tryz.ntmps53 rfl (fun F cs => ?_)
 obtain ⟨hA, hb, hln, hn, D, hD⟩ := hT; have hp := hD.pos; have hsd := hD.stra (fun i hi _ => hb i hi); have hsA := stra_A hA; have hsb := stra_b hb; have hpA := pri_A hsd hsb; have hpp := pri_pos hsd hsb; have hsl := straS_len t.ins; have hpl := prI_len t.ins; have hkl := kb_le (unr (straS t.ins)) t.ins.length; have hlen := flatMap_len (f := insC) (sz := 4) (fun _ => rfl) t.ins; have hsi := hq.i; have hsl2 := hq.l
 refine xo 2 ?_; refine XO.bx fun n1 => ?_
 refine ox 3 ?_; refine drw ?_; refine ldAD 0 ?_; refine dd [1] ?_; refine ldD 2 ?_; refine dd [3] ?_; refine XD.ef 4 rfl (Ef.make (n := t.ins.length) rfl rfl Tryz.underlying23 ginfo3 rfl rfl (by omega) (by omega)) ?_
 rintro _ _ ⟨gw, rfl, rfl⟩
 refine ⟨hlA, ?_⟩
 refine XD.le (q' := lsH I64 3 (some ⟨gw, 0, none⟩) t.ins.length (List.replicate t.ins.length 0) :: _) (Le.trans fndA (by rw [← ls_made (f := I64) (u := 0) rfl]; exact Le.refl _)) ?_
 refine dd [5] ?_; refine XD.bx 6 (fun n2 => ?_)
 refine dd [7] ?_; refine XD.nil ?_; refine xx 1 ?_; refine drw ?_; refine dd [0, 1, 2] ?_; refine ldD 3 ?_; refine dd [5] ?_; refine ldD 6 ?_; refine XD.cX 4 Tryz.call80 (Le.refl _) (cloneIns_ok (m := t.ins) (hsi.le leA) (by omega)) ?_
 rintro _ _ ⟨a1, c1, rfl, rfl⟩
 refine ⟨hlA, ?_⟩
 refine XD.cX 7 Tryz.call52 (Le.refl _) (cloneint_ok (m := t.lines) (hsl2.le leA) (by omega)) ?_
 rintro _ _ ⟨a2, c2, rfl, rfl⟩
 refine ⟨trivial, ?_⟩
 refine dd [8, 9, 10] ?_; refine stD 11 ?_; refine dd [12, 13, 14] ?_; refine stD 15 ?_; refine XD.nil ?_; refine xo 6 ?_; refine ld ?_; refine ox 4 ?_; refine X.at (X.loop (fun (s : List Int × Nat) => s.1.length = t.ins.length ∧ s.2 ≤ t.ins.length ∧ ∀ i, i < s.2 → s.1.getD i 0 = (i : Int)) (fun s => [(33, .int .i64 (s.2 : Int)), (32, .int .i64 (t.ins.length : Int)), (3, .pointer (some ⟨n2, 0, none⟩)), (2, .pointer none)]) (fun s => lsH I64 3 (some ⟨gw, 0, none⟩) t.ins.length (s.1) :: pto n2 (.cells [.string t.name, .int .i64 t.locals, .slice a1 t.ins.length c1, .slice a2 t.lines.length c2, .slice (some ⟨gw, 0, none⟩) t.ins.length t.ins.length].toArray 123 (0, 0)) :: rsH insC 4 65 a1 c1 (t.ins) :: lsH I64 3 a2 c2 (t.lines) :: pto n1 (.cells (codC t).toArray 47 (0, 0)) :: (q ++ F)) (fun s => t.ins.length - s.2) (fun s hi_ ih => ?_) (List.replicate t.ins.length 0, 0) ⟨by simp, Nat.zero_le _, fun i h => absurd h (Nat.not_lt_zero i)⟩) subA leA
 try dsimp only at hi_ ih ⊢
 obtain ⟨hl1, hl2, hl3⟩ := hi_
 obtain ⟨W, s⟩ := s; dsimp only at *
 refine xx 5 ?_; refine X.part 34 rfl (fun h0 => ?_) (fun h0 => ?_)
 · replace h0 := sp h0; have hlt : s < W.length := (by omega)
   refine xo 13 ?_; refine ld ?_; refine oo 3 ?_; refine XO.ef0 (Ef.setL (f := I64) (l := W) (n := s) (u := (s : Int)) rfl rfl Tryz.sizeOf3 rfl hlt rfl rfl fndA) ?_
   rintro _ _ ⟨rfl, rfl⟩
   refine ox 6 ?_; refine X.at (ih (W.set s (s : Int), s + 1) ⟨by rw [List.length_set]; exact hl1, by dsimp only; omega, fun i hi => by dsimp only at hi ⊢; rw [getD_setI hlt]; split; (rename_i e; rw [e]); exact hl3 i (by omega)⟩ (by dsimp only; omega)) subA leA
 replace h0 := sp h0; have hW : W = (List.range t.ins.length).map (fun (i : Nat) => (i : Int)) := range_eq hl1 (fun i hi => hl3 i (by omega)); clear hl2 hl3 ih h0
 have hWl : W.length = t.ins.length := hl1; have hWr : ∀ x ∈ W, x < 0 ∨ x.toNat < (straS t.ins).length := (fun x hx => by rw [hW] at hx; obtain ⟨i, hi, rfl⟩ := List.mem_map.1 hx; right; have := List.mem_range.1 hi; omega)
 refine xo 5 ?_; refine XO.cF Tryz.call81 (steps_ok) ?_; rintro _ _ ⟨rfl, rfl⟩ _ e_; simp only [ca, na] at e_; subst e_
 refine ox 3 ?_; refine X.loop1 ?_; refine xx 5 ?_; refine X.kt 46 ?_; refine xo 6 ?_; refine XO.pu (Pu.indexA (v := .func (.func 125) #[] #[]) rfl rfl Tryz.underlying162 Tryz.sizeOf161 Tryz.isAgg161 (by omega) (by omega) rfl) ?_
 refine oo 5 ?_; refine XO.le (Le.trans fndA (Le.ptoEq (A := pto n2 (.cells [.string t.name, .int .i64 t.locals, .slice a1 t.ins.length c1, .slice a2 t.lines.length c2, .slice (some ⟨gw, 0, none⟩) t.ins.length t.ins.length].toArray 123 (0, 0))) (B := pto n2 (.cells [.string t.name, .int .i64 t.locals, .slice a1 t.ins.length c1, .slice a2 t.lines.length c2, .slice (some ⟨gw, 0, none⟩) W.length t.ins.length].toArray 123 (0, 0))) (by rw [hWl]) _)) ?_
 refine XO.cV (CallV.c10 Tryz.call125 (straighten_ok (ia := a1) (ic := c1) (la := a2) (lc := c2) (wa := some ⟨gw, 0, none⟩) (wc := t.ins.length) (I := t.ins) (L := t.lines) (W := W) (q := []) hA (by omega) hn)) ?_
 rintro _ _ rfl _ e_; simp only [ca, na] at e_; subst e_
 refine ox 6 ?_; refine X.inLoop ?_; refine xx 5 ?_; refine X.kt 46 ?_; refine xo 6 ?_; refine XO.pu (Pu.indexA (v := .func (.func 126) #[] #[]) rfl rfl Tryz.underlying162 Tryz.sizeOf161 Tryz.isAgg161 (by omega) (by omega) rfl) ?_
 refine oo 5 ?_; refine XO.le (Le.trans fndA (Le.ptoEq (A := pto n2 (.cells [.string t.name, .int .i64 t.locals, .slice a1 t.ins.length c1, .slice a2 t.lines.length c2, .slice (some ⟨gw, 0, none⟩) W.length t.ins.length].toArray 123 (0, 0))) (B := pto n2 (.cells [.string t.name, .int .i64 t.locals, .slice a1 (straS t.ins).length c1, .slice a2 t.lines.length c2, .slice (some ⟨gw, 0, none⟩) W.length t.ins.length].toArray 123 (0, 0))) (by rw [hsl]) _)) ?_
 refine XO.cV (CallV.c10 Tryz.call126 (prune_ok (q := []) (I := straS t.ins) (L := t.lines) (W := W) (ia := a1) (ic := c1) (la := a2) (lc := c2) (wa := some ⟨gw, 0, none⟩) (wc := t.ins.length) hsA (by omega) hWr (by omega) (by omega) (by omega) hsb (fun j hj y hy => (hsd.in hj y hy).2))) ?_
 rintro _ _ ⟨a3, c3, a4, c4, rfl⟩ _ e_; simp only [ca, na] at e_; subst e_
 refine ox 6 ?_; refine X.sb [45, 44, 3, 2] ?_; refine X.inLoop ?_; refine xx 5 ?_; refine X.kt 46 ?_; refine xo 6 ?_; refine XO.pu (Pu.indexA (v := .func (.func 127) #[] #[]) rfl rfl Tryz.underlying162 Tryz.sizeOf161 Tryz.isAgg161 (by omega) (by omega) rfl) ?_
 refine oo 5 ?_; refine XO.le (Le.trans fndA (Le.ptoEq (A := pto n2 (.cells [.string t.name, .int .i64 t.locals, .slice a3 (prI t.ins).length c3, .slice a4 (cutS (unr (straS t.ins)) 0 t.lines).length c4, .slice (some ⟨gw, 0, none⟩) W.length t.ins.length].toArray 123 (0, 0))) (B := pto n2 (.cells [.string t.name, .int .i64 t.locals, .slice a3 (prI t.ins).length c3, .slice a4 (cutS (unr (straS t.ins)) 0 t.lines).length c4, .slice (some ⟨gw, 0, none⟩) (W.map (nowR (unr (straS t.ins)))).length t.ins.length].toArray 123 (0, 0))) (by rw [List.length_map]) _)) ?_
 refine XO.cV (CallV.c10 Tryz.call127 (close_ok (q := []) (I := prI t.ins) (L := cutS (unr (straS t.ins)) 0 t.lines) (W := W.map (nowR (unr (straS t.ins)))) (ia := a3) (ic := c3) (la := a4) (lc := c4) (wa := some ⟨gw, 0, none⟩) (wc := t.ins.length) hpA (by rw [cutS_len0, hln, hpl]) (by rw [hpl, ← hsl]; exact nowR_lt hWr) (by rw [List.length_map]; omega) hpp (by omega))) ?_
 rintro _ _ ⟨a5, c5, a6, c6, rfl⟩ _ e_; simp only [ca, na] at e_; subst e_
 refine ox 6 ?_; refine X.inLoop ?_; refine xx 5 ?_; refine X.kf 46 ?_; refine xx 7 ?_
 have hnw : (W.map (nowR (unr (straS t.ins)))).map (nowR (cl (prI t.ins))) = nowsS t.ins := (by rw [hW]; exact nows_two t.ins)
 refine X.retL (pto n2 (.cells [.string t.name, .int .i64 t.locals, .slice a5 (tiI t.ins).length c5, .slice a6 (tiL t.ins t.lines).length c6, .slice (some ⟨gw, 0, none⟩) (nowsS t.ins).length t.ins.length].toArray 123 (0, 0)) :: rsH insC 4 65 a5 c5 (tiI t.ins) :: lsH I64 3 a6 c6 (tiL t.ins t.lines) :: lsH I64 3 (some ⟨gw, 0, none⟩) t.ins.length (nowsS t.ins) :: q) Tryz.func53 (res1 Tryz.results53 rfl) ⟨_, rfl, n2, a5, c5, a6, c6, some ⟨gw, 0, none⟩, t.ins.length, rfl, rfl⟩ (by rw [← hnw]; simp only [List.length_map]; exact leA)
end
def CodAt (M : Hp) (x : Cod) : Prop := SlAt M x.ia x.ic x.ins.length (x.ins.flatMap insC) ∧ SlAt M x.la x.lc x.lines.length (x.lines.map I64)
theorem CodAt.mono {M M' : Hp} {x : Cod} (e : Hle M M') (h : CodAt M x) : CodAt M' x := ⟨h.1.mono e, h.2.mono e⟩
def CodsAt (M : Hp) (l : List Cod) : Prop := ∀ x ∈ l, CodAt M x
theorem CodsAt.mono {M M' : Hp} {l : List Cod} (e : Hle M M') (h : CodsAt M l) : CodsAt M' l := fun x hx => (h x hx).mono e
def cosM (l : List Cod) : HP := lst (fun M => CodsAt M l) fun e h => CodsAt.mono e h
structure MdAt (M : Hp) (m : Mdl) : Prop where
 v : SlAt M m.va m.vc m.vars.length (m.vars.map I64)
 a : SlAt M m.aa m.ac m.arrays.length (m.arrays.map I64)
 c : SlAt M m.ca m.cc m.chans.length (m.chans.map I64)
 t : SlAt M m.ta m.tc m.threads.length (m.threads.flatMap codC)
 x : CodsAt M m.threads
theorem MdAt.mono {M M' : Hp} {m : Mdl} (e : Hle M M') (h : MdAt M m) : MdAt M' m := ⟨h.v.mono e, h.a.mono e, h.c.mono e, h.t.mono e, h.x.mono e⟩
def mdM (m : Mdl) : HP := lst (fun M => MdAt M m) fun e h => MdAt.mono e h
def MdB (m : Mdl) : Prop := m.vars.length ≤ 9223372036854775807 ∧ m.arrays.length ≤ 9223372036854775807 ∧ m.chans.length ≤ 9223372036854775807 ∧ m.threads.length ≤ 9223372036854775807 ∧ m.arrays.length ≤ m.ac ∧ ∀ x ∈ m.threads, x.name.size ≤ 9223372036854775807 ∧ x.ins.length ≤ 9223372036854775807 ∧ x.lines.length ≤ 9223372036854775807
theorem Kn.mdl {q : List HP} {m : Mdl} (h : Kn q fun M => MdAt M m) (b : MdB m) : MdlQ q m :=
 ⟨Kn.sees (h.imp fun _ k => k.v.2.2), Kn.sees (h.imp fun _ k => k.a.2.2), Kn.sees (h.imp fun _ k => k.c.2.2), Kn.sees (h.imp fun _ k => k.t.2.2),
  fun x hx => ⟨Kn.sees (h.imp fun _ k => (k.x x hx).1.2.2), Kn.sees (h.imp fun _ k => (k.x x hx).2.2.2), (b.2.2.2.2.2 x hx).1, (b.2.2.2.2.2 x hx).2.1, (b.2.2.2.2.2 x hx).2.2⟩, b.1, b.2.1, b.2.2.1, b.2.2.2.1, b.2.2.2.2.1⟩
def mdZ : Mdl := ⟨[], [], [], 0, 0, [], none, 0, none, 0, none, 0, none, 0⟩
section
variable {P : Program} {G : World} {fr : Fc} {Q : Post} {k : List Item} {p : PE} {ds : List Deferred} {cs : List Frame} {q q0 : List HP} {ops lo : List Oper} {ty sz : Nat} {a : Option Addr} {c : Nat}
theorem X.frzI {todo : List Item} {l : List Int} (K : X P G fr Q todo p ds cs (lst (fun M => SlAt M a c l.length (l.map I64)) SlAt.mono :: q0)) (hq : Le q (Wx.lsH I64 ty a c l :: q0) := by exact fndA) : X P G fr Q todo p ds cs q := by
 unfold Wx.lsH at hq
 exact .frz Kn.here K hq
theorem X.frzC {todo : List Item} {α : Type} {f : α → List Value} {l : List α} (K : X P G fr Q todo p ds cs (lst (fun M => SlAt M a c l.length (l.flatMap f)) SlAt.mono :: q0)) (hq : Le q (Wx.rsH f sz ty a c l :: q0) := by exact fndA) : X P G fr Q todo p ds cs q := .frzR Kn.here K hq
end
theorem Kn.cosnil {q : List HP} : Le q (cosM [] :: q) := Kn.add (fun _ _ _ x hx => by cases hx)
theorem Kn.coscons {q : List HP} {l : List Cod} {x : Cod} (h : Kn q fun M => CodsAt M l) (h1 : Kn q fun M => CodAt M x) : Le q (cosM (l ++ [x]) :: q) :=
 Kn.add ((h.and h1).imp fun M k y hy => by
  rcases List.mem_append.1 hy with hy | hy
  · exact k.1 y hy
  rw [List.mem_singleton.1 hy]; exact k.2)
def Cod.pl (x : Cod) : ByteArray × Int × List Ins × List Int := (x.name, x.locals, x.ins, x.lines)
def tigT (t : Cod) : ByteArray × Int × List Ins × List Int := (t.name, t.locals, tiI t.ins, tiL t.ins t.lines)
structure TigM (m m' : Mdl) : Prop where
 v : m'.vars = m.vars
 a : m'.arrays = m.arrays
 c : m'.chans = m.chans
 mu : m'.mutexes = m.mutexes
 co : m'.conds = m.conds
 t : m'.threads.map Cod.pl = m.threads.map tigT
def savedS (l : List Cod) : Int := (l.map fun t => (t.ins.length : Int) - (tiI t.ins).length).sum
theorem tiI_le (l : List Ins) : (tiI l).length ≤ l.length := by rw [tiI_len]; exact kb_le _ _
theorem savedS_snoc {l : List Cod} {s : Nat} (h : s < l.length) : savedS (l.take (s + 1)) = savedS (l.take s) + ((l[s].ins.length : Int) - (tiI l[s].ins).length) := by
 unfold savedS; rw [List.take_succ_eq_append_getElem h, List.map_append, List.sum_append]; simp
theorem savedS_le : ∀ {l : List Cod} {B : Int}, 0 ≤ B → (∀ t ∈ l, (t.ins.length : Int) ≤ B) → 0 ≤ savedS l ∧ savedS l ≤ l.length * B
 | [], B, hB, _ => by simp [savedS]
 | t :: r, B, hB, h => by
  obtain ⟨h1, h2⟩ := savedS_le (l := r) hB fun x hx => h x (List.mem_cons_of_mem _ hx)
  have h3 := h t (List.mem_cons_self ..)
  have h4 := tiI_le t.ins
  have e : savedS (t :: r) = ((t.ins.length : Int) - (tiI t.ins).length) + savedS r := by simp [savedS]
  rw [e, List.length_cons, Int.natCast_add, Int.add_mul]
  omega
theorem tig_b {q : List HP} {m : Mdl} {T : List Cod} (hq : MdlQ q m) (hok : ∀ x ∈ m.threads, codOk x) (h : T.map Cod.pl = m.threads.map tigT) : ∀ x ∈ T, x.name.size ≤ 9223372036854775807 ∧ x.ins.length ≤ 9223372036854775807 ∧ x.lines.length ≤ 9223372036854775807 := by
 intro x hx
 have h1 : Cod.pl x ∈ m.threads.map tigT := by rw [← h]; exact List.mem_map_of_mem hx
 obtain ⟨t, ht, e⟩ := List.mem_map.1 h1
 have h2 := hq.x t ht
 simp only [Cod.pl, tigT, Prod.mk.injEq] at e
 obtain ⟨e1, e2, e3, e4⟩ := e
 have h3 := tiI_le t.ins
 have h4 : (tiL t.ins t.lines).length ≤ t.lines.length := by rw [tiL_eq]; exact cutS_le _ _
 have h5 := h2.n; have h6 := h2.ni; have h7 := h2.nl
 rw [← e1, ← e3, ← e4]; exact ⟨h5, by omega, by omega⟩
theorem ginfo47 : (Tryz.prog.info? 47).map (fun i => (i.zero, i.size, i.bytes)) = some (some (.agg #[.string ⟨#[]⟩, .int .i64 0, .slice none 0 0, .slice none 0 0]), 4, 72) := by kernel_rfl
section
variable {G : World} {q : List HP} {a b A : Option Addr} {c d : Nat} {cd : Int} {l : List Ins} {ln : List Int} {o : List Bool}
variable {nt : Nat} {nm : ByteArray} {lo : Int} {ia la wa : Option Addr} {ic lc wc : Nat} {I : List Ins} {L W : List Int}
variable {m : Mdl} {th at_ : Int}
set_option maxHeartbeats 8000000 in
theorem Module_ok (gc : GC q) (g : GE q) (hq : MdlQ q m) : CallF Tryz.prog G 24 [.agg (mdlC m).toArray] (q) (Ret fun v q' => (vchk m ≠ 0 ∧ v = .tuple [.agg (mdlC mdZ).toArray, .int .i64 2].toArray ∧ q' = q) ∨ (vchk m = 0 ∧ ∃ m', TigM m m' ∧ MdB m' ∧ v = .tuple [.agg (mdlC m').toArray, .int .i64 0].toArray ∧ q' = mdM m' :: q)) := by
 refine CallF.of Tryz.func24 Tryz.ntmps24 rfl (fun F cs => ?_)
 have hlen := flatMap_len (f := codC) (sz := 4) (fun _ => rfl) m.threads; have hnt := hq.nt
 refine xo 2 ?_; refine XO.bx fun n1 => ?_
 refine XO.al Tryz.zeroValue26 fun n2 => ?_
 refine oo 5 ?_; refine ldA ?_; refine XO.cR Tryz.call28 (VCheck_ok (gc.le leA) (g.le leA) (hq.le leA)) ?_; refine ox 2 ?_; refine X.part 9 rfl (fun h0 => ?_) (fun h0 => ?_)
 · replace h0 := sp h0
   refine xo 4 ?_; refine stA ?_; refine ox 2 ?_; refine X.retL (q) Tryz.func24 (resC Tryz.results24 (ResOk.cell rfl (LV.agg Tryz.isAgg26 Tryz.sizeOf26 hasA rfl) (ResOk.tmp rfl ResOk.nil))) ⟨_, rfl, .inl ⟨h0, rfl, rfl⟩⟩
 replace h0 := sp h0; obtain ⟨hk0, _⟩ := vchkZ h0; have hok := mchk_iff.1 hk0; have hb1 := hok.2.2.1.1; have hb2 := hok.2.2.2.1.1; have hb3 := hok.2.2.2.2.1.1; have hb4 := hok.2.2.2.2.2.1
 refine xo 4 ?_; refine ldA ?_; refine XO.al Tryz.zeroValue26 fun n3 => ?_
 refine stA ?_; refine ox 2 ?_; refine drw ?_; refine dd [0] ?_; refine ldD 1 ?_; refine dd [3] ?_; refine ldD 4 ?_; refine dd [6] ?_; refine ldD 7 ?_; refine XD.cX 2 Tryz.call51 (Le.refl _) (cloneint64_ok (m := m.vars) (hq.v.le leA) (by omega)) ?_
 rintro _ _ ⟨av, cv, rfl, rfl⟩
 refine ⟨hlA, ?_⟩
 refine dd [9] ?_; refine XD.cX 5 Tryz.call52 (Le.refl _) (cloneint_ok (m := m.arrays) (hq.a.le leA) (by omega)) ?_
 rintro _ _ ⟨ar, cr, rfl, rfl⟩
 refine ⟨hlA, ?_⟩
 refine XD.cX 8 Tryz.call52 (Le.refl _) (cloneint_ok (m := m.chans) (hq.c.le leA) (by omega)) ?_
 rintro _ _ ⟨an, cn, rfl, rfl⟩
 refine ⟨trivial, ?_⟩
 refine stD 10 ?_; refine dd [11] ?_; refine stD 12 ?_; refine dd [13] ?_; refine stD 14 ?_; refine XD.nil ?_; refine xo 3 ?_; refine st ?_; refine oo 5 ?_; refine ld ?_; refine ox 4 ?_; refine X.sb [28, 27, 26, 4, 3, 2] ?_; refine X.frzI ?_; refine X.frzI ?_; refine X.frzI ?_; refine X.at (X.loop (fun (s : (List Cod × Nat) × Option Addr × Option Addr × Nat) => s.1.2 ≤ m.threads.length ∧ s.2.1 = m.ta ∧ s.1.1.map Cod.pl = (m.threads.take s.1.2).map tigT) (fun s => [(28, .int .i64 (s.1.2 : Int)), (27, .int .i64 (m.threads.length : Int)), (26, .slice s.2.1 m.threads.length m.tc), (2, .pointer (some ⟨n2, 0, none⟩)), (3, .int .i64 0), (4, .pointer (some ⟨n3, 0, none⟩))]) (fun s => rsH codC 4 47 s.2.2.1 s.2.2.2 (s.1.1) :: cosM s.1.1 :: pto n3 (.cells [.slice av m.vars.length cv, .slice ar m.arrays.length cr, .slice an m.chans.length cn, .int .i64 m.mutexes, .int .i64 m.conds, .slice s.2.2.1 s.1.1.length s.2.2.2].toArray 26 (0, 0)) :: lst (fun M => SlAt M av cv m.vars.length (m.vars.map I64)) SlAt.mono :: lst (fun M => SlAt M ar cr m.arrays.length (m.arrays.map I64)) SlAt.mono :: lst (fun M => SlAt M an cn m.chans.length (m.chans.map I64)) SlAt.mono :: pto n1 (.cells (mdlC m).toArray 26 (0, 0)) :: pto n2 (.cells [.slice none 0 0, .slice none 0 0, .slice none 0 0, .int .i64 0, .int .i64 0, .slice none 0 0].toArray 26 (0, 0)) :: (q ++ F)) (fun s => m.threads.length - s.1.2) (fun s hi_ ih => ?_) (([], 0), m.ta, none, 0) ⟨Nat.zero_le _, rfl, rfl⟩) subA (Le.trans leA (Le.trans Kn.cosnil (Le.rsH_nil codC 4 47 _)))
 try dsimp only at hi_ ih ⊢
 obtain ⟨hs0, hta, hmp⟩ := hi_
 obtain ⟨⟨T, s⟩, ta, a', c'⟩ := s; dsimp only at *; have hTl : T.length = s := by have := congrArg List.length hmp; simp at this; omega
 refine xx 5 ?_; refine X.part 29 rfl (fun h1 => ?_) (fun h1 => ?_)
 · replace h1 := sp h1; subst hta; have hth : s < m.threads.length := (by omega); have hT := ThOk.of h0 (List.getElem_mem hth)
   have hta0 : True := trivial
   refine xo 6 ?_; refine XO.adr hq.t (by rw [hlen]; omega) (fun b1 o1 e1 => ?_)
   have hs1 := hq.t; rw [e1] at hs1
   refine XO.know 26 (.slice (some ⟨b1, o1, none⟩) m.threads.length m.tc) rfl (by rw [e1]) ?_
   refine oo 1 ?_; refine XO.ldS (n := s) Tryz.isAgg47 Tryz.sizeOf47 hs1 hth ?_
   refine XO.al Tryz.zeroValue47 fun n4 => ?_
   refine stA ?_; refine ox 1 ?_; refine drw ?_; refine dd [0] ?_; refine ldD 1 ?_; refine ldAD 2 ?_; refine XD.cX 3 Tryz.call53 (Le.refl _) (tight_ok (t := m.threads[s]) ((hq.x _ (List.getElem_mem hth)).le leA) hT) ?_
   rintro _ _ ⟨nt, a1, c1, a2, c2, a3, c3, rfl, rfl⟩
   refine ⟨hlA, ?_⟩
   obtain ⟨x, hx⟩ : ∃ x : Cod, x = ⟨m.threads[s].name, m.threads[s].locals, tiI m.threads[s].ins, tiL m.threads[s].ins m.threads[s].lines, a1, c1, a2, c2⟩ := ⟨_, rfl⟩
   refine dd [4, 5] ?_; refine ldAD 6 ?_; refine XD.know 38 (.agg (codC x).toArray) rfl (by rw [hx]; rfl) ?_
   refine XD.ef 7 rfl (Ef.litR1 codC Tryz.underlying24 ginfo47 rfl rfl (fun _ => rfl) rfl) ?_
   rintro _ _ ⟨gx, rfl, rfl⟩
   refine ⟨hlA, ?_⟩
   refine XD.ef 8 rfl (Ef.appRA (f := codC) (l := T) (m := [x]) Tryz.underlying24 ginfo47 rfl rfl (fun _ => rfl) rfl rfl fndA ((Sees.rsH _).le fndA) (fun _ => rfl) (by simp only [List.length_cons, List.length_nil]; omega) (by simp only [List.length_cons, List.length_nil]; omega)) ?_
   rintro _ _ ⟨a4, c4, rfl, rfl⟩
   refine ⟨trivial, ?_⟩
   refine dd [9] ?_; refine stD 10 ?_; refine XD.nil ?_; refine xx 5 ?_; refine X.sb [28, 26, 27, 2, 3, 4] ?_; refine X.frzC (f := insC) (a := a1) (c := c1) (l := tiI m.threads[s].ins) (sz := 4) (ty := 65) ?_
   refine X.frzI (a := a2) (c := c2) (l := tiL m.threads[s].ins m.threads[s].lines) (ty := 3) ?_
   refine X.le (Kn.coscons (l := T) (x := x) knA (by subst hx; exact Kn.and (knA (φ := fun M => SlAt M a1 c1 (tiI m.threads[s].ins).length ((tiI m.threads[s].ins).flatMap insC))) (knA (φ := fun M => SlAt M a2 c2 (tiL m.threads[s].ins m.threads[s].lines).length ((tiL m.threads[s].ins m.threads[s].lines).map I64))))) ?_
   have hmp2 : (T ++ [x]).map Cod.pl = (m.threads.take (s + 1)).map tigT := (by rw [List.take_succ_eq_append_getElem hth, List.map_append, List.map_append, hmp, hx]; rfl)
   refine X.at (ih ((T ++ [x], s + 1), some ⟨b1, o1, none⟩, a4, c4) ⟨by dsimp only; omega, e1.symm, hmp2⟩ (by dsimp only; omega)) subA leA
 replace h1 := sp h1; obtain rfl : s = m.threads.length := (by omega); rw [List.take_length] at hmp
 refine xo 4 ?_; refine ldA ?_; refine stA ?_; refine ox 2 ?_; refine X.frzC (f := codC) (a := a') (c := c') (l := T) (sz := 4) (ty := 47) ?_
 refine X.le (q' := mdM (⟨m.vars, m.arrays, m.chans, m.mutexes, m.conds, T, av, cv, ar, cr, an, cn, a', c'⟩ : Mdl) :: _) (Kn.add ((Kn.and (knA (φ := fun M => SlAt M av cv m.vars.length (m.vars.map I64))) (Kn.and (knA (φ := fun M => SlAt M ar cr m.arrays.length (m.arrays.map I64))) (Kn.and (knA (φ := fun M => SlAt M an cn m.chans.length (m.chans.map I64))) (Kn.and (knA (φ := fun M => SlAt M a' c' T.length (T.flatMap codC))) (knA (φ := fun M => CodsAt M T)))))).imp fun M k => ⟨k.1, k.2.1, k.2.2.1, k.2.2.2.1, k.2.2.2.2⟩)) ?_
 refine X.fact (fun w s => Kn.fact (q := mdM (⟨m.vars, m.arrays, m.chans, m.mutexes, m.conds, T, av, cv, ar, cr, an, cn, a', c'⟩ : Mdl) :: _) knA (fun M (k : MdAt M (⟨m.vars, m.arrays, m.chans, m.mutexes, m.conds, T, av, cv, ar, cr, an, cn, a', c'⟩ : Mdl)) => k.a.1) s) (fun hka => ?_)
 have hpl : ∀ x ∈ T, x.name.size ≤ 9223372036854775807 ∧ x.ins.length ≤ 9223372036854775807 ∧ x.lines.length ≤ 9223372036854775807 := tig_b hq hok.2.2.2.2.2.2 hmp
 refine X.retL (mdM (⟨m.vars, m.arrays, m.chans, m.mutexes, m.conds, T, av, cv, ar, cr, an, cn, a', c'⟩ : Mdl) :: q) Tryz.func24 (resC Tryz.results24 (ResOk.cell rfl (LV.agg Tryz.isAgg26 Tryz.sizeOf26 hasA rfl) (ResOk.tmp rfl ResOk.nil))) ⟨_, rfl, .inr ⟨h0, (⟨m.vars, m.arrays, m.chans, m.mutexes, m.conds, T, av, cv, ar, cr, an, cn, a', c'⟩ : Mdl), ⟨rfl, rfl, rfl, rfl, rfl, hmp⟩, ⟨by show m.vars.length ≤ _; omega, by show m.arrays.length ≤ _; omega, by show m.chans.length ≤ _; omega, by show T.length ≤ _; omega, hka, hpl⟩, rfl, rfl⟩⟩
set_option maxHeartbeats 4000000 in
theorem Saved_ok (gc : GC q) (g : GE q) (hq : MdlQ q m) : CallF Tryz.prog G 29 [.agg (mdlC m).toArray] (q) (Ret fun v q' => v = .tuple [.int .i64 (if vchk m = 0 then savedS m.threads else 0), .int .i64 (if vchk m = 0 then 0 else 2)].toArray ∧ q' = q) := by
 refine CallF.of Tryz.func29 Tryz.ntmps29 rfl (fun F cs => ?_)
 have hlen := flatMap_len (f := codC) (sz := 4) (fun _ => rfl) m.threads; have hnt := hq.nt
 refine xo 2 ?_; refine XO.bx fun n1 => ?_
 refine oo 6 ?_; refine ldA ?_; refine XO.cR Tryz.call28 (VCheck_ok (gc.le leA) (g.le leA) (hq.le leA)) ?_; refine ox 2 ?_; refine X.part 9 rfl (fun h0 => ?_) (fun h0 => ?_)
 · replace h0 := sp h0
   refine xx 6 ?_; refine X.retL (q) Tryz.func29 (res2 Tryz.results29 rfl rfl) ⟨_, rfl, by rw [if_neg h0, if_neg h0], rfl⟩
 replace h0 := sp h0; rw [if_pos h0, if_pos h0]; obtain ⟨hk0, _⟩ := vchkZ h0; have hok := mchk_iff.1 hk0; have hb4 := hok.2.2.2.2.2.1
 refine xo 10 ?_; refine ld ?_; refine ox 4 ?_; refine X.at (X.loop (fun (s : Nat × Option Addr) => s.1 ≤ m.threads.length ∧ s.2 = m.ta) (fun s => [(13, .int .i64 (s.1 : Int)), (12, .int .i64 (m.threads.length : Int)), (11, .slice s.2 m.threads.length m.tc), (2, .int .i64 0), (3, .int .i64 0), (4, .int .i64 (savedS (m.threads.take s.1)))]) (fun s => pto n1 (.cells (mdlC m).toArray 26 (0, 0)) :: (q ++ F)) (fun s => m.threads.length - s.1) (fun s hi_ ih => ?_) (0, m.ta) ⟨Nat.zero_le _, rfl⟩) subA leA
 try dsimp only at hi_ ih ⊢
 obtain ⟨hs0, hta⟩ := hi_
 obtain ⟨s, ta⟩ := s; dsimp only at *
 refine xx 5 ?_; refine X.part 14 rfl (fun h1 => ?_) (fun h1 => ?_)
 · replace h1 := sp h1; subst hta; have hth : s < m.threads.length := (by omega); have hT := ThOk.of h0 (List.getElem_mem hth)
   have hsv := savedS_le (l := m.threads.take s) (B := 65536) (by decide) (fun x hx => by have := (ThOk.of h0 (List.mem_of_mem_take hx)).n; omega); rw [List.length_take, Nat.min_eq_left (by omega)] at hsv; have hsv2 := tiI_le m.threads[s].ins; have hTn := hT.n
   refine xo 6 ?_; refine XO.adr hq.t (by rw [hlen]; omega) (fun b1 o1 e1 => ?_)
   have hs1 := hq.t; rw [e1] at hs1
   refine XO.know 11 (.slice (some ⟨b1, o1, none⟩) m.threads.length m.tc) rfl (by rw [e1]) ?_
   refine oo 1 ?_; refine XO.ldS (n := s) Tryz.isAgg47 Tryz.sizeOf47 hs1 hth ?_
   refine XO.al Tryz.zeroValue47 fun n2 => ?_
   refine stA ?_; refine ox 1 ?_; refine drw ?_; refine dd [0, 1] ?_; refine ldD 2 ?_; refine dd [3] ?_; refine ldAD 4 ?_; refine XD.cX 5 Tryz.call53 (Le.refl _) (tight_ok (t := m.threads[s]) ((hq.x _ (List.getElem_mem hth)).le leA) hT) ?_
   rintro _ _ ⟨nt, a1, c1, a2, c2, a3, c3, rfl, rfl⟩
   refine ⟨hlA, ?_⟩
   refine dd [6, 7, 8] ?_; refine ldD 9 ?_; refine dd [10, 11, 12, 13] ?_; refine XD.nil ?_; refine xx 5 ?_; refine X.sb [13, 4, 11, 12, 2, 3] ?_; refine X.know 4 (.int .i64 (savedS (m.threads.take (s + 1)))) rfl (by rw [savedS_snoc hth]) ?_
   skip
   refine X.at (ih (s + 1, some ⟨b1, o1, none⟩) ⟨by dsimp only; omega, e1.symm⟩ (by dsimp only; omega)) subA leA
 replace h1 := sp h1; obtain rfl : s = m.threads.length := (by omega); rw [List.take_length]
 refine xx 8 ?_; refine X.retL (q) Tryz.func29 (res2 Tryz.results29 rfl rfl) ⟨_, rfl, rfl, rfl⟩
end
end Go.Proofs.YtbeeplmgcdnadaaGreatDoor
