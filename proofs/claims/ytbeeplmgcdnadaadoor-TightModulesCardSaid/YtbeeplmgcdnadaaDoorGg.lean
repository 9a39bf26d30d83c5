/- What functions of package tight, of its references and of its laws do: contracts of calls, proved by walking their code. -/
import Derived.Test.YtbeeplmgcdnadaaDoorGf
import Derived.Test.YtbeeplmgcdnadaaDoorWd
import Derived.KernelRfl
set_option maxRecDepth 100000
set_option linter.unusedVariables false
set_option linter.unusedSimpArgs false
namespace Go.Proofs.YtbeeplmgcdnadaaDoor
open Go Go.RowKit Wx
attribute [local irreducible] Wx.lsH Wx.rsH Wx.lsM Wx.rsM Wx.stars

/-! ### threads that may run, and what their cuts are like -/
structure ThOk (t : Cod) : Prop where
  a : ∀ i ∈ t.ins, jm i = true → 0 ≤ i.a ∧ i.a.toNat < t.ins.length
  b : ∀ i ∈ t.ins, 0 ≤ i.a
  ln : t.lines.length = t.ins.length
  n : t.ins.length ≤ 65536
  s : ∃ D, Snd t.ins D
section
variable {l : List Ins} {D : Nat → Int}
theorem leadS_lt (hA : ∀ i ∈ l, jm i = true → 0 ≤ i.a ∧ i.a.toNat < l.length) {a : Nat} (ha : a < l.length) : leadS l a < l.length := by
  unfold leadS
  cases e : led l (l.length + 1) a with
  | none => exact ha
  | some j => exact led_lt (fun i hi hc => (hA i hi (by unfold jm; rw [hc]; decide)).2) ha e
theorem stra_A (hA : ∀ i ∈ l, jm i = true → 0 ≤ i.a ∧ i.a.toNat < l.length) : ∀ i ∈ straS l, jm i = true → 0 ≤ i.a ∧ i.a.toNat < (straS l).length := by
  intro i hi hj
  obtain ⟨x, hx, rfl⟩ := List.mem_map.1 hi
  rw [mv_jm] at hj
  rw [straS_len]
  unfold Ins.mv
  rw [if_pos hj]
  exact ⟨Int.natCast_nonneg _, by simp only [Int.toNat_natCast]; exact leadS_lt hA (hA x hx hj).2⟩
theorem stra_b (hb : ∀ i ∈ l, 0 ≤ i.a) : ∀ i ∈ straS l, 0 ≤ i.a := by
  intro i hi
  obtain ⟨x, hx, rfl⟩ := List.mem_map.1 hi
  unfold Ins.mv
  split
  · exact Int.natCast_nonneg _
  · exact hb x hx
theorem nxt_jm {i : Ins} (hj : jm i = true) (a : Int) : i.a ∈ nxt i a := by
  have hc : 19 ≤ i.c ∧ i.c ≤ 21 := by unfold jm at hj; simpa using hj
  unfold nxt
  rw [if_neg (by omega)]
  split
  · exact List.mem_singleton_self _
  · rw [if_pos (by omega)]; split <;> simp
theorem prI_len (l : List Ins) : (prI l).length = kb (unr (straS l)) l.length := by unfold prI; rw [takeI_len, straS_len]
theorem pri_A (h : Snd (straS l) D) (hb : ∀ i ∈ straS l, 0 ≤ i.a) : ∀ i ∈ prI l, jm i = true → 0 ≤ i.a ∧ i.a.toNat < (prI l).length := by
  intro i hi hj
  obtain ⟨k, hk, rfl⟩ := List.getElem_of_mem hi
  have hk2 := hk
  rw [prI_len] at hk2
  obtain ⟨p, hp, hr, rfl⟩ := kb_onto hk2
  have hx : (prI l).getD (kb (unr (straS l)) p) zIns = ((straS l).getD p zIns).mv (kb (unr (straS l))) := takeI_at (by rw [straS_len]; exact hp) hr
  rw [getD_lt' hk] at hx
  rw [hx] at hj ⊢
  rw [mv_jm] at hj
  have hR := (unr_iff hb p).1 hr
  have hnx := nxt_jm hj (p : Int)
  obtain ⟨i0, i1⟩ := h.in hR _ hnx
  have hra : Rch (straS l) ((straS l).getD p zIns).a.toNat := .step hR hnx i0 (by omega)
  have hua := (unr_iff hb _).2 hra
  unfold Ins.mv
  rw [if_pos hj, prI_len]
  refine ⟨Int.natCast_nonneg _, ?_⟩
  simp only [Int.toNat_natCast]
  rw [straS_len] at i1
  exact kb_lt hua (by omega)
theorem pri_pos (h : Snd (straS l) D) (hb : ∀ i ∈ straS l, 0 ≤ i.a) : 0 < (prI l).length := by
  have hz := (unr_iff hb 0).2 (.zero h.pos)
  have hp := h.pos
  rw [straS_len] at hp
  rw [prI_len]
  have := kb_lt hz hp
  omega
theorem nowR_lt {R : Nat → Bool} {n : Nat} {W : List Int} (hW : ∀ x ∈ W, x < 0 ∨ x.toNat < n) : ∀ x ∈ W.map (nowR R), x < 0 ∨ x.toNat < kb R n := by
  intro x hx
  obtain ⟨y, hy, rfl⟩ := List.mem_map.1 hx
  unfold nowR
  split
  · rename_i h; exact .inl h
  · rename_i h
    split
    · left; decide
    · rename_i h2
      right
      rw [Int.toNat_natCast]
      have h3 := hW y hy
      exact kb_lt (by simpa using h2) (by omega)
end
theorem ThOk.of {m : Mdl} {t : Cod} (h : vchk m = 0) (ht : t ∈ m.threads) : ThOk t := by
  obtain ⟨h0, h1⟩ := vchk_zero h
  obtain ⟨hin, hn⟩ := mdlOk_thr h0 ht
  have hd := h1 t ht
  have hok := (mchk_iff.1 h0).2.2.2.2.2.2 t ht
  have hb : ∀ i ∈ t.ins, 0 ≤ i.a := fun i hi => by
    have := (hin i hi).2.1
    split at this <;> omega
  refine ⟨fun i hi hj => ?_, hb, by have := hok.2.2.1; omega, hn, _, Snd.of hin hd⟩
  have hsl : ∀ x ∈ t.ins, slotOk m t x := by
    unfold dOf at hd
    split at hd
    · exact absurd hd (by decide)
    · split at hd
      · exact absurd hd (by decide)
      · rename_i k; exact Decidable.not_not.1 k
  have hc : 19 ≤ i.c ∧ i.c ≤ 21 := by unfold jm at hj; simpa using hj
  have := (hsl i hi).1 t.ins.length (by unfold cntOf; rw [if_neg (by omega), if_neg (by omega), if_neg (by omega), if_pos (by omega)])
  have := hb i hi
  exact ⟨this, by omega⟩

theorem Le.ptoEq {A B : HP} (e : A = B) (q : List HP) : Le (A :: q) (B :: q) := by subst e; exact Le.refl _
theorem range_eq {D : List Int} {n : Nat} (h : D.length = n) (h2 : ∀ i, i < n → D.getD i 0 = (i : Int)) : D = (List.range n).map (fun (i : Nat) => (i : Int)) := by
  refine List.ext_getElem (by simp [h]) (fun i h1 h3 => ?_)
  rw [← getD_lt' (z := 0) h1, h2 i (by omega)]; simp
section
variable {G : World} {q : List HP} {a b A : Option Addr} {c d : Nat} {cd : Int} {l : List Ins} {ln : List Int} {o : List Bool}
variable {nt : Nat} {nm : ByteArray} {lo : Int} {ia la wa : Option Addr} {ic lc wc : Nat} {I : List Ins} {L W : List Int}
variable {t : Cod}
def stpL : List Value := [.func (.func 59) #[] #[], .func (.func 60) #[] #[], .func (.func 61) #[] #[]]
theorem steps_ok  : CallF Tryd.prog G 40 [] ([]) (Ret fun v q' => v = .agg stpL.toArray ∧ q' = []) := by
 refine CallF.of Tryd.func40 Tryd.ntmps40 rfl (fun F cs => ?_)
 refine xo 2 ?_
 refine XO.al Tryd.zeroValue86 fun n1 => ?_
 refine oo 3 ?_
 refine XO.pu (Pu.buildA (cells := stpL.toArray) Tryd.zeroValue86 Tryd.underlying86 Tryd.sizeOf85 rfl (by kernel_rfl)) ?_
 refine stA ?_
 refine ox 1 ?_
 refine X.retL [] Tryd.func40 (resC1 Tryd.results40 (ResOk.cell rfl (LV.agg Tryd.isAgg86 Tryd.sizeOf86 hasA rfl) ResOk.nil)) ⟨_, rfl, rfl, rfl⟩
set_option maxHeartbeats 8000000 in
theorem tight_ok (hq : CodQ q t) (hT : ThOk t) : CallF Tryd.prog G 27 [.agg (codC t).toArray] (q) (Ret fun v q' => ∃ nt a1 c1 a2 c2 a3 c3, v = .pointer (some ⟨nt, 0, none⟩) ∧ q' = pto nt (.cells [.string t.name, .int .i64 t.locals, .slice a1 (tiI t.ins).length c1, .slice a2 (tiL t.ins t.lines).length c2, .slice a3 (nowsS t.ins).length c3].toArray 64 (0, 0)) :: rsH insC 4 53 a1 c1 (tiI t.ins) :: lsH I64 3 a2 c2 (tiL t.ins t.lines) :: lsH I64 3 a3 c3 (nowsS t.ins) :: q) := by
 refine CallF.of Tryd.func27 Tryd.ntmps27 rfl (fun F cs => ?_)
 obtain ⟨hA, hb, hln, hn, D, hD⟩ := hT; have hp := hD.pos; have hsd := hD.stra (fun i hi _ => hb i hi); have hsA := stra_A hA; have hsb := stra_b hb; have hpA := pri_A hsd hsb; have hpp := pri_pos hsd hsb; have hsl := straS_len t.ins; have hpl := prI_len t.ins; have hkl := kb_le (unr (straS t.ins)) t.ins.length; have hlen := flatMap_len (f := insC) (sz := 4) (fun _ => rfl) t.ins; have hsi := hq.i; have hsl2 := hq.l
 refine xo 2 ?_
 refine XO.bx fun n1 => ?_
 refine ox 3 ?_
 refine drw ?_
 refine ldAD 0 ?_
 refine dd [1] ?_
 refine ldD 2 ?_
 refine dd [3] ?_
 refine XD.ef 4 rfl (Ef.make (n := t.ins.length) rfl rfl Tryd.underlying23 ginfo3 rfl rfl (by omega) (by omega)) ?_
 rintro _ _ ⟨gw, rfl, rfl⟩
 refine ⟨hlA, ?_⟩
 refine XD.le (q' := lsH I64 3 (some ⟨gw, 0, none⟩) t.ins.length (List.replicate t.ins.length 0) :: _) (Le.trans fndA (by rw [← ls_made (f := I64) (u := 0) rfl]; exact Le.refl _)) ?_
 refine dd [5] ?_
 refine XD.bx 6 (fun n2 => ?_)
 refine dd [7] ?_
 refine XD.nil ?_
 refine xx 1 ?_
 refine drw ?_
 refine dd [0, 1, 2] ?_
 refine ldD 3 ?_
 refine dd [5] ?_
 refine ldD 6 ?_
 refine XD.cX 4 Tryd.call39 (Le.refl _) (cloneIns_ok (m := t.ins) (hsi.le leA) (by omega)) ?_
 rintro _ _ ⟨a1, c1, rfl, rfl⟩
 refine ⟨hlA, ?_⟩
 refine XD.cX 7 Tryd.call26 (Le.refl _) (cloneint_ok (m := t.lines) (hsl2.le leA) (by omega)) ?_
 rintro _ _ ⟨a2, c2, rfl, rfl⟩
 refine ⟨trivial, ?_⟩
 refine dd [8, 9, 10] ?_
 refine stD 11 ?_
 refine dd [12, 13, 14] ?_
 refine stD 15 ?_
 refine XD.nil ?_
 refine xo 6 ?_
 refine ld ?_
 refine ox 4 ?_
 refine X.at (X.loop (fun (s : List Int × Nat) => s.1.length = t.ins.length ∧ s.2 ≤ t.ins.length ∧ ∀ i, i < s.2 → s.1.getD i 0 = (i : Int)) (fun s => [(33, .int .i64 (s.2 : Int)), (32, .int .i64 (t.ins.length : Int)), (3, .pointer (some ⟨n2, 0, none⟩)), (2, .pointer none)]) (fun s => lsH I64 3 (some ⟨gw, 0, none⟩) t.ins.length (s.1) :: pto n2 (.cells [.string t.name, .int .i64 t.locals, .slice a1 t.ins.length c1, .slice a2 t.lines.length c2, .slice (some ⟨gw, 0, none⟩) t.ins.length t.ins.length].toArray 64 (0, 0)) :: rsH insC 4 53 a1 c1 (t.ins) :: lsH I64 3 a2 c2 (t.lines) :: pto n1 (.cells (codC t).toArray 35 (0, 0)) :: (q ++ F)) (fun s => t.ins.length - s.2) (fun s hi_ ih => ?_) (List.replicate t.ins.length 0, 0) ⟨by simp, Nat.zero_le _, fun i h => absurd h (Nat.not_lt_zero i)⟩) subA leA
 try dsimp only at hi_ ih ⊢
 obtain ⟨hl1, hl2, hl3⟩ := hi_
 obtain ⟨W, s⟩ := s; dsimp only at *
 refine xx 5 ?_
 refine X.part 34 rfl (fun h0 => ?_) (fun h0 => ?_)
 · skip
   replace h0 := sp h0; have hlt : s < W.length := (by omega)
   refine xo 13 ?_
   refine ld ?_
   refine oo 3 ?_
   refine XO.ef0 (Ef.setL (f := I64) (l := W) (n := s) (u := (s : Int)) rfl rfl Tryd.sizeOf3 rfl hlt rfl rfl fndA) ?_
   rintro _ _ ⟨rfl, rfl⟩
   refine ox 6 ?_
   refine X.at (ih (W.set s (s : Int), s + 1) ⟨by rw [List.length_set]; exact hl1, by dsimp only; omega, fun i hi => by dsimp only at hi ⊢; rw [getD_setI hlt]; split; (rename_i e; rw [e]); exact hl3 i (by omega)⟩ (by dsimp only; omega)) subA leA
 · skip
   replace h0 := sp h0; have hW : W = (List.range t.ins.length).map (fun (i : Nat) => (i : Int)) := range_eq hl1 (fun i hi => hl3 i (by omega)); clear hl2 hl3 ih h0
   have hWl : W.length = t.ins.length := hl1; have hWr : ∀ x ∈ W, x < 0 ∨ x.toNat < (straS t.ins).length := (fun x hx => by rw [hW] at hx; obtain ⟨i, hi, rfl⟩ := List.mem_map.1 hx; right; have := List.mem_range.1 hi; omega)
   refine xo 5 ?_
   refine XO.cF Tryd.call40 (steps_ok) ?_
   rintro _ _ ⟨rfl, rfl⟩ _ e_; simp only [ca, na] at e_; subst e_
   refine ox 3 ?_
   refine X.loop1 ?_
   refine xx 5 ?_
   refine X.kt 46 ?_
   refine xo 6 ?_
   refine XO.pu (Pu.indexA (v := .func (.func 59) #[] #[]) rfl rfl Tryd.underlying86 Tryd.sizeOf85 Tryd.isAgg85 (by omega) (by omega) rfl) ?_
   refine oo 5 ?_
   refine XO.le (Le.trans fndA (Le.ptoEq (A := pto n2 (.cells [.string t.name, .int .i64 t.locals, .slice a1 t.ins.length c1, .slice a2 t.lines.length c2, .slice (some ⟨gw, 0, none⟩) t.ins.length t.ins.length].toArray 64 (0, 0))) (B := pto n2 (.cells [.string t.name, .int .i64 t.locals, .slice a1 t.ins.length c1, .slice a2 t.lines.length c2, .slice (some ⟨gw, 0, none⟩) W.length t.ins.length].toArray 64 (0, 0))) (by rw [hWl]) _)) ?_
   refine XO.cV (CallV.c10 Tryd.call59 (straighten_ok (ia := a1) (ic := c1) (la := a2) (lc := c2) (wa := some ⟨gw, 0, none⟩) (wc := t.ins.length) (I := t.ins) (L := t.lines) (W := W) (q := []) hA (by omega) hn)) ?_
   rintro _ _ rfl _ e_; simp only [ca, na] at e_; subst e_
   refine ox 6 ?_
   refine X.inLoop ?_
   refine xx 5 ?_
   refine X.kt 46 ?_
   refine xo 6 ?_
   refine XO.pu (Pu.indexA (v := .func (.func 60) #[] #[]) rfl rfl Tryd.underlying86 Tryd.sizeOf85 Tryd.isAgg85 (by omega) (by omega) rfl) ?_
   refine oo 5 ?_
   refine XO.le (Le.trans fndA (Le.ptoEq (A := pto n2 (.cells [.string t.name, .int .i64 t.locals, .slice a1 t.ins.length c1, .slice a2 t.lines.length c2, .slice (some ⟨gw, 0, none⟩) W.length t.ins.length].toArray 64 (0, 0))) (B := pto n2 (.cells [.string t.name, .int .i64 t.locals, .slice a1 (straS t.ins).length c1, .slice a2 t.lines.length c2, .slice (some ⟨gw, 0, none⟩) W.length t.ins.length].toArray 64 (0, 0))) (by rw [hsl]) _)) ?_
   refine XO.cV (CallV.c10 Tryd.call60 (prune_ok (q := []) (I := straS t.ins) (L := t.lines) (W := W) (ia := a1) (ic := c1) (la := a2) (lc := c2) (wa := some ⟨gw, 0, none⟩) (wc := t.ins.length) hsA (by omega) hWr (by omega) (by omega) (by omega) hsb (fun j hj y hy => (hsd.in hj y hy).2))) ?_
   rintro _ _ ⟨a3, c3, a4, c4, rfl⟩ _ e_; simp only [ca, na] at e_; subst e_
   refine ox 6 ?_
   refine X.sb [45, 44, 3, 2] ?_
   refine X.inLoop ?_
   refine xx 5 ?_
   refine X.kt 46 ?_
   refine xo 6 ?_
   refine XO.pu (Pu.indexA (v := .func (.func 61) #[] #[]) rfl rfl Tryd.underlying86 Tryd.sizeOf85 Tryd.isAgg85 (by omega) (by omega) rfl) ?_
   refine oo 5 ?_
   refine XO.le (Le.trans fndA (Le.ptoEq (A := pto n2 (.cells [.string t.name, .int .i64 t.locals, .slice a3 (prI t.ins).length c3, .slice a4 (cutS (unr (straS t.ins)) 0 t.lines).length c4, .slice (some ⟨gw, 0, none⟩) W.length t.ins.length].toArray 64 (0, 0))) (B := pto n2 (.cells [.string t.name, .int .i64 t.locals, .slice a3 (prI t.ins).length c3, .slice a4 (cutS (unr (straS t.ins)) 0 t.lines).length c4, .slice (some ⟨gw, 0, none⟩) (W.map (nowR (unr (straS t.ins)))).length t.ins.length].toArray 64 (0, 0))) (by rw [List.length_map]) _)) ?_
   refine XO.cV (CallV.c10 Tryd.call61 (close_ok (q := []) (I := prI t.ins) (L := cutS (unr (straS t.ins)) 0 t.lines) (W := W.map (nowR (unr (straS t.ins)))) (ia := a3) (ic := c3) (la := a4) (lc := c4) (wa := some ⟨gw, 0, none⟩) (wc := t.ins.length) hpA (by rw [cutS_len0, hln, hpl]) (by rw [hpl, ← hsl]; exact nowR_lt hWr) (by rw [List.length_map]; omega) hpp (by omega))) ?_
   rintro _ _ ⟨a5, c5, a6, c6, rfl⟩ _ e_; simp only [ca, na] at e_; subst e_
   refine ox 6 ?_
   refine X.inLoop ?_
   refine xx 5 ?_
   refine X.kf 46 ?_
   refine xx 7 ?_
   have hnw : (W.map (nowR (unr (straS t.ins)))).map (nowR (cl (prI t.ins))) = nowsS t.ins := (by rw [hW]; exact nows_two t.ins)
   refine X.retL (pto n2 (.cells [.string t.name, .int .i64 t.locals, .slice a5 (tiI t.ins).length c5, .slice a6 (tiL t.ins t.lines).length c6, .slice (some ⟨gw, 0, none⟩) (nowsS t.ins).length t.ins.length].toArray 64 (0, 0)) :: rsH insC 4 53 a5 c5 (tiI t.ins) :: lsH I64 3 a6 c6 (tiL t.ins t.lines) :: lsH I64 3 (some ⟨gw, 0, none⟩) t.ins.length (nowsS t.ins) :: q) Tryd.func27 (res1 Tryd.results27 rfl) ⟨_, rfl, n2, a5, c5, a6, c6, some ⟨gw, 0, none⟩, t.ins.length, rfl, rfl⟩ (by rw [← hnw]; simp only [List.length_map]; exact leA)
end
end Go.Proofs.YtbeeplmgcdnadaaDoor

