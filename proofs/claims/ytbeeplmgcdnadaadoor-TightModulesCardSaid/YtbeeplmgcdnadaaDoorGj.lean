/- What functions of package tight, of its references and of its laws do: contracts of calls, proved by walking their code. -/
import Derived.Test.YtbeeplmgcdnadaaDoorGi
import Derived.KernelRfl
set_option maxRecDepth 100000
set_option linter.unusedVariables false
set_option linter.unusedSimpArgs false
namespace Go.Proofs.YtbeeplmgcdnadaaDoor
open Go Go.RowKit Wx
attribute [local irreducible] Wx.lsH Wx.rsH Wx.lsM Wx.rsM Wx.stars

/-! ### the reference's rows -/
def rows0 (t : Cod) : List Rw := (List.range t.ins.length).map fun (i : Nat) => ⟨(straS t.ins).getD i zIns, t.lines.getD i 0, (i : Int)⟩
def rowsF (t : Cod) : List Rw := takeR (tiR t.ins) (rows0 t)
theorem rows0_len (t : Cod) : (rows0 t).length = t.ins.length := by simp [rows0]
theorem rows0_i (t : Cod) : (rows0 t).map (·.i) = straS t.ins := by
  refine List.ext_getElem (by simp [rows0, straS_len]) fun i h1 h2 => ?_
  simp only [rows0, List.map_map, List.getElem_map, Function.comp_apply, List.getElem_range]
  exact getD_lt' h2
theorem rows0_ln {t : Cod} (h : t.lines.length = t.ins.length) : (rows0 t).map (·.ln) = t.lines := by
  refine List.ext_getElem (by simp [rows0, h]) fun i h1 h2 => ?_
  simp only [rows0, List.map_map, List.getElem_map, Function.comp_apply, List.getElem_range]
  exact getD_lt' h2
theorem rows0_fr (t : Cod) : (rows0 t).map (·.fr) = (List.range t.ins.length).map fun (i : Nat) => (i : Int) := by
  simp only [rows0, List.map_map]; rfl
theorem rowsF_i (t : Cod) : (rowsF t).map (·.i) = tiI t.ins := by unfold rowsF; rw [takeR_i, rows0_i, tiI_eq]
theorem rowsF_ln {t : Cod} (h : t.lines.length = t.ins.length) : (rowsF t).map (·.ln) = tiL t.ins t.lines := by unfold rowsF; rw [takeR_ln, rows0_ln h, tiL_eq]
theorem rowsF_fr (t : Cod) : (rowsF t).map (·.fr) = cutS (tiR t.ins) 0 ((List.range t.ins.length).map fun (i : Nat) => (i : Int)) := by unfold rowsF; rw [takeR_fr, rows0_fr]
theorem rowsF_len (t : Cod) : (rowsF t).length = kb (tiR t.ins) t.ins.length := by unfold rowsF; rw [takeR_len, rows0_len]
/-- Where a row stood. -/
theorem rowsF_at {t : Cod} {i k : Nat} (hi : i < t.ins.length) (hk : k < (rowsF t).length) : (rowsF t)[k].fr = (i : Int) ↔ tiR t.ins i = false ∧ k = kb (tiR t.ins) i := by
  have e : (rowsF t)[k].fr = ((rowsF t).map (·.fr))[k]'(by simpa using hk) := by simp
  have hk2 := hk
  rw [rowsF_len] at hk2
  obtain ⟨p, hp, hr, hkp⟩ := kb_onto hk2
  have e2 : ((rowsF t).map (·.fr))[k]? = some (p : Int) := by
    rw [rowsF_fr, ← hkp, cutS_at0 (by simpa using hp) hr]; simp [hp]
  have e3 : (rowsF t)[k].fr = (p : Int) := by rw [e]; exact Option.some.inj ((List.getElem?_eq_getElem _).symm.trans e2)
  rw [e3]
  constructor
  · intro h
    obtain rfl : p = i := by omega
    exact ⟨hr, hkp.symm⟩
  · rintro ⟨h1, h2⟩
    have := kb_inj hr h1 (by omega)
    omega
/-- The last row so far that stood at a place. -/
def atS (t : Cod) (i k : Nat) : Int := if tiR t.ins i = false ∧ kb (tiR t.ins) i < k then (kb (tiR t.ins) i : Int) else -1
theorem atS_zero (t : Cod) (i : Nat) : atS t i 0 = -1 := by unfold atS; rw [if_neg (by omega)]
theorem atS_succ {t : Cod} {i k : Nat} (hi : i < t.ins.length) (hk : k < (rowsF t).length) : atS t i (k + 1) = if (rowsF t)[k].fr = (i : Int) then (k : Int) else atS t i k := by
  have h := rowsF_at hi hk
  unfold atS
  by_cases e : (rowsF t)[k].fr = (i : Int)
  · obtain ⟨h1, h2⟩ := h.1 e
    rw [if_pos e, if_pos ⟨h1, by omega⟩, h2]
  · rw [if_neg e]
    by_cases h3 : tiR t.ins i = false ∧ kb (tiR t.ins) i < k
    · rw [if_pos h3, if_pos ⟨h3.1, by omega⟩]
    · rw [if_neg h3, if_neg]
      rintro ⟨h1, h2⟩
      exact e (h.2 ⟨h1, by have : ¬ kb (tiR t.ins) i < k := fun c => h3 ⟨h1, c⟩; omega⟩)
theorem atS_end {t : Cod} {i : Nat} (hi : i < t.ins.length) : atS t i (rowsF t).length = nowS t.ins i := by
  unfold atS
  rw [nowS_eq, rowsF_len]
  cases h : tiR t.ins i with
  | true => simp
  | false => rw [if_pos ⟨rfl, kb_lt h hi⟩, if_neg (by decide)]
theorem rows0_snoc {t : Cod} {s : Nat} (h : s < t.ins.length) : (rows0 t).take (s + 1) = (rows0 t).take s ++ [⟨(straS t.ins).getD s zIns, t.lines.getD s 0, (s : Int)⟩] := by
  rw [List.take_succ_eq_append_getElem (by rw [rows0_len]; exact h)]; simp [rows0]
theorem rows_b {l : List Ins} {r : List Rw} (h : r.map (·.i) = l) (hl : l.length ≤ 65536) (hA : ∀ i ∈ l, jm i = true → 0 ≤ i.a ∧ i.a.toNat < l.length) (hb : ∀ i ∈ l, 0 ≤ i.a ∧ i.a ≤ 65536) : ∀ x ∈ r, 0 ≤ x.i.a ∧ x.i.a ≤ 65536 := fun x hx => hb _ (by rw [← h]; exact List.mem_map_of_mem hx)
theorem take_bd {R : Nat → Bool} {r : List Rw} (hb : ∀ x ∈ r, 0 ≤ x.i.a ∧ x.i.a ≤ 65536) : ∀ x ∈ takeR R r, 0 ≤ x.i.a ∧ x.i.a ≤ 65536 := by
  intro x hx
  obtain ⟨y, hy, rfl⟩ := List.mem_map.1 hx
  have h1 := hb y (cutS_mem hy)
  show 0 ≤ (y.i.mv (kb R)).a ∧ (y.i.mv (kb R)).a ≤ 65536
  unfold Ins.mv
  split
  · have := kb_le R y.i.a.toNat
    simp only; omega
  · exact h1
theorem stra_bd {l : List Ins} (hA : ∀ i ∈ l, jm i = true → 0 ≤ i.a ∧ i.a.toNat < l.length) (hn : l.length ≤ 65536) (hb : ∀ i ∈ l, 0 ≤ i.a ∧ i.a ≤ 65536) : ∀ i ∈ straS l, 0 ≤ i.a ∧ i.a ≤ 65536 := by
  intro i hi
  obtain ⟨x, hx, rfl⟩ := List.mem_map.1 hi
  unfold Ins.mv
  split
  · rename_i hj
    have := leadS_lt hA (hA x hx hj).2
    simp only; omega
  · exact hb x hx
theorem rows0_bd {t : Cod} (hA : ∀ i ∈ t.ins, jm i = true → 0 ≤ i.a ∧ i.a.toNat < t.ins.length) (hn : t.ins.length ≤ 65536) (hb : ∀ i ∈ t.ins, 0 ≤ i.a ∧ i.a ≤ 65536) : ∀ x ∈ rows0 t, 0 ≤ x.i.a ∧ x.i.a ≤ 65536 := by
  intro x hx
  have h1 := stra_bd hA hn hb
  have h2 : x.i ∈ straS t.ins := by rw [← rows0_i]; exact List.mem_map_of_mem hx
  exact h1 _ h2
theorem len_one {r : List Rw} {k : Nat} (h : k < r.length) : (takeR (fun j => j == k) r).length + 1 = r.length := by rw [takeR_len, kb_one, if_pos h]; omega

section
variable {G : World} {q : List HP} {a b A : Option Addr} {c d : Nat} {cd : Int} {l : List Ins} {ln : List Int} {o : List Bool}
variable {nt : Nat} {nm : ByteArray} {lo : Int} {ia la wa : Option Addr} {ic lc wc : Nat} {I : List Ins} {L W : List Int}
variable {r : List Rw} {x : Ins} {i at_ : Nat}
variable {t : Cod}
set_option maxHeartbeats 8000000 in
theorem RTight_ok (hq : CodQ q t) (hT : ThOk t) (hbd : ∀ i ∈ t.ins, 0 ≤ i.a ∧ i.a ≤ 65536) : CallF Tryd.prog G 28 [.agg (codC t).toArray] (q) (Ret fun v q' => ∃ a' c', v = .slice a' (rowsF t).length c' ∧ q' = rsH rwC 6 70 a' c' (rowsF t) :: q) := by
 refine CallF.of Tryd.func28 Tryd.ntmps28 rfl (fun F cs => ?_)
 obtain ⟨hA, hb, hln, hn, D, hD⟩ := hT; have hp := hD.pos; have hsd := hD.stra (fun i hi _ => hb i hi); have hsb := stra_b hb; have hpA := pri_A hsd hsb; have hsl := straS_len t.ins; have hr0 := rows0_len t; have hri := rows0_i t; have hrb := rows0_bd hA hn hbd; have hlen := flatMap_len (f := insC) (sz := 4) (fun _ => rfl) t.ins; have hsi := hq.i; have hsl2 := hq.l
 refine X.adr hsi (by rw [hlen]; omega) (fun b1 o1 e1 => ?_); refine X.adr hsl2 (by rw [List.length_map]; omega) (fun b2 o2 e2 => ?_)
 rw [e1] at hsi; rw [e2] at hsl2; have hcc : codC t = [.string t.name, .int .i64 t.locals, .slice (some ⟨b1, o1, none⟩) t.ins.length t.ic, .slice (some ⟨b2, o2, none⟩) t.lines.length t.lc] := (by unfold codC; rw [e1, e2]); rw [hcc]
 refine xo 2 ?_
 refine XO.bx fun n1 => ?_
 refine ox 12 ?_
 refine X.at (X.loop (fun (s : Nat × Option Addr × Nat) => s.1 ≤ t.ins.length) (fun s => [(4, .int .i64 (s.1 : Int)), (3, .slice s.2.1 ((rows0 t).take s.1).length s.2.2), (1, .pointer (some ⟨n1, 0, none⟩)), (2, .slice none 0 0)]) (fun s => rsH rwC 6 70 s.2.1 s.2.2 (((rows0 t).take s.1)) :: pto n1 (.cells [.string t.name, .int .i64 t.locals, .slice (some ⟨b1, o1, none⟩) t.ins.length t.ic, .slice (some ⟨b2, o2, none⟩) t.lines.length t.lc].toArray 35 (0, 0)) :: (q ++ F)) (fun s => t.ins.length - s.1) (fun s hi_ ih => ?_) (0, none, 0) (Nat.zero_le _)) subA (Le.trans leA (Le.rsH_nil rwC 6 70 _))
 try dsimp only at hi_ ih ⊢
 obtain hs0 := hi_
 obtain ⟨s, a', c'⟩ := s; dsimp only at *
 refine xo 5 ?_
 refine ld ?_
 refine ox 3 ?_
 refine X.part 12 rfl (fun h0 => ?_) (fun h0 => ?_)
 · skip
   replace h0 := sp h0; have hlt : s < t.ins.length := (by omega); have hll : s < t.lines.length := (by omega); have hcl : ((rows0 t).take s).length ≤ t.ins.length := (by rw [List.length_take]; omega); have hsn := rows0_snoc hlt; rw [straS_at _ hlt, getD_lt' hlt, getD_lt' hll] at hsn
   refine xx 5 ?_
   refine drw ?_
   refine dd [0] ?_
   refine ldD 1 ?_
   refine dd [2, 3] ?_
   refine XD.ldS 4 (m := s) Tryd.isAgg53 Tryd.sizeOf53 hsi hlt ?_
   refine dd [5] ?_
   refine ldD 6 ?_
   refine dd [7, 8] ?_
   refine ldD 9 ?_ (hc := (Cl.e1 hsl2 leA hll rfl))
   refine dd [10, 11] ?_
   refine XD.al 12 Tryd.zeroValue70 (fun n2 => ?_) (hh := fun _ => (hlA (h := by repeat first | exact trivial | refine ⟨clA, ?_⟩ | refine ⟨Cl.row hsi leA (fun _ => rfl) hlt rfl 0 _ rfl, ?_⟩ | refine ⟨Cl.row hsi leA (fun _ => rfl) hlt rfl 1 _ rfl, ?_⟩ | refine ⟨Cl.row hsi leA (fun _ => rfl) hlt rfl 2 _ rfl, ?_⟩ | refine ⟨Cl.row hsi leA (fun _ => rfl) hlt rfl 3 _ rfl, ?_⟩)))
   refine stAD 13 ?_
   refine XD.nil ?_
   refine xo 4 ?_
   refine ldA ?_
   refine XO.cR Tryd.call41 (rjump_ok (x := t.ins[s])) ?_
   refine ox 1 ?_
   refine X.sb [29, 5, 4, 3, 1, 2] ?_
   refine X.part 29 rfl (fun k1 => ?_) (fun k1 => ?_)
   · skip
     replace k1 := sp k1
     refine xo 3 ?_
     refine ld ?_
     refine oo 2 ?_
     refine ld ?_
     have hjA := hA _ (List.getElem_mem hlt) k1; obtain ⟨A, hAe⟩ : ∃ A : Nat, t.ins[s].a = (A : Int) := ⟨t.ins[s].a.toNat, by omega⟩; have hAn : t.ins[s].a.toNat = A := (by omega)
     refine XO.know 34 (.int .i64 (A : Int)) rfl (by rw [hAe]) ?_
     refine XO.cR Tryd.call10 (RLeads_ok (l := t.ins) (at_ := A) (hsi.le leA) (fun i hi hc => hA i hi (by unfold jm; rw [hc]; decide)) (by omega) hn) ?_
     refine oo 2 ?_
     refine st ?_
     refine oo 3 ?_
     refine ldA ?_
     have hmv : t.ins[s].mv (leadS t.ins) = { t.ins[s] with a := (leadS t.ins A : Int) } := (by unfold Ins.mv; rw [if_pos k1, hAn])
     refine XO.know 39 (.agg (rwC (⟨t.ins[s].mv (leadS t.ins), t.lines[s], (s : Int)⟩ : Rw)).toArray) rfl (by rw [hmv]; rfl) ?_
     refine XO.ef (Ef.litR1 (u := (⟨t.ins[s].mv (leadS t.ins), t.lines[s], (s : Int)⟩ : Rw)) rwC Tryd.underlying67 ginfo70 rfl rfl (fun _ => rfl) rfl) ?_
     rintro _ _ ⟨g0, rfl, rfl⟩
     refine XO.ef (Ef.appRA (f := rwC) (l := ((rows0 t).take s)) (m := [(⟨t.ins[s].mv (leadS t.ins), t.lines[s], (s : Int)⟩ : Rw)]) Tryd.underlying67 ginfo70 rfl rfl (fun _ => rfl) rfl rfl fndA ((Sees.rsH _).le fndA) (fun _ => rfl) (by simp only [List.length_cons, List.length_nil]; omega) (by simp only [List.length_cons, List.length_nil]; omega)) ?_
     rintro _ _ ⟨a4, c4, rfl, rfl⟩
     refine ox 8 ?_
     refine X.sb [4, 3, 1, 2] ?_
     rw [← hsn]
     refine X.at (ih (s + 1, a4, c4) (by dsimp only; omega) (by dsimp only; omega)) subA leA
   · skip
     replace k1 := sp k1
     refine xo 4 ?_
     refine ldA ?_
     have hmv : t.ins[s].mv (leadS t.ins) = t.ins[s] := (by unfold Ins.mv; rw [if_neg (by rw [k1]; decide)])
     refine XO.know 39 (.agg (rwC (⟨t.ins[s].mv (leadS t.ins), t.lines[s], (s : Int)⟩ : Rw)).toArray) rfl (by rw [hmv]; rfl) ?_
     refine XO.ef (Ef.litR1 (u := (⟨t.ins[s].mv (leadS t.ins), t.lines[s], (s : Int)⟩ : Rw)) rwC Tryd.underlying67 ginfo70 rfl rfl (fun _ => rfl) rfl) ?_
     rintro _ _ ⟨g0, rfl, rfl⟩
     refine XO.ef (Ef.appRA (f := rwC) (l := ((rows0 t).take s)) (m := [(⟨t.ins[s].mv (leadS t.ins), t.lines[s], (s : Int)⟩ : Rw)]) Tryd.underlying67 ginfo70 rfl rfl (fun _ => rfl) rfl rfl fndA ((Sees.rsH _).le fndA) (fun _ => rfl) (by simp only [List.length_cons, List.length_nil]; omega) (by simp only [List.length_cons, List.length_nil]; omega)) ?_
     rintro _ _ ⟨a4, c4, rfl, rfl⟩
     refine ox 8 ?_
     rw [← hsn]
     refine X.at (ih (s + 1, a4, c4) (by dsimp only; omega) (by dsimp only; omega)) subA leA
 · skip
   replace h0 := sp h0; obtain rfl : s = t.ins.length := (by omega); rw [show (rows0 t).take t.ins.length = rows0 t from List.take_of_length_le (by omega)]
   refine xo 5 ?_
   refine XO.cX Tryd.call42 (Le.refl _) (come_ok (r := rows0 t) ((Sees.rsH _).le fndA) (fun x hx => (hrb x hx).1) (by omega) (by omega)) ?_
   rintro _ _ ⟨gc_, rfl, rfl⟩
   rw [hri, hr0]; have hcol := comeS_len (l := straS t.ins) hsb; rw [hsl] at hcol
   refine ox 11 ?_
   skip
   have hst0 : (takeR (fun j => decide (t.ins.length ≤ j) && unr (straS t.ins) j) (rows0 t)) = rows0 t := takeR_none (fun x hx hj => by have h2 := stra_A hA x.i (by rw [← hri]; exact List.mem_map_of_mem hx) hj; exact ⟨h2.1, by omega⟩) (fun j hj => by rw [decide_eq_false (by omega), Bool.false_and])
   refine X.le (q' := rsH rwC 6 70 a' c' ((takeR (fun j => decide (t.ins.length ≤ j) && unr (straS t.ins) j) (rows0 t))) :: lsH Value.bool 4 (some ⟨gc_, 0, none⟩) t.ins.length (comeS (straS t.ins)) :: (q ++ F)) (by rw [hst0]; exact leA) ?_
   refine X.know 3 (.slice a' (takeR (fun j => decide (t.ins.length ≤ j) && unr (straS t.ins) j) (rows0 t)).length c') rfl (by rw [hst0, hr0]) ?_
   refine X.at (X.loop (fun (s : Nat × Option Addr × Nat) => s.1 ≤ t.ins.length) (fun s => [(7, .int .i64 ((s.1 : Int) - 1)), (3, .slice s.2.1 (takeR (fun j => decide (s.1 ≤ j) && unr (straS t.ins) j) (rows0 t)).length s.2.2), (6, .slice (some ⟨gc_, 0, none⟩) t.ins.length t.ins.length), (2, .slice none 0 0)]) (fun s => rsH rwC 6 70 s.2.1 s.2.2 ((takeR (fun j => decide (s.1 ≤ j) && unr (straS t.ins) j) (rows0 t))) :: lsH Value.bool 4 (some ⟨gc_, 0, none⟩) t.ins.length (comeS (straS t.ins)) :: (q ++ F)) (fun s => s.1) (fun s hi_ ih => ?_) (t.ins.length, a', c') (Nat.le_refl _)) subA leA
   try dsimp only at hi_ ih ⊢
   obtain hs1 := hi_
   clear hst0; obtain ⟨k, a2, c2⟩ := s; dsimp only at *
   refine xx 6 ?_
   refine X.part 48 rfl (fun h1 => ?_) (fun h1 => ?_)
   · skip
     replace h1 := sp h1; obtain ⟨i, rfl⟩ : ∃ i, k = i + 1 := ⟨k - 1, by omega⟩; have hil : i < (comeS (straS t.ins)).length := (by omega); have hix : ((i + 1 : Nat) : Int) - 1 = (i : Int) := (by omega); have hun : unr (straS t.ins) i = !(comeS (straS t.ins))[i] := (by unfold unr; rw [getD_lt' hil])
     have hkl := kb_le (fun j => decide (i + 1 ≤ j) && unr (straS t.ins) j) (rows0 t).length; have hcl : (takeR (fun j => decide ((i + 1) ≤ j) && unr (straS t.ins) j) (rows0 t)).length ≤ t.ins.length := (by rw [takeR_len]; omega)
     rw [hix]
     refine xo 9 ?_
     refine ld ?_ (hc := (Cl.e1 (Sees.lsH _) fndA hil rfl))
     refine XO.pu (Pu.not rfl) ?_
     refine ox 1 ?_
     refine X.part 55 rfl (fun k1 => ?_) (fun k1 => ?_)
     · skip
       replace k1 := sp k1
       refine xo 4 ?_
       refine XO.cX Tryd.call43 (Le.refl _) (without_ok (r := (takeR (fun j => decide ((i + 1) ≤ j) && unr (straS t.ins) j) (rows0 t))) (i := i) ((Sees.rsH _).le fndA) (take_bd hrb) (by omega)) ?_
       rintro _ _ ⟨a5, c5, rfl, rfl⟩
       refine ox 8 ?_
       have hu1 : unr (straS t.ins) i = true := (by rw [hun, k1]; rfl); have hnx : takeR (fun j => j == i) (takeR (fun j => decide ((i + 1) ≤ j) && unr (straS t.ins) j) (rows0 t)) = (takeR (fun j => decide (i ≤ j) && unr (straS t.ins) j) (rows0 t)) := (by rw [takeR_two]; congr 1; funext j; exact down_step hu1 j)
       rw [hnx]
       refine X.at (ih (i, a5, c5) (by dsimp only; omega) (by dsimp only; omega)) subA leA
     · skip
       replace k1 := sp k1
       refine xx 8 ?_
       have hu1 : unr (straS t.ins) i = false := (by rw [hun, k1]; rfl); have hnx : (takeR (fun j => decide ((i + 1) ≤ j) && unr (straS t.ins) j) (rows0 t)) = (takeR (fun j => decide (i ≤ j) && unr (straS t.ins) j) (rows0 t)) := (by congr 1; funext j; by_cases e : j = i; (subst e; rw [hu1, Bool.and_false, Bool.and_false]); rw [show decide (i + 1 ≤ j) = decide (i ≤ j) from decide_eq_decide.2 (by omega)])
       rw [hnx]
       refine X.at (ih (i, a2, c2) (by dsimp only; omega) (by dsimp only; omega)) subA leA
   · skip
     replace h1 := sp h1; obtain rfl : k = 0 := (by omega); have hc0 : (takeR (fun j => decide (0 ≤ j) && unr (straS t.ins) j) (rows0 t)) = takeR (unr (straS t.ins)) (rows0 t) := congrArg (fun R => takeR R (rows0 t)) (funext fun j => by simp); rw [hc0]
     obtain ⟨P, hPe⟩ : ∃ x, x = takeR (unr (straS t.ins)) (rows0 t) := ⟨_, rfl⟩; rw [← hPe]; have hPi : P.map (·.i) = prI t.ins := (by rw [hPe, takeR_i, hri]; rfl); have hPb : ∀ x ∈ P, 0 ≤ x.i.a ∧ x.i.a ≤ 65536 := (by rw [hPe]; exact take_bd hrb); have hPl : P.length = (prI t.ins).length := (by rw [← hPi, List.length_map]); have hPn : P.length ≤ t.ins.length := (by rw [hPe, takeR_len]; have := kb_le (unr (straS t.ins)) (rows0 t).length; omega)
     clear ih hc0 hcol
     refine xx 4 ?_
     have hP0 : takeR (fun _ => false) P = P := takeR_none (fun x hx hj => by have h2 := hpA x.i (by rw [← hPi]; exact List.mem_map_of_mem hx) hj; exact ⟨h2.1, by omega⟩) (fun j _ => rfl)
     refine X.le (q' := rsH rwC 6 70 a2 c2 (takeR (fun _ => false) P) :: (q ++ F)) (by rw [hP0]; exact leA) ?_
     refine X.know 3 (.slice a2 (takeR (fun _ => false) P).length c2) rfl (by rw [hP0]) ?_
     refine X.at (X.loop (fun (s : (Nat → Bool) × Option Addr × Nat) => (∀ j, j < (prI t.ins).length → s.1 j = true → cl (prI t.ins) j = true) ∧ True) (fun s => [(3, .slice s.2.1 (takeR s.1 P).length s.2.2), (2, .slice none 0 0)]) (fun s => rsH rwC 6 70 s.2.1 s.2.2 (takeR s.1 P) :: (q ++ F)) (fun s => (takeR s.1 P).length) (fun s hi_ ih => ?_) ((fun _ => false), a2, c2) ⟨(fun j _ h => by cases h), trivial⟩) subA leA
     try dsimp only at hi_ ih ⊢
     obtain ⟨hsub, _⟩ := hi_
     clear hP0; obtain ⟨m, a3, c3⟩ := s; dsimp only at *; have hmi : (takeR m P).map (·.i) = takeI m (prI t.ins) := (by rw [takeR_i, hPi]); have hml : (takeR m P).length ≤ t.ins.length := (by rw [takeR_len]; have := kb_le m P.length; omega)
     have hng : ∀ k, k < (takeR m P).length → ((takeR m P).getD k ⟨zIns, 0, 0⟩).i = (takeI m (prI t.ins)).getD k zIns := (fun k hk => by rw [← hmi, getD_lt' hk, getD_lt' (by simpa using hk)]; simp); have hmn : (takeI m (prI t.ins)).length = (takeR m P).length := (by rw [← hmi, List.length_map])
     refine xo 4 ?_
     refine XO.cX Tryd.call44 (Le.refl _) (near_ok (r := takeR m P) ((Sees.rsH _).le fndA) (by omega)) ?_
     rintro _ _ (⟨k, hk, hN, rfl, rfl⟩ | ⟨hN, rfl, rfl⟩)
     · skip
       refine ox 2 ?_
       refine X.kt 61 ?_
       refine xo 6 ?_
       refine XO.cX Tryd.call44 (Le.refl _) (near_ok (r := takeR m P) ((Sees.rsH _).le fndA) (by omega)) ?_
       rintro _ _ (⟨k2, hk2, hN2, rfl, rfl⟩ | ⟨hN2, rfl, rfl⟩)
       rotate_left; · exact absurd hN (hN2 k hk)
       refine XO.cX Tryd.call43 (Le.refl _) (without_ok (r := takeR m P) (i := k2) ((Sees.rsH _).le fndA) (take_bd hPb) (by omega)) ?_
       rintro _ _ ⟨a5, c5, rfl, rfl⟩
       refine ox 3 ?_
       have hl1 := len_one hk2; rw [takeR_two] at hl1 ⊢; have hN3 := hN2; unfold NearI at hN3; rw [hng k2 hk2] at hN3; have hst := near_step hpA hsub (by omega) hN3.1 hN3.2
       refine X.at (ih (both2 m (fun j => j == k2), a5, c5) ⟨hst, trivial⟩ (by dsimp only; omega)) subA leA
     · skip
       refine ox 2 ?_
       refine X.kf 61 ?_
       refine xx 7 ?_
       have hfin : takeR m P = rowsF t := (by have h2 := near_stop hpA hsub (fun i hi hc => hN i (by omega) (by unfold NearI; rw [hng i (by omega)]; exact hc)); rw [takeR_congr (S := cl (prI t.ins)) (fun x hx hj => by have h3 := hpA x.i (by rw [← hPi]; exact List.mem_map_of_mem hx) hj; omega) (fun j hj => h2 j (by omega)), hPe, takeR_two]; rfl)
       refine X.retL (rsH rwC 6 70 a3 c3 (rowsF t) :: q) Tryd.func28 (res1 Tryd.results28 rfl) ⟨_, rfl, a3, c3, by rw [hfin], rfl⟩ (by rw [hfin]; exact leA)
end
end Go.Proofs.YtbeeplmgcdnadaaDoor

