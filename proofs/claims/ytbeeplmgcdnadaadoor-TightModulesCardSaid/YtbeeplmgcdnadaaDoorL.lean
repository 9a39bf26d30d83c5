/- What functions of package verify, of its references and of its laws do: contracts of calls, proved by walking their code. -/
import Derived.Test.YtbeeplmgcdnadaaDoorK
import Derived.Test.YtbeeplmgcdnadaaDoorWc
import Derived.KernelRfl
set_option maxRecDepth 100000
set_option linter.unusedVariables false
set_option linter.unusedSimpArgs false
namespace Go.Proofs.YtbeeplmgcdnadaaDoor
open Go Go.RowKit Wx
attribute [local irreducible] Wx.lsH Wx.rsH Wx.lsM Wx.rsM Wx.stars

/-! ### the places that are open, in a heap -/
structure HI (D : List Int) (dn : List Bool) (l : List Int) : Prop where
  len : dn.length = D.length
  mem : ∀ x : Int, x ∈ l ↔ 0 ≤ x ∧ isOpen D dn x.toNat
  nd : l.Nodup
  hp : HeapP l l.length
  rng : ∀ i, dAt D i = -1 ∨ (0 ≤ dAt D i ∧ dAt D i ≤ 25)
  dnp : ∀ i, dn.getD i false = true → 0 ≤ dAt D i
  cnt : l.length + D.count (-1) ≤ D.length
theorem dAt_ge {D : List Int} {i : Nat} (h : D.length ≤ i) : dAt D i = -1 := by simp [dAt, List.getD_eq_getElem?_getD, List.getElem?_eq_none h]
theorem dAt_lt {D : List Int} {i : Nat} (h : 0 ≤ dAt D i) : i < D.length := by
  rcases Nat.lt_or_ge i D.length with e | e
  · exact e
  · rw [dAt_ge e] at h; omega
theorem dAt_get {D : List Int} {i : Nat} (h : i < D.length) : dAt D i = D[i] := by simp [dAt, List.getD_eq_getElem?_getD, h]
theorem getD_set_b {dn : List Bool} {i j : Nat} {b : Bool} (hi : i < dn.length) : (dn.set i b).getD j false = if j = i then b else dn.getD j false := by
  simp only [List.getD_eq_getElem?_getD, List.getElem?_set]
  by_cases h : j = i
  · subst h; simp [hi]
  · have h' : ¬ i = j := fun e => h e.symm
    simp [h, h']
theorem HI.nil {D : List Int} {dn : List Bool} (h : HI D dn []) : leastS D dn = none :=
  leastS_of_none fun j _ ho => by
    have := (h.mem (j : Int)).2 ⟨by omega, by simpa using ho⟩
    simp at this
theorem HI.pop {D : List Int} {dn : List Bool} {l l' : List Int} {x : Int} (h : HI D dn l) (hp : (x :: l').Perm l) (hy : ∀ y ∈ l', x ≤ y) (hh : HeapP l' l'.length) :
    0 ≤ x ∧ x.toNat < D.length ∧ leastS D dn = some x.toNat ∧ isOpen D dn x.toNat ∧ HI D (dn.set x.toNat true) l' := by
  have hx : x ∈ l := hp.mem_iff.1 (List.mem_cons_self ..)
  obtain ⟨h0, ho⟩ := (h.mem x).1 hx
  have hlt := dAt_lt ho.1
  have hnd := (hp.nodup_iff).2 h.nd
  obtain ⟨hn1, hn2⟩ := List.nodup_cons.1 hnd
  refine ⟨h0, hlt, leastS_of hlt ho (fun j hj hjo => ?_), ho, ?_⟩
  · have hjl : (j : Int) ∈ l := (h.mem j).2 ⟨by omega, by simpa using hjo⟩
    rcases List.mem_cons.1 (hp.mem_iff.2 hjl) with e | e
    · omega
    · have := hy _ e; omega
  · have e := fun j => getD_set_b (dn := dn) (i := x.toNat) (j := j) (b := true) (by rw [h.len]; exact hlt)
    refine ⟨by rw [List.length_set]; exact h.len, fun y => ?_, hn2, hh, h.rng, fun i hi => ?_, ?_⟩
    · constructor
      · intro hm
        obtain ⟨k1, k2, k3⟩ := (h.mem y).1 (hp.mem_iff.1 (List.mem_cons_of_mem _ hm))
        refine ⟨k1, k2, ?_⟩
        rw [e, if_neg (fun c => hn1 (by rw [show x = y by omega]; exact hm))]; exact k3
      · rintro ⟨k1, k2, k3⟩
        rw [e] at k3
        split at k3
        · cases k3
        · rename_i c
          have := (h.mem y).2 ⟨k1, k2, k3⟩
          rcases List.mem_cons.1 (hp.mem_iff.2 this) with e | e
          · exact absurd (by rw [e]) c
          · exact e
    · rw [e] at hi
      split at hi
      · rename_i c; rw [c]; exact ho.1
      · exact h.dnp i hi
    · have h7 := hp.length_eq; have h8 := h.cnt; rw [List.length_cons] at h7; omega
theorem HI.push {D : List Int} {dn : List Bool} {l l' : List Int} {i : Nat} {b : Int} (h : HI D dn l) (hi : i < D.length) (hd : dAt D i = -1) (hb : 0 ≤ b ∧ b ≤ 25) (hp : l'.Perm ((i : Int) :: l)) (hh : HeapP l' l'.length) : HI (D.set i b) dn l' := by
  have e := fun j => dAt_set (D := D) (i := i) (j := j) (b := b) hi
  have hdn : dn.getD i false = false := by
    cases hc : dn.getD i false with
    | false => rfl
    | true => have := h.dnp i hc; omega
  have hni : (i : Int) ∉ l := fun hm => by have := ((h.mem _).1 hm).2.1; simp only [Int.toNat_natCast] at this; omega
  refine ⟨by rw [List.length_set]; exact h.len, fun y => ?_, (hp.nodup_iff).2 (List.nodup_cons.2 ⟨hni, h.nd⟩), hh, fun j => ?_, fun j hj => ?_, ?_⟩
  · rw [hp.mem_iff, List.mem_cons]
    constructor
    · rintro (rfl | hm)
      · refine ⟨by omega, ?_, by simpa using hdn⟩
        rw [e]; simp [hb.1]
      · obtain ⟨k1, k2, k3⟩ := (h.mem y).1 hm
        refine ⟨k1, ?_, k3⟩
        rw [e]; split
        · exact hb.1
        · exact k2
    · rintro ⟨k1, k2, k3⟩
      rw [e] at k2
      split at k2
      · left; omega
      · exact .inr ((h.mem y).2 ⟨k1, k2, k3⟩)
  · rw [e]; split
    · exact .inr hb
    · exact h.rng j
  · rw [e]; split
    · exact hb.1
    · exact h.dnp j hj
  · have h1 := List.count_set (a := b) (b := (-1 : Int)) hi
    rw [h1, List.length_set, hp.length_eq, List.length_cons]
    rw [dAt_get hi] at hd
    have h2 : 0 < D.count (-1) := List.count_pos_iff.2 (hd ▸ List.getElem_mem hi)
    have h3 := h.cnt
    have e1 : (D[i] == (-1 : Int)) = true := by rw [hd]; rfl
    have e2 : (b == (-1 : Int)) = false := beq_eq_false_iff_ne.2 (by omega)
    rw [e1, e2]; simp; omega
theorem HI.init {n : Nat} (hn : 0 < n) : HI ((List.replicate n (-1)).set 0 0) (List.replicate n false) [0] := by
  have e := fun j => dAt_set (D := List.replicate n (-1)) (i := 0) (j := j) (b := 0) (by simpa using hn)
  have e0 : ∀ j, dAt (List.replicate n (-1)) j = -1 := fun j => by
    unfold dAt; rw [List.getD_eq_getElem?_getD, List.getElem?_replicate]; split <;> rfl
  have ef : ∀ j, (List.replicate n false).getD j false = false := fun j => by
    rw [List.getD_eq_getElem?_getD, List.getElem?_replicate]; split <;> rfl
  refine ⟨by simp, fun x => ?_, by simp, fun k h1 h2 => by simp at h2; omega, fun i => ?_, fun i hi => (by rw [ef] at hi; cases hi), ?_⟩
  · rw [List.mem_singleton]
    constructor
    · rintro rfl; exact ⟨by omega, by rw [e]; simp, ef _⟩
    · rintro ⟨k1, k2, k3⟩
      rw [e, e0] at k2
      split at k2 <;> omega
  · rw [e, e0]; split <;> simp
  · rw [List.count_set (by simpa using hn)]; simp
    omega
theorem noFalse {dn : List Bool} {a : Nat} (h : (dn.filter (· == false)).length = 0) (ha : a < dn.length) : dn.getD a false = true := by
  have h1 := List.eq_nil_of_length_eq_zero h
  rw [List.filter_eq_nil_iff] at h1
  have := h1 dn[a] (List.getElem_mem ha)
  simp [List.getD, ha]
  simpa using this
theorem fil_set : ∀ (dn : List Bool) (a : Nat), a < dn.length → dn.getD a false = false → ((dn.set a true).filter (· == false)).length + 1 = (dn.filter (· == false)).length := by
  intro dn
  induction dn with
  | nil => intro a h; simp at h
  | cons x r ih =>
    intro a ha h
    cases a with
    | zero => simp at h; subst h; simp
    | succ a =>
      have := ih a (by simpa using ha) (by simpa using h)
      cases x
      · simp only [List.set_cons_succ, List.filter_cons, beq_self_eq_true, if_true, List.length_cons]; omega
      · simpa using this

/-- The depths of a thread's places. -/
def dOf (m : Mdl) (t : Cod) : List Int × Int :=
  if t.ins.length = 0 then ([], 170) else if ¬ (∀ x ∈ t.ins, slotOk m t x) then ([], 171) else thrS (insT t) t.ins.length ((List.replicate t.ins.length (-1)).set 0 0) (List.replicate t.ins.length false)
theorem thrS_end {ins : List InsT} {D : List Int} {dn : List Bool} (k : Nat) (h : HI D dn []) : thrS ins k D dn = (D, 0) := by
  cases k with
  | zero => rfl
  | succ k => unfold thrS; rw [h.nil]
theorem fil_pos {dn : List Bool} {a : Nat} (ha : a < dn.length) (h : dn.getD a false = false) : 0 < (dn.filter (· == false)).length := by
  rcases Nat.eq_zero_or_pos (dn.filter (· == false)).length with e | e
  · have := noFalse e ha; rw [h] at this; cases this
  · exact e
theorem fill_eq {D : List Int} {N : Nat} (h : D.length = N) (h2 : ∀ i (hi : i < D.length), i < N → D[i] = -1) : D = List.replicate N (-1) := by
  refine List.ext_getElem (by simp [h]) (fun i h1 h3 => ?_)
  rw [List.getElem_replicate]; exact h2 i h1 (by omega)
theorem thrS_step {ins : List InsT} {k a : Nat} {D : List Int} {dn : List Bool} (h : leastS D dn = some a) : thrS ins (k + 1) D dn = if (oneS ins a (dAt D a)).2 ≠ 0 then ([], (oneS ins a (dAt D a)).2) else match visitS (oneS ins a (dAt D a)).1 D (nextS (ins.getD a zI) a) with
      | none => ([], 174)
      | some D' => thrS ins k D' (dn.set a true) := by
  conv => lhs; unfold thrS
  rw [h]; rfl
theorem oneS_le {ins : List InsT} {a : Nat} {d : Int} (h : (oneS ins a d).2 = 0) : (oneS ins a d).1 ≤ 25 := by
  unfold oneS at h ⊢
  simp only at h ⊢
  split at h
  · cases h
  · rename_i h1
    split at h
    · cases h
    · rename_i h2
      split at h
      · cases h
      · rename_i h3
        rw [if_neg h1, if_neg h2, if_neg h3]; dsimp only; omega
/-- What holds while the places behind one are looked at. -/
structure VI (D0 : List Int) (dn : List Bool) (b : Int) (xs : List Int) (k : Nat) (s : List Int × List Int) : Prop where
  hi : HI s.1 dn s.2
  len : s.1.length = D0.length
  go : visitS b D0 xs = visitS b s.1 (xs.drop k)

def viH (D : List Int) (dn : List Bool) (b : Int) (xs : List Int) (g N nb k : Nat) : HP := ex fun s : List Int × List Int => stars [Wx.pure (VI D dn b xs k s), lsH I64 3 (some ⟨g, 0, none⟩) N s.1, plB nb s.2]
theorem viH_in {D : List Int} {dn : List Bool} {b : Int} {xs : List Int} {g N nb k : Nat} {q r : List HP} (s : List Int × List Int) (h : VI D dn b xs k s) (hle : Le q (lsH I64 3 (some ⟨g, 0, none⟩) N s.1 :: plB nb s.2 :: r)) : Le q (viH D dn b xs g N nb k :: r) :=
  Le.to_ex s (hle.trans ((Le.add_pure h _).trans (by exact Le.stars_in [_, _, _] r)))
theorem X.viH {P : Program} {G : World} {f : Fc} {Q : Post} {todo : List Item} {p : PE} {ds : List Deferred} {cs : List Frame} {D : List Int} {dn : List Bool} {b : Int} {xs : List Int} {g N nb k : Nat} {q : List HP}
    (x : ∀ D' l', VI D dn b xs k (D', l') → X P G f Q todo p ds cs (lsH I64 3 (some ⟨g, 0, none⟩) N D' :: plB nb l' :: q)) : X P G f Q todo p ds cs (Go.Proofs.YtbeeplmgcdnadaaDoor.viH D dn b xs g N nb k :: q) :=
  X.ex (fun s => X.le (Le.stars_out _ _) (X.pure (fun h => x s.1 s.2 h)))
theorem nxt_mem {x : Ins} (h : insOk x) (a : Nat) : ∀ y ∈ nxt x (a : Int), 0 ≤ y := by
  intro y hy
  have h1 := h.2.1
  unfold nxt at hy
  have hA : (x.c = 19 ∨ x.c = 20 ∨ x.c = 21) → 0 ≤ x.a := fun hc => by
    rw [if_pos (by unfold nmA; exact decide_eq_true (by omega))] at h1; exact h1.1
  (repeat' split at hy) <;> simp at hy <;> first | (have := hA (by omega); omega) | omega
theorem VI.step {D0 : List Int} {dn : List Bool} {b : Int} {xs : List Int} {k y : Nat} {D l : List Int} (h : VI D0 dn b xs k (D, l)) (hk : k < xs.length) (hy : xs[k] = (y : Int)) (hyl : y < D.length) : visitS b D0 xs = if 0 ≤ D[y] ∧ D[y] ≠ b then none else visitS b (D.set y b) (xs.drop (k + 1)) := by
  rw [h.go, List.drop_eq_getElem_cons hk, hy]
  conv => lhs; unfold visitS
  simp only [Int.toNat_natCast, dAt_get hyl]

section
variable {G : World} {q pre : List HP} {a b A : Option Addr} {c d C p p0 p1 p2 i : Nat} {lo hi n cd dep : Int} {fv : Value} {x y : Ins} {t : Cod} {m : Mdl} {at_ : Int}
variable {pm om pt ot n : Nat}
set_option maxHeartbeats 4000000 in
theorem depthsOf_ok (g : GE q) (hm : CellsAt q pm om (mdlC m)) (ht : CellsAt q pt ot (codC t)) (hq : CodQ q t) (hin : ∀ x ∈ t.ins, insOk x) (hL : t.ins.length ≤ 65536) : CallF Tryd.prog G 32 [.pointer (some ⟨pm, om, none⟩), .pointer (some ⟨pt, ot, none⟩)] (q) (Ret fun v q' => ((dOf m t).2 ≠ 0 ∧ v = .tuple [.slice none 0 0, .int .i64 (dOf m t).2].toArray ∧ q' = q) ∨ ((dOf m t).2 = 0 ∧ ∃ a' c', v = .tuple [.slice a' (dOf m t).1.length c', .int .i64 0].toArray ∧ q' = lsH I64 3 a' c' (dOf m t).1 :: q)) := by
 refine CallF.of Tryd.func32 Tryd.ntmps32 rfl (fun F cs => ?_)
 have hs := hq.i; have hlen := flatMap_len (f := insC) (sz := 4) (fun _ => rfl) t.ins
 have hc : ∀ x ∈ t.ins, 1 ≤ x.c ∧ x.c ≤ 34 := fun x hx => (hin x hx).1
 refine xo 12 ?_
 refine ld ?_ (hc := ((ht 2 _ rfl).le leA))
 refine ox 3 ?_
 refine X.part 19 rfl (fun h0 => ?_) (fun h0 => ?_)
 · skip
   replace h0 := sp h0
   refine xx 6 ?_
   have hD : dOf m t = ([], 170) := by unfold dOf; rw [if_pos (by omega)]
   refine X.retL (q) Tryd.func32 (res2 Tryd.results32 rfl rfl) ⟨_, rfl, .inl ⟨by rw [hD]; decide, by rw [hD], rfl⟩⟩
 · skip
   replace h0 := sp h0; have hN : 0 < t.ins.length := by omega
   refine xo 7 ?_
   refine XO.cR Tryd.call51 (namesMay_ok (hm.le leA) (ht.le leA) (hq.le leA)) ?_
   refine XO.pu (Pu.not rfl) ?_
   refine ox 1 ?_
   refine X.part 23 rfl (fun h1 => ?_) (fun h1 => ?_)
   · skip
     replace h1 := sp h1
     refine xx 6 ?_
     have hD : dOf m t = ([], 171) := by unfold dOf; rw [if_neg (by omega), if_pos (by simpa using h1)]
     refine X.retL (q) Tryd.func32 (res2 Tryd.results32 rfl rfl) ⟨_, rfl, .inl ⟨by rw [hD]; decide, by rw [hD], rfl⟩⟩
   · skip
     replace h1 := sp h1
     have hT : dOf m t = thrS (insT t) t.ins.length ((List.replicate t.ins.length (-1)).set 0 0) (List.replicate t.ins.length false) := by unfold dOf; rw [if_neg (by omega), if_neg (by simpa using h1)]
     generalize dOf m t = T at hT ⊢
     refine xo 7 ?_
     refine ld ?_ (hc := ((ht 2 _ rfl).le leA))
     refine oo 1 ?_
     refine XO.ef (Ef.make (n := t.ins.length) rfl rfl Tryd.underlying23 Tryd.info3 rfl rfl (by omega) (by omega)) ?_
     rintro _ _ ⟨g0, rfl, rfl⟩
     refine XO.le (q' := lsH I64 3 (some ⟨g0, 0, none⟩) t.ins.length (List.replicate t.ins.length 0) :: _) (Le.trans fndA (by rw [show lsH I64 3 (some ⟨g0, 0, none⟩) t.ins.length (List.replicate t.ins.length 0) = slH (some ⟨g0, 0, none⟩) t.ins.length 3 1 t.ins.length ((List.replicate t.ins.length (Value.cells (.int .i64 0)).toList).flatten) from by unfold lsH; rw [List.length_replicate]; congr 1; induction t.ins.length with | zero => rfl | succ n ih => simp [List.replicate_succ, Value.cells] at *]; exact Le.refl _)) ?_
     refine XO.al Tryd.zeroValue23 fun n1 => ?_
     refine st ?_
     refine oo 4 ?_
     refine ld ?_
     refine ox 4 ?_
     refine X.at (X.loop (fun (s : List Int × Nat) => s.1.length = t.ins.length ∧ s.2 ≤ t.ins.length ∧ ∀ i (h : i < s.1.length), i < s.2 → s.1[i] = -1) (fun s => [(32, .int .i64 (s.2 : Int)), (31, .int .i64 (t.ins.length : Int)), (6, .pointer (some ⟨n1, 0, none⟩)), (5, .int .i64 0), (4, .slice none 0 0), (0, .pointer (some ⟨pm, om, none⟩)), (1, .pointer (some ⟨pt, ot, none⟩))]) (fun s => pto n1 (.cells [.slice (some ⟨g0, 0, none⟩) t.ins.length t.ins.length].toArray 23 (0, 0)) :: lsH I64 3 (some ⟨g0, 0, none⟩) t.ins.length s.1 :: (q ++ F)) (fun s => t.ins.length - s.2) (fun s hi_ ih => ?_) (List.replicate t.ins.length 0, 0) ⟨by simp, by omega, fun i _ h => absurd h (Nat.not_lt_zero _)⟩) subA leA
     try dsimp only at hi_ ih ⊢
     obtain ⟨hl1, hl2, hl3⟩ := hi_
     obtain ⟨D, k⟩ := s; dsimp only at *
     refine xx 5 ?_
     refine X.part 33 rfl (fun h2 => ?_) (fun h2 => ?_)
     · skip
       replace h2 := sp h2
       refine xo 10 ?_
       refine ld ?_
       refine oo 2 ?_
       refine XO.ef0 (Ef.setL (l := D) (n := k) (u := -1) rfl rfl Tryd.sizeOf3 rfl (by omega) rfl rfl fndA) ?_
       rintro _ _ ⟨rfl, rfl⟩
       refine ox 6 ?_
       refine X.at (ih (D.set k (-1), k + 1) ⟨by rw [List.length_set]; exact hl1, by dsimp only; omega, fun i hh hk => by dsimp only at hk hh ⊢; rw [List.getElem_set]; split; rfl; exact hl3 i (by rw [List.length_set] at hh; exact hh) (by omega)⟩ (by dsimp only; omega)) subA leA
     · skip
       replace h2 := sp h2
       have hrep : D = List.replicate t.ins.length (-1) := fill_eq hl1 (fun i h1 h3 => hl3 i h1 (by omega))
       clear hl3
       refine xo 4 ?_
       refine ld ?_
       refine oo 1 ?_
       refine XO.ef0 (Ef.setL (l := D) (n := 0) (u := 0) rfl rfl Tryd.sizeOf3 rfl (by omega) rfl rfl fndA) ?_
       rintro _ _ ⟨rfl, rfl⟩
       refine oo 3 ?_
       refine XO.ef (Ef.litL I64 [0] Tryd.underlying100 Tryd.info3 rfl rfl rfl rfl rfl rfl (fun _ => rfl)) ?_
       rintro _ _ ⟨g1, rfl, rfl⟩
       refine XO.bx fun n2 => ?_
       refine XO.al Tryd.zeroValue99 fun n3 => ?_
       refine st ?_
       refine oo 3 ?_
       refine XO.al Tryd.zeroValue29 fun n4 => ?_
       refine st ?_
       refine ox 5 ?_
       subst hrep
       refine X.at (X.loopD (fun (s : List Int × List Bool × List Int × Nat × List Nat) => HI s.1 s.2.1 s.2.2.1 ∧ s.1.length = t.ins.length ∧ (s.2.1.filter (· == false)).length ≤ s.2.2.2.1 ∧ thrS (insT t) s.2.2.2.1 s.1 s.2.1 = T) (fun s => [(8, .pointer (some ⟨n3, 0, none⟩)), (9, .pointer (some ⟨n4, 0, none⟩)), (6, .pointer (some ⟨n1, 0, none⟩)), (5, .int .i64 0), (4, .slice none 0 0), (0, .pointer (some ⟨pm, om, none⟩)), (1, .pointer (some ⟨pt, ot, none⟩))]) (fun s => s.2.2.2.2.map markD ++ []) (fun s => mks s.2.2.2.2 :: pto n1 (.cells [.slice (some ⟨g0, 0, none⟩) t.ins.length t.ins.length].toArray 23 (0, 0)) :: lsH I64 3 (some ⟨g0, 0, none⟩) t.ins.length s.1 :: plB n2 s.2.2.1 :: pto n3 (.cells [.pointer (some ⟨n2, 0, none⟩)].toArray 99 (0, 0)) :: pto n4 (.cells [.int .i64 0].toArray 29 (0, 0)) :: (q ++ F)) (fun s => s.2.2.2.1) (fun s hi_ ih => ?_) ((List.replicate t.ins.length (-1)).set 0 0, List.replicate t.ins.length false, [0], t.ins.length, []) ⟨HI.init hN, by simp, Nat.le_trans (List.length_filter_le _ _) (by simp), hT.symm⟩) subA (by refine Le.trans ?_ (Le.mks_nil _); refine Le.pick fndA (Le.pick fndA (Le.bx (a := some ⟨g1, 0, none⟩) (c := 1) ?_)); exact leA)
       try dsimp only at hi_ ih ⊢
       obtain ⟨hI, hDN, hfu, hT⟩ := hi_
       skip
       obtain ⟨D, dn, l, fu, rs⟩ := s; dsimp only at hI hDN hfu hT ih ⊢
       have hlN : l.length ≤ 65536 := by have := hI.cnt; omega
       refine X.le (q' := plB n2 l :: _) fndA (X.bx (fun a1 c1 => ?_))
       refine xo 3 ?_
       refine ld ?_
       refine oo 1 ?_
       refine ld ?_
       refine XO.cF Tryd.call52 (plLen_ok (b := n2)) ?_
       rintro _ _ ⟨rfl, rfl⟩ _ e_; simp only [ca, na] at e_; subst e_
       refine ox 2 ?_
       refine X.le (q' := plB n2 l :: _) (Le.bx (a := a1) (c := c1) (Le.pick fndA fndA)) ?_
       refine X.part 47 rfl (fun h3 => ?_) (fun h3 => ?_)
       · skip
         replace h3 := sp h3
         refine xo 5 ?_
         refine ld ?_
         refine oo 1 ?_
         refine XO.cF Tryd.call53 (hPop_ok (b := n2) hI.hp (by omega) (by omega)) ?_
         rintro _ _ ⟨x, l', rfl, hp1, hp2, hp3, rfl⟩ _ e_; simp only [ca, na] at e_; subst e_
         obtain ⟨hx0, hxl, hle, hop, hI'⟩ := hI.pop hp1 hp2 hp3
         obtain ⟨a, rfl⟩ : ∃ a : Nat, x = a := ⟨x.toNat, by omega⟩
         simp only [Int.toNat_natCast] at hxl hle hop hI'
         have hfp := fil_pos (a := a) (dn := dn) (by rw [hI.len]; exact hxl) hop.2
         have hfs := fil_set dn a (by rw [hI.len]; exact hxl) hop.2
         obtain ⟨fv, rfl⟩ : ∃ f, fu = f + 1 := ⟨fu - 1, by omega⟩
         rw [thrS_step hle, dAt_get hxl] at hT; have hrg := hI.rng a; have hop1 := hop.1; rw [dAt_get hxl] at hrg hop1
         have haN : a < t.ins.length := by omega
         refine XO.pu (Pu.assertD rfl Tryd.underlying3 rfl) ?_
         refine oo 6 ?_
         refine ld ?_
         refine oo 2 ?_
         refine ld ?_ (hc := (Cl.e1 (Sees.lsH _) fndA hxl rfl))
         refine XO.cR Tryd.call54 (look_ok (n := a) (dep := D[a]) (g.le leA) (ht.le leA) (hq.le leA) hc hL haN (by omega)) ?_
         have hO1 : (oneS (insT t) a D[a]).2 = 0 → (∀ x ∈ nextS ((insT t).getD a zI) a, x < ((insT t).length : Int)) ∧ 0 ≤ (oneS (insT t) a D[a]).1 ∧ (oneS (insT t) a D[a]).1 ≤ 25 := fun h => ⟨(oneS_next h).1, (oneS_next h).2.1 hop1, oneS_le h⟩
         generalize oneS (insT t) a D[a] = O at hT hO1 ⊢
         refine oo 3 ?_
         refine XO.al Tryd.zeroValue3 fun n5 => ?_
         refine st ?_
         refine ox 8 ?_
         refine X.sb [63, 12, 11, 10, 8, 9, 6, 5, 4, 0, 1] ?_
         refine X.part 63 rfl (fun h4 => ?_) (fun h4 => ?_)
         · skip
           have hne : O.2 ≠ 0 := by simpa using h4
           refine xo 4 ?_
           refine st ?_
           refine oo 5 ?_
           refine ld ?_
           refine ox 2 ?_
           refine X.know 96 (.bool true) rfl (congrArg Value.bool (by rw [bne_iff_ne]; exact hne)) ?_
           refine xx 2 ?_
           refine drw ?_
           refine ldD 0 ?_
           refine dd [1, 2] ?_
           refine XD.nil ?_
           have hTT : T = ([], O.2) := by rw [if_pos hne] at hT; exact hT.symm
           refine X.ret ⟨rfl, ?_⟩
           refine Lv.mks ?_
           exact Lv.ret (q' := q) Tryd.func32 (res2 Tryd.results32 rfl rfl) ⟨_, rfl, .inl ⟨by rw [hTT]; exact hne, by rw [hTT], rfl⟩⟩ leB
         · skip
           replace h4 := sp h4
           rw [if_neg (by omega), insT_at haN] at hT; obtain ⟨hO1, hO2, hO3⟩ := hO1 (by omega); rw [insT_at haN, insT_len] at hO1; rw [← nxt_eq] at hO1 hT
           refine xo 7 ?_
           refine ld ?_ (hc := ((ht 2 _ rfl).le leA))
           refine oo 1 ?_
           refine XO.adr hs (by rw [hlen]; omega) (fun b1 o1 e1 => ?_)
           have hs1 := hs; rw [e1] at hs1
           refine XO.know 68 (.slice (some ⟨b1, o1, none⟩) t.ins.length t.ic) rfl (by rw [e1]) ?_
           refine oo 1 ?_
           refine XO.ldS (n := a) Tryd.isAgg53 Tryd.sizeOf53 hs1 haN ?_
           refine oo 1 ?_
           refine XO.cF Tryd.call55 (behind_ok (x := t.ins[a])) ?_
           rintro _ _ ⟨p1, p2, rfl, rfl⟩ _ e_; simp only [ca, na] at e_; subst e_
           refine ox 2 ?_
           refine X.le (q' := pto p1 (.cells (insC t.ins[a]).toArray 53 (0, 0)) :: _) fndA (X.freeze ?_)
           refine X.le (q' := pto p2 (.cells [.int .i64 (a : Int)].toArray 3 (0, 0)) :: _) fndA (X.freeze ?_)
           have hxs : ∀ y ∈ nxt t.ins[a] (a : Int), 0 ≤ y ∧ y < t.ins.length := fun y hy => ⟨nxt_mem (hin _ (List.getElem_mem haN)) a y hy, hO1 y hy⟩
           refine X.range [im p1 (.cells (insC t.ins[a]).toArray 53 (0, 0)), im p2 (.cells [.int .i64 (a : Int)].toArray 3 (0, 0))] (fun k => viH D (dn.set a true) O.1 (nxt t.ins[a] (a : Int)) g0 t.ins.length n2 k :: pto n1 (.cells [.slice (some ⟨g0, 0, none⟩) t.ins.length t.ins.length].toArray 23 (0, 0)) :: pto n3 (.cells [.pointer (some ⟨n2, 0, none⟩)].toArray 99 (0, 0)) :: pto n4 (.cells [.int .i64 0].toArray 29 (0, 0)) :: pto n5 (.cells [.int .i64 O.1].toArray 3 (0, 0)) :: []) (fun e qs => e = .exit 2 ∧ qs = Wx.pure (visitS O.1 D (nxt t.ins[a] (a : Int)) = none) :: pto n4 (.cells [.int .i64 174].toArray 29 (0, 0)) :: []) (F := mks rs :: (q ++ F)) (behind_iter (x := t.ins[a]) ⟨by omega, by omega⟩) rfl ?_ (by intro x hx; obtain ⟨y, _, rfl⟩ := List.mem_map.1 hx; rfl) rfl (by rw [Tryd.func32]; rfl) rfl (fun i hi l2 rec F0 cs0 => ?_) (fun r => ?_) (fun r c2 qs2 hJ => ?_)
           · simp only [ca, na]; refine viH_in (D, l') ⟨hI', rfl, by simp⟩ ?_; exact leA
           · skip
             have hi' : i < (nxt t.ins[a] (a : Int)).length := by simpa using hi
             rw [List.getElem_map]
             simp only [zipP, ivs]
             have hyb := hxs _ (List.getElem_mem hi')
             obtain ⟨y, hy⟩ : ∃ y : Nat, (nxt t.ins[a] (a : Int))[i] = (y : Int) := ⟨((nxt t.ins[a] (a : Int))[i]).toNat, by omega⟩
             rw [hy] at hyb ⊢
             refine X.sb [74, 73, 11, 8, 9, 6, 5, 4, 0, 1] ?_
             simp only [ca, na]
             refine X.le (q' := viH D (dn.set a true) O.1 (nxt t.ins[a] (a : Int)) g0 t.ins.length n2 i :: _) fndA (X.viH (fun D1 l1 hV => ?_))
             have hV1 := hV.len; dsimp only at hV1; have hyl : y < D1.length := by omega
             have hst := hV.step hi' hy hyl; have hrg1 := hV.hi.rng y; dsimp only at hrg1; rw [dAt_get hyl] at hrg1; have hc1 := hV.hi.cnt; dsimp only at hc1
             refine xx 3 ?_
             refine X.beginRound rfl leA ?_
             refine xo 3 ?_
             refine ld ?_
             refine oo 2 ?_
             refine ld ?_ (hc := (Cl.e1 (Sees.lsH _) fndA hyl rfl))
             refine ox 2 ?_
             refine X.sb [79, 13, 11, 8, 9, 6] ?_
             refine X.part 79 rfl (fun k1 => ?_) (fun k1 => ?_)
             · skip
               replace k1 := sp k1
               refine xo 3 ?_
               refine ld ?_
               refine oo 1 ?_
               refine ld ?_
               refine oo 1 ?_
               refine XO.ef0 (Ef.setL (l := D1) (n := y) (u := O.1) rfl rfl Tryd.sizeOf3 rfl hyl rfl rfl fndA) ?_
               rintro _ _ ⟨rfl, rfl⟩
               refine oo 2 ?_
               refine ld ?_
               refine oo 3 ?_
               refine XO.cF Tryd.call56 (hPush_ok (b := n2) (l := l1) (z := (y : Int)) hV.hi.hp (by omega)) ?_
               rintro _ _ ⟨l2', hq1, hq2, rfl⟩ _ e_; simp only [ca, na] at e_; subst e_
               refine ox 2 ?_
               refine X.fall ⟨rfl, rfl, ?_⟩
               simp only [ca, na]
               refine Le.pick fndA (viH_in (D1.set y O.1, l2') ⟨hV.hi.push hyl (by rw [dAt_get hyl]; exact k1) ⟨hO2, hO3⟩ hq2 hq1, by rw [List.length_set]; exact hV1, by rw [hst, if_neg (by omega)]⟩ ?_)
               exact leA
             · skip
               replace k1 := sp k1
               refine xx 2 ?_
               refine drw ?_
               refine ldD 0 ?_
               refine dd [1, 2] ?_
               refine ldD 3 ?_ (hc := (Cl.e1 (Sees.lsH _) fndA hyl rfl))
               refine ldD 4 ?_
               refine dd [5] ?_
               refine XD.nil ?_
               refine X.part 94 rfl (fun k2 => ?_) (fun k2 => ?_)
               · skip
                 replace k2 := sp k2
                 refine xo 3 ?_
                 refine st ?_
                 refine ox 1 ?_
                 refine X.out rfl ⟨rfl, rfl, _, ⟨rfl, rfl⟩, ?_⟩
                 simp only [ca, na]
                 refine Le.pick fndA (Le.trans ?_ (Le.add_pure (show visitS O.1 D (nxt t.ins[a] (a : Int)) = none by rw [hst, if_pos ⟨by omega, by omega⟩]) _))
                 exact leA
               · skip
                 replace k2 := sp k2
                 refine xx 3 ?_
                 have hse : D1.set y O.1 = D1 := by rw [← k2]; exact List.set_getElem_self hyl
                 refine X.fall ⟨rfl, rfl, ?_⟩
                 simp only [ca, na]
                 refine Le.pick fndA (viH_in (D1, l1) ⟨hV.hi, hV1, by rw [hst, if_neg (by omega), hse]⟩ ?_)
                 exact leA
           · skip
             simp only [ca, na]
             rw [List.length_map]
             refine X.le (q' := viH D (dn.set a true) O.1 (nxt t.ins[a] (a : Int)) g0 t.ins.length n2 (nxt t.ins[a] (a : Int)).length :: _) fndA (X.viH (fun D1 l1 hV => ?_))
             have hV1 := hV.len; have hV2 := hV.hi; have hV3 := hV.go; dsimp only at hV1 hV2 hV3; rw [List.drop_length] at hV3; rw [hV3] at hT; simp only [visitS] at hT
             refine xx 2 ?_
             refine X.at (ih (D1, dn.set a true, l1, fv, r :: rs) ⟨hV2, by dsimp only; omega, by dsimp only; omega, hT⟩ (by dsimp only; omega)) subA (by refine Le.trans ?_ (Le.mks_cons _ _ _); exact leB)
           · skip
             obtain ⟨rfl, rfl⟩ := hJ
             simp only [ca, na]
             refine X.le (q' := Wx.pure (visitS O.1 D (nxt t.ins[a] (a : Int)) = none) :: _) fndA (X.pure (fun hP => ?_))
             rw [hP] at hT; dsimp only at hT
             refine xo 4 ?_
             refine ld ?_
             refine ox 2 ?_
             refine X.know 96 (.bool true) rfl (congrArg Value.bool (by rw [bne_iff_ne]; decide)) ?_
             refine xx 2 ?_
             refine drw ?_
             refine ldD 0 ?_
             refine dd [1, 2] ?_
             refine XD.nil ?_
             have hTT : T = ([], 174) := hT.symm
             refine X.ret ⟨rfl, ?_⟩
             refine Lv.marks ?_
             refine Lv.mks ?_
             exact Lv.ret (q' := q) Tryd.func32 (res2 Tryd.results32 rfl rfl) ⟨_, rfl, .inl ⟨by rw [hTT]; decide, by rw [hTT], rfl⟩⟩ leB
       · skip
         replace h3 := sp h3
         have hl0 : l = [] := List.eq_nil_of_length_eq_zero (by omega)
         rw [hl0] at hI; rw [thrS_end fu hI] at hT
         refine xo 5 ?_
         refine ld ?_
         refine ox 2 ?_
         refine X.kf 96 ?_
         refine xo 4 ?_
         refine ld ?_
         refine ox 3 ?_
         refine X.ret ⟨rfl, ?_⟩
         refine Lv.mks ?_
         exact Lv.ret (q' := (lsH I64 3 (some ⟨g0, 0, none⟩) t.ins.length D :: q)) Tryd.func32 (res2 Tryd.results32 rfl rfl) ⟨_, rfl, .inr ⟨by rw [← hT], _, _, by rw [← hT, hDN], by rw [← hT]⟩⟩ leB
end
end Go.Proofs.YtbeeplmgcdnadaaDoor

