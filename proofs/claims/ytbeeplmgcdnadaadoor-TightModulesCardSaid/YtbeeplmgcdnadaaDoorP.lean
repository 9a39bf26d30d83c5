/- What functions of package verify, of its references and of its laws do: contracts of calls, proved by walking their code. -/
import Derived.Test.YtbeeplmgcdnadaaDoorN
import Derived.KernelRfl
set_option maxRecDepth 100000
set_option linter.unusedVariables false
set_option linter.unusedSimpArgs false
namespace Go.Proofs.YtbeeplmgcdnadaaDoor
open Go Go.RowKit Wx
attribute [local irreducible] Wx.lsH Wx.rsH Wx.lsM Wx.rsM Wx.stars

theorem Tryd.info4 : (Tryd.prog.info? 4).map (fun i => (i.zero, i.size, i.bytes)) = some (some (.bool false), 1, 1) := by kernel_rfl
theorem ls_made {α : Type} {f : α → Value} {u : α} {ty : TypeId} {a : Option Addr} {c : Nat} (h : (f u).cells = #[f u]) (n : Nat) : slH a c ty 1 n ((List.replicate n (f u).cells.toList).flatten) = lsH f ty a c (List.replicate n u) := by
  unfold lsH; rw [List.length_replicate, h]; congr 1
  induction n with
  | zero => rfl
  | succ n ih => simp [List.replicate_succ] at *
structure TI_ (D : List Int) (dn : List Bool) (N : Nat) : Prop where
  a : D.length = N
  b : dn.length = N
  rng : ∀ i, dAt D i = -1 ∨ (0 ≤ dAt D i ∧ dAt D i ≤ 25)
theorem TI_.set {D : List Int} {dn : List Bool} {N y : Nat} {b : Int} (h : TI_ D dn N) (hy : y < D.length) (hb : 0 ≤ b ∧ b ≤ 25) : TI_ (D.set y b) dn N :=
  ⟨by rw [List.length_set]; exact h.a, h.b, fun i => by rw [dAt_set hy]; split; exact .inr hb; exact h.rng i⟩
theorem open_iff {D : List Int} {dn : List Bool} {k : Nat} (h1 : k < D.length) (h2 : k < dn.length) : isOpen D dn k ↔ 0 ≤ D[k] ∧ dn[k] = false := by
  unfold isOpen; rw [dAt_get h1]; simp [List.getD_eq_getElem?_getD, h2]
theorem thrS_none {ins : List InsT} {D : List Int} {dn : List Bool} (k : Nat) (h : leastS D dn = none) : thrS ins k D dn = (D, 0) := by
  cases k with
  | zero => rfl
  | succ k => unfold thrS; rw [h]

section
variable {G : World} {q pre : List HP} {a b A : Option Addr} {c d C p p0 p1 p2 i : Nat} {lo hi n cd dep : Int} {fv : Value} {x y : Ins} {t : Cod} {m : Mdl} {at_ : Int}
variable {n : Nat}
set_option maxHeartbeats 8000000 in
theorem RThread_ok (hq : CodQ q t) (hin : ∀ x ∈ t.ins, insOk x) (hL : t.ins.length ≤ 65536) : CallF Tryd.prog G 24 [.agg (mdlC m).toArray, .agg (codC t).toArray] (q) (Ret fun v q' => ((dOf m t).2 ≠ 0 ∧ v = .tuple [.slice none 0 0, .int .i64 (dOf m t).2].toArray ∧ q' = q) ∨ ((dOf m t).2 = 0 ∧ ∃ a' c', v = .tuple [.slice a' (dOf m t).1.length c', .int .i64 0].toArray ∧ q' = lsH I64 3 a' c' (dOf m t).1 :: q)) := by
 refine CallF.of Tryd.func24 Tryd.ntmps24 rfl (fun F cs => ?_)
 have hs := hq.i; have hlen := flatMap_len (f := insC) (sz := 4) (fun _ => rfl) t.ins
 have hc : ∀ x ∈ t.ins, 1 ≤ x.c ∧ x.c ≤ 34 := fun x hx => (hin x hx).1
 refine xo 2 ?_
 refine XO.bx fun n1 => ?_
 refine XO.bx fun n2 => ?_
 refine oo 7 ?_
 refine ld ?_
 refine ox 3 ?_
 refine X.part 18 rfl (fun h0 => ?_) (fun h0 => ?_)
 · skip
   replace h0 := sp h0
   refine xx 6 ?_
   have hD : dOf m t = ([], 170) := by unfold dOf; rw [if_pos (by omega)]
   refine X.retL (q) Tryd.func24 (res2 Tryd.results24 rfl rfl) ⟨_, rfl, .inl ⟨by rw [hD]; decide, by rw [hD], rfl⟩⟩
 · skip
   replace h0 := sp h0; have hN : 0 < t.ins.length := by omega
   refine xo 5 ?_
   refine ld ?_
   refine oo 1 ?_
   refine XO.ef (Ef.make (n := t.ins.length) rfl rfl Tryd.underlying23 Tryd.info3 rfl rfl (by omega) (by omega)) ?_
   rintro _ _ ⟨g0, rfl, rfl⟩
   refine XO.le (q' := lsH I64 3 (some ⟨g0, 0, none⟩) t.ins.length (List.replicate t.ins.length 0) :: _) (Le.trans fndA (by rw [← ls_made (f := I64) (u := 0) rfl]; exact Le.refl _)) ?_
   refine oo 5 ?_
   refine ld ?_
   refine oo 1 ?_
   refine XO.ef (Ef.make (n := t.ins.length) rfl rfl Tryd.underlying79 Tryd.info4 rfl rfl (by omega) (by omega)) ?_
   rintro _ _ ⟨g2, rfl, rfl⟩
   refine XO.le (q' := lsH Value.bool 4 (some ⟨g2, 0, none⟩) t.ins.length (List.replicate t.ins.length false) :: _) (Le.trans fndA (by rw [← ls_made (f := Value.bool) (u := false) rfl]; exact Le.refl _)) ?_
   refine ox 8 ?_
   refine X.at (X.loop (fun (s : List Int × Nat) => s.1.length = t.ins.length ∧ s.2 ≤ t.ins.length ∧ (∀ i (h : i < s.1.length), i < s.2 → s.1[i] = -1) ∧ ∀ i (h : i < t.ins.length), i < s.2 → slotOk m t t.ins[i]) (fun s => [(8, .int .i64 (s.2 : Int)), (6, .slice (some ⟨g0, 0, none⟩) t.ins.length t.ins.length), (7, .slice (some ⟨g2, 0, none⟩) t.ins.length t.ins.length), (2, .pointer (some ⟨n1, 0, none⟩)), (3, .pointer (some ⟨n2, 0, none⟩)), (4, .slice none 0 0), (5, .int .i64 0)]) (fun s => lsH Value.bool 4 (some ⟨g2, 0, none⟩) t.ins.length (List.replicate t.ins.length false) :: lsH I64 3 (some ⟨g0, 0, none⟩) t.ins.length (s.1) :: pto n1 (.cells (mdlC m).toArray 26 (0, 0)) :: pto n2 (.cells (codC t).toArray 35 (0, 0)) :: (q ++ F)) (fun s => t.ins.length - s.2) (fun s hi_ ih => ?_) (List.replicate t.ins.length 0, 0) ⟨by simp, by omega, fun i _ h => absurd h (Nat.not_lt_zero _), fun i _ h => absurd h (Nat.not_lt_zero _)⟩) subA leA
   try dsimp only at hi_ ih ⊢
   obtain ⟨hl1, hl2, hl3, hl4⟩ := hi_
   obtain ⟨D, k⟩ := s; dsimp only at *
   refine xo 5 ?_
   refine ld ?_
   refine ox 3 ?_
   refine X.part 31 rfl (fun h2 => ?_) (fun h2 => ?_)
   · skip
     replace h2 := sp h2; have hkN : k < t.ins.length := by omega
     refine xo 9 ?_
     refine XO.ef0 (Ef.setL (l := D) (n := k) (u := -1) rfl rfl Tryd.sizeOf3 rfl (by omega) rfl rfl fndA) ?_
     rintro _ _ ⟨rfl, rfl⟩
     refine ox 2 ?_
     refine drw ?_
     refine ldAD 0 ?_
     refine ldAD 1 ?_
     refine dd [2] ?_
     refine ldD 3 ?_
     refine dd [4] ?_
     refine XD.adr hs (by rw [hlen]; omega) (fun b1 o1 e1 => ?_)
     have hs1 := hs; rw [e1] at hs1
     refine XD.know 40 (.slice (some ⟨b1, o1, none⟩) t.ins.length t.ic) rfl (by rw [e1]) ?_
     refine dd [5] ?_
     refine XD.ldS 6 (m := k) Tryd.isAgg53 Tryd.sizeOf53 hs1 hkN ?_
     refine XD.cRL 7 Tryd.call36 (slots_ok (x := t.ins[k])) ?_
     refine XD.pu 8 rfl (Pu.not rfl) ?_
     refine XD.nil ?_
     refine X.part 45 rfl (fun h1 => ?_) (fun h1 => ?_)
     · skip
       replace h1 := sp h1
       refine xx 6 ?_
       refine X.sb [5, 4, 8, 6, 7, 2, 3] ?_
       have hD : dOf m t = ([], 171) := by unfold dOf; rw [if_neg (by omega), if_pos (fun ka => absurd (ka _ (List.getElem_mem hkN)) (by simpa using h1))]
       refine X.retL (q) Tryd.func24 (res2 Tryd.results24 rfl rfl) ⟨_, rfl, .inl ⟨by rw [hD]; decide, by rw [hD], rfl⟩⟩
     · skip
       replace h1 := sp h1
       refine xx 8 ?_
       refine X.sb [8, 6, 7, 2, 3, 4, 5] ?_
       have hsk : slotOk m t t.ins[k] := by simpa using h1
       refine X.at (ih (D.set k (-1), k + 1) ⟨by rw [List.length_set]; exact hl1, by dsimp only; omega, fun i hh hk => by dsimp only at hk hh ⊢; rw [List.getElem_set]; split; rfl; exact hl3 i (by rw [List.length_set] at hh; exact hh) (by omega), fun i hh hk => by dsimp only at hk; rcases Nat.lt_or_ge i k with e | e; exact hl4 i hh e; obtain rfl : i = k := (by omega); exact hsk⟩ (by dsimp only; omega)) subA leA
   · skip
     replace h2 := sp h2
     have hrep : D = List.replicate t.ins.length (-1) := fill_eq hl1 (fun i h1 h3 => hl3 i h1 (by omega))
     have hall : ∀ x ∈ t.ins, slotOk m t x := fun x hx => by obtain ⟨i, hi, rfl⟩ := List.getElem_of_mem hx; exact hl4 i hi (by omega)
     clear hl3 hl4
     have hT : dOf m t = thrS (insT t) t.ins.length ((List.replicate t.ins.length (-1)).set 0 0) (List.replicate t.ins.length false) := by unfold dOf; rw [if_neg (by omega), if_neg (by simpa using hall)]
     generalize dOf m t = T at hT ⊢
     refine xo 6 ?_
     refine XO.ef0 (Ef.setL (l := D) (n := 0) (u := 0) rfl rfl Tryd.sizeOf3 rfl (by omega) rfl rfl fndA) ?_
     rintro _ _ ⟨rfl, rfl⟩
     refine ox 2 ?_
     subst hrep
     refine X.at (X.loop (fun (s : List Int × List Bool × Nat) => TI_ s.1 s.2.1 t.ins.length ∧ (s.2.1.filter (· == false)).length ≤ s.2.2 ∧ thrS (insT t) s.2.2 s.1 s.2.1 = T) (fun s => [(6, .slice (some ⟨g0, 0, none⟩) t.ins.length t.ins.length), (7, .slice (some ⟨g2, 0, none⟩) t.ins.length t.ins.length), (3, .pointer (some ⟨n2, 0, none⟩)), (4, .slice none 0 0), (5, .int .i64 0)]) (fun s => lsH Value.bool 4 (some ⟨g2, 0, none⟩) t.ins.length (s.2.1) :: lsH I64 3 (some ⟨g0, 0, none⟩) t.ins.length (s.1) :: pto n1 (.cells (mdlC m).toArray 26 (0, 0)) :: pto n2 (.cells (codC t).toArray 35 (0, 0)) :: (q ++ F)) (fun s => s.2.2) (fun s hi_ ih => ?_) ((List.replicate t.ins.length (-1)).set 0 0, List.replicate t.ins.length false, t.ins.length) ⟨⟨by simp, by simp, (HI.init hN).rng⟩, Nat.le_trans (List.length_filter_le _ _) (by simp), hT.symm⟩) subA leA
     try dsimp only at hi_ ih ⊢
     obtain ⟨hI, hfu, hT⟩ := hi_
     obtain ⟨D, dn, fu⟩ := s; dsimp only at hI hfu hT ih ⊢
     have hDN := hI.a; have hBN := hI.b
     refine xx 11 ?_
     refine X.at (X.loop (fun (s : Int × Nat) => s.2 ≤ t.ins.length ∧ ((s.1 = -1 ∧ ∀ j, j < s.2 → ¬ isOpen D dn j) ∨ ∃ a : Nat, s.1 = (a : Int) ∧ leastS D dn = some a)) (fun s => [(9, .int .i64 s.1), (10, .int .i64 (s.2 : Int)), (6, .slice (some ⟨g0, 0, none⟩) t.ins.length t.ins.length), (7, .slice (some ⟨g2, 0, none⟩) t.ins.length t.ins.length), (3, .pointer (some ⟨n2, 0, none⟩)), (4, .slice none 0 0), (5, .int .i64 0)]) (fun s => lsH Value.bool 4 (some ⟨g2, 0, none⟩) t.ins.length (dn) :: lsH I64 3 (some ⟨g0, 0, none⟩) t.ins.length (D) :: pto n1 (.cells (mdlC m).toArray 26 (0, 0)) :: pto n2 (.cells (codC t).toArray 35 (0, 0)) :: (q ++ F)) (fun s => t.ins.length - s.2) (fun s hi_ ih2 => ?_) (-1, 0) ⟨Nat.zero_le _, .inl ⟨rfl, fun j k => absurd k (Nat.not_lt_zero j)⟩⟩) subA leA
     try dsimp only at hi_ ih2 ⊢
     obtain ⟨hk, hlst⟩ := hi_
     obtain ⟨L, k⟩ := s; dsimp only at hk hlst ih2 ⊢
     refine xo 8 ?_
     refine XO.sb [52, 9, 10, 6, 7, 3, 4, 5] ?_
     apply XO.cutAnd 3 55 52 rfl
     · skip
       intro g1 M1; have h1 := sp g1
       refine oo 3 ?_
       exact XO.fin M1 ⟨andT g1, subB⟩
     · skip
       intro g1 M1; have h1 := sp g1
       refine oo 3 ?_
       exact XO.fin M1 ⟨andF g1, subB⟩
     · skip
       refine ox 1 ?_
       refine X.part 55 rfl (fun h3 => ?_) (fun h3 => ?_)
       · skip
         replace h3 := sp h3
         have hkN : k < t.ins.length := by omega
         have hkD : k < D.length := by omega
         have hkB : k < dn.length := by omega
         have hno : L = -1 ∧ ∀ j, j < k → ¬ isOpen D dn j := by rcases hlst with e | ⟨a, e, _⟩; exact e; omega
         have hO := open_iff hkD hkB
         refine xo 9 ?_
         refine ld ?_ (hc := (Cl.e1 (Sees.lsH _) fndA hkD rfl))
         refine oo 2 ?_
         refine XO.part 63 rfl (fun h1 => ?_) (fun h1 => ?_)
         · skip
           replace h1 := sp h1
           refine oo 3 ?_
           refine ld ?_ (hc := (Cl.e1 (Sees.lsH _) fndA hkB rfl))
           refine XO.pu (Pu.not rfl) ?_
           refine ox 2 ?_
           refine X.sb [69, 9, 10, 6, 7, 3, 4, 5] ?_
           refine X.part 69 rfl (fun h2 => ?_) (fun h2 => ?_)
           · skip
             replace h2 := sp h2
             refine xx 11 ?_
             refine X.at (ih2 ((k : Int), k + 1) ⟨by dsimp only; omega, .inr ⟨k, rfl, leastS_of hkD (hO.2 ⟨by omega, by simpa using h2⟩) (fun j _ hj => by rcases Nat.lt_or_ge j k with e | e; exact absurd hj (hno.2 j e); exact e)⟩⟩ (by dsimp only; omega)) subA leA
           · skip
             replace h2 := sp h2
             refine xx 8 ?_
             refine X.at (ih2 (L, k + 1) ⟨by dsimp only; omega, .inl ⟨hno.1, fun j hj => by dsimp only at hj; rcases Nat.lt_or_ge j k with e | e; exact hno.2 j e; obtain rfl : j = k := (by omega); rw [hO]; rintro ⟨k1, k2⟩; first | omega | (rw [k2] at h2; simp at h2)⟩⟩ (by dsimp only; omega)) subA leA
         · skip
           replace h1 := sp h1
           refine ox 15 ?_
           refine X.sb [10, 9, 6, 7, 3, 4, 5] ?_
           refine X.at (ih2 (L, k + 1) ⟨by dsimp only; omega, .inl ⟨hno.1, fun j hj => by dsimp only at hj; rcases Nat.lt_or_ge j k with e | e; exact hno.2 j e; obtain rfl : j = k := (by omega); rw [hO]; rintro ⟨k1, k2⟩; first | omega | (rw [k2] at h2; simp at h2)⟩⟩ (by dsimp only; omega)) subA leA
       · skip
         replace h3 := sp h3
         refine xx 8 ?_
         refine X.part 72 rfl (fun h4 => ?_) (fun h4 => ?_)
         · skip
           replace h4 := sp h4
           have hno : leastS D dn = none := leastS_of_none (fun j hj => by rcases hlst with ⟨_, e⟩ | ⟨a, e, _⟩; exact e j (by omega); omega)
           rw [thrS_none fu hno] at hT
           refine xx 7 ?_
           refine X.retL (lsH I64 3 (some ⟨g0, 0, none⟩) t.ins.length (D) :: q) Tryd.func24 (res2 Tryd.results24 rfl rfl) ⟨_, rfl, .inr ⟨by rw [← hT], _, _, by rw [← hT, hDN], by rw [← hT]⟩⟩
         · skip
           replace h4 := sp h4
           obtain ⟨a, rfl, hle⟩ : ∃ a : Nat, L = (a : Int) ∧ leastS D dn = some a := by rcases hlst with ⟨e, _⟩ | e; omega; exact e
           obtain ⟨hxl, hop, _⟩ := leastS_some hle
           clear hlst ih2
           have hfp := fil_pos (a := a) (dn := dn) (by omega) hop.2
           have hfs := fil_set dn a (by omega) hop.2
           obtain ⟨fv, rfl⟩ : ∃ f, fu = f + 1 := ⟨fu - 1, by omega⟩
           rw [thrS_step hle, dAt_get hxl] at hT; have hrg := hI.rng a; have hop1 := hop.1; rw [dAt_get hxl] at hrg hop1
           have haN : a < t.ins.length := by omega
           have haB : a < dn.length := by omega
           refine xo 7 ?_
           refine XO.ef0 (Ef.setL (f := Value.bool) (l := dn) (n := a) (u := true) rfl rfl Tryd.sizeOf4 rfl haB rfl rfl fndA) ?_
           rintro _ _ ⟨rfl, rfl⟩
           refine ox 2 ?_
           refine drw ?_
           refine ldAD 0 ?_
           refine dd [1, 2, 3, 4] ?_
           refine ldD 5 ?_ (hc := (Cl.e1 (Sees.lsH _) fndA hxl rfl))
           refine XD.cRL 6 Tryd.call37 (one_ok (n := a) (dep := D[a]) (hq.le leA) hc hL haN (by omega)) ?_
           refine dd [7, 8, 9, 10, 11] ?_
           refine XD.nil ?_
           refine xx 6 ?_
           refine X.sb [88, 12, 11, 9, 6, 7, 3, 4, 5] ?_
           have hO1 : (oneS (insT t) a D[a]).2 = 0 → (∀ x ∈ nextS ((insT t).getD a zI) a, x < ((insT t).length : Int)) ∧ 0 ≤ (oneS (insT t) a D[a]).1 ∧ (oneS (insT t) a D[a]).1 ≤ 25 := fun h => ⟨(oneS_next h).1, (oneS_next h).2.1 hop1, oneS_le h⟩
           generalize oneS (insT t) a D[a] = O at hT hO1 ⊢
           refine X.part 88 rfl (fun h5 => ?_) (fun h5 => ?_)
           · skip
             have hne : O.2 ≠ 0 := by simpa using h5
             refine xx 7 ?_
             have hTT : T = ([], O.2) := by rw [if_pos hne] at hT; exact hT.symm
             refine X.retL (q) Tryd.func24 (res2 Tryd.results24 rfl rfl) ⟨_, rfl, .inl ⟨by rw [hTT]; exact hne, by rw [hTT], rfl⟩⟩
           · skip
             replace h5 := sp h5
             rw [if_neg (by omega), insT_at haN] at hT; obtain ⟨hO1, hO2, hO3⟩ := hO1 (by omega); rw [insT_at haN, insT_len] at hO1; rw [← nxt_eq] at hO1 hT
             refine xo 5 ?_
             refine ld ?_
             refine oo 1 ?_
             refine XO.adr hs (by rw [hlen]; omega) (fun b1 o1 e1 => ?_)
             have hs1 := hs; rw [e1] at hs1
             refine XO.know 91 (.slice (some ⟨b1, o1, none⟩) t.ins.length t.ic) rfl (by rw [e1]) ?_
             refine oo 1 ?_
             refine XO.ldS (n := a) Tryd.isAgg53 Tryd.sizeOf53 hs1 haN ?_
             refine oo 1 ?_
             refine XO.cF Tryd.call38 (RNext_ok (x := t.ins[a]) (at_ := (a : Int)) (q := []) ⟨by omega, by omega⟩) ?_
             rintro _ _ ⟨a1, c1, rfl, rfl⟩ _ e_; simp only [ca, na] at e_; subst e_
             refine ox 7 ?_
             have hxs : ∀ y ∈ nxt t.ins[a] (a : Int), 0 ≤ y ∧ y < t.ins.length := fun y hy => ⟨nxt_mem (hin _ (List.getElem_mem haN)) a y hy, hO1 y hy⟩
             have hnl := nxt_len t.ins[a] (a : Int)
             refine X.at (X.loop (fun (s : List Int × Nat) => s.2 ≤ (nxt t.ins[a] (a : Int)).length ∧ TI_ s.1 (dn.set a true) t.ins.length ∧ visitS O.1 D (nxt t.ins[a] (a : Int)) = visitS O.1 s.1 ((nxt t.ins[a] (a : Int)).drop s.2)) (fun s => [(14, .int .i64 (s.2 : Int)), (13, .slice a1 (nxt t.ins[a] (a : Int)).length c1), (11, .int .i64 O.1), (6, .slice (some ⟨g0, 0, none⟩) t.ins.length t.ins.length), (7, .slice (some ⟨g2, 0, none⟩) t.ins.length t.ins.length), (3, .pointer (some ⟨n2, 0, none⟩)), (4, .slice none 0 0), (5, .int .i64 0)]) (fun s => lsH I64 3 a1 c1 (nxt t.ins[a] (a : Int)) :: lsH Value.bool 4 (some ⟨g2, 0, none⟩) t.ins.length (dn.set a true) :: lsH I64 3 (some ⟨g0, 0, none⟩) t.ins.length (s.1) :: pto n1 (.cells (mdlC m).toArray 26 (0, 0)) :: pto n2 (.cells (codC t).toArray 35 (0, 0)) :: (q ++ F)) (fun s => (nxt t.ins[a] (a : Int)).length - s.2) (fun s hi_ ih3 => ?_) (D, 0) ⟨Nat.zero_le _, ⟨hI.a, by rw [List.length_set]; exact hI.b, hI.rng⟩, rfl⟩) subA leA
             try dsimp only at hi_ ih3 ⊢
             obtain ⟨hk2, hV, hgo⟩ := hi_
             obtain ⟨D1, k2⟩ := s; dsimp only at hk2 hV hgo ih3 ⊢
             have hV1 := hV.a
             refine xx 8 ?_
             refine X.part 100 rfl (fun h6 => ?_) (fun h6 => ?_)
             · skip
               replace h6 := sp h6
               have hi' : k2 < (nxt t.ins[a] (a : Int)).length := by omega
               have hyb := hxs _ (List.getElem_mem hi')
               obtain ⟨y, hy⟩ : ∃ y : Nat, (nxt t.ins[a] (a : Int))[k2] = (y : Int) := ⟨((nxt t.ins[a] (a : Int))[k2]).toNat, by omega⟩
               have hyl : y < D1.length := by omega
               have hst : visitS O.1 D (nxt t.ins[a] (a : Int)) = if 0 ≤ D1[y] ∧ D1[y] ≠ O.1 then none else visitS O.1 (D1.set y O.1) ((nxt t.ins[a] (a : Int)).drop (k2 + 1)) := by
                 rw [hgo, List.drop_eq_getElem_cons hi', hy]
                 conv => lhs; unfold visitS
                 simp only [Int.toNat_natCast, dAt_get hyl]
               refine X.lsadr (l := nxt t.ins[a] (a : Int)) (by omega) (fun g e_ => ?_); subst e_
               refine xo 11 ?_
               refine ld ?_ (hc := (Cl.e1 (Sees.lsH _) fndA hi' rfl))
               refine oo 1 ?_
               refine ld ?_ (hc := (Cl.e1 (Sees.lsH _) fndA hyl hy))
               refine oo 2 ?_
               refine XO.part 111 rfl (fun h1 => ?_) (fun h1 => ?_)
               · skip
                 replace h1 := sp h1
                 refine oo 4 ?_
                 refine ld ?_ (hc := (Cl.e1 (Sees.lsH _) fndA hi' rfl))
                 refine oo 1 ?_
                 refine ld ?_ (hc := (Cl.e1 (Sees.lsH _) fndA hyl hy))
                 refine ox 4 ?_
                 refine X.sb [121, 14, 13, 11, 6, 7, 3, 4, 5] ?_
                 refine X.part 121 rfl (fun h2 => ?_) (fun h2 => ?_)
                 · skip
                   replace h2 := sp h2
                   refine xx 6 ?_
                   rw [hst, if_pos ⟨by omega, by omega⟩] at hT; dsimp only at hT
                   refine X.retL (q) Tryd.func24 (res2 Tryd.results24 rfl rfl) ⟨_, rfl, .inl ⟨by rw [← hT]; decide, by rw [← hT], rfl⟩⟩
                 · skip
                   replace h2 := sp h2
                   refine xo 7 ?_
                   refine ld ?_ (hc := (Cl.e1 (Sees.lsH _) fndA hi' rfl))
                   refine oo 2 ?_
                   refine XO.ef0 (Ef.setL (l := D1) (n := y) (u := O.1) rfl rfl Tryd.sizeOf3 hy hyl rfl rfl fndA) ?_
                   rintro _ _ ⟨rfl, rfl⟩
                   refine ox 7 ?_
                   refine X.at (ih3 (D1.set y O.1, k2 + 1) ⟨by dsimp only; omega, hV.set hyl ⟨hO2, hO3⟩, by rw [hst, if_neg (by omega)]⟩ (by dsimp only; omega)) subA leA
               · skip
                 replace h1 := sp h1
                 refine oo 18 ?_
                 refine ld ?_ (hc := (Cl.e1 (Sees.lsH _) fndA hi' rfl))
                 refine oo 2 ?_
                 refine XO.ef0 (Ef.setL (l := D1) (n := y) (u := O.1) rfl rfl Tryd.sizeOf3 hy hyl rfl rfl fndA) ?_
                 rintro _ _ ⟨rfl, rfl⟩
                 refine ox 7 ?_
                 refine X.sb [14, 13, 11, 6, 7, 3, 4, 5] ?_
                 refine X.at (ih3 (D1.set y O.1, k2 + 1) ⟨by dsimp only; omega, hV.set hyl ⟨hO2, hO3⟩, by rw [hst, if_neg (by omega)]⟩ (by dsimp only; omega)) subA leA
             · skip
               replace h6 := sp h6
               have hek : k2 = (nxt t.ins[a] (a : Int)).length := by omega
               rw [hek, List.drop_length] at hgo; rw [hgo] at hT; simp only [visitS] at hT
               refine xx 3 ?_
               refine X.at (ih (D1, dn.set a true, fv) ⟨hV, by dsimp only; omega, hT⟩ (by dsimp only; omega)) subA leA
set_option maxHeartbeats 2000000 in
theorem RCheck7_ok (hq : MdlQ q m) : CallF Tryd.prog G 8 [.agg (mdlC m).toArray] (q) (Ret fun v q' => v = .int .i64 (vchk m) ∧ q' = q) := by
 refine CallF.of Tryd.func8 Tryd.ntmps8 rfl (fun F cs => ?_)
 have hlen := flatMap_len (f := codC) (sz := 4) (fun _ => rfl) m.threads; have hnt := hq.nt
 refine xo 2 ?_
 refine XO.bx fun n1 => ?_
 refine oo 5 ?_
 refine ldA ?_
 refine XO.cR Tryd.call23 (RCheck_ok (hq.le leA)) ?_
 refine ox 2 ?_
 refine X.part 8 rfl (fun h0 => ?_) (fun h0 => ?_)
 · skip
   replace h0 := sp h0
   refine xx 5 ?_
   refine X.retL (q) Tryd.func8 (res1 Tryd.results8 rfl) ⟨_, rfl, by unfold vchk; rw [if_pos (by omega)]; congr 1; unfold mchk at h0 ⊢; split <;> simp_all, rfl⟩
 · skip
   replace h0 := sp h0; have hk0 : mchk m = 0 := by omega
   refine xx 8 ?_
   refine X.at (X.loop (fun (s : Nat) => s ≤ m.threads.length ∧ vErr m m.threads = vErr m (m.threads.drop s)) (fun s => [(3, .int .i64 (s : Int)), (1, .pointer (some ⟨n1, 0, none⟩)), (2, .int .i64 0)]) (fun s => pto n1 (.cells (mdlC m).toArray 26 (0, 0)) :: (q ++ F)) (fun s => m.threads.length - s) (fun s hi_ ih => ?_) 0 ⟨Nat.zero_le _, rfl⟩) subA leA
   try dsimp only at hi_ ih ⊢
   obtain ⟨hs0, hv⟩ := hi_
   refine xo 5 ?_
   refine ld ?_
   refine ox 3 ?_
   refine X.part 13 rfl (fun h0 => ?_) (fun h0 => ?_)
   · skip
     replace h0 := sp h0
     have hth : s < m.threads.length := by omega
     obtain ⟨hin, hL⟩ := mdlOk_thr hk0 (List.getElem_mem hth)
     have hvd : vErr m (m.threads.drop s) = if (dOf m m.threads[s]).2 ≠ 0 then (dOf m m.threads[s]).2 else vErr m (m.threads.drop (s + 1)) := by rw [List.drop_eq_getElem_cons hth]; rfl
     refine xx 5 ?_
     refine drw ?_
     refine ldAD 0 ?_
     refine dd [1] ?_
     refine ldD 2 ?_
     refine dd [3] ?_
     refine XD.adr hq.t (by rw [hlen]; omega) (fun b1 o1 e1 => ?_)
     have hs1 := hq.t; rw [e1] at hs1
     refine XD.know 19 (.slice (some ⟨b1, o1, none⟩) m.threads.length m.tc) rfl (by rw [e1]) ?_
     refine dd [4] ?_
     refine XD.ldS 5 (m := s) Tryd.isAgg35 Tryd.sizeOf35 hs1 hth ?_
     refine XD.cX 6 Tryd.call24 (Le.refl _) (RThread_ok (m := m) (t := m.threads[s]) ((hq.x _ (List.getElem_mem hth)).le leA) hin hL) ?_
     rintro _ _ (⟨hz, rfl, rfl⟩ | ⟨hz, a2, c2, rfl, rfl⟩) <;> refine ⟨(hlA (h := by repeat first | exact trivial | refine ⟨clA, ?_⟩ | refine ⟨Cl.row hs1 leA (fun _ => rfl) hth rfl 0 _ rfl, ?_⟩ | refine ⟨Cl.row hs1 leA (fun _ => rfl) hth rfl 1 _ rfl, ?_⟩ | refine ⟨Cl.row hs1 leA (fun _ => rfl) hth rfl 2 _ rfl, ?_⟩ | refine ⟨Cl.row hs1 leA (fun _ => rfl) hth rfl 3 _ rfl, ?_⟩)), ?_⟩
     · skip
       refine dd [7, 8, 9, 10, 11] ?_
       refine XD.nil ?_
       refine xx 5 ?_
       refine X.sb [27, 5, 3, 1, 2] ?_
       refine X.know 27 (.bool true) rfl (congrArg Value.bool (by rw [bne_iff_ne]; exact hz)) ?_
       refine xx 6 ?_
       refine X.retL (q) Tryd.func8 (res1 Tryd.results8 rfl) ⟨_, rfl, by unfold vchk; rw [if_neg (by omega), hv, hvd, if_pos hz], rfl⟩
     · skip
       refine dd [7, 8, 9, 10, 11] ?_
       refine XD.nil ?_
       refine xx 5 ?_
       refine X.sb [27, 5, 3, 1, 2] ?_
       refine X.kf 27 ?_
       refine xx 8 ?_
       refine X.at (ih (s + 1) ⟨by omega, by rw [hv, hvd, if_neg (by omega)]⟩ (by omega)) subA leA
   · skip
     replace h0 := sp h0
     refine xx 6 ?_
     refine X.retL (q) Tryd.func8 (res1 Tryd.results8 rfl) ⟨_, rfl, by unfold vchk; rw [if_neg (by omega), hv, List.drop_eq_nil_of_le (by omega)]; rfl, rfl⟩
end
end Go.Proofs.YtbeeplmgcdnadaaDoor

