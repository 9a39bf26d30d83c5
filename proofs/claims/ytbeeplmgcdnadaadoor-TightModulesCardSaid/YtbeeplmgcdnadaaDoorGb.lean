/- What functions of package tight, of its references and of its laws do: contracts of calls, proved by walking their code. -/
import Derived.Test.YtbeeplmgcdnadaaDoorGa
import Derived.Test.YtbeeplmgcdnadaaDoorWf
import Derived.KernelRfl
set_option maxRecDepth 100000
set_option linter.unusedVariables false
set_option linter.unusedSimpArgs false
namespace Go.Proofs.YtbeeplmgcdnadaaDoor
open Go Go.RowKit Wx
attribute [local irreducible] Wx.lsH Wx.rsH Wx.lsM Wx.rsM Wx.stars

theorem fill2 {D : List Int} {N : Nat} (h : D.length = N) (h2 : ∀ i, i < N → D.getD i 0 = -2) : D = List.replicate N (-2) := by
  refine List.ext_getElem (by simp [h]) (fun i h1 h3 => ?_)
  rw [List.getElem_replicate, ← getD_lt' (z := 0) h1]; exact h2 i (by omega)
theorem init_neg {l : List Ins} : ∀ i, i < (List.replicate l.length (-2 : Int)).length → (List.replicate l.length (-2 : Int)).getD i 0 = -1 → lost l i := by
  intro i hi h
  rw [List.length_replicate] at hi
  rw [List.getD_eq_getElem?_getD, List.getElem?_replicate, if_pos hi] at h
  cases h
theorem leads_eq {l : List Ins} {D : List Int} (h : D.length = l.length) (h2 : ∀ i, i < l.length → D.getD i 0 = (leadS l i : Int)) : D = leadsS l := by
  refine List.ext_getElem (by simp [h, leadsS]) (fun i h1 h3 => ?_)
  rw [← getD_lt' (z := 0) h1, h2 i (by omega)]; simp [leadsS]
section
variable {G : World} {q : List HP} {a b A : Option Addr} {c d : Nat} {cd : Int} {l : List Ins} {ln : List Int} {o : List Bool}
variable {g p1 p2 p3 : Nat} {so : List Int} {at_ : Nat}
set_option maxHeartbeats 4000000 in
theorem lead_step (hs : Sees q a (l.flatMap insC)) (h1 : Cl q ⟨p1, 0, none⟩ (.slice a l.length c)) (h2 : Cl q ⟨p2, 0, none⟩ (.slice (some ⟨g, 0, none⟩) l.length l.length)) (h3 : Cl q ⟨p3, 0, none⟩ (.func (.func 33) [].toArray [.pointer (some ⟨p1, 0, none⟩), .pointer (some ⟨p2, 0, none⟩), .pointer (some ⟨p3, 0, none⟩)].toArray)) (hA : ∀ i ∈ l, i.c = 19 → 0 ≤ i.a ∧ i.a.toNat < l.length) (hL : l.length ≤ 65536) (IH : ∀ (so1 : List Int) (at1 : Nat), so1.count (-2) < so.count (-2) → LI l so1 → (∀ i, i < so1.length → so1.getD i 0 = -1 → lost l i ∨ wayTo l i at1) → at1 < l.length → CallF Tryd.prog G 33 [.int .i64 (at1 : Int), .pointer (some ⟨p1, 0, none⟩), .pointer (some ⟨p2, 0, none⟩), .pointer (some ⟨p3, 0, none⟩)] (lsH I64 3 (some ⟨g, 0, none⟩) l.length (so1) :: q) (Ret fun v q' => ∃ (so' : List Int) (r : Int), v = .int .i64 r ∧ LD l so1 so' at1 r ∧ q' = lsH I64 3 (some ⟨g, 0, none⟩) l.length (so') :: q)) (hI : LI l so) (hw : ∀ i, i < so.length → so.getD i 0 = -1 → lost l i ∨ wayTo l i at_) (hat : at_ < l.length) : CallF Tryd.prog G 33 [.int .i64 (at_ : Int), .pointer (some ⟨p1, 0, none⟩), .pointer (some ⟨p2, 0, none⟩), .pointer (some ⟨p3, 0, none⟩)] (lsH I64 3 (some ⟨g, 0, none⟩) l.length (so) :: q) (Ret fun v q' => ∃ (so' : List Int) (r : Int), v = .int .i64 r ∧ LD l so so' at_ r ∧ q' = lsH I64 3 (some ⟨g, 0, none⟩) l.length (so') :: q) := by
 refine CallF.of Tryd.func33 Tryd.ntmps33 rfl (fun F cs => ?_)
 have hlen := flatMap_len (f := insC) (sz := 4) (fun _ => rfl) l; have hsl := hI.len; have hgd : l.getD at_ zIns = l[at_] := getD_lt' hat; have hat2 : at_ < so.length := by omega
 have hsg : so.getD at_ 0 = so[at_] := getD_lt' hat2
 refine xo 8 ?_
 refine ld ?_ (hc := (h1.le leA))
 refine oo 1 ?_
 refine XO.adr hs (by rw [hlen]; omega) (fun b1 o1 e1 => ?_)
 have hs1 := hs; rw [e1] at hs1
 refine XO.know 7 (.slice (some ⟨b1, o1, none⟩) l.length c) rfl (by rw [e1]) ?_
 refine oo 2 ?_
 refine ld ?_ (hc := (Cl.row hs1 leA (fun _ => rfl) hat rfl 0 _ rfl))
 refine ox 3 ?_
 refine X.part 6 rfl (fun h4 => ?_) (fun h4 => ?_)
 · skip
   replace h4 := sp h4
   refine xo 2 ?_
   refine ld ?_ (hc := (h2.le leA))
   refine oo 3 ?_
   refine XO.ef0 (Ef.setL (f := I64) (l := so) (n := at_) (u := (at_ : Int)) rfl rfl Tryd.sizeOf3 rfl hat2 rfl rfl fndA) ?_
   rintro _ _ ⟨rfl, rfl⟩
   refine oo 4 ?_
   refine ld ?_ (hc := (h2.le leA))
   refine oo 2 ?_
   have hx9 : at_ < (so.set at_ (at_ : Int)).length := by rw [List.length_set]; omega
   refine ld ?_ (hc := (Cl.e1 (Sees.lsH _) fndA hx9 rfl))
   refine ox 2 ?_
   refine X.sb [5] ?_
   skip
   have hc9 : (l.getD at_ zIns).c ≠ 19 := by rw [hgd]; omega
   have hP := LD.plain hI hat2 hc9
   refine X.retL (lsH I64 3 (some ⟨g, 0, none⟩) l.length (so.set at_ (at_ : Int)) :: q) Tryd.func33 (res1 Tryd.results33 rfl) ⟨_, rfl, so.set at_ (at_ : Int), (so.set at_ (at_ : Int))[at_], rfl, by rw [← getD_lt' (z := 0) hx9, hP.2.2.2.1]; exact hP, rfl⟩
 · skip
   replace h4 := sp h4
   refine xo 3 ?_
   refine ld ?_ (hc := (h2.le leA))
   refine oo 2 ?_
   refine ld ?_ (hc := (Cl.e1 (Sees.lsH _) fndA hat2 rfl))
   refine ox 3 ?_
   refine X.part 17 rfl (fun h5 => ?_) (fun h5 => ?_)
   · skip
     replace h5 := sp h5
     refine xo 3 ?_
     refine ld ?_ (hc := (h2.le leA))
     refine oo 2 ?_
     refine XO.ef0 (Ef.setL (f := I64) (l := so) (n := at_) (u := -1) rfl rfl Tryd.sizeOf3 rfl hat2 rfl rfl fndA) ?_
     rintro _ _ ⟨rfl, rfl⟩
     refine ox 1 ?_
     refine X.sb [5, 0, 1, 2, 3] ?_
     refine drw ?_
     refine ldD 0 ?_ (hc := (h2.le leA))
     refine dd [1] ?_
     refine ldD 2 ?_ (hc := (h3.le leA))
     refine ldD 3 ?_ (hc := (h1.le leA))
     refine dd [4] ?_
     refine XD.know 29 (.slice (some ⟨b1, o1, none⟩) l.length c) rfl (by rw [e1]) ?_
     refine dd [5, 6] ?_
     refine ldD 7 ?_ (hc := (Cl.row hs1 leA (fun _ => rfl) hat rfl 1 _ rfl))
     have hc19 : (l.getD at_ zIns).c = 19 := by rw [hgd]; omega
     have hm2 : so.getD at_ 0 = -2 := by rw [hsg]; omega
     obtain ⟨hA0, hA1⟩ := hA _ (List.getElem_mem hat) (by omega)
     obtain ⟨k1, k2⟩ := LD.start hI hw hat2 hc19 hm2
     have hcn : (so.set at_ (-1)).count (-2) < so.count (-2) := by
       have hc1 := List.count_set (a := (-1 : Int)) (b := (-2 : Int)) hat2
       have hc2 : 0 < so.count (-2) := List.count_pos_iff.2 (by rw [← hm2, hsg]; exact List.getElem_mem hat2)
       have e1 : (so[at_] == (-2 : Int)) = true := by rw [← hsg, hm2]; rfl
       rw [hc1, e1]; simp; omega
     obtain ⟨A, hAe⟩ : ∃ A : Nat, l[at_].a = (A : Int) := ⟨l[at_].a.toNat, by omega⟩
     refine XD.know 33 (.int .i64 (A : Int)) rfl (by rw [hAe]) ?_
     have hAn : (l.getD at_ zIns).a.toNat = A := by rw [hgd, hAe]; rfl
     refine XD.cV 8 (CallV.c13 Tryd.call33 (IH (so.set at_ (-1)) A hcn k1 (by rw [← hAn]; exact k2) (by omega))) ?_
     rintro _ _ ⟨so2, r, rfl, hD, rfl⟩ _ e_; simp only [ca, na] at e_; subst e_
     refine ⟨(hlA (h := by repeat first | exact trivial | refine ⟨h1.le leA, ?_⟩ | refine ⟨h2.le leA, ?_⟩ | refine ⟨h3.le leA, ?_⟩ | refine ⟨clA, ?_⟩ | refine ⟨Cl.row hs1 leA (fun _ => rfl) hat rfl 1 _ rfl, ?_⟩)), ?_⟩
     have hD2 := LD.stop hI hat2 hc19 hm2 (by rw [hAn]; exact hD) (by omega); have hl2 : so2.length = l.length := hD.1.len
     refine dd [9] ?_
     refine XD.ef0 10 rfl (Ef.setL (f := I64) (l := so2) (n := at_) (u := r) rfl rfl Tryd.sizeOf3 rfl (by omega) rfl rfl fndA) ?_
     rintro _ _ ⟨rfl, rfl⟩
     refine ⟨trivial, ?_⟩
     refine XD.nil ?_
     refine xo 3 ?_
     refine ld ?_ (hc := (h2.le leA))
     refine oo 2 ?_
     have hx9 : at_ < (so2.set at_ r).length := by rw [List.length_set]; omega
     refine ld ?_ (hc := (Cl.e1 (Sees.lsH _) fndA hx9 rfl))
     refine ox 2 ?_
     refine X.sb [5] ?_
     refine X.retL (lsH I64 3 (some ⟨g, 0, none⟩) l.length (so2.set at_ r) :: q) Tryd.func33 (res1 Tryd.results33 rfl) ⟨_, rfl, so2.set at_ r, (so2.set at_ r)[at_], rfl, by rw [← getD_lt' (z := 0) hx9, hD2.2.2.2.1]; exact hD2, rfl⟩
   · skip
     replace h5 := sp h5
     refine xo 5 ?_
     refine ld ?_ (hc := (h2.le leA))
     refine oo 2 ?_
     have hx9 : at_ < so.length := hat2
     refine ld ?_ (hc := (Cl.e1 (Sees.lsH _) fndA hx9 rfl))
     refine ox 2 ?_
     refine X.sb [5] ?_
     have hK := LD.known hI hw hat2 (by rw [hsg]; omega)
     rw [hsg] at hK
     refine X.retL (lsH I64 3 (some ⟨g, 0, none⟩) l.length (so) :: q) Tryd.func33 (res1 Tryd.results33 rfl) ⟨_, rfl, so, so[at_], rfl, hK, rfl⟩
theorem lead_ok (hs : Sees q a (l.flatMap insC)) (h1 : Cl q ⟨p1, 0, none⟩ (.slice a l.length c)) (h2 : Cl q ⟨p2, 0, none⟩ (.slice (some ⟨g, 0, none⟩) l.length l.length)) (h3 : Cl q ⟨p3, 0, none⟩ (.func (.func 33) [].toArray [.pointer (some ⟨p1, 0, none⟩), .pointer (some ⟨p2, 0, none⟩), .pointer (some ⟨p3, 0, none⟩)].toArray)) (hA : ∀ i ∈ l, i.c = 19 → 0 ≤ i.a ∧ i.a.toNat < l.length) (hL : l.length ≤ 65536) : ∀ (N : Nat) (so : List Int) (at_ : Nat), so.count (-2) ≤ N → LI l so → (∀ i, i < so.length → so.getD i 0 = -1 → lost l i ∨ wayTo l i at_) → at_ < l.length → CallF Tryd.prog G 33 [.int .i64 (at_ : Int), .pointer (some ⟨p1, 0, none⟩), .pointer (some ⟨p2, 0, none⟩), .pointer (some ⟨p3, 0, none⟩)] (lsH I64 3 (some ⟨g, 0, none⟩) l.length (so) :: q) (Ret fun v q' => ∃ (so' : List Int) (r : Int), v = .int .i64 r ∧ LD l so so' at_ r ∧ q' = lsH I64 3 (some ⟨g, 0, none⟩) l.length (so') :: q)
  | N, so, at_, hN, hI, hw, hat => lead_step hs h1 h2 h3 hA hL (fun so1 at1 hc hI1 hw1 hat1 => by
      cases N with
      | zero => omega
      | succ N => exact lead_ok hs h1 h2 h3 hA hL N so1 at1 (by omega) hI1 hw1 hat1) hI hw hat
set_option maxHeartbeats 4000000 in
theorem leads_ok (hs : Sees q a (l.flatMap insC)) (hA : ∀ i ∈ l, i.c = 19 → 0 ≤ i.a ∧ i.a.toNat < l.length) (hL : l.length ≤ 65536) : CallF Tryd.prog G 22 [.slice a l.length c] (q) (Ret fun v q' => ∃ g, v = .slice (some ⟨g, 0, none⟩) l.length l.length ∧ q' = lsH I64 3 (some ⟨g, 0, none⟩) l.length (leadsS l) :: q) := by
 refine CallF.of Tryd.func22 Tryd.ntmps22 rfl (fun F cs => ?_)
 refine xo 2 ?_
 refine XO.bx fun n1 => ?_
 refine oo 4 ?_
 refine ld ?_
 refine oo 1 ?_
 refine XO.ef (Ef.make (n := l.length) rfl rfl Tryd.underlying23 ginfo3 rfl rfl (by omega) (by omega)) ?_
 rintro _ _ ⟨g, rfl, rfl⟩
 refine XO.le (q' := lsH I64 3 (some ⟨g, 0, none⟩) l.length (List.replicate l.length 0) :: _) (Le.trans fndA (by rw [← ls_made (f := I64) (u := 0) rfl]; exact Le.refl _)) ?_
 refine XO.al Tryd.zeroValue23 fun n2 => ?_
 refine st ?_
 refine oo 4 ?_
 refine ld ?_
 refine ox 4 ?_
 refine X.at (X.loop (fun (s : List Int × Nat) => s.1.length = l.length ∧ s.2 ≤ l.length ∧ ∀ i, i < s.2 → s.1.getD i 0 = -2) (fun s => [(14, .int .i64 (s.2 : Int)), (13, .int .i64 (l.length : Int)), (1, .pointer (some ⟨n1, 0, none⟩)), (3, .pointer (some ⟨n2, 0, none⟩)), (2, .slice none 0 0)]) (fun s => lsH I64 3 (some ⟨g, 0, none⟩) l.length (s.1) :: pto n1 (.cells [.slice a l.length c].toArray 33 (0, 0)) :: pto n2 (.cells [.slice (some ⟨g, 0, none⟩) l.length l.length].toArray 23 (0, 0)) :: (q ++ F)) (fun s => l.length - s.2) (fun s hi_ ih => ?_) (List.replicate l.length 0, 0) ⟨by simp, Nat.zero_le _, fun i h => absurd h (Nat.not_lt_zero i)⟩) subA leA
 try dsimp only at hi_ ih ⊢
 obtain ⟨hl1, hl2, hl3⟩ := hi_
 obtain ⟨so, s⟩ := s; dsimp only at *
 refine xx 5 ?_
 refine X.part 15 rfl (fun h0 => ?_) (fun h0 => ?_)
 · skip
   replace h0 := sp h0; have hlt : s < so.length := by omega
   refine xo 10 ?_
   refine ld ?_
   refine oo 2 ?_
   refine XO.ef0 (Ef.setL (f := I64) (l := so) (n := s) (u := -2) rfl rfl Tryd.sizeOf3 rfl (by omega) rfl rfl fndA) ?_
   rintro _ _ ⟨rfl, rfl⟩
   refine ox 6 ?_
   refine X.at (ih (so.set s (-2), s + 1) ⟨by rw [List.length_set]; exact hl1, by dsimp only; omega, fun i hi => by dsimp only at hi ⊢; rw [getD_setI hlt]; split; rfl; exact hl3 i (by omega)⟩ (by dsimp only; omega)) subA leA
 · skip
   replace h0 := sp h0
   have hso : so = List.replicate l.length (-2) := fill2 hl1 (fun i h => hl3 i (by omega))
   subst hso; clear hl1 hl2 hl3 ih h0
   refine xo 4 ?_
   refine XO.al Tryd.zeroValue76 fun n3 => ?_
   refine oo 4 ?_
   refine st ?_
   refine oo 4 ?_
   refine ld ?_
   refine ox 4 ?_
   refine X.at (X.loop (fun (s : List Int × Nat) => s.2 ≤ l.length ∧ LI l s.1 ∧ (∀ i, i < s.1.length → s.1.getD i 0 = -1 → lost l i) ∧ ∀ i, i < s.2 → s.1.getD i 0 ≠ -2) (fun s => [(24, .int .i64 (s.2 : Int)), (23, .int .i64 (l.length : Int)), (3, .pointer (some ⟨n2, 0, none⟩)), (5, .pointer (some ⟨n3, 0, none⟩)), (2, .slice none 0 0)]) (fun s => lsH I64 3 (some ⟨g, 0, none⟩) l.length (s.1) :: pto n1 (.cells [.slice a l.length c].toArray 33 (0, 0)) :: pto n2 (.cells [.slice (some ⟨g, 0, none⟩) l.length l.length].toArray 23 (0, 0)) :: pto n3 (.cells [.func (.func 33) [].toArray [.pointer (some ⟨n1, 0, none⟩), .pointer (some ⟨n2, 0, none⟩), .pointer (some ⟨n3, 0, none⟩)].toArray].toArray 76 (0, 0)) :: (q ++ F)) (fun s => l.length - s.2) (fun s hi_ ih => ?_) (List.replicate l.length (-2), 0) ⟨Nat.zero_le _, LI.init l, init_neg, fun i h => absurd h (Nat.not_lt_zero i)⟩) subA leA
   try dsimp only at hi_ ih ⊢
   obtain ⟨hl2, hI, hl3, hl4⟩ := hi_
   obtain ⟨so, s⟩ := s; dsimp only at *; have hsl := hI.len
   refine xx 5 ?_
   refine X.part 25 rfl (fun h0 => ?_) (fun h0 => ?_)
   · skip
     replace h0 := sp h0; have hlt : s < so.length := by omega
     refine xo 10 ?_
     refine ld ?_
     refine oo 1 ?_
     refine XO.cVX leA (CallV.c13 Tryd.call33 (lead_ok (q := pto n1 (.cells [.slice a l.length c].toArray 33 (0, 0)) :: pto n2 (.cells [.slice (some ⟨g, 0, none⟩) l.length l.length].toArray 23 (0, 0)) :: pto n3 (.cells [.func (.func 33) [].toArray [.pointer (some ⟨n1, 0, none⟩), .pointer (some ⟨n2, 0, none⟩), .pointer (some ⟨n3, 0, none⟩)].toArray].toArray 76 (0, 0)) :: (q ++ F)) (c := c) (g := g) (p1 := n1) (p2 := n2) (p3 := n3) (hs.le leA) clA clA clA hA hL _ so s (Nat.le_refl _) hI (fun i hi h => .inl (hl3 i hi h)) (by omega))) ?_
     rintro _ _ ⟨so2, r, rfl, hD, rfl⟩
     refine ox 6 ?_
     refine X.at (ih (so2, s + 1) ⟨by dsimp only; omega, hD.1, fun i hi h => by rcases hD.2.2.1 i (by have := hD.1.len; dsimp only at hi; omega) h with h | h; exact hl3 i (by have := hD.1.len; dsimp only at hi; omega) h; exact h, fun i hi => by dsimp only at hi ⊢; by_cases e : i = s; (subst e; rw [hD.2.2.2.1]; have := hD.2.2.2.2.1; omega); rw [hD.2.1 i (by omega) (hl4 i (by omega))]; exact hl4 i (by omega)⟩ (by dsimp only; omega)) subA leA
   · skip
     replace h0 := sp h0; obtain rfl : s = l.length := by omega
     obtain ⟨so0, hso0⟩ : ∃ x, x = so := ⟨_, rfl⟩; have hdn : ∀ i, i < l.length → (if so0.getD i 0 = -1 then (i : Int) else so0.getD i 0) = leadS l i := (fun i hi => by subst hso0; exact hI.done (fun j hj => hl4 j (by omega)) hl3 (by omega)); clear ih h0 hl3 hl4 hl2
     refine xo 5 ?_
     refine ld ?_
     refine ox 4 ?_
     refine X.at (X.loop (fun (s : List Int × Nat) => s.2 ≤ l.length ∧ s.1.length = l.length ∧ (∀ i, i < s.2 → s.1.getD i 0 = (leadS l i : Int)) ∧ ∀ i, s.2 ≤ i → s.1.getD i 0 = so0.getD i 0) (fun s => [(33, .int .i64 (s.2 : Int)), (32, .int .i64 (l.length : Int)), (31, .slice (some ⟨g, 0, none⟩) l.length l.length), (3, .pointer (some ⟨n2, 0, none⟩)), (2, .slice none 0 0)]) (fun s => lsH I64 3 (some ⟨g, 0, none⟩) l.length (s.1) :: pto n1 (.cells [.slice a l.length c].toArray 33 (0, 0)) :: pto n2 (.cells [.slice (some ⟨g, 0, none⟩) l.length l.length].toArray 23 (0, 0)) :: pto n3 (.cells [.func (.func 33) [].toArray [.pointer (some ⟨n1, 0, none⟩), .pointer (some ⟨n2, 0, none⟩), .pointer (some ⟨n3, 0, none⟩)].toArray].toArray 76 (0, 0)) :: (q ++ F)) (fun s => l.length - s.2) (fun s hi_ ih => ?_) (so, 0) ⟨Nat.zero_le _, hsl, fun i h => absurd h (Nat.not_lt_zero i), fun i _ => by rw [hso0]⟩) subA leA
     try dsimp only at hi_ ih ⊢
     obtain ⟨hl2, hl1, hl3, hl4⟩ := hi_
     clear hsl hI hso0 so; obtain ⟨so, s⟩ := s; dsimp only at *
     refine xx 5 ?_
     refine X.part 34 rfl (fun h0 => ?_) (fun h0 => ?_)
     · skip
       replace h0 := sp h0; have hlt : s < so.length := (by omega); have hgs : so.getD s 0 = so[s] := getD_lt' hlt
       refine xo 8 ?_
       refine ld ?_ (hc := (Cl.e1 (Sees.lsH _) fndA hlt rfl))
       refine ox 8 ?_
       refine X.part 39 rfl (fun h1 => ?_) (fun h1 => ?_)
       · skip
         replace h1 := sp h1
         refine xo 2 ?_
         refine ld ?_
         refine oo 3 ?_
         refine XO.ef0 (Ef.setL (f := I64) (l := so) (n := s) (u := (s : Int)) rfl rfl Tryd.sizeOf3 rfl (by omega) rfl rfl fndA) ?_
         rintro _ _ ⟨rfl, rfl⟩
         refine ox 6 ?_
         have hds := hdn s (by omega); rw [← hl4 s (Nat.le_refl _), hgs] at hds; rw [if_pos (by omega)] at hds
         refine X.at (ih (so.set s (s : Int), s + 1) ⟨by dsimp only; omega, by rw [List.length_set]; exact hl1, fun i hi => by dsimp only at hi ⊢; rw [getD_setI hlt]; split; (rename_i e; rw [e]; exact hds); exact hl3 i (by omega), fun i hi => by dsimp only at hi ⊢; rw [getD_setI hlt, if_neg (by omega)]; exact hl4 i (by omega)⟩ (by dsimp only; omega)) subA leA
       · skip
         replace h1 := sp h1
         refine xx 7 ?_
         have hds := hdn s (by omega); rw [← hl4 s (Nat.le_refl _), hgs] at hds; rw [if_neg (by omega)] at hds
         refine X.at (ih (so, s + 1) ⟨by dsimp only; omega, hl1, fun i hi => by dsimp only at hi ⊢; by_cases e : i = s; (subst e; rw [hgs]; exact hds); exact hl3 i (by omega), fun i hi => by dsimp only at hi ⊢; exact hl4 i (by omega)⟩ (by dsimp only; omega)) subA leA
     · skip
       replace h0 := sp h0
       have hfin : so = leadsS l := leads_eq hl1 (fun i hi => hl3 i (by omega)); subst hfin
       refine xo 4 ?_
       refine ld ?_
       refine ox 2 ?_
       refine X.retL (lsH I64 3 (some ⟨g, 0, none⟩) l.length (leadsS l) :: q) Tryd.func22 (res1 Tryd.results22 rfl) ⟨_, rfl, g, rfl, rfl⟩
end
end Go.Proofs.YtbeeplmgcdnadaaDoor

