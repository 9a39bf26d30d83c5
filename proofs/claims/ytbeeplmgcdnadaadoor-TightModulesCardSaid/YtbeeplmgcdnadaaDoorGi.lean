/- What functions of package tight, of its references and of its laws do: contracts of calls, proved by walking their code. -/
import Derived.Test.YtbeeplmgcdnadaaDoorGh
import Derived.KernelRfl
set_option maxRecDepth 100000
set_option linter.unusedVariables false
set_option linter.unusedSimpArgs false
namespace Go.Proofs.YtbeeplmgcdnadaaDoor
open Go Go.RowKit Wx
attribute [local irreducible] Wx.lsH Wx.rsH Wx.lsM Wx.rsM Wx.stars

def rwC (x : Rw) : List Value := insC x.i ++ [.int .i64 x.ln, .int .i64 x.fr]
def NearI (r : List Rw) (k : Nat) : Prop := (r.getD k ⟨zIns, 0, 0⟩).i.c = 19 ∧ (r.getD k ⟨zIns, 0, 0⟩).i.a = (k : Int) + 1
theorem wo_snoc {r : List Rw} {R : Nat → Bool} {s : Nat} (h : s < r.length) : (cutS R 0 (r.take (s + 1))).map (Rw.mv (kb R)) = (cutS R 0 (r.take s)).map (Rw.mv (kb R)) ++ (if R s = true then [] else [r[s].mv (kb R)]) := by
  rw [cutS_snoc h, List.map_append]; split <;> rfl
theorem passS_cons (l : List Ins) (o : List Bool) (i : Nat) (is : List Nat) : passS l o (i :: is) = passS l (pass1 l o i) is := rfl
theorem rwC_i {x : Rw} {k : Nat} {v : Value} (h : (insC x.i)[k]? = some v) : (rwC x)[k]? = some v := by unfold rwC; rw [List.getElem?_append_left (List.getElem?_eq_some_iff.1 h).1]; exact h
theorem markS_cons (n : Nat) (o : List Bool) (y : Int) (ys : List Int) : markS n o (y :: ys) = markS n (if y < (n : Int) then o.set y.toNat true else o) ys := rfl
theorem markS_len {n : Nat} : ∀ {ys : List Int} {o : List Bool}, (markS n o ys).length = o.length
  | [], _ => rfl
  | y :: r, o => by rw [markS_cons, markS_len]; split <;> simp
theorem range_drop {n s : Nat} (h : s < n) : (List.range n).drop s = s :: (List.range n).drop (s + 1) := by
  rw [List.drop_eq_getElem_cons (by simpa using h)]; simp

theorem rw_one {i : Nat} {x : Rw} (h : 0 ≤ x.i.a) : x.mv (kb fun j => j == i) = { x with i := if jm x.i = true ∧ (i : Int) < x.i.a then { x.i with a := x.i.a - 1 } else x.i } := by
  unfold Rw.mv Ins.mv
  rw [kb_one]
  congr 1
  by_cases h1 : jm x.i = true
  · rw [if_pos h1]
    by_cases h2 : (i : Int) < x.i.a
    · rw [if_pos (show jm x.i = true ∧ (i : Int) < x.i.a from ⟨h1, h2⟩), if_pos (show i < x.i.a.toNat by omega)]; congr 1; omega
    · rw [if_neg (show ¬ (jm x.i = true ∧ (i : Int) < x.i.a) from fun k => h2 k.2), if_neg (show ¬ i < x.i.a.toNat by omega), Int.toNat_of_nonneg h]
  · rw [if_neg h1, if_neg (show ¬ (jm x.i = true ∧ (i : Int) < x.i.a) from fun k => h1 k.1)]
theorem ginfo70 : (Tryd.prog.info? 70).map (fun i => (i.zero, i.size, i.bytes)) = some (some (.agg #[.int .i64 0, .int .i64 0, .int .i64 0, .int .i64 0, .int .i64 0, .int .i64 0]), 6, 48) := by kernel_rfl
section
variable {G : World} {q : List HP} {a b A : Option Addr} {c d : Nat} {cd : Int} {l : List Ins} {ln : List Int} {o : List Bool}
variable {nt : Nat} {nm : ByteArray} {lo : Int} {ia la wa : Option Addr} {ic lc wc : Nat} {I : List Ins} {L W : List Int}
variable {r : List Rw} {x : Ins} {i at_ : Nat}
theorem rjump_ok  : CallF Tryd.prog G 41 [.agg (insC x).toArray] (q) (Ret fun v q' => v = .bool (jm x) ∧ q' = q) := by
 refine CallF.of Tryd.func41 Tryd.ntmps41 rfl (fun F cs => ?_)
 refine xo 2 ?_
 refine XO.bx fun n1 => ?_
 refine oo 5 ?_
 refine ld ?_
 refine oo 2 ?_
 refine XO.sb [6, 2, 1] ?_
 apply XO.cutAnd 4 10 6 rfl
 · skip
   intro g1 M1; have h1 := sp g1
   refine oo 1 ?_
   refine ld ?_
   refine oo 2 ?_
   exact XO.fin M1 ⟨andT g1, subB⟩
 · skip
   intro g1 M1; have h1 := sp g1
   refine oo 4 ?_
   exact XO.fin M1 ⟨andF g1, subB⟩
 · skip
   refine ox 2 ?_
   refine X.retL (q) Tryd.func41 (res1 Tryd.results41 rfl) ⟨_, rfl, congrArg Value.bool (by unfold jm; rw [Bool.eq_iff_iff]; simp), rfl⟩
set_option maxHeartbeats 2000000 in
theorem RLeads_ok (hs : Sees q a (l.flatMap insC)) (hA : ∀ i ∈ l, i.c = 19 → 0 ≤ i.a ∧ i.a.toNat < l.length) (hat : at_ < l.length) (hL : l.length ≤ 65536) : CallF Tryd.prog G 10 [.slice a l.length c, .int .i64 (at_ : Int)] (q) (Ret fun v q' => v = .int .i64 (leadS l at_ : Int) ∧ q' = q) := by
 refine CallF.of Tryd.func10 Tryd.ntmps10 rfl (fun F cs => ?_)
 have hlen := flatMap_len (f := insC) (sz := 4) (fun _ => rfl) l; refine X.adr hs (by rw [hlen]; omega) (fun b1 o1 e1 => ?_); subst e1
 refine xx 15 ?_
 refine X.at (X.loop (fun (s : Nat × Nat) => s.1 ≤ l.length + 1 ∧ s.2 < l.length ∧ led l (l.length + 1) at_ = led l (l.length + 1 - s.1) s.2) (fun s => [(6, .int .i64 (s.1 : Int)), (5, .int .i64 (s.2 : Int)), (0, .slice (some ⟨b1, o1, none⟩) l.length c), (1, .int .i64 (at_ : Int)), (4, .int .i64 0)]) (fun s => q ++ F) (fun s => l.length + 1 - s.1) (fun s hi_ ih => ?_) (0, at_) ⟨Nat.zero_le _, hat, rfl⟩) subA leA
 try dsimp only at hi_ ih ⊢
 obtain ⟨hs0, hx, hle⟩ := hi_
 obtain ⟨s, x⟩ := s; dsimp only at *
 refine xx 8 ?_
 refine X.part 11 rfl (fun h0 => ?_) (fun h0 => ?_)
 · skip
   replace h0 := sp h0; have hg : l.getD x zIns = l[x] := getD_lt' hx; obtain ⟨k, hk⟩ : ∃ k, l.length + 1 - s = k + 1 := ⟨l.length - s, by omega⟩; rw [hk] at hle; have hx9 := hA _ (List.getElem_mem hx)
   refine xo 11 ?_
   refine ld ?_ (hc := (Cl.row hs leA (fun _ => rfl) hx rfl 0 _ rfl))
   refine ox 2 ?_
   refine X.part 19 rfl (fun h1 => ?_) (fun h1 => ?_)
   · skip
     replace h1 := sp h1
     refine xx 6 ?_
     have hc : ¬ (l.getD x zIns).c = 19 := (by rw [hg]; omega); have hfin : leadS l at_ = x := (by unfold leadS; rw [hle]; simp only [led]; rw [if_neg hc]; rfl)
     refine X.retL (q) Tryd.func10 (res1 Tryd.results10 rfl) ⟨_, rfl, by rw [hfin], rfl⟩
   · skip
     replace h1 := sp h1
     refine xo 7 ?_
     refine ld ?_ (hc := (Cl.row hs leA (fun _ => rfl) hx rfl 1 _ rfl))
     refine ox 8 ?_
     refine X.sb [6, 5, 0, 1, 4] ?_
     have hc : (l.getD x zIns).c = 19 := (by rw [hg]; omega); rw [led_jump hc, hg] at hle; obtain ⟨A, hAe⟩ : ∃ A : Nat, l[x].a = (A : Int) := ⟨l[x].a.toNat, by have := hx9 (by rw [← hg]; exact hc); omega⟩; have hAl : A < l.length := (by have := hx9 (by rw [← hg]; exact hc); omega); rw [hAe, Int.toNat_natCast] at hle
     refine X.know 5 (.int .i64 (A : Int)) rfl (by rw [hAe]) ?_
     refine X.at (ih (s + 1, A) ⟨by dsimp only; omega, hAl, by rw [hle]; dsimp only; congr 1; omega⟩ (by dsimp only; omega)) subA leA
 · skip
   replace h0 := sp h0; have hz : l.length + 1 - s = 0 := (by omega); rw [hz] at hle; have hfin : leadS l at_ = at_ := (by unfold leadS; rw [hle]; rfl)
   refine xx 7 ?_
   refine X.retL (q) Tryd.func10 (res1 Tryd.results10 rfl) ⟨_, rfl, by rw [hfin], rfl⟩
set_option maxHeartbeats 2000000 in
theorem without_ok (hs : Sees q a (r.flatMap rwC)) (hb : ∀ x ∈ r, 0 ≤ x.i.a ∧ x.i.a ≤ 65536) (hL : r.length ≤ 65536) : CallF Tryd.prog G 43 [.slice a r.length c, .int .i64 (i : Int)] (q) (Ret fun v q' => ∃ a' c', v = .slice a' (takeR (fun j => j == i) r).length c' ∧ q' = rsH rwC 6 70 a' c' (takeR (fun j => j == i) r) :: q) := by
 refine CallF.of Tryd.func43 Tryd.ntmps43 rfl (fun F cs => ?_)
 have hlen := flatMap_len (f := rwC) (sz := 6) (fun _ => rfl) r
 refine xx 14 ?_
 refine X.at (X.loop (fun (s : Nat × Option Addr × Option Addr × Nat) => s.1 ≤ r.length ∧ s.2.1 = a) (fun s => [(6, .int .i64 (s.1 : Int)), (5, .slice s.2.2.1 ((cutS (fun j => j == i) 0 (r.take s.1)).map (Rw.mv (kb (fun j => j == i)))).length s.2.2.2), (0, .slice s.2.1 r.length c), (1, .int .i64 (i : Int)), (4, .slice none 0 0)]) (fun s => rsH rwC 6 70 s.2.2.1 s.2.2.2 (((cutS (fun j => j == i) 0 (r.take s.1)).map (Rw.mv (kb (fun j => j == i))))) :: (q ++ F)) (fun s => r.length - s.1) (fun s hi_ ih => ?_) (0, a, none, 0) ⟨Nat.zero_le _, rfl⟩) subA (Le.trans leA (Le.rsH_nil rwC 6 70 _))
 try dsimp only at hi_ ih ⊢
 obtain ⟨hs0, ha⟩ := hi_
 obtain ⟨s, a2, a', c'⟩ := s; dsimp only at *; subst ha
 refine xx 8 ?_
 refine X.part 11 rfl (fun h0 => ?_) (fun h0 => ?_)
 · skip
   replace h0 := sp h0; have hlt : s < r.length := (by omega); have hcl : ((cutS (fun j => j == i) 0 (r.take s)).map (Rw.mv (kb (fun j => j == i)))).length ≤ r.length := (by rw [List.length_map]; have := cutS_le (fun j => j == i) (r.take s); rw [List.length_take] at this; omega); have hsn := wo_snoc (R := (fun j => j == i)) hlt; have hbs := hb _ (List.getElem_mem hlt)
   refine X.adr hs (by rw [hlen]; omega) (fun b1 o1 e1 => ?_); subst e1
   refine xx 11 ?_
   refine X.part 16 rfl (fun h1 => ?_) (fun h1 => ?_)
   · skip
     replace h1 := sp h1
     refine xx 7 ?_
     rw [if_pos (by simp; omega), List.append_nil] at hsn; rw [← hsn]
     refine X.at (ih (s + 1, some ⟨b1, o1, none⟩, a', c') ⟨by dsimp only; omega, rfl⟩ (by dsimp only; omega)) subA leA
   · skip
     replace h1 := sp h1; rw [if_neg (by simp; omega)] at hsn
     have hmv : r[s].mv (kb (fun j => j == i)) = { r[s] with i := if jm r[s].i = true ∧ (i : Int) < r[s].i.a then { r[s].i with a := r[s].i.a - 1 } else r[s].i } := rw_one hbs.1
     refine xo 7 ?_
     refine XO.ldS (n := s) Tryd.isAgg70 Tryd.sizeOf70 hs hlt ?_
     refine XO.al Tryd.zeroValue70 fun n1 => ?_
     refine stA ?_
     refine oo 5 ?_
     refine ldA ?_
     refine XO.cR Tryd.call41 (rjump_ok (x := r[s].i)) ?_
     refine oo 1 ?_
     refine XO.sb [24, 7, 6, 5, 0, 1, 4] ?_
     apply XO.cutAnd 6 30 24 rfl
     · skip
       intro g1 M1; have k1 := sp g1
       refine oo 2 ?_
       refine ld ?_
       refine oo 3 ?_
       exact XO.fin M1 ⟨andT g1, subB⟩
     · skip
       intro g1 M1; have k1 := sp g1
       refine oo 6 ?_
       exact XO.fin M1 ⟨andF g1, subB⟩
     · skip
       refine ox 1 ?_
       refine X.sb [30, 7, 6, 5, 0, 1, 4] ?_
       refine X.part 30 rfl (fun k1 => ?_) (fun k1 => ?_)
       · skip
         replace k1 := sp k1
         refine xo 4 ?_
         refine ld ?_
         refine oo 3 ?_
         refine st ?_
         refine oo 3 ?_
         refine ldA ?_
         rw [if_pos k1] at hmv
         refine XO.know 38 (.agg (rwC (r[s].mv (kb (fun j => j == i)))).toArray) rfl (by rw [hmv]; rfl) ?_
         refine XO.ef (Ef.litR1 (u := r[s].mv (kb (fun j => j == i))) rwC Tryd.underlying67 ginfo70 rfl rfl (fun _ => rfl) rfl) ?_
         rintro _ _ ⟨g0, rfl, rfl⟩
         refine XO.ef (Ef.appRA (f := rwC) (l := ((cutS (fun j => j == i) 0 (r.take s)).map (Rw.mv (kb (fun j => j == i))))) (m := [r[s].mv (kb (fun j => j == i))]) Tryd.underlying67 ginfo70 rfl rfl (fun _ => rfl) rfl rfl fndA ((Sees.rsH _).le fndA) (fun _ => rfl) (by simp only [List.length_cons, List.length_nil]; omega) (by simp only [List.length_cons, List.length_nil]; omega)) ?_
         rintro _ _ ⟨a4, c4, rfl, rfl⟩
         refine ox 8 ?_
         rw [← hsn]
         refine X.at (ih (s + 1, some ⟨b1, o1, none⟩, a4, c4) ⟨by dsimp only; omega, rfl⟩ (by dsimp only; omega)) subA leA
       · skip
         replace k1 := sp k1
         refine xo 4 ?_
         refine ldA ?_
         rw [if_neg (by rintro ⟨e1, e2⟩; rcases k1 with k1 | k1; (rw [k1] at e1; cases e1); omega)] at hmv
         refine XO.know 38 (.agg (rwC (r[s].mv (kb (fun j => j == i)))).toArray) rfl (by rw [hmv]; rfl) ?_
         refine XO.ef (Ef.litR1 (u := r[s].mv (kb (fun j => j == i))) rwC Tryd.underlying67 ginfo70 rfl rfl (fun _ => rfl) rfl) ?_
         rintro _ _ ⟨g0, rfl, rfl⟩
         refine XO.ef (Ef.appRA (f := rwC) (l := ((cutS (fun j => j == i) 0 (r.take s)).map (Rw.mv (kb (fun j => j == i))))) (m := [r[s].mv (kb (fun j => j == i))]) Tryd.underlying67 ginfo70 rfl rfl (fun _ => rfl) rfl rfl fndA ((Sees.rsH _).le fndA) (fun _ => rfl) (by simp only [List.length_cons, List.length_nil]; omega) (by simp only [List.length_cons, List.length_nil]; omega)) ?_
         rintro _ _ ⟨a4, c4, rfl, rfl⟩
         refine ox 8 ?_
         rw [← hsn]
         refine X.at (ih (s + 1, some ⟨b1, o1, none⟩, a4, c4) ⟨by dsimp only; omega, rfl⟩ (by dsimp only; omega)) subA leA
 · skip
   replace h0 := sp h0; obtain rfl : s = r.length := (by omega); rw [List.take_length]
   refine xx 7 ?_
   refine X.retL (rsH rwC 6 70 a' c' (takeR (fun j => j == i) r) :: q) Tryd.func43 (res1 Tryd.results43 rfl) ⟨_, rfl, a', c', rfl, rfl⟩
set_option maxHeartbeats 2000000 in
theorem near_ok (hs : Sees q a (r.flatMap rwC)) (hL : r.length ≤ 65536) : CallF Tryd.prog G 44 [.slice a r.length c] (q) (Ret fun v q' => (∃ k : Nat, k < r.length ∧ NearI r k ∧ v = .int .i64 (k : Int) ∧ q' = q) ∨ ((∀ k, k < r.length → ¬ NearI r k) ∧ v = .int .i64 (-1) ∧ q' = q)) := by
 refine CallF.of Tryd.func44 Tryd.ntmps44 rfl (fun F cs => ?_)
 have hlen := flatMap_len (f := rwC) (sz := 6) (fun _ => rfl) r
 refine xx 10 ?_
 refine X.at (X.loop (fun (s : Nat × Option Addr) => s.1 ≤ r.length ∧ s.2 = a ∧ ∀ k, k < s.1 → ¬ NearI r k) (fun s => [(3, .int .i64 (s.1 : Int)), (0, .slice s.2 r.length c), (2, .int .i64 0)]) (fun s => q ++ F) (fun s => r.length - s.1) (fun s hi_ ih => ?_) (0, a) ⟨Nat.zero_le _, rfl, fun k h => absurd h (Nat.not_lt_zero k)⟩) subA leA
 try dsimp only at hi_ ih ⊢
 obtain ⟨hs0, ha, hn⟩ := hi_
 obtain ⟨s, a2⟩ := s; dsimp only at *; subst ha
 refine xx 8 ?_
 refine X.part 7 rfl (fun h0 => ?_) (fun h0 => ?_)
 · skip
   replace h0 := sp h0; have hlt : s < r.length := (by omega); have hg : r.getD s ⟨zIns, 0, 0⟩ = r[s] := getD_lt' hlt
   refine X.adr hs (by rw [hlen]; omega) (fun b1 o1 e1 => ?_); subst e1
   refine xo 11 ?_
   refine ld ?_ (hc := (Cl.row hs leA (fun _ => rfl) hlt rfl 0 _ rfl))
   refine oo 2 ?_
   refine XO.part 17 rfl (fun k1 => ?_) (fun k1 => ?_)
   · skip
     replace k1 := sp k1
     refine oo 5 ?_
     refine ld ?_ (hc := (Cl.row hs leA (fun _ => rfl) hlt rfl 1 _ rfl))
     refine ox 5 ?_
     refine X.sb [27, 3, 0, 2] ?_
     refine X.part 27 rfl (fun k2 => ?_) (fun k2 => ?_)
     · skip
       replace k2 := sp k2
       refine xx 6 ?_
       refine X.retL (q) Tryd.func44 (res1 Tryd.results44 rfl) ⟨_, rfl, .inl ⟨s, hlt, by unfold NearI; rw [hg]; omega, rfl, rfl⟩⟩
     · skip
       replace k2 := sp k2
       refine xx 8 ?_
       refine X.at (ih (s + 1, some ⟨b1, o1, none⟩) ⟨by dsimp only; omega, rfl, fun k hk => by dsimp only at hk; rcases Nat.lt_or_ge k s with e | e; exact hn k e; obtain rfl : k = s := (by omega); unfold NearI; rw [hg]; omega⟩ (by dsimp only; omega)) subA leA
   · skip
     replace k1 := sp k1
     refine ox 19 ?_
     refine X.sb [3, 0, 2] ?_
     refine X.at (ih (s + 1, some ⟨b1, o1, none⟩) ⟨by dsimp only; omega, rfl, fun k hk => by dsimp only at hk; rcases Nat.lt_or_ge k s with e | e; exact hn k e; obtain rfl : k = s := (by omega); unfold NearI; rw [hg]; omega⟩ (by dsimp only; omega)) subA leA
 · skip
   replace h0 := sp h0; obtain rfl : s = r.length := by omega
   refine xx 6 ?_
   refine X.retL (q) Tryd.func44 (res1 Tryd.results44 rfl) ⟨_, rfl, .inr ⟨hn, rfl, rfl⟩⟩
set_option maxHeartbeats 4000000 in
theorem come_ok (hs : Sees q a (r.flatMap rwC)) (hb : ∀ x ∈ r, 0 ≤ x.i.a) (h0r : 0 < r.length) (hL : r.length ≤ 65536) : CallF Tryd.prog G 42 [.slice a r.length c] (q) (Ret fun v q' => ∃ g, v = .slice (some ⟨g, 0, none⟩) r.length r.length ∧ q' = lsH Value.bool 4 (some ⟨g, 0, none⟩) r.length (comeS (r.map (·.i))) :: q) := by
 refine CallF.of Tryd.func42 Tryd.ntmps42 rfl (fun F cs => ?_)
 have hlen := flatMap_len (f := rwC) (sz := 6) (fun _ => rfl) r; refine X.adr hs (by rw [hlen]; omega) (fun b1 o1 e1 => ?_); subst e1; have hLl : (r.map (·.i)).length = r.length := List.length_map _
 refine xo 8 ?_
 refine XO.ef (Ef.make (n := r.length) rfl rfl Tryd.underlying79 ginfo4 rfl rfl (by omega) (by omega)) ?_
 rintro _ _ ⟨g, rfl, rfl⟩
 refine XO.le (q' := lsH Value.bool 4 (some ⟨g, 0, none⟩) r.length (List.replicate r.length false) :: _) (Le.trans fndA (by rw [← ls_made (f := Value.bool) (u := false) rfl]; exact Le.refl _)) ?_
 refine oo 6 ?_
 refine XO.ef0 (Ef.setL (f := Value.bool) (l := List.replicate r.length false) (n := 0) (u := true) rfl rfl Tryd.sizeOf4 rfl (by simpa using h0r) rfl rfl fndA) ?_
 rintro _ _ ⟨rfl, rfl⟩
 refine ox 7 ?_
 refine X.at (X.loop (fun (s : List Bool × Nat) => s.2 ≤ r.length ∧ s.1.length = r.length ∧ comeS (r.map (·.i)) = turnsS (r.map (·.i)) (r.length - s.2) s.1) (fun s => [(4, .int .i64 (s.2 : Int)), (3, .slice (some ⟨g, 0, none⟩) r.length r.length), (0, .slice (some ⟨b1, o1, none⟩) r.length c), (2, .slice none 0 0)]) (fun s => lsH Value.bool 4 (some ⟨g, 0, none⟩) r.length (s.1) :: (q ++ F)) (fun s => r.length - s.2) (fun s hi_ ih => ?_) ((List.replicate r.length false).set 0 true, 0) ⟨Nat.zero_le _, by simp, by unfold comeS; rw [hLl]; rfl⟩) subA leA
 try dsimp only at hi_ ih ⊢
 obtain ⟨ht0, hol, htu⟩ := hi_
 obtain ⟨O, tt⟩ := s; dsimp only at *
 refine xx 8 ?_
 refine X.part 16 rfl (fun h0 => ?_) (fun h0 => ?_)
 · skip
   replace h0 := sp h0; obtain ⟨k, hk⟩ : ∃ k, r.length - tt = k + 1 := ⟨r.length - tt - 1, by omega⟩; rw [hk] at htu; simp only [turnsS, hLl] at htu
   refine xx 9 ?_
   refine X.at (X.loop (fun (s : List Bool × Nat) => s.2 ≤ r.length ∧ s.1.length = r.length ∧ passS (r.map (·.i)) O (List.range r.length) = passS (r.map (·.i)) s.1 ((List.range r.length).drop s.2)) (fun s => [(4, .int .i64 (tt : Int)), (5, .int .i64 (s.2 : Int)), (3, .slice (some ⟨g, 0, none⟩) r.length r.length), (0, .slice (some ⟨b1, o1, none⟩) r.length c), (2, .slice none 0 0)]) (fun s => lsH Value.bool 4 (some ⟨g, 0, none⟩) r.length (s.1) :: (q ++ F)) (fun s => r.length - s.2) (fun s hi_ ih2 => ?_) (O, 0) ⟨Nat.zero_le _, hol, rfl⟩) subA leA
   try dsimp only at hi_ ih2 ⊢
   obtain ⟨hs0, hpl, hps⟩ := hi_
   obtain ⟨O2, s⟩ := s; dsimp only at *
   refine xx 8 ?_
   refine X.part 22 rfl (fun h1 => ?_) (fun h1 => ?_)
   · skip
     replace h1 := sp h1; have hlt : s < r.length := (by omega); have hlo : s < O2.length := (by omega); rw [range_drop hlt, passS_cons] at hps; have hgd : O2.getD s false = O2[s] := getD_lt' hlo; have hgi : (r.map (·.i)).getD s zIns = r[s].i := (by rw [getD_lt' (by omega)]; simp)
     refine xo 10 ?_
     refine ld ?_ (hc := (Cl.e1 (Sees.lsH _) fndA hlo rfl))
     refine XO.pu (Pu.not rfl) ?_
     refine ox 1 ?_
     refine X.part 29 rfl (fun h2 => ?_) (fun h2 => ?_)
     · skip
       refine xx 7 ?_
       have hp1 : pass1 (r.map (·.i)) O2 s = O2 := (by unfold pass1; rw [if_neg (by rw [hgd]; simpa using h2)]); rw [hp1] at hps
       refine X.at (ih2 (O2, s + 1) ⟨by dsimp only; omega, hpl, hps⟩ (by dsimp only; omega)) subA leA
     · skip
       have hp1 : pass1 (r.map (·.i)) O2 s = markS r.length O2 (nxt r[s].i s) := (by unfold pass1; rw [if_pos (by rw [hgd]; simpa using h2), hgi, hLl]); rw [hp1] at hps; have hnn := nxt_nn (hb _ (List.getElem_mem hlt)) s; have hnl := nxt_len r[s].i (s : Int)
       refine xo 8 ?_
       refine XO.rd (Rd.loadCs (us := insC r[s].i) rfl Tryd.isAgg53 Tryd.sizeOf53 rfl (fun k v hk => by rw [add_addr]; exact Cl.row hs leA (fun _ => rfl) hlt rfl k v (rwC_i hk))) ?_ rfl rfl
       refine oo 1 ?_
       refine XO.cF Tryd.call38 (RNext_ok (x := r[s].i) (at_ := (s : Int)) (q := []) ⟨by omega, by omega⟩) ?_
       rintro _ _ ⟨an, cn, rfl, rfl⟩ _ e_; simp only [ca, na] at e_; subst e_
       refine ox 7 ?_
       refine X.at (X.loop (fun (s_ : List Bool × Nat) => s_.2 ≤ (nxt r[s].i (s : Int)).length ∧ s_.1.length = r.length ∧ markS r.length O2 (nxt r[s].i (s : Int)) = markS r.length s_.1 ((nxt r[s].i (s : Int)).drop s_.2)) (fun s_ => [(4, .int .i64 (tt : Int)), (5, .int .i64 (s : Int)), (6, .slice an (nxt r[s].i (s : Int)).length cn), (7, .int .i64 (s_.2 : Int)), (3, .slice (some ⟨g, 0, none⟩) r.length r.length), (0, .slice (some ⟨b1, o1, none⟩) r.length c), (2, .slice none 0 0)]) (fun s_ => lsH I64 3 an cn ((nxt r[s].i (s : Int))) :: lsH Value.bool 4 (some ⟨g, 0, none⟩) r.length (s_.1) :: (q ++ F)) (fun s_ => (nxt r[s].i (s : Int)).length - s_.2) (fun s_ hi_ ih3 => ?_) (O2, 0) ⟨Nat.zero_le _, hpl, rfl⟩) subA leA
       try dsimp only at hi_ ih3 ⊢
       obtain ⟨hk0, hml, hms⟩ := hi_
       obtain ⟨O3, k3⟩ := s_; dsimp only at *
       refine xx 8 ?_
       refine X.part 40 rfl (fun h3 => ?_) (fun h3 => ?_)
       · skip
         replace h3 := sp h3; have hky : k3 < (nxt r[s].i (s : Int)).length := (by omega); rw [List.drop_eq_getElem_cons hky, markS_cons] at hms; obtain ⟨y, hy⟩ : ∃ y : Nat, (nxt r[s].i (s : Int))[k3] = (y : Int) := ⟨((nxt r[s].i (s : Int))[k3]).toNat, by have := hnn _ (List.getElem_mem hky); omega⟩; rw [hy] at hms
         refine X.lsadr (fl := I64) (l := (nxt r[s].i (s : Int))) (by omega) (fun gn e_ => ?_); subst e_
         refine xo 9 ?_
         refine ld ?_ (hc := (Cl.e1 (Sees.lsH _) fndA hky rfl))
         refine XO.know 46 (.int .i64 (y : Int)) rfl (by rw [hy]) ?_
         refine ox 4 ?_
         refine X.part 49 rfl (fun k1 => ?_) (fun k1 => ?_)
         · skip
           replace k1 := sp k1
           refine xo 6 ?_
           refine ld ?_ (hc := (Cl.e1 (Sees.lsH _) fndA hky rfl))
           refine XO.know 54 (.int .i64 (y : Int)) rfl (by rw [hy]) ?_
           refine oo 1 ?_
           refine XO.ef0 (Ef.setL (f := Value.bool) (l := O3) (n := y) (u := true) rfl rfl Tryd.sizeOf4 rfl (by omega) rfl rfl fndA) ?_
           rintro _ _ ⟨rfl, rfl⟩
           refine ox 7 ?_
           refine X.sb [7, 4, 5, 6, 3, 0, 2] ?_
           rw [if_pos (by omega), Int.toNat_natCast] at hms
           refine X.at (ih3 (O3.set y true, k3 + 1) ⟨by dsimp only; omega, by rw [List.length_set]; exact hml, hms⟩ (by dsimp only; omega)) subA leA
         · skip
           replace k1 := sp k1
           refine xx 8 ?_
           refine X.sb [7, 4, 5, 6, 3, 0, 2] ?_
           rw [if_neg (by omega)] at hms
           refine X.at (ih3 (O3, k3 + 1) ⟨by dsimp only; omega, hml, hms⟩ (by dsimp only; omega)) subA leA
       · skip
         replace h3 := sp h3; rw [show k3 = (nxt r[s].i (s : Int)).length by omega, List.drop_length] at hms; rw [hms] at hps
         refine xx 8 ?_
         refine X.at (ih2 (O3, s + 1) ⟨by dsimp only; omega, hml, hps⟩ (by dsimp only; omega)) subA leA
   · skip
     replace h1 := sp h1; rw [List.drop_eq_nil_of_le (by rw [List.length_range]; omega)] at hps; rw [hps] at htu
     refine xx 8 ?_
     refine X.at (ih (O2, tt + 1) ⟨by dsimp only; omega, hpl, by rw [htu]; dsimp only; rw [show r.length - (tt + 1) = k by omega]; rfl⟩ (by dsimp only; omega)) subA leA
 · skip
   replace h0 := sp h0; have hz : r.length - tt = 0 := (by omega); rw [hz] at htu; replace htu : comeS (r.map (·.i)) = O := htu
   refine xx 7 ?_
   refine X.retL (lsH Value.bool 4 (some ⟨g, 0, none⟩) r.length (O) :: q) Tryd.func42 (res1 Tryd.results42 rfl) ⟨_, rfl, g, rfl, by rw [htu]⟩
end
end Go.Proofs.YtbeeplmgcdnadaaDoor

