/- What functions of package tight, of its references and of its laws do: contracts of calls, proved by walking their code. -/
import Derived.Test.YtbeeplmgcdnadaaDoorGd
import Derived.Test.YtbeeplmgcdnadaaDoorWc
import Derived.KernelRfl
set_option maxRecDepth 100000
set_option linter.unusedVariables false
set_option linter.unusedSimpArgs false
namespace Go.Proofs.YtbeeplmgcdnadaaDoor
open Go Go.RowKit Wx
attribute [local irreducible] Wx.lsH Wx.rsH Wx.lsM Wx.rsM Wx.stars

theorem fill3 {D : List Bool} {N : Nat} (h : D.length = N) (h2 : ∀ i, i < N → D.getD i false = true) : D = List.replicate N true := by
  refine List.ext_getElem (by simp [h]) (fun i h1 h3 => ?_)
  rw [List.getElem_replicate, ← getD_lt' (z := false) h1]; exact h2 i (by omega)
theorem cnt_off : ∀ {o : List Bool} {a : Nat}, a < o.length → o.getD a false = true → (o.set a false).countP id + 1 = o.countP id
  | [], _, h, _ => by simp at h
  | x :: r, 0, _, h => by simp only [List.getD_cons_zero] at h; subst h; simp [List.countP_cons]
  | x :: r, a + 1, h, h1 => by
    have := cnt_off (o := r) (a := a) (by simpa using h) (by simpa using h1)
    rw [List.set_cons_succ, List.countP_cons, List.countP_cons]; omega
section
variable {G : World} {q : List HP} {a b A : Option Addr} {c d : Nat} {cd : Int} {l : List Ins} {ln : List Int} {o : List Bool}
variable {nt : Nat} {nm : ByteArray} {lo : Int} {ia la wa : Option Addr} {ic lc wc : Nat} {I : List Ins} {L W : List Int}
set_option maxHeartbeats 8000000 in
theorem prune_ok (hA : ∀ i ∈ I, jm i = true → 0 ≤ i.a ∧ i.a.toNat < I.length) (hLn : L.length = I.length) (hW : ∀ x ∈ W, x < 0 ∨ x.toNat < I.length) (hWn : W.length ≤ 65536) (h0I : 0 < I.length) (hL : I.length ≤ 65536) (hb : ∀ i ∈ I, 0 ≤ i.a) (hV : ∀ j, Rch I j → ∀ y ∈ nxt (I.getD j zIns) j, y < (I.length : Int)) : CallF Tryd.prog G 60 [.pointer (some ⟨nt, 0, none⟩)] (pto nt (.cells [.string nm, .int .i64 lo, .slice ia I.length ic, .slice la L.length lc, .slice wa W.length wc].toArray 64 (0, 0)) :: rsH insC 4 53 ia ic (I) :: lsH I64 3 la lc (L) :: lsH I64 3 wa wc (W) :: q) (Ret fun v q' => ∃ a1 c1 a2 c2, q' = pto nt (.cells [.string nm, .int .i64 lo, .slice a1 (takeI (unr I) I).length c1, .slice a2 (cutS (unr I) 0 L).length c2, .slice wa W.length wc].toArray 64 (0, 0)) :: rsH insC 4 53 a1 c1 (takeI (unr I) I) :: lsH I64 3 a2 c2 (cutS (unr I) 0 L) :: lsH I64 3 wa wc (W.map (nowR (unr I))) :: q) := by
 refine CallF.of Tryd.func60 Tryd.ntmps60 rfl (fun F cs => ?_)
 refine X.rsadr (fl := insC) (l := I) h0I (fun g e_ => ?_); subst e_
 refine xo 6 ?_
 refine ld ?_
 refine oo 1 ?_
 refine XO.ef (Ef.make (n := I.length) rfl rfl Tryd.underlying79 ginfo4 rfl rfl (by omega) (by omega)) ?_
 rintro _ _ ⟨go, rfl, rfl⟩
 refine XO.le (q' := lsH Value.bool 4 (some ⟨go, 0, none⟩) I.length (List.replicate I.length false) :: _) (Le.trans fndA (by rw [← ls_made (f := Value.bool) (u := false) rfl]; exact Le.refl _)) ?_
 refine ox 10 ?_
 refine X.at (X.loop (fun (s : List Bool × Nat) => s.1.length = I.length ∧ s.2 ≤ I.length ∧ ∀ i, i < s.2 → s.1.getD i false = true) (fun s => [(16, .int .i64 (s.2 : Int)), (15, .int .i64 (I.length : Int)), (2, .slice (some ⟨go, 0, none⟩) I.length I.length), (0, .pointer (some ⟨nt, 0, none⟩))]) (fun s => lsH Value.bool 4 (some ⟨go, 0, none⟩) I.length (s.1) :: pto nt (.cells [.string nm, .int .i64 lo, .slice (some ⟨g, 0, none⟩) I.length ic, .slice la L.length lc, .slice wa W.length wc].toArray 64 (0, 0)) :: rsH insC 4 53 (some ⟨g, 0, none⟩) ic (I) :: lsH I64 3 la lc (L) :: lsH I64 3 wa wc (W) :: (q ++ F)) (fun s => I.length - s.2) (fun s hi_ ih => ?_) (List.replicate I.length false, 0) ⟨by simp, Nat.zero_le _, fun i h => absurd h (Nat.not_lt_zero i)⟩) subA leA
 try dsimp only at hi_ ih ⊢
 obtain ⟨hl1, hl2, hl3⟩ := hi_
 obtain ⟨D, s⟩ := s; dsimp only at *
 refine xx 5 ?_
 refine X.part 17 rfl (fun h0 => ?_) (fun h0 => ?_)
 · skip
   replace h0 := sp h0; have hlt : s < D.length := (by omega)
   refine xo 13 ?_
   refine XO.ef0 (Ef.setL (f := Value.bool) (l := D) (n := s) (u := true) rfl rfl Tryd.sizeOf4 rfl hlt rfl rfl fndA) ?_
   rintro _ _ ⟨rfl, rfl⟩
   refine ox 6 ?_
   refine X.at (ih (D.set s true, s + 1) ⟨by rw [List.length_set]; exact hl1, by dsimp only; omega, fun i hi => by dsimp only at hi ⊢; rw [getD_setB hlt]; split; rfl; exact hl3 i (by omega)⟩ (by dsimp only; omega)) subA leA
 · skip
   replace h0 := sp h0; have hD : D = List.replicate I.length true := fill3 hl1 (fun i hi => hl3 i (by omega)); subst hD; clear ih hl1 hl2 hl3 h0
   refine xo 4 ?_
   refine XO.ef (Ef.lit1 (u := 0) I64 Tryd.underlying23 ginfo3 rfl rfl) ?_
   rintro _ _ ⟨gt, rfl, rfl⟩
   refine ox 4 ?_
   refine X.at (X.loop (fun (s : List Bool × List Int × Option Addr × Nat) => PI I s.1 s.2.1 ∧ 2 * s.1.countP id + s.2.1.length ≤ 2 * I.length + 1) (fun s => [(2, .slice (some ⟨go, 0, none⟩) I.length I.length), (4, .slice s.2.2.1 s.2.1.length s.2.2.2), (0, .pointer (some ⟨nt, 0, none⟩))]) (fun s => lsH I64 3 s.2.2.1 s.2.2.2 (s.2.1) :: lsH Value.bool 4 (some ⟨go, 0, none⟩) I.length (s.1) :: pto nt (.cells [.string nm, .int .i64 lo, .slice (some ⟨g, 0, none⟩) I.length ic, .slice la L.length lc, .slice wa W.length wc].toArray 64 (0, 0)) :: rsH insC 4 53 (some ⟨g, 0, none⟩) ic (I) :: lsH I64 3 la lc (L) :: lsH I64 3 wa wc (W) :: (q ++ F)) (fun s => 2 * s.1.countP id + s.2.1.length) (fun s hi_ ih => ?_) (List.replicate I.length true, [0], some ⟨gt, 0, none⟩, 1) ⟨PI.init h0I, by simp [List.countP_replicate]⟩) subA leA
   try dsimp only at hi_ ih ⊢
   obtain ⟨hP, hcb⟩ := hi_
   obtain ⟨out, T, ta, tc⟩ := s; dsimp only at *; have hol := hP.len
   refine X.fact (fun w s => (s.le (cs := _) (ds := lsH I64 3 ta tc (T) :: _) fndA).lsLen) (fun hTl => ?_)
   refine xx 7 ?_
   refine X.part 26 rfl (fun h0 => ?_) (fun h0 => ?_)
   · skip
     replace h0 := sp h0; obtain ⟨T2, x, rfl⟩ : ∃ T2 x, T = T2 ++ [x] := ⟨T.dropLast, T.getLast (by rintro rfl; simp at h0), (List.dropLast_concat_getLast _).symm⟩; obtain ⟨x0, x1, x2⟩ := hP.td x (by simp); obtain ⟨a, rfl⟩ : ∃ a : Nat, x = (a : Int) := ⟨x.toNat, by omega⟩; rw [Int.toNat_natCast] at x1 x2; have hT0 : 0 < (T2 ++ [(a : Int)]).length := by simp
     have hTn : (T2 ++ [(a : Int)]).length = T2.length + 1 := by simp
     have hao : a < out.length := by omega
     refine X.lsadr (fl := I64) (l := T2 ++ [(a : Int)]) (by omega) (fun ga e_ => ?_); subst e_
     have hlast : (T2 ++ [(a : Int)])[(T2 ++ [(a : Int)]).length - 1]'(Nat.sub_lt hT0 Nat.one_pos) = (a : Int) := by simp
     refine xo 10 ?_
     refine ld ?_ (hc := (Cl.e1z (Sees.lsH _) fndA hT0))
     refine XO.know 32 (.int .i64 (a : Int)) rfl (by rw [hlast]) ?_
     refine oo 9 ?_
     refine XO.know 37 (.slice (some ⟨ga, 0, none⟩) T2.length tc) rfl (by congr 1; simp) ?_
     refine XO.le (q' := lsH I64 3 (some ⟨ga, 0, none⟩) tc (T2) :: _) (Le.trans fndA (Le.trans (Le.lsH_take I64 3 (some ⟨ga, 0, none⟩) tc (T2 ++ [(a : Int)]) T2.length _) (by rw [List.take_left]; exact Le.refl _))) ?_
     refine oo 8 ?_
     refine ld ?_ (hc := (Cl.e1 (Sees.lsH _) fndA hao rfl))
     refine XO.pu (Pu.not rfl) ?_
     refine ox 1 ?_
     refine X.sb [42, 4, 5, 2, 0] ?_
     refine X.part 42 rfl (fun h1 => ?_) (fun h1 => ?_)
     · skip
       replace h1 := sp h1
       refine xx 2 ?_
       have hga : out.getD a false = out[a] := getD_lt' hao
       refine X.at (ih (out, T2, some ⟨ga, 0, none⟩, tc) ⟨PI.skip hP (by rw [Int.toNat_natCast, hga]; simpa using h1), by dsimp only; omega⟩ (by dsimp only; omega)) subA leA
     · skip
       replace h1 := sp h1
       refine xo 7 ?_
       refine XO.ef0 (Ef.setL (f := Value.bool) (l := out) (n := a) (u := false) rfl rfl Tryd.sizeOf4 rfl hao rfl rfl fndA) ?_
       rintro _ _ ⟨rfl, rfl⟩
       refine oo 7 ?_
       refine ld ?_
       refine oo 2 ?_
       refine XO.ldS (n := a) (fl := insC) (l := I) Tryd.isAgg53 Tryd.sizeOf53 (Sees.rsH _) x1 ?_ (hq := fndA)
       refine XO.al Tryd.zeroValue53 fun n1 => ?_
       refine stA ?_
       refine oo 5 ?_
       refine ld ?_
       refine XO.cR Tryd.call77 (isJump_ok) ?_
       refine ox 1 ?_
       refine X.part 56 rfl (fun h2 => ?_) (fun h2 => ?_)
       · skip
         replace h2 := sp h2
         refine xo 4 ?_
         refine ld ?_
         refine XO.ef (Ef.lit1 (u := I[a].a) I64 Tryd.underlying23 ginfo3 rfl rfl) ?_
         rintro _ _ ⟨gb0, rfl, rfl⟩
         refine XO.ef (Ef.appA (f := I64) (l := T2) (m := [I[a].a]) Tryd.underlying23 ginfo3 rfl rfl rfl fndA ((Sees.lsH _).le fndA) (fun _ => rfl) (by simp only [List.length_append, List.length_cons, List.length_nil]; omega) (by simp only [List.length_append, List.length_cons, List.length_nil]; omega)) ?_
         rintro _ _ ⟨at0, ct0, rfl, rfl⟩
         refine oo 5 ?_
         refine ld ?_
         refine oo 2 ?_
         refine XO.sb [65, 4, 6, 5, 2, 0] ?_
         apply XO.cutAnd 4 69 65 rfl
         · skip
           intro g3 M3; have h3 := sp g3
           refine oo 1 ?_
           refine ld ?_
           refine oo 2 ?_
           exact XO.fin M3 ⟨andT g3, subB⟩
         · skip
           intro g3 M3; have h3 := sp g3
           refine oo 4 ?_
           exact XO.fin M3 ⟨andF g3, subB⟩
         · skip
           refine ox 1 ?_
           refine X.sb [69, 4, 5, 2, 0] ?_
           refine X.part 69 rfl (fun h3 => ?_) (fun h3 => ?_)
           · skip
             replace h3 := sp h3
             refine xo 5 ?_
             refine XO.ef (Ef.lit1 (u := (a : Int) + 1) I64 Tryd.underlying23 ginfo3 rfl rfl) ?_
             rintro _ _ ⟨gb1, rfl, rfl⟩
             refine XO.ef (Ef.appA (f := I64) (l := T2 ++ [I[a].a]) (m := [(a : Int) + 1]) Tryd.underlying23 ginfo3 rfl rfl rfl fndA ((Sees.lsH _).le fndA) (fun _ => rfl) (by simp only [List.length_append, List.length_cons, List.length_nil]; omega) (by simp only [List.length_append, List.length_cons, List.length_nil]; omega)) ?_
             rintro _ _ ⟨at1, ct1, rfl, rfl⟩
             refine ox 3 ?_
             have hga : out.getD a false = out[a] := getD_lt' hao
             have hgi : I.getD a zIns = I[a] := getD_lt' x1; have hM := PI.mark hb hV hP; rw [Int.toNat_natCast, hgi] at hM
             have hpu : pushS I[a] a = [I[a].a, (a : Int) + 1] := (by unfold pushS jm; rw [if_pos (decide_eq_true (by omega))]; rw [if_pos (by omega)]; rfl)
             have hcnt := cnt_off hao (by rw [hga]; simpa using h1); rw [hpu] at hM; have hel : ([I[a].a, (a : Int) + 1] : List Int).length ≤ 2 := (by simp)
             rw [show T2 ++ [I[a].a, (a : Int) + 1] = T2 ++ [I[a].a] ++ [(a : Int) + 1] by simp] at hM
             refine X.at (ih (out.set a false, T2 ++ [I[a].a] ++ [(a : Int) + 1], at1, ct1) ⟨hM, by dsimp only; simp only [List.length_append, List.length_cons, List.length_nil] at *; omega⟩ (by dsimp only; simp only [List.length_append, List.length_cons, List.length_nil] at *; omega)) subA leA
           · skip
             replace h3 := sp h3
             refine xx 3 ?_
             have hga : out.getD a false = out[a] := getD_lt' hao
             have hgi : I.getD a zIns = I[a] := getD_lt' x1; have hM := PI.mark hb hV hP; rw [Int.toNat_natCast, hgi] at hM
             have hpu : pushS I[a] a = [I[a].a] := (by unfold pushS jm; rw [if_pos (decide_eq_true (by omega))]; rw [if_neg (by omega)]; rfl)
             have hcnt := cnt_off hao (by rw [hga]; simpa using h1); rw [hpu] at hM; have hel : ([I[a].a] : List Int).length ≤ 2 := (by simp)
             refine X.at (ih (out.set a false, T2 ++ [I[a].a], at0, ct0) ⟨hM, by dsimp only; simp only [List.length_append, List.length_cons, List.length_nil] at *; omega⟩ (by dsimp only; simp only [List.length_append, List.length_cons, List.length_nil] at *; omega)) subA leA
       · skip
         replace h2 := sp h2
         refine xo 5 ?_
         refine ld ?_
         refine oo 2 ?_
         refine XO.sb [65, 6, 4, 5, 2, 0] ?_
         apply XO.cutAnd 4 69 65 rfl
         · skip
           intro g3 M3; have h3 := sp g3
           refine oo 1 ?_
           refine ld ?_
           refine oo 2 ?_
           exact XO.fin M3 ⟨andT g3, subB⟩
         · skip
           intro g3 M3; have h3 := sp g3
           refine oo 4 ?_
           exact XO.fin M3 ⟨andF g3, subB⟩
         · skip
           refine ox 1 ?_
           refine X.sb [69, 4, 5, 2, 0] ?_
           refine X.part 69 rfl (fun h3 => ?_) (fun h3 => ?_)
           · skip
             replace h3 := sp h3
             refine xo 5 ?_
             refine XO.ef (Ef.lit1 (u := (a : Int) + 1) I64 Tryd.underlying23 ginfo3 rfl rfl) ?_
             rintro _ _ ⟨gb0, rfl, rfl⟩
             refine XO.ef (Ef.appA (f := I64) (l := T2) (m := [(a : Int) + 1]) Tryd.underlying23 ginfo3 rfl rfl rfl fndA ((Sees.lsH _).le fndA) (fun _ => rfl) (by simp only [List.length_append, List.length_cons, List.length_nil]; omega) (by simp only [List.length_append, List.length_cons, List.length_nil]; omega)) ?_
             rintro _ _ ⟨at0, ct0, rfl, rfl⟩
             refine ox 3 ?_
             have hga : out.getD a false = out[a] := getD_lt' hao
             have hgi : I.getD a zIns = I[a] := getD_lt' x1; have hM := PI.mark hb hV hP; rw [Int.toNat_natCast, hgi] at hM
             have hpu : pushS I[a] a = [(a : Int) + 1] := (by unfold pushS jm; rw [if_neg (by simp; omega)]; rw [if_pos (by omega)]; rfl)
             have hcnt := cnt_off hao (by rw [hga]; simpa using h1); rw [hpu] at hM; have hel : ([(a : Int) + 1] : List Int).length ≤ 2 := (by simp)
             refine X.at (ih (out.set a false, T2 ++ [(a : Int) + 1], at0, ct0) ⟨hM, by dsimp only; simp only [List.length_append, List.length_cons, List.length_nil] at *; omega⟩ (by dsimp only; simp only [List.length_append, List.length_cons, List.length_nil] at *; omega)) subA leA
           · skip
             replace h3 := sp h3
             refine xx 3 ?_
             have hga : out.getD a false = out[a] := getD_lt' hao
             have hgi : I.getD a zIns = I[a] := getD_lt' x1; have hM := PI.mark hb hV hP; rw [Int.toNat_natCast, hgi] at hM
             have hpu : pushS I[a] a = [] := (by unfold pushS jm; rw [if_neg (by simp; omega)]; rw [if_neg (by omega)]; rfl)
             have hcnt := cnt_off hao (by rw [hga]; simpa using h1); rw [hpu] at hM; have hel : ([] : List Int).length ≤ 2 := (by simp)
             rw [List.append_nil] at hM
             refine X.at (ih (out.set a false, T2, some ⟨ga, 0, none⟩, tc) ⟨hM, by dsimp only; simp only [List.length_append, List.length_cons, List.length_nil] at *; omega⟩ (by dsimp only; simp only [List.length_append, List.length_cons, List.length_nil] at *; omega)) subA leA
   · skip
     replace h0 := sp h0; have hT : T = [] := List.eq_nil_of_length_eq_zero (by omega); subst hT; have hov := PI.over hb hP; clear ih
     refine xo 5 ?_
     refine XO.know 76 (.slice (some ⟨go, 0, none⟩) out.length I.length) rfl (by rw [hol]) ?_
     refine XO.cX Tryd.call78 leA (take_ok (q := lsH Value.bool 4 (some ⟨go, 0, none⟩) I.length (out) :: (q ++ F)) (R := unr I) (o := out) (Sees.lsH _) hol (fun j hj => hov j (by omega)) hA hLn hW hWn h0I hL) ?_
     rintro _ _ ⟨a1, c1, a2, c2, rfl⟩
     refine ox 1 ?_
     refine X.fallL (pto nt (.cells [.string nm, .int .i64 lo, .slice a1 (takeI (unr I) I).length c1, .slice a2 (cutS (unr I) 0 L).length c2, .slice wa W.length wc].toArray 64 (0, 0)) :: rsH insC 4 53 a1 c1 (takeI (unr I) I) :: lsH I64 3 a2 c2 (cutS (unr I) 0 L) :: lsH I64 3 wa wc (W.map (nowR (unr I))) :: q) Tryd.func60 (res0 Tryd.results60) ⟨_, rfl, a1, c1, a2, c2, rfl⟩
end
end Go.Proofs.YtbeeplmgcdnadaaDoor

