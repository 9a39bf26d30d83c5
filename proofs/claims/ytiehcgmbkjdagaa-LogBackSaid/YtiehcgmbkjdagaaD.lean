/- What functions of package log, of its references and of its laws do: contracts of calls, proved by walking their code. -/
import Derived.Test.YtiehcgmbkjdagaaC
import Derived.KernelRfl
set_option maxRecDepth 100000
set_option linter.unusedVariables false
set_option linter.unusedSimpArgs false
namespace Go.Proofs.Ytiehcgmbkjdagaa
open Go Go.RowKit Wx

/-! ### what was taken as bytes -/
theorem goT_all : ∀ {l : List Turn} {p : Option Int} {s : Int}, goT p s l → 0 ≤ s → ∀ x ∈ l, 0 ≤ x.1 ∧ x.1 ≤ 7 ∧ 1 ≤ x.2 ∧ x.2 ≤ 2147483647
  | [], _, _, _, _ => by simp
  | y :: r, p, s, h, h0 => by
    obtain ⟨⟨h1, h2, h3, h4, _⟩, h5⟩ := h
    intro x hx
    rcases List.mem_cons.1 hx with rfl | hx
    · omega
    · exact goT_all h5 (by omega) x hx
def encT (x : Turn) : List Int := x.1 :: vb x.2.toNat
def encP (t : Tkn) : List Int := [87, 76, 79, 71] ++ le4 t.hash ++ vb t.turns.length ++ t.turns.flatMap encT ++ [t.e.1, t.e.2.1, t.e.2.2.1] ++ vb t.e.2.2.2.toNat
def encB (t : Tkn) : List Int := sealB (encP t)
theorem encT_len (l : List Turn) : (l.flatMap encT).length ≤ l.length * 12 := by
  induction l with
  | nil => simp
  | cons x r ih => have := vb_len x.2.toNat; simp only [List.flatMap_cons, List.length_append, encT, List.length_cons]; omega
theorem encT_step (l : List Turn) (i : Nat) (h : i < l.length) (P0 : List Int) : P0 ++ (l.take i).flatMap encT ++ [l[i].1] ++ vb l[i].2.toNat = P0 ++ (l.take (i + 1)).flatMap encT := by
  rw [List.take_succ_eq_append_getElem h, List.flatMap_append]; simp [encT]
structure OkF (t : Tkn) : Prop where
  len : t.turns.length ≤ 65536
  all : ∀ x ∈ t.turns, 0 ≤ x.1 ∧ x.1 ≤ 7 ∧ 1 ≤ x.2 ∧ x.2 ≤ 2147483647
  k : 0 ≤ t.e.1 ∧ t.e.1 ≤ 4
  tr : 0 ≤ t.e.2.1 ∧ t.e.2.1 ≤ 5
  th : 0 ≤ t.e.2.2.1 ∧ t.e.2.2.1 ≤ 7
  st : 0 ≤ t.e.2.2.2 ∧ t.e.2.2.2 ≤ 511
theorem okF {t : Tkn} (h : okT t) : OkF t := by
  obtain ⟨h1, h2, h3⟩ := h
  unfold okE at h2
  exact ⟨h1, goT_all h3 (by omega), by omega, by omega, by omega, by omega⟩
theorem encP_bs {t : Tkn} (h : okT t) : Bs (encP t) := by
  have f := okF h
  have h1 : Bs (t.turns.flatMap encT) := by
    intro x hx
    obtain ⟨y, hy, hx⟩ := List.mem_flatMap.1 hx
    have := f.all y hy
    simp only [encT, List.mem_cons] at hx
    rcases hx with rfl | hx
    · omega
    · exact vb_bs _ (by omega) x hx
  have h2 : Bs ([87, 76, 79, 71] : List Int) := by intro x hx; simp at hx; omega
  have h3 : Bs [t.e.1, t.e.2.1, t.e.2.2.1] := by have := f.k; have := f.tr; have := f.th; intro x hx; simp at hx; omega
  have := f.st
  exact ((((h2.app (le4_bs _)).app (vb_bs _ (by have := f.len; omega))).app h1).app h3).app (vb_bs _ (by omega))
theorem encB_bs {t : Tkn} (h : okT t) : Bs (encB t) := sealB_bs (encP_bs h)
section
variable {G : World} {q : List HP} {a b : Option Addr} {c d : Nat} {t : Tkn}
theorem Encode_no (hs : Sees q a (t.turns.flatMap tcs)) (ok : ¬ okT t) : CallF Try.prog G 13 [t.v a c] q (Ret fun v q' => v = .tuple [.slice none 0 0, .int .i64 2].toArray ∧ q' = q) := by
  refine CallF.of Try.func13 Try.ntmps13 rfl (fun F cs => ?_)
  refine X.sub (p' := [(0, _)]) ⟨rfl, trivial⟩ ?_
  unfold Tkn.v
  refine X.seq ?_
  refine X.region ?_
  refine XO.ef (Ef.box rfl) ?_
  rintro _ _ ⟨n1, rfl, rfl⟩
  refine XO.pu (Pu.assign rfl) ?_
  refine XO.pu (Pu.assign rfl) ?_
  refine XO.nil ?_
  refine X.sub (p' := [(3, _), (2, _), (1, _)]) ⟨rfl, rfl, rfl, trivial⟩ ?_
  refine X.seq ?_
  refine X.seq ?_
  refine X.region ?_
  refine XO.ldA Try.isAgg29 Try.sizeOf29 ?_
  refine XO.cR Try.call26 (Check_ok (t := t) (a := a) (c := c) (hs.le leA)) ?_
  rw [show chk t = 2 from if_neg ok]
  refine XO.pu (Pu.assign rfl) ?_
  refine XO.nil ?_
  refine X.sub (p' := [(4, _), (3, _), (2, _), (1, _)]) ⟨rfl, rfl, rfl, rfl, trivial⟩ ?_
  refine X.seq ?_
  refine X.region ?_
  refine XO.pu (Pu.move rfl) ?_
  refine XO.pu (Pu.neq rfl rfl) ?_
  refine XO.nil ?_
  refine X.sub (p' := [(11, _), (4, _), (3, _), (2, _), (1, _)]) ⟨rfl, rfl, rfl, rfl, rfl, trivial⟩ ?_
  refine X.know 11 (.bool true) rfl (congrArg Value.bool (rfl)) ?_
  refine X.condT rfl ?_
  refine X.seq ?_
  refine X.region ?_
  refine XO.pu (Pu.move rfl) ?_
  refine XO.pu (Pu.assign rfl) ?_
  refine XO.pu (Pu.assign rfl) ?_
  refine XO.nil ?_
  refine X.sub (p' := [(3, _), (2, _), (1, _)]) ⟨rfl, rfl, rfl, trivial⟩ ?_
  refine X.retL (q) Try.func13 (res2 Try.results13 rfl rfl) ⟨_, rfl, rfl, rfl⟩
set_option maxHeartbeats 1000000 in
theorem Encode_ok (hs : Sees q a (t.turns.flatMap tcs)) (ok : okT t) (hh : 0 ≤ t.hash ∧ t.hash < 4294967296) : CallF Try.prog G 13 [t.v a c] q (Ret fun v q' => ∃ a' c', v = .tuple [.slice a' (encB t).length c', .int .i64 0].toArray ∧ q' = lsH (Value.int .u8) 5 a' c' (encB t) :: q) := by
  refine CallF.of Try.func13 Try.ntmps13 rfl (fun F cs => ?_)
  refine X.sub (p' := [(0, _)]) ⟨rfl, trivial⟩ ?_
  have f := okF ok; have f1 := f.len; have f2 := f.k; have f3 := f.tr; have f4 := f.th; have f5 := f.st
  have hlen := flatMap_len (f := tcs) (sz := 2) (fun _ => rfl) t.turns
  have hvl := vb_len t.turns.length; have hvs := vb_len t.e.2.2.2.toNat; have hl4 : (le4 t.hash).length = 4 := rfl; have hel := encT_len t.turns
  unfold Tkn.v
  refine X.seq ?_
  refine X.region ?_
  refine XO.ef (Ef.box rfl) ?_
  rintro _ _ ⟨n1, rfl, rfl⟩
  refine XO.pu (Pu.assign rfl) ?_
  refine XO.pu (Pu.assign rfl) ?_
  refine XO.nil ?_
  refine X.sub (p' := [(3, _), (2, _), (1, _)]) ⟨rfl, rfl, rfl, trivial⟩ ?_
  refine X.seq ?_
  refine X.seq ?_
  refine X.region ?_
  refine XO.ldA Try.isAgg29 Try.sizeOf29 ?_
  refine XO.cR Try.call26 (Check_ok (t := t) (a := a) (c := c) (hs.le leA)) ?_
  rw [show chk t = 0 from if_pos ok]
  refine XO.pu (Pu.assign rfl) ?_
  refine XO.nil ?_
  refine X.sub (p' := [(4, _), (3, _), (2, _), (1, _)]) ⟨rfl, rfl, rfl, rfl, trivial⟩ ?_
  refine X.seq ?_
  refine X.region ?_
  refine XO.pu (Pu.move rfl) ?_
  refine XO.pu (Pu.neq rfl rfl) ?_
  refine XO.nil ?_
  refine X.sub (p' := [(11, _), (4, _), (3, _), (2, _), (1, _)]) ⟨rfl, rfl, rfl, rfl, rfl, trivial⟩ ?_
  refine X.know 11 (.bool false) rfl (congrArg Value.bool (rfl)) ?_
  refine X.condF rfl ?_
  refine X.skip ?_
  refine X.seq ?_
  refine X.region ?_
  refine XO.ef (Ef.litL (Value.int .u8) [87, 76, 79, 71] Try.underlying31 Try.info5 rfl rfl rfl rfl rfl rfl (fun _ => rfl)) ?_
  rintro _ _ ⟨g, rfl, rfl⟩
  refine XO.ef (Ef.convSame (vs := ([87, 76, 79, 71] : List Int).map (Value.int .u8)) rfl Try.underlying31 Try.underlying5 fndA rfl) ?_
  rintro _ _ ⟨rfl, rfl⟩
  refine XO.pu (Pu.build (cells := [_]) [(0, 1)] Try.zeroValue67 Try.underlying67 (by kernel_rfl) rfl rfl) ?_
  refine XO.pu (Pu.build (cells := [_]) [(0, 1)] Try.zeroValue69 Try.underlying69 (by kernel_rfl) rfl rfl) ?_
  refine XO.ef (Ef.box rfl) ?_
  rintro _ _ ⟨n2, rfl, rfl⟩
  refine XO.pu (Pu.assign rfl) ?_
  refine XO.nil ?_
  refine X.sub (p' := [(5, _), (3, _), (2, _), (1, _)]) ⟨rfl, rfl, rfl, rfl, trivial⟩ ?_
  refine X.seq ?_
  refine X.region ?_
  refine XO.pu (Pu.move rfl) ?_
  refine XO.pu (Pu.fieldAddr 22 0 0 rfl Try.underlying29 rfl Try.sizeOf22) ?_
  refine XO.ld Try.isAgg22 ?_
  refine XO.le (Le.trans fndA (Le.bH_full (φ := True) trivial (b := g) (l := [87, 76, 79, 71]) (z := (4, 4 + 1)) (by decide) _)) ?_
  refine XO.cF Try.call29 (word_ok (p := n2) (a := some ⟨g, 0, none⟩) (c := 4) (l := [87, 76, 79, 71]) (φ := True) (s0 := t.hash) hh.1 hh.2 (by simp)) ?_
  rintro _ _ ⟨a1, c1, rfl, rfl⟩ _ e_; simp only [ca, na] at e_; subst e_
  refine XO.nil ?_
  refine X.sub (p' := [(5, _), (3, _), (2, _), (1, _)]) ⟨rfl, rfl, rfl, rfl, trivial⟩ ?_
  refine X.seq ?_
  refine X.region ?_
  refine XO.pu (Pu.move rfl) ?_
  refine XO.pu (Pu.fieldAddr 23 1 0 rfl Try.underlying29 rfl Try.sizeOf23) ?_
  refine XO.ld Try.isAgg23 ?_
  refine XO.pu (Pu.len rfl Try.underlying23) ?_
  refine XO.pu (Pu.convW rfl Try.underlying3 Try.underlying72) ?_
  refine XO.know 26 (.int .u64 (t.turns.length : Int)) rfl (congrArg (Value.int .u64) (by rw [wu64]; omega)) ?_
  refine XO.cF Try.call30 (number_ok (p := n2) (a := a1) (c := c1) (l := [87, 76, 79, 71] ++ le4 t.hash) (n := t.turns.length) (by omega) (by simp only [List.length_append, List.length_cons, List.length_nil]; omega)) ?_
  rintro _ _ ⟨a2, c2, rfl, rfl⟩ _ e_; simp only [ca, na] at e_; subst e_
  refine XO.nil ?_
  refine X.sub (p' := [(5, _), (3, _), (2, _), (1, _)]) ⟨rfl, rfl, rfl, rfl, trivial⟩ ?_
  refine X.seq ?_
  refine X.seq ?_
  refine X.region ?_
  refine XO.pu (Pu.fieldAddr 23 1 0 rfl Try.underlying29 rfl Try.sizeOf23) ?_
  refine XO.ld Try.isAgg23 ?_
  refine XO.pu (Pu.len rfl Try.underlying23) ?_
  refine XO.pu (Pu.move rfl) ?_
  refine XO.nil ?_
  refine X.sub (p' := [(31, _), (30, _), (29, _), (5, _), (3, _), (2, _), (1, _)]) ⟨rfl, rfl, rfl, rfl, rfl, rfl, rfl, trivial⟩ ?_
  refine X.block ?_
  refine X.at (X.loop (fun (s : Nat × Option Addr × Nat) => s.1 ≤ t.turns.length) (fun s => [(1, .pointer (some ⟨n1, 0, none⟩)), (5, .pointer (some ⟨n2, 0, none⟩)), (29, .slice a t.turns.length c), (30, .int .i64 (t.turns.length : Int)), (31, .int .i64 (s.1 : Int))]) (fun s => pto n2 (.cells [.slice s.2.1 (([87, 76, 79, 71] ++ le4 t.hash ++ vb t.turns.length) ++ (t.turns.take s.1).flatMap encT).length s.2.2].toArray 69 (0, 0)) :: lsH (Value.int .u8) 5 s.2.1 s.2.2 (([87, 76, 79, 71] ++ le4 t.hash ++ vb t.turns.length) ++ (t.turns.take s.1).flatMap encT) :: pto n1 (.cells (t.cs a c).toArray 29 (0, 0)) :: (q ++ F)) (fun s => t.turns.length - s.1) (fun s hi_ ih => ?_) (0, a2, c2) (by dsimp only; omega)) ⟨(by first | rfl | exact congrArg some (congrArg (Value.int _) (by omega)) | (show some _ = some _; simp; done) | (show some _ = some _; simp; omega)), (by first | rfl | exact congrArg some (congrArg (Value.int _) (by omega)) | (show some _ = some _; simp; done) | (show some _ = some _; simp; omega)), (by first | rfl | exact congrArg some (congrArg (Value.int _) (by omega)) | (show some _ = some _; simp; done) | (show some _ = some _; simp; omega)), (by first | rfl | exact congrArg some (congrArg (Value.int _) (by omega)) | (show some _ = some _; simp; done) | (show some _ = some _; simp; omega)), (by first | rfl | exact congrArg some (congrArg (Value.int _) (by omega)) | (show some _ = some _; simp; done) | (show some _ = some _; simp; omega)), trivial⟩ (by simp only [List.take_zero, List.flatMap_nil, List.append_nil]; exact leA)
  try dsimp only at hi_ ih ⊢
  obtain hi := hi_
  obtain ⟨i, a2, c2⟩ := s; dsimp only at *
  have hti := encT_len (t.turns.take i); rw [List.length_take] at hti
  refine X.seq ?_
  refine X.region ?_
  refine XO.pu (Pu.lss rfl rfl) ?_
  refine XO.nil ?_
  refine X.sub (p' := [(32, _), (1, _), (5, _), (29, _), (30, _), (31, _)]) ⟨rfl, rfl, rfl, rfl, rfl, rfl, trivial⟩ ?_
  refine X.seq ?_
  refine X.part 32 rfl (fun h0 => ?_) (fun h0 => ?_)
  · skip
    have h0 := of_decide_eq_true h0; have hi0 : i < t.turns.length := by omega
    have hx := f.all _ (List.getElem_mem hi0); have hvx := vb_len t.turns[i].2.toNat
    refine X.adr hs (by rw [hlen]; omega) (fun b1 o1 e_ => ?_); subst e_
    refine X.condT rfl ?_
    refine X.skip ?_
    refine X.seq ?_
    refine X.block ?_
    refine X.seq ?_
    refine X.region ?_
    refine XO.pu (Pu.indexAddr rfl rfl Try.underlying23 Try.sizeOf57 (by omega) (by omega)) ?_
    refine XO.ldS (n := i) Try.isAgg57 Try.sizeOf57 hs hi0 ?_
    refine XO.ef (Ef.alloc Try.zeroValue57) ?_
    rintro _ _ ⟨n3, rfl, rfl⟩
    refine XO.ef0 (Ef.stA Try.sizeOf57) ?_
    rintro _ _ ⟨rfl, rfl⟩
    refine XO.nil ?_
    refine X.sub (p' := [(7, _), (1, _), (5, _), (29, _), (30, _), (31, _)]) ⟨rfl, rfl, rfl, rfl, rfl, rfl, trivial⟩ ?_
    refine X.seq ?_
    refine X.draw [] Try.mixed (by kernel_rfl) (by kernel_rfl) rfl ?_
    refine XD.pu 0 rfl (Pu.move rfl) ?_
    refine XD.pu 1 rfl (Pu.move rfl) ?_
    refine XD.pu 2 rfl (Pu.nilCheck rfl) ?_
    refine XD.pu 3 rfl (Pu.fieldAddr 67 0 0 rfl Try.underlying69 rfl Try.sizeOf67) ?_
    refine XD.pu 4 rfl (Pu.fieldAddr 31 0 0 rfl Try.underlying67 rfl Try.sizeOf31) ?_
    refine XD.ld 5 Try.isAgg31 ?_
    refine XD.pu 6 rfl (Pu.fieldAddr 3 0 0 rfl Try.underlying57 rfl Try.sizeOf3) ?_
    refine XD.ld 7 Try.isAgg3 ?_
    refine XD.pu 8 rfl (Pu.convW rfl Try.underlying3 Try.underlying5) ?_
    refine XD.know 43 (.int .u8 t.turns[i].1) rfl (congrArg (Value.int .u8) (by rw [wu8]; omega)) ?_
    refine XD.ef 9 rfl (Ef.lit1 (u := t.turns[i].1) (Value.int .u8) Try.underlying31 Try.info5 rfl rfl) ?_
    rintro _ _ ⟨g2, rfl, rfl⟩
    refine ⟨hlA, ?_⟩
    refine XD.ef 10 rfl (Ef.appA (f := Value.int .u8) (l := ([87, 76, 79, 71] ++ le4 t.hash ++ vb t.turns.length) ++ (t.turns.take i).flatMap encT) (m := [t.turns[i].1]) Try.underlying31 Try.info5 rfl rfl rfl fndA ((Sees.lsH _).le leA) (fun _ => rfl) (by simp only [List.length_append, List.length_cons, List.length_nil]; omega) (by simp only [List.length_append, List.length_cons, List.length_nil]; omega)) ?_
    rintro _ _ ⟨a3, c3, rfl, rfl⟩
    refine ⟨hlA, ?_⟩
    refine XD.pu 11 rfl (Pu.nilCheck rfl) ?_
    refine XD.pu 12 rfl (Pu.fieldAddr 67 0 0 rfl Try.underlying69 rfl Try.sizeOf67) ?_
    refine XD.pu 13 rfl (Pu.fieldAddr 31 0 0 rfl Try.underlying67 rfl Try.sizeOf31) ?_
    refine XD.ef0 14 rfl (Ef.st Try.sizeOf31) ?_
    rintro _ _ ⟨rfl, rfl⟩
    refine ⟨trivial, ?_⟩
    refine XD.nil ?_
    refine X.sub (p' := [(7, _), (1, _), (5, _), (29, _), (30, _), (31, _)]) ⟨rfl, rfl, rfl, rfl, rfl, rfl, trivial⟩ ?_
    refine X.region ?_
    refine XO.pu (Pu.move rfl) ?_
    refine XO.pu (Pu.fieldAddr 3 1 0 rfl Try.underlying57 rfl Try.sizeOf3) ?_
    refine XO.ld Try.isAgg3 ?_
    refine XO.pu (Pu.convW rfl Try.underlying3 Try.underlying72) ?_
    refine XO.know 52 (.int .u64 (t.turns[i].2.toNat : Int)) rfl (congrArg (Value.int .u64) (by rw [wu64]; omega)) ?_
    refine XO.cF Try.call30 (number_ok (p := n2) (a := a3) (c := c3) (l := ([87, 76, 79, 71] ++ le4 t.hash ++ vb t.turns.length) ++ (t.turns.take i).flatMap encT ++ [t.turns[i].1]) (n := t.turns[i].2.toNat) (by omega) (by simp only [List.length_append, List.length_cons, List.length_nil]; omega)) ?_
    rintro _ _ ⟨a4, c4, rfl, rfl⟩ _ e_; simp only [ca, na] at e_; subst e_
    refine XO.nil ?_
    refine X.sub (p' := [(1, _), (5, _), (29, _), (30, _), (31, _)]) ⟨rfl, rfl, rfl, rfl, rfl, trivial⟩ ?_
    refine X.inBlock ?_
    refine X.region ?_
    refine XO.pu (Pu.add rfl rfl (by omega) (by omega)) ?_
    refine XO.pu (Pu.move rfl) ?_
    refine XO.nil ?_
    refine X.sub (p' := [(31, _), (1, _), (5, _), (29, _), (30, _)]) ⟨rfl, rfl, rfl, rfl, rfl, trivial⟩ ?_
    rw [encT_step _ _ hi0]
    refine X.at (ih (i + 1, a4, c4) (by dsimp only; omega) (by dsimp only; omega)) ⟨(by first | rfl | exact congrArg some (congrArg (Value.int _) (by omega)) | (show some _ = some _; simp; done) | (show some _ = some _; simp; omega)), (by first | rfl | exact congrArg some (congrArg (Value.int _) (by omega)) | (show some _ = some _; simp; done) | (show some _ = some _; simp; omega)), (by first | rfl | exact congrArg some (congrArg (Value.int _) (by omega)) | (show some _ = some _; simp; done) | (show some _ = some _; simp; omega)), (by first | rfl | exact congrArg some (congrArg (Value.int _) (by omega)) | (show some _ = some _; simp; done) | (show some _ = some _; simp; omega)), (by first | rfl | exact congrArg some (congrArg (Value.int _) (by omega)) | (show some _ = some _; simp; done) | (show some _ = some _; simp; omega)), trivial⟩ leA
  · skip
    have h0 := of_decide_eq_false h0; obtain rfl : i = t.turns.length := by omega
    rw [List.take_length] at *
    refine X.condF rfl ?_
    refine X.exit rfl ?_
    refine X.seq ?_
    refine X.draw [] Try.mixed (by kernel_rfl) (by kernel_rfl) rfl ?_
    refine XD.pu 0 rfl (Pu.move rfl) ?_
    refine XD.pu 1 rfl (Pu.move rfl) ?_
    refine XD.pu 2 rfl (Pu.nilCheck rfl) ?_
    refine XD.pu 3 rfl (Pu.fieldAddr 67 0 0 rfl Try.underlying69 rfl Try.sizeOf67) ?_
    refine XD.pu 4 rfl (Pu.fieldAddr 31 0 0 rfl Try.underlying67 rfl Try.sizeOf31) ?_
    refine XD.ld 5 Try.isAgg31 ?_
    refine XD.pu 6 rfl (Pu.fieldAddr 27 2 3 rfl Try.underlying29 rfl Try.sizeOf27) ?_
    refine XD.pu 7 rfl (Pu.fieldAddr 24 0 0 rfl Try.underlying27 rfl Try.sizeOf24) ?_
    refine XD.ld 8 Try.isAgg24 ?_
    refine XD.pu 9 rfl (Pu.convW rfl Try.underlying24 Try.underlying5) ?_
    refine XD.pu 10 rfl (Pu.fieldAddr 27 2 3 rfl Try.underlying29 rfl Try.sizeOf27) ?_
    refine XD.pu 11 rfl (Pu.fieldAddr 25 1 0 rfl Try.underlying27 rfl Try.sizeOf25) ?_
    refine XD.ld 12 Try.isAgg25 ?_
    refine XD.pu 13 rfl (Pu.convW rfl Try.underlying25 Try.underlying5) ?_
    refine XD.pu 14 rfl (Pu.fieldAddr 27 2 3 rfl Try.underlying29 rfl Try.sizeOf27) ?_
    refine XD.pu 15 rfl (Pu.fieldAddr 3 2 0 rfl Try.underlying27 rfl Try.sizeOf3) ?_
    refine XD.ld 16 Try.isAgg3 ?_
    refine XD.pu 17 rfl (Pu.convW rfl Try.underlying3 Try.underlying5) ?_
    refine XD.know 64 (.int .u8 t.e.1) rfl (congrArg (Value.int .u8) (by rw [wu8]; omega)) ?_
    refine XD.know 68 (.int .u8 t.e.2.1) rfl (congrArg (Value.int .u8) (by rw [wu8]; omega)) ?_
    refine XD.know 72 (.int .u8 t.e.2.2.1) rfl (congrArg (Value.int .u8) (by rw [wu8]; omega)) ?_
    refine XD.ef 18 rfl (Ef.litL (Value.int .u8) [t.e.1, t.e.2.1, t.e.2.2.1] Try.underlying31 Try.info5 rfl rfl rfl rfl rfl rfl (fun _ => rfl)) ?_
    rintro _ _ ⟨g2, rfl, rfl⟩
    refine ⟨hlA, ?_⟩
    refine XD.ef 19 rfl (Ef.appA (f := Value.int .u8) (l := ([87, 76, 79, 71] ++ le4 t.hash ++ vb t.turns.length) ++ t.turns.flatMap encT) (m := [t.e.1, t.e.2.1, t.e.2.2.1]) Try.underlying31 Try.info5 rfl rfl rfl fndA ((Sees.lsH _).le leA) (fun _ => rfl) (by simp only [List.length_append, List.length_cons, List.length_nil]; omega) (by simp only [List.length_append, List.length_cons, List.length_nil]; omega)) ?_
    rintro _ _ ⟨a3, c3, rfl, rfl⟩
    refine ⟨hlA, ?_⟩
    refine XD.pu 20 rfl (Pu.nilCheck rfl) ?_
    refine XD.pu 21 rfl (Pu.fieldAddr 67 0 0 rfl Try.underlying69 rfl Try.sizeOf67) ?_
    refine XD.pu 22 rfl (Pu.fieldAddr 31 0 0 rfl Try.underlying67 rfl Try.sizeOf31) ?_
    refine XD.ef0 23 rfl (Ef.st Try.sizeOf31) ?_
    rintro _ _ ⟨rfl, rfl⟩
    refine ⟨trivial, ?_⟩
    refine XD.nil ?_
    refine X.sub (p' := [(1, _), (5, _)]) ⟨rfl, rfl, trivial⟩ ?_
    refine X.seq ?_
    refine X.region ?_
    refine XO.pu (Pu.move rfl) ?_
    refine XO.pu (Pu.fieldAddr 27 2 3 rfl Try.underlying29 rfl Try.sizeOf27) ?_
    refine XO.pu (Pu.fieldAddr 3 3 0 rfl Try.underlying27 rfl Try.sizeOf3) ?_
    refine XO.ld Try.isAgg3 ?_
    refine XO.pu (Pu.convW rfl Try.underlying3 Try.underlying72) ?_
    refine XO.know 82 (.int .u64 (t.e.2.2.2.toNat : Int)) rfl (congrArg (Value.int .u64) (by rw [wu64]; omega)) ?_
    refine XO.cF Try.call30 (number_ok (p := n2) (a := a3) (c := c3) (l := ([87, 76, 79, 71] ++ le4 t.hash ++ vb t.turns.length) ++ t.turns.flatMap encT ++ [t.e.1, t.e.2.1, t.e.2.2.1]) (n := t.e.2.2.2.toNat) (by omega) (by simp only [List.length_append, List.length_cons, List.length_nil]; omega)) ?_
    rintro _ _ ⟨a4, c4, rfl, rfl⟩ _ e_; simp only [ca, na] at e_; subst e_
    rw [show ([87, 76, 79, 71] ++ le4 t.hash ++ vb t.turns.length) ++ t.turns.flatMap encT ++ [t.e.1, t.e.2.1, t.e.2.2.1] ++ vb t.e.2.2.2.toNat = encP t from rfl]
    have hpl : (encP t).length ≤ 1000000 := by unfold encP; simp only [List.length_append, List.length_cons, List.length_nil]; omega
    refine XO.nil ?_
    refine X.sub (p' := [(5, _)]) ⟨rfl, trivial⟩ ?_
    refine X.seq ?_
    refine X.region ?_
    refine XO.pu (Pu.move rfl) ?_
    refine XO.pu (Pu.move rfl) ?_
    refine XO.pu (Pu.nilCheck rfl) ?_
    refine XO.pu (Pu.fieldAddr 67 0 0 rfl Try.underlying69 rfl Try.sizeOf67) ?_
    refine XO.pu (Pu.fieldAddr 31 0 0 rfl Try.underlying67 rfl Try.sizeOf31) ?_
    refine XO.ld Try.isAgg31 ?_
    refine XO.cR Try.call21 (Sum_ok (l := encP t) ((Sees.lsH _).le leA) (encP_bs ok) (by omega)) ?_
    have hsr := sumB_rng (encP t)
    refine XO.le (Le.trans fndA (Le.bH_own False _ _ _ _)) ?_
    refine XO.cF Try.call29 (word_ok (p := n2) (a := a4) (c := c4) (l := encP t) (φ := False) (s0 := sumB (encP t)) hsr.1 hsr.2 (by omega)) ?_
    rintro _ _ ⟨a5, c5, rfl, rfl⟩ _ e_; simp only [ca, na] at e_; subst e_
    refine XO.nil ?_
    refine X.sub (p' := [(5, _)]) ⟨rfl, trivial⟩ ?_
    refine X.seq ?_
    refine X.region ?_
    refine XO.pu (Pu.move rfl) ?_
    refine XO.pu (Pu.nilCheck rfl) ?_
    refine XO.pu (Pu.fieldAddr 67 0 0 rfl Try.underlying69 rfl Try.sizeOf67) ?_
    refine XO.pu (Pu.fieldAddr 31 0 0 rfl Try.underlying67 rfl Try.sizeOf31) ?_
    refine XO.ld Try.isAgg31 ?_
    refine XO.pu (Pu.assign rfl) ?_
    refine XO.pu (Pu.assign rfl) ?_
    refine XO.nil ?_
    refine X.sub (p' := [(3, _), (2, _)]) ⟨rfl, rfl, trivial⟩ ?_
    refine X.retL (lsH (Value.int .u8) 5 a5 c5 (encB t) :: q) Try.func13 (res2 Try.results13 rfl rfl) ⟨_, rfl, a5, c5, rfl, rfl⟩
set_option maxHeartbeats 1000000 in
theorem REncode_ok (hs : Sees q a (t.turns.flatMap tcs)) (ok : okT t) (hh : 0 ≤ t.hash ∧ t.hash < 4294967296) : CallF Try.prog G 16 [t.v a c] q (Ret fun v q' => ∃ a' c', v = .slice a' (encB t).length c' ∧ q' = lsH (Value.int .u8) 5 a' c' (encB t) :: q) := by
  refine CallF.of Try.func16 Try.ntmps16 rfl (fun F cs => ?_)
  refine X.sub (p' := [(0, _)]) ⟨rfl, trivial⟩ ?_
  have f := okF ok; have f1 := f.len; have f2 := f.k; have f3 := f.tr; have f4 := f.th; have f5 := f.st
  have hlen := flatMap_len (f := tcs) (sz := 2) (fun _ => rfl) t.turns
  have hvl := vb_len t.turns.length; have hvs := vb_len t.e.2.2.2.toNat; have hl4 : (le4 t.hash).length = 4 := rfl; have hel := encT_len t.turns
  unfold Tkn.v
  refine X.seq ?_
  refine X.region ?_
  refine XO.ef (Ef.box rfl) ?_
  rintro _ _ ⟨n1, rfl, rfl⟩
  refine XO.pu (Pu.assign rfl) ?_
  refine XO.nil ?_
  refine X.sub (p' := [(2, _), (1, _)]) ⟨rfl, rfl, trivial⟩ ?_
  refine X.seq ?_
  refine X.region ?_
  refine XO.ef (Ef.litL (Value.int .u8) [87, 76, 79, 71] Try.underlying31 Try.info5 rfl rfl rfl rfl rfl rfl (fun _ => rfl)) ?_
  rintro _ _ ⟨g, rfl, rfl⟩
  refine XO.ef (Ef.convSame (vs := ([87, 76, 79, 71] : List Int).map (Value.int .u8)) rfl Try.underlying31 Try.underlying5 fndA rfl) ?_
  rintro _ _ ⟨rfl, rfl⟩
  refine XO.le (Le.trans fndA (Le.bH_full (φ := True) trivial (b := g) (l := [87, 76, 79, 71]) (z := (4, 4 + 1)) (by decide) _)) ?_
  refine XO.pu (Pu.assign rfl) ?_
  refine XO.nil ?_
  refine X.sub (p' := [(3, _), (2, _), (1, _)]) ⟨rfl, rfl, rfl, trivial⟩ ?_
  refine X.seq ?_
  refine X.region ?_
  refine XO.pu (Pu.fieldAddr 22 0 0 rfl Try.underlying29 rfl Try.sizeOf22) ?_
  refine XO.ld Try.isAgg22 ?_
  refine XO.pu (Pu.assign rfl) ?_
  refine XO.nil ?_
  refine X.sub (p' := [(4, _), (3, _), (2, _), (1, _)]) ⟨rfl, rfl, rfl, rfl, trivial⟩ ?_
  refine X.seq ?_
  refine X.seq ?_
  refine X.region ?_
  refine XO.pu (Pu.assign rfl) ?_
  refine XO.nil ?_
  refine X.sub (p' := [(5, _), (4, _), (3, _), (2, _), (1, _)]) ⟨rfl, rfl, rfl, rfl, rfl, trivial⟩ ?_
  refine X.block ?_
  refine X.at (X.loop (fun (s : Nat × Option Addr × Nat) => s.1 ≤ 4) (fun s => [(1, .pointer (some ⟨n1, 0, none⟩)), (3, .slice s.2.1 ([87, 76, 79, 71] ++ (le4 t.hash).take s.1).length s.2.2), (4, .int .u32 (t.hash / 256 ^ s.1)), (5, .int .i64 (s.1 : Int))]) (fun s => bH (True ∧ s.1 = 0) s.2.1 s.2.2 ([87, 76, 79, 71] ++ (le4 t.hash).take s.1) :: pto n1 (.cells (t.cs a c).toArray 29 (0, 0)) :: (q ++ F)) (fun s => 4 - s.1) (fun s hi_ ih => ?_) (0, some ⟨g, 0, none⟩, 4) (by dsimp only; omega)) ⟨(by first | rfl | exact congrArg some (congrArg (Value.int _) (by omega)) | (show some _ = some _; simp; done) | (show some _ = some _; simp; omega)), (by first | rfl | exact congrArg some (congrArg (Value.int _) (by omega)) | (show some _ = some _; simp; done) | (show some _ = some _; simp; omega)), (by first | rfl | exact congrArg some (congrArg (Value.int _) (by omega)) | (show some _ = some _; simp; done) | (show some _ = some _; simp; omega)), (by first | rfl | exact congrArg some (congrArg (Value.int _) (by omega)) | (show some _ = some _; simp; done) | (show some _ = some _; simp; omega)), trivial⟩ (by simp; exact leA)
  try dsimp only at hi_ ih ⊢
  obtain hi := hi_
  obtain ⟨i, a2, c2⟩ := s; dsimp only at *
  refine X.seq ?_
  refine X.seq ?_
  refine X.region ?_
  refine XO.pu (Pu.move rfl) ?_
  refine XO.pu (Pu.lss rfl rfl) ?_
  refine XO.nil ?_
  refine X.sub (p' := [(12, _), (1, _), (3, _), (4, _), (5, _)]) ⟨rfl, rfl, rfl, rfl, rfl, trivial⟩ ?_
  refine X.part 12 rfl (fun h0 => ?_) (fun h0 => ?_)
  · skip
    have h0 := of_decide_eq_true h0; have hi0 : i < 4 := by omega
    have hp : 0 ≤ t.hash / 256 ^ i := Int.ediv_nonneg hh.1 (Int.pow_nonneg (by omega))
    have hp2 : t.hash / 256 ^ i < 4294967296 := by have := Int.ediv_le_self (256 ^ i) hh.1; omega
    refine X.condT rfl ?_
    refine X.skip ?_
    refine X.seq ?_
    refine X.block ?_
    refine X.seq ?_
    refine X.region ?_
    refine XO.pu (Pu.move rfl) ?_
    refine XO.pu (Pu.move rfl) ?_
    refine XO.pu (Pu.rem rfl rfl (by omega)) ?_
    refine XO.pu (Pu.convW rfl Try.underlying22 Try.underlying5) ?_
    refine XO.know 18 (.int .u8 ((t.hash / 256 ^ i) % 256)) rfl (congrArg (Value.int .u8) (by rw [wu8, Int.tmod_eq_emod_of_nonneg hp]; omega)) ?_
    refine XO.ef (Ef.lit1 (u := (t.hash / 256 ^ i) % 256) (Value.int .u8) Try.underlying31 Try.info5 rfl rfl) ?_
    rintro _ _ ⟨g2, rfl, rfl⟩
    refine XO.ef (Ef.appB (l := [87, 76, 79, 71] ++ (le4 t.hash).take i) (m := [(t.hash / 256 ^ i) % 256]) Try.underlying31 Try.info5 rfl rfl fndA ((Sees.lsH _).le leA) (by simp) (by simp; omega)) ?_
    rintro _ _ ⟨a3, c3, rfl, rfl⟩
    refine XO.pu (Pu.assign rfl) ?_
    refine XO.nil ?_
    refine X.sub (p' := [(3, _), (1, _), (4, _), (5, _)]) ⟨rfl, rfl, rfl, rfl, trivial⟩ ?_
    refine X.region ?_
    refine XO.pu (Pu.move rfl) ?_
    refine XO.pu (Pu.quoW rfl rfl (by omega)) ?_
    refine XO.know 22 (.int .u32 (t.hash / 256 ^ (i + 1))) rfl (congrArg (Value.int .u32) (by rw [pow_step, wu32, Int.tdiv_eq_ediv_of_nonneg hp]; omega)) ?_
    refine XO.pu (Pu.assign rfl) ?_
    refine XO.nil ?_
    refine X.sub (p' := [(4, _), (3, _), (1, _), (5, _)]) ⟨rfl, rfl, rfl, rfl, trivial⟩ ?_
    refine X.inBlock ?_
    refine X.region ?_
    refine XO.pu (Pu.move rfl) ?_
    refine XO.pu (Pu.add rfl rfl (by omega) (by omega)) ?_
    refine XO.pu (Pu.assign rfl) ?_
    refine XO.nil ?_
    refine X.sub (p' := [(5, _), (4, _), (3, _), (1, _)]) ⟨rfl, rfl, rfl, rfl, trivial⟩ ?_
    rw [List.append_assoc, ← le4_take _ _ hi0 hh.1]
    refine X.at (ih (i + 1, a3, c3) (by dsimp only; omega) (by dsimp only; omega)) ⟨(by first | rfl | exact congrArg some (congrArg (Value.int _) (by omega)) | (show some _ = some _; simp; done) | (show some _ = some _; simp; omega)), (by first | rfl | exact congrArg some (congrArg (Value.int _) (by omega)) | (show some _ = some _; simp; done) | (show some _ = some _; simp; omega)), (by first | rfl | exact congrArg some (congrArg (Value.int _) (by omega)) | (show some _ = some _; simp; done) | (show some _ = some _; simp; omega)), (by first | rfl | exact congrArg some (congrArg (Value.int _) (by omega)) | (show some _ = some _; simp; done) | (show some _ = some _; simp; omega)), trivial⟩ (Le.trans (Le.bH_own _ _ _ _ _) leA)
  · skip
    have h0 := of_decide_eq_false h0
    have he : [87, 76, 79, 71] ++ (le4 t.hash).take i = [87, 76, 79, 71] ++ le4 t.hash := by rw [show i = 4 by omega]; rfl
    rw [he]
    refine X.le (Le.bH_out (by omega) _ _ _ _) ?_
    refine X.condF rfl ?_
    refine X.exit rfl ?_
    refine X.seq ?_
    refine X.region ?_
    refine XO.pu (Pu.move rfl) ?_
    refine XO.pu (Pu.fieldAddr 23 1 0 rfl Try.underlying29 rfl Try.sizeOf23) ?_
    refine XO.ld Try.isAgg23 ?_
    refine XO.pu (Pu.len rfl Try.underlying23) ?_
    refine XO.cF Try.call32 (RNumber_ok (n := t.turns.length) (by omega)) ?_
    rintro _ _ ⟨a3, c3, rfl, rfl⟩ _ e_; simp only [ca, na] at e_; subst e_
    refine XO.ef (Ef.appA (f := Value.int .u8) (l := [87, 76, 79, 71] ++ le4 t.hash) (m := vb t.turns.length) Try.underlying31 Try.info5 rfl rfl rfl fndA ((Sees.lsH _).le leA) (fun _ => rfl) (by simp only [List.length_append, List.length_cons, List.length_nil]; omega) (by simp only [List.length_append, List.length_cons, List.length_nil]; omega)) ?_
    rintro _ _ ⟨a4, c4, rfl, rfl⟩
    refine XO.pu (Pu.assign rfl) ?_
    refine XO.nil ?_
    refine X.sub (p' := [(3, _), (1, _)]) ⟨rfl, rfl, trivial⟩ ?_
    refine X.seq ?_
    refine X.seq ?_
    refine X.region ?_
    refine XO.pu (Pu.assign rfl) ?_
    refine XO.nil ?_
    refine X.sub (p' := [(6, _), (3, _), (1, _)]) ⟨rfl, rfl, rfl, trivial⟩ ?_
    refine X.block ?_
    refine X.at (X.loop (fun (s : Nat × Option Addr × Nat) => s.1 ≤ t.turns.length) (fun s => [(1, .pointer (some ⟨n1, 0, none⟩)), (3, .slice s.2.1 (([87, 76, 79, 71] ++ le4 t.hash ++ vb t.turns.length) ++ (t.turns.take s.1).flatMap encT).length s.2.2), (6, .int .i64 (s.1 : Int))]) (fun s => lsH (Value.int .u8) 5 s.2.1 s.2.2 (([87, 76, 79, 71] ++ le4 t.hash ++ vb t.turns.length) ++ (t.turns.take s.1).flatMap encT) :: pto n1 (.cells (t.cs a c).toArray 29 (0, 0)) :: (q ++ F)) (fun s => t.turns.length - s.1) (fun s hi_ ih => ?_) (0, a4, c4) (by dsimp only; omega)) ⟨(by first | rfl | exact congrArg some (congrArg (Value.int _) (by omega)) | (show some _ = some _; simp; done) | (show some _ = some _; simp; omega)), (by first | rfl | exact congrArg some (congrArg (Value.int _) (by omega)) | (show some _ = some _; simp; done) | (show some _ = some _; simp; omega)), (by first | rfl | exact congrArg some (congrArg (Value.int _) (by omega)) | (show some _ = some _; simp; done) | (show some _ = some _; simp; omega)), trivial⟩ (by simp only [List.take_zero, List.flatMap_nil, List.append_nil]; exact leA)
    try dsimp only at hi_ ih ⊢
    obtain hi := hi_
    clear he a2 c2 a3 c3 a4 c4; obtain ⟨i, a2, c2⟩ := s; dsimp only at *
    have hti := encT_len (t.turns.take i); rw [List.length_take] at hti
    refine X.seq ?_
    refine X.seq ?_
    refine X.region ?_
    refine XO.pu (Pu.move rfl) ?_
    refine XO.pu (Pu.fieldAddr 23 1 0 rfl Try.underlying29 rfl Try.sizeOf23) ?_
    refine XO.ld Try.isAgg23 ?_
    refine XO.pu (Pu.len rfl Try.underlying23) ?_
    refine XO.pu (Pu.lss rfl rfl) ?_
    refine XO.nil ?_
    refine X.sub (p' := [(33, _), (1, _), (3, _), (6, _)]) ⟨rfl, rfl, rfl, rfl, trivial⟩ ?_
    refine X.part 33 rfl (fun h0 => ?_) (fun h0 => ?_)
    · skip
      have h0 := of_decide_eq_true h0; have hi0 : i < t.turns.length := by omega
      have hx := f.all _ (List.getElem_mem hi0); have hvx := vb_len t.turns[i].2.toNat
      refine X.adr hs (by rw [hlen]; omega) (fun b1 o1 e_ => ?_); subst e_
      refine X.condT rfl ?_
      refine X.skip ?_
      refine X.seq ?_
      refine X.block ?_
      refine X.draw [] Try.mixed (by kernel_rfl) (by kernel_rfl) rfl ?_
      refine XD.pu 0 rfl (Pu.move rfl) ?_
      refine XD.pu 1 rfl (Pu.fieldAddr 23 1 0 rfl Try.underlying29 rfl Try.sizeOf23) ?_
      refine XD.ld 2 Try.isAgg23 ?_
      refine XD.pu 3 rfl (Pu.move rfl) ?_
      refine XD.pu 4 rfl (Pu.indexAddr rfl rfl Try.underlying23 Try.sizeOf57 (by omega) (by omega)) ?_
      refine XD.pu 5 rfl (Pu.fieldAddr 3 0 0 rfl Try.underlying57 rfl Try.sizeOf3) ?_
      refine XD.ld 6 Try.isAgg3 ?_
      refine XD.pu 7 rfl (Pu.convW rfl Try.underlying3 Try.underlying5) ?_
      refine XD.pu 10 rfl (Pu.fieldAddr 23 1 0 rfl Try.underlying29 rfl Try.sizeOf23) ?_
      refine XD.ld 11 Try.isAgg23 ?_
      refine XD.pu 12 rfl (Pu.move rfl) ?_
      refine XD.pu 13 rfl (Pu.indexAddr rfl rfl Try.underlying23 Try.sizeOf57 (by omega) (by omega)) ?_
      refine XD.pu 14 rfl (Pu.fieldAddr 3 1 0 rfl Try.underlying57 rfl Try.sizeOf3) ?_
      refine XD.ld 15 Try.isAgg3 ?_
      refine XD.know 43 (.int .u8 t.turns[i].1) rfl (congrArg (Value.int .u8) (by rw [wu8]; omega)) ?_
      refine XD.ef 8 rfl (Ef.lit1 (u := t.turns[i].1) (Value.int .u8) Try.underlying31 Try.info5 rfl rfl) ?_
      rintro _ _ ⟨g2, rfl, rfl⟩
      refine ⟨hlA, ?_⟩
      refine XD.ef 9 rfl (Ef.appA (f := Value.int .u8) (l := ([87, 76, 79, 71] ++ le4 t.hash ++ vb t.turns.length) ++ (t.turns.take i).flatMap encT) (m := [t.turns[i].1]) Try.underlying31 Try.info5 rfl rfl rfl fndA ((Sees.lsH _).le leA) (fun _ => rfl) (by simp only [List.length_append, List.length_cons, List.length_nil]; omega) (by simp only [List.length_append, List.length_cons, List.length_nil]; omega)) ?_
      rintro _ _ ⟨a3, c3, rfl, rfl⟩
      refine ⟨hlA, ?_⟩
      refine XD.know 51 (.int .i64 (t.turns[i].2.toNat : Int)) rfl (congrArg (Value.int .i64) (by omega)) ?_
      refine XD.cF 16 Try.call32 (RNumber_ok (n := t.turns[i].2.toNat) (by omega)) ?_
      rintro _ _ ⟨a4, c4, rfl, rfl⟩ _ e_; simp only [ca, na] at e_; subst e_
      refine ⟨hlA, ?_⟩
      refine XD.ef 17 rfl (Ef.appA (f := Value.int .u8) (l := ([87, 76, 79, 71] ++ le4 t.hash ++ vb t.turns.length) ++ (t.turns.take i).flatMap encT ++ [t.turns[i].1]) (m := vb t.turns[i].2.toNat) Try.underlying31 Try.info5 rfl rfl rfl fndA ((Sees.lsH _).le leA) (fun _ => rfl) (by simp only [List.length_append, List.length_cons, List.length_nil]; omega) (by simp only [List.length_append, List.length_cons, List.length_nil]; omega)) ?_
      rintro _ _ ⟨a5, c5, rfl, rfl⟩
      refine ⟨hlA, ?_⟩
      refine XD.pu 18 rfl (Pu.assign rfl) ?_
      refine XD.nil ?_
      refine X.sub (p' := [(3, _), (1, _), (6, _)]) ⟨rfl, rfl, rfl, trivial⟩ ?_
      refine X.inBlock ?_
      refine X.region ?_
      refine XO.pu (Pu.move rfl) ?_
      refine XO.pu (Pu.add rfl rfl (by omega) (by omega)) ?_
      refine XO.pu (Pu.assign rfl) ?_
      refine XO.nil ?_
      refine X.sub (p' := [(6, _), (3, _), (1, _)]) ⟨rfl, rfl, rfl, trivial⟩ ?_
      rw [encT_step _ _ hi0]
      refine X.at (ih (i + 1, a5, c5) (by dsimp only; omega) (by dsimp only; omega)) ⟨(by first | rfl | exact congrArg some (congrArg (Value.int _) (by omega)) | (show some _ = some _; simp; done) | (show some _ = some _; simp; omega)), (by first | rfl | exact congrArg some (congrArg (Value.int _) (by omega)) | (show some _ = some _; simp; done) | (show some _ = some _; simp; omega)), (by first | rfl | exact congrArg some (congrArg (Value.int _) (by omega)) | (show some _ = some _; simp; done) | (show some _ = some _; simp; omega)), trivial⟩ leA
    · skip
      have h0 := of_decide_eq_false h0; obtain rfl : i = t.turns.length := by omega
      rw [List.take_length] at *
      refine X.condF rfl ?_
      refine X.exit rfl ?_
      refine X.seq ?_
      refine X.region ?_
      refine XO.pu (Pu.move rfl) ?_
      refine XO.pu (Pu.fieldAddr 27 2 3 rfl Try.underlying29 rfl Try.sizeOf27) ?_
      refine XO.pu (Pu.fieldAddr 24 0 0 rfl Try.underlying27 rfl Try.sizeOf24) ?_
      refine XO.ld Try.isAgg24 ?_
      refine XO.pu (Pu.convW rfl Try.underlying24 Try.underlying5) ?_
      refine XO.pu (Pu.fieldAddr 27 2 3 rfl Try.underlying29 rfl Try.sizeOf27) ?_
      refine XO.pu (Pu.fieldAddr 25 1 0 rfl Try.underlying27 rfl Try.sizeOf25) ?_
      refine XO.ld Try.isAgg25 ?_
      refine XO.pu (Pu.convW rfl Try.underlying25 Try.underlying5) ?_
      refine XO.pu (Pu.fieldAddr 27 2 3 rfl Try.underlying29 rfl Try.sizeOf27) ?_
      refine XO.pu (Pu.fieldAddr 3 2 0 rfl Try.underlying27 rfl Try.sizeOf3) ?_
      refine XO.ld Try.isAgg3 ?_
      refine XO.pu (Pu.convW rfl Try.underlying3 Try.underlying5) ?_
      refine XO.know 58 (.int .u8 t.e.1) rfl (congrArg (Value.int .u8) (by rw [wu8]; omega)) ?_
      refine XO.know 62 (.int .u8 t.e.2.1) rfl (congrArg (Value.int .u8) (by rw [wu8]; omega)) ?_
      refine XO.know 66 (.int .u8 t.e.2.2.1) rfl (congrArg (Value.int .u8) (by rw [wu8]; omega)) ?_
      refine XO.ef (Ef.litL (Value.int .u8) [t.e.1, t.e.2.1, t.e.2.2.1] Try.underlying31 Try.info5 rfl rfl rfl rfl rfl rfl (fun _ => rfl)) ?_
      rintro _ _ ⟨g2, rfl, rfl⟩
      refine XO.ef (Ef.appA (f := Value.int .u8) (l := ([87, 76, 79, 71] ++ le4 t.hash ++ vb t.turns.length) ++ t.turns.flatMap encT) (m := [t.e.1, t.e.2.1, t.e.2.2.1]) Try.underlying31 Try.info5 rfl rfl rfl fndA ((Sees.lsH _).le leA) (fun _ => rfl) (by simp only [List.length_append, List.length_cons, List.length_nil]; omega) (by simp only [List.length_append, List.length_cons, List.length_nil]; omega)) ?_
      rintro _ _ ⟨a3, c3, rfl, rfl⟩
      refine XO.pu (Pu.assign rfl) ?_
      refine XO.nil ?_
      refine X.sub (p' := [(3, _), (1, _)]) ⟨rfl, rfl, trivial⟩ ?_
      refine X.seq ?_
      refine X.region ?_
      refine XO.pu (Pu.move rfl) ?_
      refine XO.pu (Pu.fieldAddr 27 2 3 rfl Try.underlying29 rfl Try.sizeOf27) ?_
      refine XO.pu (Pu.fieldAddr 3 3 0 rfl Try.underlying27 rfl Try.sizeOf3) ?_
      refine XO.ld Try.isAgg3 ?_
      refine XO.know 72 (.int .i64 (t.e.2.2.2.toNat : Int)) rfl (congrArg (Value.int .i64) (by omega)) ?_
      refine XO.cF Try.call32 (RNumber_ok (n := t.e.2.2.2.toNat) (by omega)) ?_
      rintro _ _ ⟨a4, c4, rfl, rfl⟩ _ e_; simp only [ca, na] at e_; subst e_
      refine XO.ef (Ef.appA (f := Value.int .u8) (l := ([87, 76, 79, 71] ++ le4 t.hash ++ vb t.turns.length) ++ t.turns.flatMap encT ++ [t.e.1, t.e.2.1, t.e.2.2.1]) (m := vb t.e.2.2.2.toNat) Try.underlying31 Try.info5 rfl rfl rfl fndA ((Sees.lsH _).le leA) (fun _ => rfl) (by simp only [List.length_append, List.length_cons, List.length_nil]; omega) (by simp only [List.length_append, List.length_cons, List.length_nil]; omega)) ?_
      rintro _ _ ⟨a5, c5, rfl, rfl⟩
      rw [show ([87, 76, 79, 71] ++ le4 t.hash ++ vb t.turns.length) ++ t.turns.flatMap encT ++ [t.e.1, t.e.2.1, t.e.2.2.1] ++ vb t.e.2.2.2.toNat = encP t from rfl]
      have hpl : (encP t).length ≤ 1000000 := by unfold encP; simp only [List.length_append, List.length_cons, List.length_nil]; omega
      refine XO.cF Try.call20 (Sealed_ok (q := [lsH (Value.int .u8) 5 a5 c5 (encP t)]) (l := encP t) (Sees.lsH _) (encP_bs ok) (by omega)) ?_
      rintro _ _ ⟨a6, c6, rfl, rfl⟩ _ e_; simp only [ca, na] at e_; subst e_
      refine XO.pu (Pu.assign rfl) ?_
      refine XO.nil ?_
      refine X.sub (p' := [(2, _)]) ⟨rfl, trivial⟩ ?_
      refine X.retL (lsH (Value.int .u8) 5 a6 c6 (encB t) :: q) Try.func16 (res1 Try.results16 rfl) ⟨_, rfl, a6, c6, rfl, rfl⟩
end
end Go.Proofs.Ytiehcgmbkjdagaa

