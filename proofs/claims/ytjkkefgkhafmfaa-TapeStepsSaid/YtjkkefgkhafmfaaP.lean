/- What functions of package tape, of its references and of its laws do: contracts of calls, proved by walking their code. -/
import Derived.Test.YtjkkefgkhafmfaaN
import Derived.KernelRfl
set_option maxRecDepth 100000
set_option linter.unusedVariables false
set_option linter.unusedSimpArgs false
namespace Go.Proofs.Ytjkkefgkhafmfaa
open Go Go.RowKit Wx
attribute [local irreducible] Wx.lsH Wx.rsH Wx.lsM Wx.rsM Wx.stars

/-! ### the steps from one on -/
theorem atT_at : ∀ {l : List Turn} {i : Nat} {n : Int} (h : i < l.length), (∀ x ∈ l, 1 ≤ x.2) → 0 ≤ n → n < l[i].2 → atT l (sumT (l.take i) + n) = i
  | x :: r, 0, n, _, _, h0, h1 => by simp only [List.take_zero, sumT, List.map_nil, List.sum_nil, Int.zero_add]; unfold atT; rw [if_pos (by simpa using h1)]
  | x :: r, i + 1, n, h, hl, h0, h1 => by
    have hr : ∀ y ∈ r, 1 ≤ y.2 := fun y hy => hl y (List.mem_cons_of_mem _ hy)
    have := atT_at (l := r) (i := i) (n := n) (by simpa using h) hr h0 (by simpa using h1)
    have hs : 0 ≤ sumT (r.take i) := by
      have : ∀ m : List Turn, (∀ y ∈ m, 1 ≤ y.2) → 0 ≤ sumT m := by
        intro m
        induction m with
        | nil => intro _; simp [sumT]
        | cons y m ih => intro hm; rw [sumT_cons]; have := ih (fun z hz => hm z (List.mem_cons_of_mem _ hz)); have := hm y (List.mem_cons_self ..); omega
      exact this _ (fun y hy => hr y (List.mem_of_mem_take hy))
    rw [List.take_succ_cons, sumT_cons, atT, if_neg (by omega), show x.2 + sumT (r.take i) + n - x.2 = sumT (r.take i) + n by omega, this]
def thr_ (l : List Turn) (g : Int) : Int := (l.getD (atT l g) zT).1
theorem thr_at {l : List Turn} {i : Nat} {n : Int} (h : i < l.length) (hl : ∀ x ∈ l, 1 ≤ x.2) (h0 : 0 ≤ n) (h1 : n < l[i].2) : thr_ l (sumT (l.take i) + n) = l[i].1 := by
  unfold thr_; rw [atT_at h hl h0 h1]; simp [List.getD, List.getElem?_eq_getElem h]
def stpV (l : List Turn) (f : Int) (k : Nat) : List Value := [.int .i64 (f + k), .int .i64 (thr_ l (f + k))]
def stpL (l : List Turn) (f : Int) : List (List Value) := (List.range (sumT l - f).toNat).map (stpV l f)
theorem stpL_len (l : List Turn) (f : Int) : (stpL l f).length = (sumT l - f).toNat := by simp [stpL]
theorem stpL_get {l : List Turn} {f : Int} {k : Nat} (h : k < (stpL l f).length) : (stpL l f)[k] = stpV l f k := by simp [stpL]
section
variable {G : World} {q : List HP} {l m : List Turn} {ls : List Pc} {t u : Tkn} {a b A : Option Addr} {c d C p p0 p1 p2 p3 i : Nat} {v_ mn n st fr : Int}
set_option maxHeartbeats 1000000 in
theorem steps1_ok (hs : Sees q a (t.turns.flatMap tcs)) : CallF Try.prog G 33 [.pointer (some ⟨p0, 0, none⟩), .pointer (some ⟨p1, 0, none⟩)] (pto p0 (.cells (t.cs a c).toArray 32 (0, 0)) :: pto p1 (.cells [.int .i64 0].toArray 3 (0, 0)) :: q) (RP (fun _ q' => okT t ∧ q' = pto p1 (.cells [.int .i64 (sumT t.turns)].toArray 3 (0, 0)) :: pto p0 (.cells (t.cs a c).toArray 32 (0, 0)) :: q) (fun ch q' => ∃ e, ch = [refE e] ∧ (¬ okT t ∧ e = 2) ∧ q' = pto p1 (.cells [.int .i64 0].toArray 3 (0, 0)) :: pto p0 (.cells (t.cs a c).toArray 32 (0, 0)) :: q)) := by
  refine CallF.of Try.func33 Try.ntmps33 rfl (fun F cs => ?_)
  refine xo 1 ?_
  refine XO.ldA Try.isAgg32 Try.sizeOf32 ?_
  refine XO.cP Try.call30 (Le.refl _) (open_ok (t := t) (a := a) (c := c) (hs.le leA)) ?_ ?_
  · rintro _ _ ⟨ok, rfl, rfl⟩
    exact FQ.panic Try.func33 (RP.thr ⟨2, rfl, ⟨ok, rfl⟩, rfl⟩)
  rintro _ _ ⟨ok, n2, rfl, rfl⟩
  refine oo 2 ?_
  refine XO.ld Try.isAgg3 ?_
  refine XO.ef0 (Ef.st Try.sizeOf3) ?_
  rintro _ _ ⟨rfl, rfl⟩
  refine ox 1 ?_
  refine X.fallL (pto p1 (.cells [.int .i64 (sumT t.turns)].toArray 3 (0, 0)) :: pto p0 (.cells (t.cs a c).toArray 32 (0, 0)) :: q) Try.func33 (res0 Try.results33) (RP.ret ⟨ok, rfl⟩)
set_option maxHeartbeats 1000000 in
theorem steps3_ok {y : Nat} {J : Nat → HP} {Jf : HP → Prop} (ok : okT t) (hf : 0 ≤ fr ∧ fr ≤ sumT t.turns)
    (hy : ∀ i (h : i < (stpL t.turns fr).length), CallV Try.prog G (.func (.yield y) #[] #[]) (stpL t.turns fr)[i] (J i :: [im p2 (.cells [.slice a t.turns.length c].toArray 26 (0, 0)), im p3 (.cells [.int .i64 fr].toArray 3 (0, 0)), rsM tcs 2 45 a c t.turns]) (Ret fun v q => (v = .bool true ∧ q = J (i + 1) :: [im p2 (.cells [.slice a t.turns.length c].toArray 26 (0, 0)), im p3 (.cells [.int .i64 fr].toArray 3 (0, 0)), rsM tcs 2 45 a c t.turns]) ∨ (v = .bool false ∧ ∃ A, Jf A ∧ q = A :: [im p2 (.cells [.slice a t.turns.length c].toArray 26 (0, 0)), im p3 (.cells [.int .i64 fr].toArray 3 (0, 0)), rsM tcs 2 45 a c t.turns]))) :
    CallF Try.prog G 36 [.func (.yield y) #[] #[], .pointer (some ⟨p2, 0, none⟩), .pointer (some ⟨p3, 0, none⟩)] (J 0 :: [im p2 (.cells [.slice a t.turns.length c].toArray 26 (0, 0)), im p3 (.cells [.int .i64 fr].toArray 3 (0, 0)), rsM tcs 2 45 a c t.turns]) (Ret fun _ q => q = J (stpL t.turns fr).length :: [im p2 (.cells [.slice a t.turns.length c].toArray 26 (0, 0)), im p3 (.cells [.int .i64 fr].toArray 3 (0, 0)), rsM tcs 2 45 a c t.turns] ∨ ∃ A, Jf A ∧ q = A :: [im p2 (.cells [.slice a t.turns.length c].toArray 26 (0, 0)), im p3 (.cells [.int .i64 fr].toArray 3 (0, 0)), rsM tcs 2 45 a c t.turns]) := by
  refine CallF.of Try.func36 Try.ntmps36 rfl (fun F cs => ?_)
  have hlen := flatMap_len (f := tcs) (sz := 2) (fun _ => rfl) t.turns; have hs : Sees [rsM tcs 2 45 a c t.turns] a (t.turns.flatMap tcs) := Sees.rsM []
  obtain ⟨hS1, hS2, hS3⟩ := okT_sum ok; have hL := ok.1; have hS4 : ∀ x ∈ t.turns, 1 ≤ x.2 := fun x hx => (hS3 x hx).1
  refine xo 9 ?_
  refine XO.ld Try.isAgg26 ?_
  refine ox 4 ?_
  refine X.at (X.loop (fun (s : Nat) => s ≤ t.turns.length) (fun s => [(0, .func (.yield y) #[] #[]), (1, .pointer (some ⟨p2, 0, none⟩)), (2, .pointer (some ⟨p3, 0, none⟩)), (4, .int .i64 (sumT (t.turns.take s))), (9, .slice a t.turns.length c), (10, .int .i64 (t.turns.length : Int)), (11, .int .i64 (s : Int))]) (fun s => J (max (sumT (t.turns.take s)) fr - fr).toNat :: im p2 (.cells [.slice a t.turns.length c].toArray 26 (0, 0)) :: im p3 (.cells [.int .i64 fr].toArray 3 (0, 0)) :: rsM tcs 2 45 a c t.turns :: F) (fun s => t.turns.length - s) (fun s hi_ ih => ?_) 0 (by omega)) subA (by rw [show (max (sumT (t.turns.take 0)) fr - fr).toNat = 0 by simp only [List.take_zero, sumT, List.map_nil, List.sum_nil]; omega]; exact leA)
  try dsimp only at hi_ ih ⊢
  obtain hi := hi_
  have hk := okT_take ok s
  refine xx 5 ?_
  refine X.part 12 rfl (fun h0 => ?_) (fun h0 => ?_)
  · skip
    replace h0 := sp h0; have hi0 : s < t.turns.length := (by omega); have hk1 := okT_take ok (s + 1); have hst := sumT_succ hi0; have hx2 := hS3 _ (List.getElem_mem hi0)
    refine X.adr hs (by rw [hlen]; omega) (fun b1 o1 e_ => ?_); subst e_
    refine xo 7 ?_
    refine XO.ldS (n := s) Try.isAgg45 Try.sizeOf45 hs hi0 ?_
    refine XO.ef (Ef.alloc Try.zeroValue45) ?_
    rintro _ _ ⟨n1, rfl, rfl⟩
    refine XO.ef0 (Ef.stA Try.sizeOf45) ?_
    rintro _ _ ⟨rfl, rfl⟩
    refine oo 3 ?_
    refine XO.ld Try.isAgg3 ?_
    refine ox 12 ?_
    refine X.at (X.loop (fun (n : Int) => (max (fr - sumT (t.turns.take s)) 0) ≤ n ∧ (n = (max (fr - sumT (t.turns.take s)) 0) ∨ n ≤ t.turns[s].2)) (fun n => [(0, .func (.yield y) #[] #[]), (1, .pointer (some ⟨p2, 0, none⟩)), (2, .pointer (some ⟨p3, 0, none⟩)), (4, .int .i64 (sumT (t.turns.take s))), (6, .pointer (some ⟨n1, 0, none⟩)), (9, .slice (some ⟨b1, o1, none⟩) t.turns.length c), (10, .int .i64 (t.turns.length : Int)), (11, .int .i64 (s : Int)), (8, .int .i64 n)]) (fun n => J (sumT (t.turns.take s) + n - fr).toNat :: pto n1 (.cells [.int .i64 t.turns[s].1, .int .i64 t.turns[s].2].toArray 45 (0, 0)) :: im p2 (.cells [.slice (some ⟨b1, o1, none⟩) t.turns.length c].toArray 26 (0, 0)) :: im p3 (.cells [.int .i64 fr].toArray 3 (0, 0)) :: rsM tcs 2 45 (some ⟨b1, o1, none⟩) c t.turns :: F) (fun n => (t.turns[s].2 - n).toNat) (fun n hi_ ih2 => ?_) (max (fr - sumT (t.turns.take s)) 0) ⟨Int.le_refl _, .inl rfl⟩) subA (by rw [show (sumT (t.turns.take s) + (max (fr - sumT (t.turns.take s)) 0) - fr).toNat = (max (sumT (t.turns.take s)) fr - fr).toNat by omega]; exact leA)
    try dsimp only at hi_ ih2 ⊢
    obtain ⟨hn1, hn2⟩ := hi_
    refine xo 5 ?_
    refine XO.ld Try.isAgg3 ?_
    refine ox 2 ?_
    refine X.part 23 rfl (fun h1 => ?_) (fun h1 => ?_)
    · skip
      replace h1 := sp h1
      have hg : (sumT (t.turns.take s) + n - fr).toNat < (stpL t.turns fr).length := by rw [stpL_len]; omega
      have hy2 := hy _ hg; rw [stpL_get hg, stpV, show fr + ((sumT (t.turns.take s) + n - fr).toNat : Int) = sumT (t.turns.take s) + n by omega, thr_at hi0 hS4 (by omega) h1] at hy2
      refine xo 11 ?_
      refine XO.ld Try.isAgg3 ?_
      refine XO.cV hy2 ?_
      rintro _ _ (⟨rfl, rfl⟩ | ⟨rfl, A, hA, rfl⟩) _ e_ <;> simp only [ca, na] at e_ <;> subst e_
      · skip
        refine XO.pu (Pu.not rfl) ?_
        refine ox 1 ?_
        refine X.know 33 (.bool false) rfl knw ?_
        refine xx 8 ?_
        refine X.sb [8, 0, 1, 2, 4, 6, 9, 10, 11] ?_
        refine X.at (ih2 (n + 1) ⟨by omega, by omega⟩ (by omega)) subA (by rw [show (sumT (t.turns.take s) + (n + 1) - fr).toNat = (sumT (t.turns.take s) + n - fr).toNat + 1 by omega]; exact leA)
      · skip
        refine XO.pu (Pu.not rfl) ?_
        refine ox 1 ?_
        refine X.know 33 (.bool true) rfl knw ?_
        refine xx 3 ?_
        refine X.fallL (A :: [im p2 (.cells [.slice (some ⟨b1, o1, none⟩) t.turns.length c].toArray 26 (0, 0)), im p3 (.cells [.int .i64 fr].toArray 3 (0, 0)), rsM tcs 2 45 (some ⟨b1, o1, none⟩) c t.turns]) Try.func36 (res0 Try.results36) ⟨_, rfl, .inr ⟨A, hA, rfl⟩⟩
    · skip
      replace h1 := sp h1
      refine xo 5 ?_
      refine XO.ld Try.isAgg3 ?_
      refine ox 8 ?_
      refine X.at (ih (s + 1) (by omega) (by omega)) subA (by rw [hst, show (max (sumT (t.turns.take s) + t.turns[s].2) fr - fr).toNat = (sumT (t.turns.take s) + n - fr).toNat by omega]; exact leA)
  · skip
    replace h0 := sp h0; rw [List.take_of_length_le (show t.turns.length ≤ s by omega), show (max (sumT t.turns) fr - fr).toNat = (stpL t.turns fr).length by rw [stpL_len]; omega]
    refine xx 3 ?_
    refine X.fallL (J (stpL t.turns fr).length :: [im p2 (.cells [.slice a t.turns.length c].toArray 26 (0, 0)), im p3 (.cells [.int .i64 fr].toArray 3 (0, 0)), rsM tcs 2 45 a c t.turns]) Try.func36 (res0 Try.results36) ⟨_, rfl, .inl rfl⟩
theorem steps3_iter (ok : okT t) (hf : 0 ≤ fr ∧ fr ≤ sumT t.turns) : Iter Try.prog G (.func (.func 36) [].toArray [.pointer (some ⟨p2, 0, none⟩), .pointer (some ⟨p3, 0, none⟩)].toArray) (stpL t.turns fr) [im p2 (.cells [.slice a t.turns.length c].toArray 26 (0, 0)), im p3 (.cells [.int .i64 fr].toArray 3 (0, 0)), rsM tcs 2 45 a c t.turns] := by
  intro y J Jf hy
  exact CallV.c12 Try.call36 (steps3_ok (G := G) (p2 := p2) (p3 := p3) (a := a) (c := c) (J := J) (Jf := Jf) ok hf hy)
theorem steps2_ok {v0 : Value} : CallF Try.prog G 34 [v0] (q) (Ret fun v q' => q' = q) := by
  refine CallF.of Try.func34 Try.ntmps34 rfl (fun F cs => ?_)
  refine xx 1 ?_
  refine X.fallL (q) Try.func34 (res0 Try.results34) ⟨_, rfl, rfl⟩
theorem steps2_iter : Iter Try.prog G (.func (.func 34) #[] #[]) [] [] := by
  intro y J Jf hy
  exact (CallV.c10 Try.call34 (steps2_ok (q := [J 0]))).mono (fun e q ⟨v, h1, h2⟩ => ⟨v, h1, .inl h2⟩)
set_option maxHeartbeats 1000000 in
theorem Steps_ok (hs : Sees q a (t.turns.flatMap tcs)) : CallF Try.prog G 14 [t.v a c, .int .i64 fr] (q) (Ret fun v q' => ((¬ okT t ∨ sumT t.turns ≤ max fr 0) ∧ v = .func (.func 34) #[] #[] ∧ q' = q) ∨ (okT t ∧ max fr 0 < sumT t.turns ∧ ∃ p2 p3 a' c', v = .func (.func 36) [].toArray [.pointer (some ⟨p2, 0, none⟩), .pointer (some ⟨p3, 0, none⟩)].toArray ∧ q' = pto p2 (.cells [.slice a' t.turns.length c'].toArray 26 (0, 0)) :: pto p3 (.cells [.int .i64 (max fr 0)].toArray 3 (0, 0)) :: rsH tcs 2 45 a' c' t.turns :: q)) := by
  refine CallF.of Try.func14 Try.ntmps14 rfl (fun F cs => ?_)
  unfold Tkn.v
  refine xo 2 ?_
  refine XO.ef (Ef.box rfl) ?_
  rintro _ _ ⟨n1, rfl, rfl⟩
  refine XO.ef (Ef.box rfl) ?_
  rintro _ _ ⟨n2, rfl, rfl⟩
  refine oo 4 ?_
  refine XO.ld Try.isAgg3 ?_
  refine oo 1 ?_
  refine XO.ef0 (Ef.st Try.sizeOf3) ?_
  rintro _ _ ⟨rfl, rfl⟩
  refine oo 3 ?_
  refine XO.ef (Ef.alloc Try.zeroValue3) ?_
  rintro _ _ ⟨n3, rfl, rfl⟩
  refine XO.ef0 (Ef.st Try.sizeOf3) ?_
  rintro _ _ ⟨rfl, rfl⟩
  refine oo 5 ?_
  have hJ := fun q1 (h : Le q1 q) => steps1_ok (G := G) (q := q1) (t := t) (a := a) (c := c) (p0 := n1) (p1 := n3) (hs.le h)
  refine XO.cX Try.call19 (Le.pick fndA (Le.pick fndA (Le.refl _))) (try_ok (CallV.c02 Try.call33 (hJ _ leA))) ?_
  rintro _ _ (⟨rfl, ok, rfl⟩ | ⟨e, rfl, ⟨hno, rfl⟩, rfl⟩)
  · skip
    refine oo 2 ?_
    refine XO.know 12 (.bool false) rfl knw ?_
    refine XO.ld Try.isAgg3 ?_
    refine XO.ld Try.isAgg3 ?_
    refine ox 3 ?_
    refine X.part 16 rfl (fun h1 => ?_) (fun h1 => ?_)
    · skip
      replace h1 := sp h1
      refine xx 5 ?_
      refine X.sb [4, 3, 2] ?_
      refine X.retL (q) Try.func14 (res1 Try.results14 rfl) ⟨_, rfl, .inl ⟨.inr (by omega), rfl, rfl⟩⟩
    · skip
      replace h1 := sp h1
      refine xo 5 ?_
      refine XO.ld Try.isAgg26 ?_
      refine XO.cX Try.call35 (Le.refl _) (Clone_ok (l := t.turns) (hs.le leA) (by have := ok.1; omega)) ?_
      rintro _ _ ⟨a1, c1, rfl, rfl⟩
      refine XO.ef (Ef.alloc Try.zeroValue26) ?_
      rintro _ _ ⟨n4, rfl, rfl⟩
      refine XO.ef0 (Ef.st Try.sizeOf26) ?_
      rintro _ _ ⟨rfl, rfl⟩
      refine ox 6 ?_
      refine X.sb [4] ?_
      refine X.retL (pto n4 (.cells [.slice a1 t.turns.length c1].toArray 26 (0, 0)) :: pto n2 (.cells [.int .i64 (max fr 0)].toArray 3 (0, 0)) :: rsH tcs 2 45 a1 c1 t.turns :: q) Try.func14 (res1 Try.results14 rfl) ⟨_, rfl, .inr ⟨ok, by omega, n4, n2, a1, c1, rfl, rfl⟩⟩
  · skip
    refine oo 2 ?_
    refine XO.know 12 (.bool true) rfl knw ?_
    refine ox 10 ?_
    refine X.retL (q) Try.func14 (res1 Try.results14 rfl) ⟨_, rfl, .inl ⟨.inl hno, rfl, rfl⟩⟩
end
end Go.Proofs.Ytjkkefgkhafmfaa

