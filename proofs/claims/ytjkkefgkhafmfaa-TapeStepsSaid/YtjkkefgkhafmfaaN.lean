/- What functions of package tape, of its references and of its laws do: contracts of calls, proved by walking their code. -/
import Derived.Test.YtjkkefgkhafmfaaL
import Derived.Test.YtjkkefgkhafmfaaWx28
import Derived.KernelRfl
set_option maxRecDepth 100000
set_option linter.unusedVariables false
set_option linter.unusedSimpArgs false
namespace Go.Proofs.Ytjkkefgkhafmfaa
open Go Go.RowKit Wx
attribute [local irreducible] Wx.lsH Wx.rsH Wx.lsM Wx.rsM Wx.stars

/-! ### how many steps each thread has -/
def z8 : List Int := [0, 0, 0, 0, 0, 0, 0, 0]
def cnt1 (c : List Int) (x : Turn) : List Int := c.set x.1.toNat (c.getD x.1.toNat 0 + x.2)
def cntA (l : List Turn) : List Int := l.foldl cnt1 z8
theorem cntA_succ {l : List Turn} {s : Nat} (h : s < l.length) : cntA (l.take (s + 1)) = cnt1 (cntA (l.take s)) l[s] := by
  unfold cntA; rw [List.take_succ_eq_append_getElem h, List.foldl_append]; rfl
theorem cntA_len (l : List Turn) : (cntA l).length = 8 := by
  have : ∀ (l : List Turn) (c : List Int), (l.foldl cnt1 c).length = c.length := by
    intro l
    induction l with
    | nil => intro c; rfl
    | cons x r ih => intro c; rw [List.foldl_cons, ih]; simp [cnt1]
  unfold cntA; rw [this]; rfl
theorem goT_thr : ∀ {l : List Turn} {p : Option Int} {s : Int}, goT p s l → ∀ x ∈ l, 0 ≤ x.1 ∧ x.1 ≤ 7
  | [], _, _, _ => by simp
  | x :: r, p, s, ⟨⟨h1, h2, _⟩, h⟩ => fun y hy => by
    rcases List.mem_cons.1 hy with rfl | hy
    · exact ⟨h1, h2⟩
    · exact goT_thr h y hy
theorem cntA_le {l : List Turn} (h : ∀ x ∈ l, 1 ≤ x.2 ∧ x.2 ≤ 2147483647) (k : Nat) : 0 ≤ (cntA l).getD k 0 ∧ (cntA l).getD k 0 ≤ sumT l := by
  have key : ∀ (l : List Turn) (c : List Int), (∀ x ∈ l, 1 ≤ x.2 ∧ x.2 ≤ 2147483647) → 0 ≤ c.getD k 0 → 0 ≤ (l.foldl cnt1 c).getD k 0 ∧ (l.foldl cnt1 c).getD k 0 ≤ c.getD k 0 + sumT l := by
    intro l
    induction l with
    | nil => intro c _ h; simp only [List.foldl_nil, sumT, List.map_nil, List.sum_nil]; omega
    | cons x r ih =>
      intro c hl hc
      have hx := hl x (List.mem_cons_self ..)
      have hr := sumT_nonneg (l := r) (fun y hy => hl y (List.mem_cons_of_mem _ hy))
      have h1 : 0 ≤ (cnt1 c x).getD k 0 ∧ (cnt1 c x).getD k 0 ≤ c.getD k 0 + x.2 := by
        unfold cnt1
        simp only [List.getD_eq_getElem?_getD, List.getElem?_set] at hc ⊢
        split
        · rename_i e; subst e
          split <;> simp <;> omega
        · omega
      rw [List.foldl_cons, sumT_cons]
      have := ih (cnt1 c x) (fun y hy => hl y (List.mem_cons_of_mem _ hy)) h1.1
      omega
  have h0 : z8.getD k 0 = 0 := by
    have e : z8 = List.replicate 8 0 := rfl
    rw [e, List.getD_eq_getElem?_getD, List.getElem?_replicate]; split <;> rfl
  have := key l z8 h (by omega)
  unfold cntA; omega
theorem list8 {c : List Int} (h : c.length = 8) : ∃ c0 c1 c2 c3 c4 c5 c6 c7, c = [c0, c1, c2, c3, c4, c5, c6, c7] := by
  match c, h with
  | [c0, c1, c2, c3, c4, c5, c6, c7], _ => exact ⟨_, _, _, _, _, _, _, _, rfl⟩
theorem Cl.arr {q : List HP} {b ty : Nat} {z : Nat × Nat} {l : List Int} {j : Int} {n : Nat} (h : Has q b (.cells (l.map (Value.int .i64)).toArray ty z)) (hj : j = n) (hn : n < l.length) : Cl q ⟨b, 0 + j.toNat * 1, none⟩ (.int .i64 (l.getD n 0)) := by
  subst hj
  refine Cl.of h ?_
  rw [show 0 + (n : Int).toNat * 1 = n by simp, nth_map hn]; simp [List.getD, List.getElem?_eq_getElem hn]
section
variable {G : World} {q : List HP} {l m : List Turn} {ls : List Pc} {t u : Tkn} {a b A : Option Addr} {c d C p p0 p1 p2 p3 i : Nat} {v_ mn n st : Int}
set_option maxHeartbeats 1000000 in
theorem RAt_ok (hs : Sees q a (t.turns.flatMap tcs)) : CallF Try.prog G 12 [t.v a c, .int .i64 st] (q) (Ret fun v q' => ((atV t st ∧ v = .int .i64 (atT t.turns st : Int)) ∨ (¬ atV t st ∧ v = .int .i64 (-1))) ∧ q' = q) := by
  refine CallF.of Try.func12 Try.ntmps12 rfl (fun F cs => ?_)
  unfold Tkn.v Tkn.cs
  have hlen := flatMap_len (f := tcs) (sz := 2) (fun _ => rfl) t.turns
  refine xo 2 ?_
  refine XO.ef (Ef.box rfl) ?_
  rintro _ _ ⟨n1, rfl, rfl⟩
  refine oo 5 ?_
  refine XO.ldA Try.isAgg32 Try.sizeOf32 ?_
  refine XO.cR Try.call15 (RCheck_ok (t := t) (a := a) (c := c) (hs.le leA)) ?_
  refine oo 2 ?_
  refine XO.sb [10, 4, 2, 1] ?_
  apply XO.cutOr 3 13 10 rfl
  · skip
    intro g1 M1; have h1 := sp g1
    refine oo 3 ?_
    exact XO.fin M1 ⟨orF g1, subB⟩
  · skip
    intro g1 M1; have h1 := sp g1
    refine oo 3 ?_
    exact XO.fin M1 ⟨orT g1, subB⟩
  · skip
    refine ox 1 ?_
    refine X.part 13 rfl (fun h1 => ?_) (fun h1 => ?_)
    · skip
      replace h1 := sp h1
      refine xx 5 ?_
      refine X.retL (q) Try.func12 (res1 Try.results12 rfl) ⟨_, rfl, .inr ⟨fun k => by have k1 := chk_iff.2 k.1; have k2 := k.2.1; rcases h1 with h | h; exact h k1; omega, rfl⟩, rfl⟩
    · skip
      replace h1 := sp h1
      refine xx 12 ?_
      rw [chk_iff] at h1; obtain ⟨ok, hst⟩ := h1; obtain ⟨hS1, hS2, hS3⟩ := okT_sum ok; have hL := ok.1
      refine X.at (X.loop (fun (s : Nat × Option Addr) => s.1 ≤ t.turns.length ∧ s.2 = a ∧ sumT (t.turns.take s.1) ≤ st ∧ s.1 + atT (t.turns.drop s.1) (st - sumT (t.turns.take s.1)) = atT t.turns st) (fun s => [(6, .int .i64 (s.1 : Int)), (5, .int .i64 (sumT (t.turns.take s.1))), (1, .int .i64 st), (2, .pointer (some ⟨n1, 0, none⟩))]) (fun s => pto n1 (.cells (t.cs s.2 c).toArray 32 (0, 0)) :: (q ++ F)) (fun s => t.turns.length - s.1) (fun s hi_ ih => ?_) (0, a) ⟨by dsimp only; omega, rfl, by simpa [sumT] using hst, by simp [sumT]⟩) subA leA
      try dsimp only at hi_ ih ⊢
      obtain ⟨hi1, rfl, hi2, hi3⟩ := hi_
      obtain ⟨s, a⟩ := s; dsimp only at *
      refine xo 5 ?_
      refine XO.ld Try.isAgg26 ?_
      refine ox 3 ?_
      refine X.part 18 rfl (fun h0 => ?_) (fun h0 => ?_)
      · skip
        replace h0 := sp h0; have hi0 : s < t.turns.length := (by omega); have hk := okT_take ok s; have hk1 := okT_take ok (s + 1); have hsu := sumT_succ hi0
        refine X.adr hs (by rw [hlen]; omega) (fun b1 o1 e_ => ?_); subst e_
        rw [atT_drop hi0] at hi3
        refine xo 8 ?_
        refine XO.ld Try.isAgg26 ?_
        refine oo 3 ?_
        refine XO.ld Try.isAgg3 ?_ (hc := (Cl.row (f := tcs) (sz := 2) (n := s) hs leA (fun _ => rfl) hi0 rfl 1 _ rfl))
        refine ox 9 ?_
        refine X.sb [31, 5, 6, 1, 2] ?_
        refine X.part 31 rfl (fun h2 => ?_) (fun h2 => ?_)
        · skip
          replace h2 := sp h2; rw [if_pos (by omega)] at hi3
          refine xx 6 ?_
          refine X.retL (q) Try.func12 (res1 Try.results12 rfl) ⟨_, rfl, .inl ⟨⟨ok, by omega, by omega⟩, by rw [← hi3, Nat.add_zero]⟩, rfl⟩
        · skip
          replace h2 := sp h2; rw [if_neg (by omega)] at hi3
          refine xx 8 ?_
          refine X.at (ih (s + 1, some ⟨b1, o1, none⟩) ⟨by dsimp only; omega, rfl, by dsimp only; omega, by dsimp only; rw [hsu, show st - (sumT (t.turns.take s) + t.turns[s].2) = st - sumT (t.turns.take s) - t.turns[s].2 by omega]; omega⟩ (by dsimp only; omega)) subA leA
      · skip
        replace h0 := sp h0; rw [List.take_of_length_le (show t.turns.length ≤ s by omega)] at hi2
        refine xx 6 ?_
        refine X.retL (q) Try.func12 (res1 Try.results12 rfl) ⟨_, rfl, .inr ⟨fun k => by have := k.2.2; omega, rfl⟩, rfl⟩
set_option maxHeartbeats 2000000 in
theorem count1_ok (hs : Sees q a (t.turns.flatMap tcs)) : CallF Try.prog G 32 [.pointer (some ⟨p0, 0, none⟩), .pointer (some ⟨p1, 0, none⟩)] (pto p0 (.cells (t.cs a c).toArray 32 (0, 0)) :: pto p1 (.cells ((z8).map (Value.int .i64)).toArray 46 (0, 0)) :: q) (RP (fun _ q' => okT t ∧ q' = pto p1 (.cells ((cntA t.turns).map (Value.int .i64)).toArray 46 (0, 0)) :: q) (fun ch q' => ∃ e, ch = [refE e] ∧ (e = 2 ∧ ¬ okT t) ∧ q' = pto p1 (.cells ((z8).map (Value.int .i64)).toArray 46 (0, 0)) :: q)) := by
  refine CallF.of Try.func32 Try.ntmps32 rfl (fun F cs => ?_)
  have hlen := flatMap_len (f := tcs) (sz := 2) (fun _ => rfl) t.turns
  refine xo 2 ?_
  refine XO.ldA Try.isAgg32 Try.sizeOf32 ?_
  refine XO.cP Try.call30 (Le.refl _) (open_ok (t := t) (a := a) (c := c) (hs.le leA)) ?_ ?_
  · rintro _ _ ⟨ok, rfl, rfl⟩
    exact FQ.panic Try.func32 (RP.thr ⟨2, rfl, ⟨rfl, ok⟩, rfl⟩)
  rintro _ _ ⟨ok, n2, rfl, rfl⟩
  obtain ⟨hS1, hS2, hS3⟩ := okT_sum ok; have hL := ok.1; have hthr := goT_thr ok.2.2
  refine oo 3 ?_
  refine XO.ld Try.isAgg26 ?_
  refine ox 4 ?_
  refine X.at (X.loop (fun (s : Nat × Option Addr) => s.1 ≤ t.turns.length ∧ s.2 = a) (fun s => [(11, .int .i64 (s.1 : Int)), (9, .slice s.2 t.turns.length c), (10, .int .i64 (t.turns.length : Int)), (1, .pointer (some ⟨p1, 0, none⟩))]) (fun s => pto p1 (.cells ((cntA (t.turns.take s.1)).map (Value.int .i64)).toArray 46 (0, 0)) :: (q ++ F)) (fun s => t.turns.length - s.1) (fun s hi_ ih => ?_) (0, a) ⟨by dsimp only; omega, rfl⟩) subA leA
  try dsimp only at hi_ ih ⊢
  obtain ⟨hi1, rfl⟩ := hi_
  obtain ⟨s, a⟩ := s; dsimp only at *
  refine xx 5 ?_
  refine X.part 12 rfl (fun h0 => ?_) (fun h0 => ?_)
  · skip
    replace h0 := sp h0
    have hi0 : s < t.turns.length := by omega
    have hk := okT_take ok (s + 1); have hcs := cntA_succ hi0; have hcl := cntA_len (t.turns.take s); have hth := hthr _ (List.getElem_mem hi0); have hle := cntA_le (l := t.turns.take s) (fun x hx => hS3 x (List.mem_of_mem_take hx)) t.turns[s].1.toNat; have hst := sumT_succ hi0; have hS4 := hS3 _ (List.getElem_mem hi0)
    obtain ⟨k, hk0⟩ : ∃ k : Nat, t.turns[s].1 = (k : Int) := ⟨t.turns[s].1.toNat, by omega⟩
    generalize hC : cntA (t.turns.take s) = C at *
    refine X.adr hs (by rw [hlen]; omega) (fun b1 o1 e_ => ?_); subst e_
    refine xo 7 ?_
    refine XO.ldS (n := s) Try.isAgg45 Try.sizeOf45 hs hi0 ?_
    refine XO.ef (Ef.alloc Try.zeroValue45) ?_
    rintro _ _ ⟨n1, rfl, rfl⟩
    refine XO.ef0 (Ef.stA Try.sizeOf45) ?_
    rintro _ _ ⟨rfl, rfl⟩
    refine ox 1 ?_
    refine X.draw [] Try.mixed (by kernel_rfl) (by kernel_rfl) rfl ?_
    refine dd [0] ?_
    refine XD.ld 1 Try.isAgg3 ?_
    refine XD.pu 2 rfl (Pu.indexAddrA rfl rfl Try.underlying46 Try.sizeOf3 (by omega) (by omega)) ?_
    refine XD.ld 3 Try.isAgg3 ?_ (hc := (Cl.arr (n := t.turns[s].1.toNat) hasA (by omega) (by omega)))
    refine dd [4] ?_
    refine XD.ld 5 Try.isAgg3 ?_
    refine dd [6] ?_
    refine XD.pu 7 rfl (Pu.indexAddrA rfl rfl Try.underlying46 Try.sizeOf3 (by omega) (by omega)) ?_
    refine XD.ef0 8 rfl (Ef.st Try.sizeOf3 (ho := by rw [Nat.blt_eq]; simp; omega)) ?_
    rintro _ _ ⟨rfl, rfl⟩
    refine ⟨trivial, ?_⟩
    rw [show 0 + t.turns[s].1.toNat * 1 = t.turns[s].1.toNat by omega, setl_map]
    refine XD.nil ?_
    refine xx 5 ?_
    refine X.at (ih (s + 1, some ⟨b1, o1, none⟩) ⟨by dsimp only; omega, rfl⟩ (by dsimp only; omega)) subA (by dsimp only; rw [hcs]; exact leA)
  · skip
    replace h0 := sp h0
    refine xx 2 ?_
    rw [List.take_of_length_le (show t.turns.length ≤ s by omega)]
    refine X.fallL (pto p1 (.cells ((cntA t.turns).map (Value.int .i64)).toArray 46 (0, 0)) :: q) Try.func32 (res0 Try.results32) (RP.ret ⟨ok, rfl⟩)
set_option maxHeartbeats 1000000 in
theorem Count_ok (hs : Sees q a (t.turns.flatMap tcs)) : CallF Try.prog G 13 [t.v a c] (q) (Ret fun v q' => v = (if okT t then .tuple [.agg ((cntA t.turns).map (Value.int .i64)).toArray, .int .i64 0].toArray else .tuple [.agg (z8.map (Value.int .i64)).toArray, .int .i64 2].toArray) ∧ q' = q) := by
  refine CallF.of Try.func13 Try.ntmps13 rfl (fun F cs => ?_)
  unfold Tkn.v
  obtain ⟨c0, c1, c2, c3, c4, c5, c6, c7, hC⟩ := list8 (cntA_len t.turns)
  refine xo 2 ?_
  refine XO.ef (Ef.box rfl) ?_
  rintro _ _ ⟨n1, rfl, rfl⟩
  refine XO.ef (Ef.alloc Try.zeroValue46) ?_
  rintro _ _ ⟨n2, rfl, rfl⟩
  refine oo 4 ?_
  refine XO.ef (Ef.alloc Try.zeroValue46) ?_
  rintro _ _ ⟨n3, rfl, rfl⟩
  refine oo 4 ?_
  have hJ := fun q1 (h : Le q1 q) => count1_ok (G := G) (q := q1) (t := t) (a := a) (c := c) (p0 := n1) (p1 := n3) (hs.le h)
  rw [hC] at hJ
  refine XO.cX Try.call19 (Le.pick fndA (Le.pick fndA (Le.refl _))) (try_ok (CallV.c02 Try.call32 (hJ _ leA))) ?_
  rintro _ _ (⟨rfl, ok, rfl⟩ | ⟨e, rfl, ⟨rfl, hno⟩, rfl⟩)
  · skip
    refine oo 4 ?_
    refine XO.ldA Try.isAgg46 Try.sizeOf46 ?_
    refine oo 1 ?_
    refine XO.ef0 (Ef.stA Try.sizeOf46) ?_
    rintro _ _ ⟨rfl, rfl⟩
    refine ox 2 ?_
    refine X.retL (q) Try.func13 (resC Try.results13 (ResOk.cell rfl (LV.agg Try.isAgg46 Try.sizeOf46 hasA rfl) (ResOk.tmp rfl ResOk.nil))) ⟨_, rfl, by rw [if_pos ok, hC]; rfl, rfl⟩
  · skip
    refine oo 4 ?_
    refine XO.ldA Try.isAgg46 Try.sizeOf46 ?_
    refine oo 1 ?_
    refine XO.ef0 (Ef.stA Try.sizeOf46) ?_
    rintro _ _ ⟨rfl, rfl⟩
    refine ox 2 ?_
    refine X.retL (q) Try.func13 (resC Try.results13 (ResOk.cell rfl (LV.agg Try.isAgg46 Try.sizeOf46 hasA rfl) (ResOk.tmp rfl ResOk.nil))) ⟨_, rfl, by rw [if_neg hno]; rfl, rfl⟩
set_option maxHeartbeats 2000000 in
theorem RCount_ok (hs : Sees q a (t.turns.flatMap tcs)) (ok : okT t) : CallF Try.prog G 16 [t.v a c] (q) (Ret fun v q' => v = .agg ((cntA t.turns).map (Value.int .i64)).toArray ∧ q' = q) := by
  refine CallF.of Try.func16 Try.ntmps16 rfl (fun F cs => ?_)
  unfold Tkn.v Tkn.cs
  have hlen := flatMap_len (f := tcs) (sz := 2) (fun _ => rfl) t.turns
  obtain ⟨hS1, hS2, hS3⟩ := okT_sum ok; have hL := ok.1; have hthr := goT_thr ok.2.2
  refine xo 2 ?_
  refine XO.ef (Ef.box rfl) ?_
  rintro _ _ ⟨n1, rfl, rfl⟩
  refine XO.ef (Ef.alloc Try.zeroValue46) ?_
  rintro _ _ ⟨n2, rfl, rfl⟩
  refine oo 3 ?_
  refine XO.ef (Ef.alloc Try.zeroValue46) ?_
  rintro _ _ ⟨n3, rfl, rfl⟩
  refine ox 7 ?_
  refine X.at (X.loop (fun (s : Nat × Option Addr) => s.1 ≤ t.turns.length ∧ s.2 = a) (fun s => [(4, .int .i64 (s.1 : Int)), (1, .pointer (some ⟨n1, 0, none⟩)), (3, .pointer (some ⟨n3, 0, none⟩)), (2, .pointer (some ⟨n2, 0, none⟩))]) (fun s => pto n1 (.cells (t.cs s.2 c).toArray 32 (0, 0)) :: pto n2 (.cells (z8.map (Value.int .i64)).toArray 46 (0, 0)) :: pto n3 (.cells ((cntA (t.turns.take s.1)).map (Value.int .i64)).toArray 46 (0, 0)) :: (q ++ F)) (fun s => t.turns.length - s.1) (fun s hi_ ih => ?_) (0, a) ⟨by dsimp only; omega, rfl⟩) subA leA
  try dsimp only at hi_ ih ⊢
  obtain ⟨hi1, rfl⟩ := hi_
  obtain ⟨s, a⟩ := s; dsimp only at *
  refine xo 5 ?_
  refine XO.ld Try.isAgg26 ?_
  refine ox 3 ?_
  refine X.part 9 rfl (fun h0 => ?_) (fun h0 => ?_)
  · skip
    replace h0 := sp h0
    have hi0 : s < t.turns.length := by omega
    have hk := okT_take ok (s + 1); have hcs := cntA_succ hi0; have hcl := cntA_len (t.turns.take s); have hth := hthr _ (List.getElem_mem hi0); have hle := cntA_le (l := t.turns.take s) (fun x hx => hS3 x (List.mem_of_mem_take hx)) t.turns[s].1.toNat; have hst := sumT_succ hi0; have hS4 := hS3 _ (List.getElem_mem hi0)
    obtain ⟨k, hk0⟩ : ∃ k : Nat, t.turns[s].1 = (k : Int) := ⟨t.turns[s].1.toNat, by omega⟩
    generalize hC : cntA (t.turns.take s) = C at *
    refine X.adr hs (by rw [hlen]; omega) (fun b1 o1 e_ => ?_); subst e_
    refine xx 4 ?_
    refine X.draw [] Try.mixed (by kernel_rfl) (by kernel_rfl) rfl ?_
    refine dd [0] ?_
    refine XD.ld 1 Try.isAgg26 ?_
    refine dd [2, 3, 4] ?_
    refine XD.ld 5 Try.isAgg3 ?_ (hc := (Cl.row (f := tcs) (sz := 2) (n := s) hs leA (fun _ => rfl) hi0 rfl 0 _ rfl))
    refine dd [6] ?_
    refine XD.ld 7 Try.isAgg26 ?_
    refine dd [8, 9, 10] ?_
    refine XD.ld 11 Try.isAgg3 ?_ (hc := (Cl.row (f := tcs) (sz := 2) (n := s) hs leA (fun _ => rfl) hi0 rfl 0 _ rfl))
    refine XD.pu 12 rfl (Pu.indexAddrA rfl rfl Try.underlying46 Try.sizeOf3 (by omega) (by omega)) ?_
    refine XD.ld 13 Try.isAgg3 ?_ (hc := (Cl.arr (n := t.turns[s].1.toNat) hasA (by omega) (by omega)))
    refine dd [14] ?_
    refine XD.ld 15 Try.isAgg26 ?_
    refine dd [16, 17, 18] ?_
    refine XD.ld 19 Try.isAgg3 ?_ (hc := (Cl.row (f := tcs) (sz := 2) (n := s) hs leA (fun _ => rfl) hi0 rfl 1 _ rfl))
    refine dd [20] ?_
    refine XD.pu 21 rfl (Pu.indexAddrA rfl rfl Try.underlying46 Try.sizeOf3 (by omega) (by omega)) ?_
    refine XD.ef0 22 rfl (Ef.st Try.sizeOf3 (ho := by rw [Nat.blt_eq]; simp; omega)) ?_
    rintro _ _ ⟨rfl, rfl⟩
    refine ⟨trivial, ?_⟩
    rw [show 0 + t.turns[s].1.toNat * 1 = t.turns[s].1.toNat by omega, setl_map]
    refine XD.nil ?_
    refine xx 6 ?_
    refine X.sb [4, 1, 3, 2] ?_
    refine X.at (ih (s + 1, some ⟨b1, o1, none⟩) ⟨by dsimp only; omega, rfl⟩ (by dsimp only; omega)) subA (by dsimp only; rw [hcs]; exact leA)
  · skip
    replace h0 := sp h0; rw [List.take_of_length_le (show t.turns.length ≤ s by omega)]; obtain ⟨c0, c1, c2, c3, c4, c5, c6, c7, hC⟩ := list8 (cntA_len t.turns); rw [hC]
    refine xo 4 ?_
    refine XO.ldA Try.isAgg46 Try.sizeOf46 ?_
    refine XO.ef0 (Ef.stA Try.sizeOf46) ?_
    rintro _ _ ⟨rfl, rfl⟩
    refine ox 1 ?_
    refine X.retL (q) Try.func16 (resC1 Try.results16 (ResOk.cell rfl (LV.agg Try.isAgg46 Try.sizeOf46 hasA rfl) ResOk.nil)) ⟨_, rfl, rfl, rfl⟩
end
end Go.Proofs.Ytjkkefgkhafmfaa

