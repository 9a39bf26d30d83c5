/- What functions of package tape, of its references and of its laws do: contracts of calls, proved by walking their code. -/
import Derived.Test.YtjkkefgkhafmfaaD
import Derived.KernelRfl
set_option maxRecDepth 100000
set_option linter.unusedVariables false
set_option linter.unusedSimpArgs false
namespace Go.Proofs.Ytjkkefgkhafmfaa
open Go Go.RowKit Wx
attribute [local irreducible] Wx.lsH Wx.rsH Wx.lsM Wx.rsM Wx.stars

section
theorem bhd_tail {l : List Turn} {x : Turn} {i : Nat} {y : Turn} (h : 0 < l.length) (h2 : l[l.length - 1].1 = x.1) (hi : i = l.length - 1) (hy : y = (x.1, (l[l.length - 1]).2 + x.2)) : bhd l x = l.take i ++ [y] := by
  subst hi; subst hy
  have e : l.getD (l.length - 1) zT = l[l.length - 1] := by simp [List.getD, List.getElem?_eq_getElem (show l.length - 1 < l.length by omega)]
  unfold bhd
  rw [e, if_pos ⟨h, h2⟩, List.set_eq_take_append_cons_drop, if_pos (by omega), List.drop_eq_nil_of_le (by omega)]
theorem bhd_new {l : List Turn} {x : Turn} (h : ∀ h : 0 < l.length, l[l.length - 1].1 ≠ x.1) : bhd l x = l ++ [x] := by
  unfold bhd
  rw [if_neg]
  rintro ⟨h0, h1⟩
  have e : l.getD (l.length - 1) zT = l[l.length - 1] := by simp [List.getD, List.getElem?_eq_getElem (show l.length - 1 < l.length by omega)]
  rw [e] at h1; exact h h0 h1
variable {G : World} {q : List HP} {l : List Turn} {x : Turn} {a : Option Addr} {c : Nat}
set_option maxHeartbeats 1000000 in
theorem behind_ok (hL : l.length ≤ 100000000) (h1 : 0 ≤ x.2 ∧ x.2 ≤ 2305843009213693952) (h2 : ∀ h : 0 < l.length, 0 ≤ (l[l.length - 1]).2 ∧ (l[l.length - 1]).2 ≤ 2305843009213693952) : CallF Try.prog G 26 [.slice a l.length c, .agg (tcs x).toArray] (rsH tcs 2 45 a c l :: q) (Ret fun v q' => ∃ a' c', v = .slice a' (bhd l x).length c' ∧ q' = rsH tcs 2 45 a' c' (bhd l x) :: q) := by
  refine CallF.of Try.func26 Try.ntmps26 rfl (fun F cs => ?_)
  simp only [tcs]
  have hlen := flatMap_len (f := tcs) (sz := 2) (fun _ => rfl) l
  rcases Nat.eq_zero_or_pos l.length with hl0 | hl0
  · skip
    obtain rfl := List.eq_nil_of_length_eq_zero hl0
    refine xo 2 ?_
    refine XO.ef (Ef.box rfl) ?_
    rintro _ _ ⟨n1, rfl, rfl⟩
    refine ox 10 ?_
    refine X.draw [] Try.mixed (by kernel_rfl) (by kernel_rfl) rfl ?_
    refine dd [0, 1, 2] ?_
    refine XD.know 10 (.bool false) rfl knw ?_
    refine dd [3, 4, 5, 6, 7, 8, 9, 10, 11, 12] ?_
    refine XD.nil ?_
    refine xo 5 ?_
    refine XO.ldA Try.isAgg45 Try.sizeOf45 ?_
    refine XO.ef (Ef.litR1 (u := x) tcs Try.underlying26 Try.info45 rfl rfl (fun _ => rfl) rfl) ?_
    rintro _ _ ⟨g2, rfl, rfl⟩
    refine XO.ef (Ef.appR (l := []) (m := [x]) Try.underlying26 Try.info45 rfl rfl (fun _ => rfl) rfl rfl fndA (by simp; try omega) ((Sees.rsH _).le leA) (fun _ => rfl) (by simp; try omega) (by simp; try omega)) ?_
    rintro _ _ ⟨a2, c2, rfl, rfl⟩
    refine ox 2 ?_
    refine X.sb [4] ?_
    have hb := bhd_new (l := []) (x := x) (by simp)
    refine X.retL (rsH tcs 2 45 a2 c2 (bhd [] x) :: q) Try.func26 (res1 Try.results26 rfl) ⟨_, rfl, a2, c2, by rw [hb]; simp, rfl⟩ (by rw [hb]; try rw [List.take_of_length_le (by simp)]; exact leA)
  · skip
    refine X.rsadr hl0 (fun b1 e_ => ?_); subst e_
    have h2b := h2 hl0
    refine X.fact (fun w s => (s.le (show Le _ (rsH tcs 2 45 _ c l :: (q ++ F)) from fndA)).rsLen) fun hcap => ?_
    refine xo 2 ?_
    refine XO.ef (Ef.box rfl) ?_
    rintro _ _ ⟨n2, rfl, rfl⟩
    refine ox 10 ?_
    refine X.draw [] Try.mixed (by kernel_rfl) (by kernel_rfl) rfl ?_
    refine dd [0, 1, 2] ?_
    refine XD.know 10 (.bool true) rfl (congrArg Value.bool ((by simp; omega))) ?_
    refine dd [3, 4, 5, 6, 7] ?_
    refine XD.ld 8 Try.isAgg3 ?_ (hc := (Cl.row (f := tcs) (sz := 2) (bk := b1) (o := 0) (j := (l.length : Int) - 1) (Sees.rsH (sz := 2) (ty := 45) (c := c) []) leA (fun _ => rfl) (show l.length - 1 < l.length by omega) (by omega) 0 _ rfl))
    refine dd [9] ?_
    refine XD.ld 10 Try.isAgg3 ?_
    refine dd [11, 12] ?_
    refine XD.nil ?_
    refine X.part 20 rfl (fun h1 => ?_) (fun h1 => ?_)
    · skip
      replace h1 := sp h1
      refine xx 2 ?_
      refine X.sb [5, 4, 3, 0] ?_
      refine X.draw [] Try.mixed (by kernel_rfl) (by kernel_rfl) rfl ?_
      refine dd [0, 1, 2, 3, 4, 5, 6] ?_
      refine XD.ld 7 Try.isAgg3 ?_
      refine dd [8, 9, 10, 11, 12, 14] ?_
      refine XD.ld 15 Try.isAgg3 ?_
      refine XD.ef 13 rfl (Rd.ef (Rd.load rfl Try.isAgg3 (Cl.row (f := tcs) (sz := 2) (bk := b1) (o := 0) (j := (l.length : Int) - 1) (Sees.rsH (sz := 2) (ty := 45) (c := c) []) leA (fun _ => rfl) (show l.length - 1 < l.length by omega) (by omega) 1 _ rfl))) ?_
      rintro _ _ ⟨rfl, rfl⟩
      refine ⟨hlA, ?_⟩
      refine dd [16, 17] ?_
      refine XD.ef 18 rfl (Ef.litR1 (u := (x.1, (l[l.length - 1]).2 + x.2)) tcs Try.underlying26 Try.info45 rfl rfl (fun _ => rfl) rfl) ?_
      rintro _ _ ⟨g2, rfl, rfl⟩
      refine ⟨hlA, ?_⟩
      refine XD.ef 19 rfl (Ef.appR (l := l) (m := [(x.1, (l[l.length - 1]).2 + x.2)]) Try.underlying26 Try.info45 rfl rfl (fun _ => rfl) rfl rfl fndA (by simp; try omega) ((Sees.rsH _).le leA) (fun _ => rfl) (by simp; try omega) (by simp; try omega)) ?_
      rintro _ _ ⟨a2, c2, rfl, rfl⟩
      refine ⟨hlA, ?_⟩
      refine dd [20] ?_
      refine XD.nil ?_
      rw [← bhd_tail hl0 h1 (by omega) rfl]
      refine X.retL (rsH tcs 2 45 a2 c2 (bhd l x) :: q) Try.func26 (res1 Try.results26 rfl) ⟨_, rfl, a2, c2, rfl, rfl⟩
    · skip
      replace h1 := sp h1
      refine xo 5 ?_
      refine XO.ldA Try.isAgg45 Try.sizeOf45 ?_
      refine XO.ef (Ef.litR1 (u := x) tcs Try.underlying26 Try.info45 rfl rfl (fun _ => rfl) rfl) ?_
      rintro _ _ ⟨g2, rfl, rfl⟩
      refine XO.ef (Ef.appR (l := l) (m := [x]) Try.underlying26 Try.info45 rfl rfl (fun _ => rfl) rfl rfl fndA (by simp; try omega) ((Sees.rsH _).le leA) (fun _ => rfl) (by simp; try omega) (by simp; try omega)) ?_
      rintro _ _ ⟨a2, c2, rfl, rfl⟩
      refine ox 2 ?_
      refine X.sb [4] ?_
      have hb := bhd_new (l := l) (x := x) (by intro _; omega)
      refine X.retL (rsH tcs 2 45 a2 c2 (bhd l x) :: q) Try.func26 (res1 Try.results26 rfl) ⟨_, rfl, a2, c2, by rw [hb]; simp, rfl⟩ (by rw [hb]; try rw [List.take_of_length_le (by simp)]; exact leA)
end
end Go.Proofs.Ytjkkefgkhafmfaa

