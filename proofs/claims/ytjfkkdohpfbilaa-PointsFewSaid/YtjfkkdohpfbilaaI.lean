/- What functions of package points, and of its laws, do: contracts of calls, proved by walking their code. -/
import Derived.Test.YtjfkkdohpfbilaaH
import Derived.KernelRfl
set_option maxRecDepth 100000
set_option linter.unusedVariables false
set_option linter.unusedSimpArgs false
namespace Go.Proofs.Ytjfkkdohpfbilaa
open Go Go.RowKit Wx

theorem Good.new {every most : Int} (h1 : 1 ≤ every) (h2 : every ≤ 1073741824) (h3 : 2 ≤ most) (h4 : most ≤ 4096) : Pt.Good ⟨every, most, [], 0, 0, false⟩ :=
  ⟨⟨h1, h2, h3, h4, by simp; omega, by simp⟩, by simp, by simp, by simp, by simp, by simp, by simp, by simp⟩
theorem Pt.Good.step {p : Pt} (g : p.Good) (t : Int) : (p.come t).1.Good := by
  obtain ⟨every, most, kept, gone, last, came⟩ := p
  obtain ⟨⟨e1, e2, m1, m2, k1, k2⟩, so, la, l0, l1, l2, g0, g1⟩ := g
  dsimp only at *
  by_cases h : t < 0 ∨ 1099511627776 < t ∨ (came = true ∧ t ≤ last)
  · rw [come_1 h]; exact ⟨⟨e1, e2, m1, m2, k1, k2⟩, so, la, l0, l1, l2, g0, g1⟩
  · have ha : 0 ≤ t := by omega
    have hb : t ≤ 1099511627776 := by omega
    have hlt : ∀ x ∈ kept, x < t := by
      intro x hx
      cases came with
      | true => have := la x hx; have : ¬ t ≤ last := fun e => h (.inr (.inr ⟨rfl, e⟩)); omega
      | false => rw [(l2 rfl).2] at hx; cases hx
    have hg : (kept.length : Int) + gone ≤ t := by
      cases came with
      | true => have : ¬ t ≤ last := fun e => h (.inr (.inr ⟨rfl, e⟩)); simp at g1; omega
      | false => have := (l2 rfl).1; simp at g1; omega
    have hso : (kept ++ [t]).Pairwise (· < ·) := List.pairwise_append.2 ⟨so, by simp, fun x hx y hy => by rw [List.mem_singleton.1 hy]; exact hlt x hx⟩
    have hk2 : ∀ x ∈ kept ++ [t], 0 ≤ x ∧ x ≤ 1099511627776 := by intro x hx; rcases List.mem_append.1 hx with hx | hx; exact k2 x hx; rw [List.mem_singleton.1 hx]; omega
    have hle : ∀ x ∈ kept ++ [t], x ≤ t := by intro x hx; rcases List.mem_append.1 hx with hx | hx; have := hlt x hx; omega; rw [List.mem_singleton.1 hx]; omega
    by_cases h2 : t.tmod every ≠ 0
    · rw [come_2 h h2]
      exact ⟨⟨e1, e2, m1, m2, k1, k2⟩, so, fun x hx => Int.le_of_lt (hlt x hx), ha, hb, by simp, g0, by simp; omega⟩
    · by_cases h3 : ((kept ++ [t]).length : Int) ≤ most
      · rw [come_3 h h2 h3]
        exact ⟨⟨e1, e2, m1, m2, h3, hk2⟩, hso, hle, ha, hb, by simp, g0, by simp; omega⟩
      · rw [come_4 rfl h h2 h3]
        have hlen : (kept ++ [t]).length = kept.length + 1 := by simp
        have hm := argm_le (kept ++ [t]) ((kept ++ [t]).length - 2)
        have hml : argm (kept ++ [t]) ((kept ++ [t]).length - 2) < (kept ++ [t]).length := by omega
        rw [← List.eraseIdx_eq_take_drop_succ]
        generalize hk : kept ++ [t] = k at *
        generalize argm k (k.length - 2) = i at *
        have hel : (k.eraseIdx i).length = k.length - 1 := List.length_eraseIdx_of_lt hml
        have hs := List.eraseIdx_sublist k i
        refine ⟨⟨e1, e2, m1, m2, by dsimp only; rw [hel]; omega, fun x hx => hk2 x (hs.subset hx)⟩, hso.sublist hs, fun x hx => hle x (hs.subset hx), ha, hb, by simp, by dsimp only; omega, by simp only [hel, if_true]; omega⟩
/-- Points that have been played. -/
def plays (every most : Int) (l : List Int) : Pt := l.foldl (fun p t => (p.come t).1) ⟨every, most, [], 0, 0, false⟩
theorem plays_step (every most : Int) {l : List Int} {s : Nat} (h : s < l.length) : plays every most (l.take (s + 1)) = ((plays every most (l.take s)).come l[s]).1 := by
  unfold plays; rw [List.take_succ_eq_append_getElem h, List.foldl_append]; rfl
theorem plays_good {every most : Int} (h1 : 1 ≤ every) (h2 : every ≤ 1073741824) (h3 : 2 ≤ most) (h4 : most ≤ 4096) (l : List Int) : (plays every most l).Good := by
  suffices h : ∀ (l : List Int) (p : Pt), p.Good → (l.foldl (fun p t => (p.come t).1) p).Good from h l _ (Good.new h1 h2 h3 h4)
  intro l; induction l with
  | nil => exact fun p g => g
  | cons x r ih => exact fun p g => ih _ (g.step x)
theorem come_ev {p : Pt} (t : Int) : (p.come t).1.every = p.every ∧ (p.come t).1.most = p.most := by
  unfold Pt.come; split; exact ⟨rfl, rfl⟩; split; exact ⟨rfl, rfl⟩; split <;> exact ⟨rfl, rfl⟩
theorem Pt.Good.gone_le {p : Pt} (g : p.Good) : 0 ≤ p.gone ∧ p.gone ≤ 2199023255552 := by
  have h0 := g.g0; have h1 := g.g1; have h2 := g.l1
  refine ⟨h0, ?_⟩
  split at h1 <;> omega
section
variable {G : World} {p p2 : Pt} {b b2 : Nat} {t : Int} {q : List HP} {a a' : Option Addr} {c c' : Nat} {l m : List Int}
theorem come_ok (g : p.Good) (ht : -9223372036854775808 ≤ t ∧ t ≤ 9223372036854775807) : CallF Try.prog G 13 [.pointer (some ⟨b, 0, none⟩), refV p a c, .int .i64 t] [PtH b p, lsM I 3 a c p.kept] (Ret fun v q' => ∃ a' c', v = .tuple [refV (p.come t).1 a' c', .bool true].toArray ∧ q' = [PtH b (p.come t).1, lsM I 3 a' c' (p.come t).1.kept, lsM I 3 a c p.kept]) := by
  refine CallF.of Try.func13 Try.ntmps13 rfl (fun F cs => ?_)
  refine X.sub (p' := [(0, _), (1, _), (2, _)]) ⟨rfl, rfl, rfl, trivial⟩ ?_
  refine X.seq ?_
  refine X.region ?_
  refine XO.ef (Ef.box rfl) ?_
  rintro _ _ ⟨n1, rfl, rfl⟩
  refine XO.ef (Ef.alloc Try.zeroValue27) ?_
  rintro _ _ ⟨n2, rfl, rfl⟩
  refine XO.pu (Pu.assign rfl) ?_
  refine XO.nil ?_
  refine X.sub (p' := [(7, _), (6, _), (4, _), (0, _), (2, _)]) ⟨rfl, rfl, rfl, rfl, rfl, trivial⟩ ?_
  refine X.seq ?_
  refine X.region ?_
  refine XO.rd (Rd.loadA rfl Try.isAgg27 Try.sizeOf27 (by repeat first | exact Has.pto _ _ _ | exact Has.im _ _ _ | refine Has.there ?_) (by rfl)) ?_
  refine XO.pu (Pu.move rfl) ?_
  refine XO.callF Try.call15 (RCome_ok (p := p) (a := a) (c := c) (t := t) g.ok (fun _ => g.l0) g.gone_le ht) rfl (by repeat (first | exact Le.refl _ | refine Le.pick (by repeat first | exact Le.here _ _ | apply Le.there) ?_ | refine Le.lose ?_)) ?_
  rintro _ _ ⟨a2, c2, rfl, rfl⟩ q_ hq_
  simp only [List.cons_append, List.nil_append] at hq_; subst hq_
  refine XO.pu (Pu.move rfl) ?_
  refine XO.pu (Pu.extract rfl rfl) ?_
  refine XO.pu (Pu.extract rfl rfl) ?_
  refine XO.pu (Pu.extract rfl rfl) ?_
  refine XO.pu (Pu.extract rfl rfl) ?_
  refine XO.ef (Ef.alloc Try.zeroValue27) ?_
  rintro _ _ ⟨n3, rfl, rfl⟩
  refine XO.ef0 (Ef.storeA rfl rfl Try.sizeOf27 rfl rfl (by repeat first | exact Le.here _ _ | apply Le.there) rfl) ?_
  rintro _ _ ⟨rfl, rfl⟩
  refine XO.pu (Pu.assign rfl) ?_
  refine XO.pu (Pu.assign rfl) ?_
  refine XO.pu (Pu.assign rfl) ?_
  refine XO.nil ?_
  refine X.sub (p' := [(11, _), (10, _), (9, _), (8, _), (7, _), (6, _), (0, _), (2, _)]) ⟨rfl, rfl, rfl, rfl, rfl, rfl, rfl, rfl, trivial⟩ ?_
  refine X.seq ?_
  refine X.region ?_
  refine XO.pu (Pu.move rfl) ?_
  refine XO.pu (Pu.move rfl) ?_
  refine XO.callF Try.call17 (Come_ok (p := p) (b := b) (t := t) g.ok g.gone_le ht) rfl (by repeat (first | exact Le.refl _ | refine Le.pick (by repeat first | exact Le.here _ _ | apply Le.there) ?_ | refine Le.lose ?_)) ?_
  rintro _ _ ⟨rfl, rfl⟩ q_ hq_
  simp only [List.cons_append, List.nil_append] at hq_; subst hq_
  generalize p.come t = r
  refine XO.pu (Pu.move rfl) ?_
  refine XO.pu (Pu.extract rfl rfl) ?_
  refine XO.pu (Pu.extract rfl rfl) ?_
  refine XO.pu (Pu.extract rfl rfl) ?_
  refine XO.pu (Pu.assign rfl) ?_
  refine XO.pu (Pu.assign rfl) ?_
  refine XO.pu (Pu.assign rfl) ?_
  refine XO.nil ?_
  refine X.sub (p' := [(14, _), (13, _), (12, _), (11, _), (10, _), (9, _), (8, _), (7, _), (6, _)]) ⟨rfl, rfl, rfl, rfl, rfl, rfl, rfl, rfl, rfl, trivial⟩ ?_
  refine X.seq ?_
  refine X.draw [] Try.mixed (by kernel_rfl) (by kernel_rfl) rfl ?_
  refine XD.loadA 0 rfl rfl Try.isAgg27 Try.sizeOf27 (by repeat first | exact Has.pto _ _ _ | exact Has.im _ _ _ | refine Has.there ?_) (by rfl) ?_
  refine XD.pu 1 rfl (Pu.move rfl) ?_
  refine XD.pu 2 rfl (Pu.move rfl) ?_
  refine XD.pu 3 rfl (Pu.eqlB rfl rfl Try.underlying4) ?_
  refine XD.pu 4 rfl (Pu.move rfl) ?_
  refine XD.know 34 (.bool true) rfl (congrArg Value.bool (by simp)) ?_
  refine XD.pu 5 rfl (Pu.move rfl) ?_
  refine XD.pu 6 rfl (Pu.move rfl) ?_
  refine XD.pu 7 rfl (Pu.eql rfl rfl) ?_
  refine XD.pu 8 rfl (Pu.pickT rfl rfl) ?_
  refine XD.pu 9 rfl (Pu.move rfl) ?_
  refine XD.know 39 (.bool true) rfl (congrArg Value.bool (by simp)) ?_
  refine XD.pu 10 rfl (Pu.move rfl) ?_
  refine XD.pu 12 rfl (Pu.move rfl) ?_
  refine XD.callF 11 Try.call20 (num_ok _) rfl rfl (by repeat (first | exact Le.refl _ | refine Le.pick (by repeat first | exact Le.here _ _ | apply Le.there) ?_ | refine Le.lose ?_)) ?_
  rintro _ _ ⟨rfl, rfl⟩ q_ hq_
  simp only [List.cons_append, List.nil_append] at hq_; subst hq_
  refine ⟨⟨(Cl.of (by repeat first | exact Has.pto _ _ _ | exact Has.im _ _ _ | refine Has.there ?_) (by rfl)), (Cl.of (by repeat first | exact Has.pto _ _ _ | exact Has.im _ _ _ | refine Has.there ?_) (by rfl)), (Cl.of (by repeat first | exact Has.pto _ _ _ | exact Has.im _ _ _ | refine Has.there ?_) (by rfl)), (Cl.of (by repeat first | exact Has.pto _ _ _ | exact Has.im _ _ _ | refine Has.there ?_) (by rfl)), (Cl.of (by repeat first | exact Has.pto _ _ _ | exact Has.im _ _ _ | refine Has.there ?_) (by rfl)), trivial⟩, ?_⟩
  refine XD.pu 13 rfl (Pu.eql rfl rfl) ?_
  refine XD.pu 14 rfl (Pu.pickT rfl rfl) ?_
  refine XD.ef0 15 rfl (Ef.storeA rfl rfl Try.sizeOf27 rfl rfl (by repeat first | exact Le.here _ _ | apply Le.there) rfl) ?_
  rintro _ _ ⟨rfl, rfl⟩
  refine ⟨trivial, ?_⟩
  refine XD.pu 16 rfl (Pu.assign rfl) ?_
  refine XD.nil ?_
  refine X.sub (p' := [(7, _), (6, _)]) ⟨rfl, rfl, trivial⟩ ?_
  refine X.ret ⟨rfl, Lv.ret (q' := [PtH b r.1, lsM I 3 a2 c2 r.1.kept, lsM I 3 a c p.kept]) Try.func13 (resC Try.results13 (ResOk.cell rfl (LV.agg Try.isAgg27 Try.sizeOf27 (by repeat first | exact Has.pto _ _ _ | exact Has.im _ _ _ | refine Has.there ?_) rfl) (ResOk.tmp rfl ResOk.nil))) ⟨_, rfl, a2, c2, by simp; rfl, rfl⟩ (by repeat (first | exact Le.refl _ | refine Le.pick (by repeat first | exact Le.here _ _ | apply Le.there) ?_ | refine Le.lose ?_))⟩
end
end Go.Proofs.Ytjfkkdohpfbilaa

