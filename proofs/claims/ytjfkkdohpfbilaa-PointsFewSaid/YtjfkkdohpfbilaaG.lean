/- What functions of package points, and of its laws, do: contracts of calls, proved by walking their code. -/
import Derived.Test.YtjfkkdohpfbilaaF
import Derived.KernelRfl
set_option maxRecDepth 100000
set_option linter.unusedVariables false
set_option linter.unusedSimpArgs false
namespace Go.Proofs.Ytjfkkdohpfbilaa
open Go Go.RowKit Wx

/-- What holds of Points all the time. -/
structure Pt.Good (p : Pt) : Prop where
  ok : p.Ok
  so : p.kept.Pairwise (· < ·)
  la : ∀ x ∈ p.kept, x ≤ p.last
  l0 : 0 ≤ p.last
  l1 : p.last ≤ 1099511627776
  l2 : p.came = false → p.last = 0 ∧ p.kept = []
  g0 : 0 ≤ p.gone
  g1 : p.kept.length + p.gone ≤ p.last + if p.came then 1 else 0
def bst (l : List Int) (t : Int) : Int := ((l.filter fun x => decide (x ≤ t)).getLast?).getD (-1)
theorem filt_le {l : List Int} (t : Int) (ho : l.Pairwise (· < ·)) : l.filter (fun x => decide (x ≤ t)) = l.take (if found l t then srch l t + 1 else srch l t) := by
  induction l with
  | nil => simp
  | cons x r ih =>
    obtain ⟨hx, hr⟩ := List.pairwise_cons.1 ho
    have ih := ih hr
    rcases Int.lt_trichotomy x t with h | h | h
    · have hs : srch (x :: r) t = srch r t + 1 := by simp [srch, h]
      have hf : found (x :: r) t = found r t := by unfold found; rw [hs]; simp
      rw [hf, hs, List.filter_cons_of_pos (by simp; omega), ih]
      split <;> simp
    · subst h
      have hs : srch (x :: r) x = 0 := by
        unfold srch; rw [List.filter_cons_of_neg (by simp)]
        simp only [List.length_eq_zero_iff, List.filter_eq_nil_iff]
        intro y hy; have := hx y hy; simp; omega
      have hf : found (x :: r) x = true := by unfold found; rw [hs]; simp
      rw [hf, hs, List.filter_cons_of_pos (by simp), List.filter_eq_nil_iff.2]
      · simp
      · intro y hy; have := hx y hy; simp; omega
    · have hs : srch (x :: r) t = 0 := by
        unfold srch; rw [List.filter_cons_of_neg (by simp; omega)]
        simp only [List.length_eq_zero_iff, List.filter_eq_nil_iff]
        intro y hy; have := hx y hy; simp; omega
      have hf : found (x :: r) t = false := by unfold found; rw [hs]; simp; omega
      rw [hf, hs, List.filter_cons_of_neg (by simp; omega), List.filter_eq_nil_iff.2]
      · simp
      · intro y hy; have := hx y hy; simp; omega
theorem found_lt {l : List Int} {t : Int} (h : found l t = true) : ∃ h : srch l t < l.length, l[srch l t] = t := by
  unfold found at h
  have h := of_decide_eq_true h
  exact List.getElem?_eq_some_iff.1 h
theorem bst_found {l : List Int} {t : Int} (ho : l.Pairwise (· < ·)) (h : found l t = true) : bst l t = t := by
  obtain ⟨h1, h2⟩ := found_lt h
  unfold bst
  rw [filt_le t ho, h, if_pos rfl, List.take_succ_eq_append_getElem h1, h2]
  simp
theorem bst_zero {l : List Int} {t : Int} (ho : l.Pairwise (· < ·)) (h : found l t = false) (h0 : srch l t = 0) : bst l t = -1 := by
  unfold bst; rw [filt_le t ho, h, h0]; simp
theorem bst_some {l : List Int} {t : Int} (ho : l.Pairwise (· < ·)) (h : found l t = false) {n : Nat} (h0 : srch l t = n + 1) (hn : n < l.length) : bst l t = l[n] := by
  unfold bst; rw [filt_le t ho, h, h0]; simp only [Bool.false_eq_true, if_false]
  rw [List.take_succ_eq_append_getElem hn, List.getLast?_concat]
  rfl
theorem bst_mem (l : List Int) (t : Int) : bst l t = -1 ∨ (bst l t ∈ l ∧ bst l t ≤ t) := by
  unfold bst
  cases h : (l.filter fun x => decide (x ≤ t)).getLast? with
  | none => simp
  | some y =>
    right
    have := List.mem_filter.1 (List.mem_of_getLast? h)
    simpa using this
section
variable {G : World} {p p2 : Pt} {b b2 : Nat} {t : Int} {q : List HP} {a a' : Option Addr} {c c' : Nat} {l m : List Int}
theorem Best_ok (g : p.Good) (t0 : 0 ≤ t ∨ True) : CallF Try.prog G 22 [.pointer (some ⟨b, 0, none⟩), .int .i64 t] [PtH b p] (Ret fun v q => v = .tuple [.int .i64 (if bst p.kept t < 0 then 0 else bst p.kept t), .bool (decide (0 ≤ bst p.kept t))].toArray ∧ q = [PtH b p]) := by
  refine CallF.of Try.func22 Try.ntmps22 rfl (fun F cs => ?_)
  refine X.sub (p' := [(0, _), (1, _)]) ⟨rfl, rfl, trivial⟩ ?_
  have ok := g.ok; have k1 := ok.k1; have k2 := ok.k2; have m2 := ok.m2; have hb := bst_mem p.kept t
  refine X.open (fun a c => ?_)
  refine X.seq ?_
  refine X.region ?_
  refine XO.pu (Pu.assign rfl) ?_
  refine XO.pu (Pu.assign rfl) ?_
  refine XO.nil ?_
  refine X.sub (p' := [(5, _), (4, _), (0, _), (1, _)]) ⟨rfl, rfl, rfl, rfl, trivial⟩ ?_
  refine X.seq ?_
  refine X.seq ?_
  refine X.region ?_
  refine XO.pu (Pu.move rfl) ?_
  refine XO.callF Try.call29 (there_some (every := p.every) ok.e1) rfl (by repeat (first | exact Le.refl _ | refine Le.pick (by repeat first | exact Le.here _ _ | apply Le.there) ?_ | refine Le.lose ?_)) ?_
  rintro _ _ ⟨rfl, rfl⟩ q_ hq_
  simp only [List.cons_append, List.nil_append] at hq_; subst hq_
  refine XO.pu (Pu.not rfl) ?_
  refine XO.nil ?_
  refine X.sub (p' := [(10, _), (5, _), (4, _), (0, _), (1, _)]) ⟨rfl, rfl, rfl, rfl, rfl, trivial⟩ ?_
  refine X.condF rfl ?_
  refine X.skip ?_
  refine X.seq ?_
  refine X.region ?_
  refine XO.pu (Pu.move rfl) ?_
  refine XO.pu (Pu.nilCheck rfl) ?_
  refine XO.pu (Pu.fieldAddr 22 2 0 rfl Try.underlying60 rfl Try.sizeOf22) ?_
  refine XO.rd (Rd.load rfl Try.isAgg22 (Cl.of (by repeat first | exact Has.pto _ _ _ | exact Has.im _ _ _ | refine Has.there ?_) (by rfl))) ?_
  refine XO.pu (Pu.move rfl) ?_
  refine XO.callF Try.call34 (Search_ok (q := [pto b (ptsO p.every p.most (.slice a p.kept.length c) p.gone p.last p.came), lsH I 3 a c p.kept]) (l := p.kept) (a := a) (c := c) (t := t) (Sees.lsH _).there (by omega) g.so) rfl (by repeat (first | exact Le.refl _ | refine Le.pick (by repeat first | exact Le.here _ _ | apply Le.there) ?_ | refine Le.lose ?_)) ?_
  rintro _ _ ⟨rfl, rfl⟩ q_ hq_
  simp only [List.cons_append, List.nil_append] at hq_; subst hq_
  refine XO.pu (Pu.move rfl) ?_
  refine XO.pu (Pu.extract rfl rfl) ?_
  refine XO.pu (Pu.extract rfl rfl) ?_
  refine XO.pu (Pu.assign rfl) ?_
  refine XO.pu (Pu.assign rfl) ?_
  refine XO.nil ?_
  refine X.sub (p' := [(7, _), (6, _), (5, _), (4, _), (0, _), (1, _)]) ⟨rfl, rfl, rfl, rfl, rfl, rfl, trivial⟩ ?_
  refine X.seq ?_
  refine X.seq ?_
  refine X.region ?_
  refine XO.pu (Pu.move rfl) ?_
  refine XO.nil ?_
  refine X.sub (p' := [(20, _), (6, _), (5, _), (4, _), (0, _), (1, _)]) ⟨rfl, rfl, rfl, rfl, rfl, rfl, trivial⟩ ?_
  refine X.cond rfl (fun h1 => ?_) (fun h1 => ?_)
  · skip
    have h2 := bst_found g.so h1
    have h3 : 0 ≤ t := by obtain ⟨h4, h5⟩ := found_lt h1; have := (k2 _ (List.getElem_mem h4)).1; omega
    refine X.seq ?_
    refine X.region ?_
    refine XO.pu (Pu.move rfl) ?_
    refine XO.pu (Pu.assign rfl) ?_
    refine XO.pu (Pu.assign rfl) ?_
    refine XO.nil ?_
    refine X.sub (p' := [(5, _), (4, _), (6, _), (0, _)]) ⟨rfl, rfl, rfl, rfl, trivial⟩ ?_
    refine X.ret ⟨rfl, Lv.ret (q' := [PtH b p]) Try.func22 (res2 Try.results22 rfl rfl) ⟨_, rfl, by rw [h2, if_neg (by omega), decide_eq_true h3], rfl⟩ (PtH.close (a := a) (c := c) (by repeat (first | exact Le.refl _ | refine Le.pick (by repeat first | exact Le.here _ _ | apply Le.there) ?_ | refine Le.lose ?_)))⟩
  · skip
    refine X.skip ?_
    refine X.seq ?_
    refine X.seq ?_
    refine X.region ?_
    refine XO.pu (Pu.move rfl) ?_
    refine XO.pu (Pu.eql rfl rfl) ?_
    refine XO.nil ?_
    refine X.sub (p' := [(23, _), (6, _), (5, _), (4, _), (0, _)]) ⟨rfl, rfl, rfl, rfl, rfl, trivial⟩ ?_
    refine X.cond rfl (fun h2 => ?_) (fun h2 => ?_)
    · skip
      have h2 : srch p.kept t = 0 := by simpa using h2
      have h3 := bst_zero g.so h1 h2
      refine X.seq ?_
      refine X.region ?_
      refine XO.pu (Pu.assign rfl) ?_
      refine XO.pu (Pu.assign rfl) ?_
      refine XO.nil ?_
      refine X.sub (p' := [(5, _), (4, _), (6, _), (0, _)]) ⟨rfl, rfl, rfl, rfl, trivial⟩ ?_
      refine X.ret ⟨rfl, Lv.ret (q' := [PtH b p]) Try.func22 (res2 Try.results22 rfl rfl) ⟨_, rfl, by rw [h3]; rfl, rfl⟩ (PtH.close (a := a) (c := c) (by repeat (first | exact Le.refl _ | refine Le.pick (by repeat first | exact Le.here _ _ | apply Le.there) ?_ | refine Le.lose ?_)))⟩
    · skip
      have h2 : srch p.kept t ≠ 0 := by simpa using h2
      have hle := srch_le p.kept t
      have h3 := bst_some g.so h1 (n := srch p.kept t - 1) (by omega) (by omega)
      have h4 := (k2 _ (List.getElem_mem (l := p.kept) (n := srch p.kept t - 1) (by omega))).1
      have hs : Sees (pto b (ptsO p.every p.most (.slice a p.kept.length c) p.gone p.last p.came) :: lsH I 3 a c p.kept :: F) a (p.kept.map I) := (Sees.lsH _).there
      refine X.addr hs (by simp; omega) (fun ba oa ea => ?_); subst ea
      refine X.skip ?_
      refine X.seq ?_
      refine X.region ?_
      refine XO.pu (Pu.move rfl) ?_
      refine XO.pu (Pu.nilCheck rfl) ?_
      refine XO.pu (Pu.fieldAddr 22 2 0 rfl Try.underlying60 rfl Try.sizeOf22) ?_
      refine XO.rd (Rd.load rfl Try.isAgg22 (by first | exact Cl.of (by repeat first | exact Has.pto _ _ _ | exact Has.im _ _ _ | refine Has.there ?_) (by rfl) | exact hs.at (n := srch p.kept t - 1) (by omega) (by omega))) ?_
      refine XO.pu (Pu.move rfl) ?_
      refine XO.pu (Pu.sub rfl rfl (by omega) (by omega)) ?_
      refine XO.pu (Pu.indexAddr rfl rfl Try.underlying22 Try.sizeOf3 (by omega) (by omega)) ?_
      refine XO.rd (Rd.load rfl Try.isAgg3 (by first | exact Cl.of (by repeat first | exact Has.pto _ _ _ | exact Has.im _ _ _ | refine Has.there ?_) (by rfl) | exact hs.at (n := srch p.kept t - 1) (by omega) (by omega))) ?_
      refine XO.pu (Pu.assign rfl) ?_
      refine XO.pu (Pu.assign rfl) ?_
      refine XO.nil ?_
      refine X.sub (p' := [(5, _), (4, _)]) ⟨rfl, rfl, trivial⟩ ?_
      refine X.ret ⟨rfl, Lv.ret (q' := [PtH b p]) Try.func22 (res2 Try.results22 rfl rfl) ⟨_, rfl, by rw [h3, if_neg (by omega), decide_eq_true h4], rfl⟩ (PtH.close (a := some ⟨ba, oa, none⟩) (c := c) (by repeat (first | exact Le.refl _ | refine Le.pick (by repeat first | exact Le.here _ _ | apply Le.there) ?_ | refine Le.lose ?_)))⟩
theorem Best_nil  : CallF Try.prog G 22 [.pointer none, .int .i64 t] [] (Ret fun v q => v = .tuple [.int .i64 0, .bool false].toArray ∧ q = []) := by
  refine CallF.of Try.func22 Try.ntmps22 rfl (fun F cs => ?_)
  refine X.sub (p' := [(0, _), (1, _)]) ⟨rfl, rfl, trivial⟩ ?_
  refine X.seq ?_
  refine X.region ?_
  refine XO.pu (Pu.assign rfl) ?_
  refine XO.pu (Pu.assign rfl) ?_
  refine XO.nil ?_
  refine X.sub (p' := [(5, _), (4, _), (0, _), (1, _)]) ⟨rfl, rfl, rfl, rfl, trivial⟩ ?_
  refine X.seq ?_
  refine X.seq ?_
  refine X.region ?_
  refine XO.pu (Pu.move rfl) ?_
  refine XO.callF Try.call29 (there_nil) rfl (by repeat (first | exact Le.refl _ | refine Le.pick (by repeat first | exact Le.here _ _ | apply Le.there) ?_ | refine Le.lose ?_)) ?_
  rintro _ _ ⟨rfl, rfl⟩ q_ hq_
  simp only [List.cons_append, List.nil_append] at hq_; subst hq_
  refine XO.pu (Pu.not rfl) ?_
  refine XO.nil ?_
  refine X.sub (p' := [(10, _), (5, _), (4, _), (0, _), (1, _)]) ⟨rfl, rfl, rfl, rfl, rfl, trivial⟩ ?_
  refine X.condT rfl ?_
  refine X.seq ?_
  refine X.region ?_
  refine XO.pu (Pu.assign rfl) ?_
  refine XO.pu (Pu.assign rfl) ?_
  refine XO.nil ?_
  refine X.sub (p' := [(5, _), (4, _), (0, _), (1, _)]) ⟨rfl, rfl, rfl, rfl, trivial⟩ ?_
  refine X.ret ⟨rfl, Lv.ret (q' := []) Try.func22 (res2 Try.results22 rfl rfl) ⟨_, rfl, rfl, rfl⟩ (by repeat (first | exact Le.refl _ | refine Le.pick (by repeat first | exact Le.here _ _ | apply Le.there) ?_ | refine Le.lose ?_))⟩
theorem Far_ok (g : p.Good) (ht : -9223372036854775808 ≤ t ∧ t ≤ 9223372036854775807) : CallF Try.prog G 19 [.pointer (some ⟨b, 0, none⟩), .int .i64 t] [PtH b p] (Ret fun v q => v = .tuple [.int .i64 (if bst p.kept t < 0 then 0 else t - bst p.kept t), .int .i64 (if bst p.kept t < 0 then 5 else 0)].toArray ∧ q = [PtH b p]) := by
  refine CallF.of Try.func19 Try.ntmps19 rfl (fun F cs => ?_)
  refine X.sub (p' := [(0, _), (1, _)]) ⟨rfl, rfl, trivial⟩ ?_
  have ok := g.ok; have hb := bst_mem p.kept t; have hk2 := ok.k2
  refine X.open (fun a c => ?_)
  refine X.seq ?_
  refine X.region ?_
  refine XO.pu (Pu.assign rfl) ?_
  refine XO.pu (Pu.assign rfl) ?_
  refine XO.nil ?_
  refine X.sub (p' := [(5, _), (4, _), (0, _), (1, _)]) ⟨rfl, rfl, rfl, rfl, trivial⟩ ?_
  refine X.seq ?_
  refine X.seq ?_
  refine X.region ?_
  refine XO.pu (Pu.move rfl) ?_
  refine XO.callF Try.call29 (there_some (every := p.every) ok.e1) rfl (by repeat (first | exact Le.refl _ | refine Le.pick (by repeat first | exact Le.here _ _ | apply Le.there) ?_ | refine Le.lose ?_)) ?_
  rintro _ _ ⟨rfl, rfl⟩ q_ hq_
  simp only [List.cons_append, List.nil_append] at hq_; subst hq_
  refine XO.pu (Pu.not rfl) ?_
  refine XO.nil ?_
  refine X.sub (p' := [(10, _), (5, _), (4, _), (0, _), (1, _)]) ⟨rfl, rfl, rfl, rfl, rfl, trivial⟩ ?_
  refine X.condF rfl ?_
  refine X.skip ?_
  refine X.seq ?_
  refine X.region ?_
  refine XO.pu (Pu.move rfl) ?_
  refine XO.pu (Pu.move rfl) ?_
  refine XO.le (q' := PtH b p :: F) (PtH.close (a := a) (c := c) (by repeat (first | exact Le.refl _ | refine Le.pick (by repeat first | exact Le.here _ _ | apply Le.there) ?_ | refine Le.lose ?_))) ?_
  refine XO.callF Try.call22 (Best_ok (b := b) (t := t) g (.inr trivial)) rfl (by repeat (first | exact Le.refl _ | refine Le.pick (by repeat first | exact Le.here _ _ | apply Le.there) ?_ | refine Le.lose ?_)) ?_
  rintro _ _ ⟨rfl, rfl⟩ q_ hq_
  simp only [List.cons_append, List.nil_append] at hq_; subst hq_
  refine XO.pu (Pu.move rfl) ?_
  refine XO.pu (Pu.extract rfl rfl) ?_
  refine XO.pu (Pu.extract rfl rfl) ?_
  refine XO.pu (Pu.assign rfl) ?_
  refine XO.pu (Pu.assign rfl) ?_
  refine XO.nil ?_
  refine X.sub (p' := [(7, _), (6, _), (5, _), (4, _), (1, _)]) ⟨rfl, rfl, rfl, rfl, rfl, trivial⟩ ?_
  refine X.seq ?_
  refine X.seq ?_
  refine X.region ?_
  refine XO.pu (Pu.move rfl) ?_
  refine XO.pu (Pu.not rfl) ?_
  refine XO.nil ?_
  refine X.sub (p' := [(18, _), (6, _), (5, _), (4, _), (1, _)]) ⟨rfl, rfl, rfl, rfl, rfl, trivial⟩ ?_
  refine X.cond rfl (fun h1 => ?_) (fun h1 => ?_)
  · skip
    have h1 : bst p.kept t < 0 := by simpa using h1
    refine X.seq ?_
    refine X.region ?_
    refine XO.pu (Pu.assign rfl) ?_
    refine XO.pu (Pu.assign rfl) ?_
    refine XO.nil ?_
    refine X.sub (p' := [(5, _), (4, _), (6, _), (1, _)]) ⟨rfl, rfl, rfl, rfl, trivial⟩ ?_
    refine X.ret ⟨rfl, Lv.ret (q' := [PtH b p]) Try.func19 (res2 Try.results19 rfl rfl) ⟨_, rfl, by rw [if_pos h1, if_pos h1], rfl⟩ (by repeat (first | exact Le.refl _ | refine Le.pick (by repeat first | exact Le.here _ _ | apply Le.there) ?_ | refine Le.lose ?_))⟩
  · skip
    have h1 : ¬ bst p.kept t < 0 := by simpa using h1
    have h2 := hk2 _ (by rcases hb with h | h; omega; exact h.1 : bst p.kept t ∈ p.kept)
    refine X.know 6 (.int .i64 (bst p.kept t)) rfl (by rw [if_neg h1]) ?_
    refine X.skip ?_
    refine X.seq ?_
    refine X.region ?_
    refine XO.pu (Pu.move rfl) ?_
    refine XO.pu (Pu.move rfl) ?_
    refine XO.pu (Pu.sub rfl rfl (by omega) (by omega)) ?_
    refine XO.pu (Pu.assign rfl) ?_
    refine XO.pu (Pu.assign rfl) ?_
    refine XO.nil ?_
    refine X.sub (p' := [(5, _), (4, _)]) ⟨rfl, rfl, trivial⟩ ?_
    refine X.ret ⟨rfl, Lv.ret (q' := [PtH b p]) Try.func19 (res2 Try.results19 rfl rfl) ⟨_, rfl, by rw [if_neg h1, if_neg h1], rfl⟩ (by repeat (first | exact Le.refl _ | refine Le.pick (by repeat first | exact Le.here _ _ | apply Le.there) ?_ | refine Le.lose ?_))⟩
theorem Far_nil  : CallF Try.prog G 19 [.pointer none, .int .i64 t] [] (Ret fun v q => v = .tuple [.int .i64 0, .int .i64 1].toArray ∧ q = []) := by
  refine CallF.of Try.func19 Try.ntmps19 rfl (fun F cs => ?_)
  refine X.sub (p' := [(0, _), (1, _)]) ⟨rfl, rfl, trivial⟩ ?_
  refine X.seq ?_
  refine X.region ?_
  refine XO.pu (Pu.assign rfl) ?_
  refine XO.pu (Pu.assign rfl) ?_
  refine XO.nil ?_
  refine X.sub (p' := [(5, _), (4, _), (0, _), (1, _)]) ⟨rfl, rfl, rfl, rfl, trivial⟩ ?_
  refine X.seq ?_
  refine X.seq ?_
  refine X.region ?_
  refine XO.pu (Pu.move rfl) ?_
  refine XO.callF Try.call29 (there_nil) rfl (by repeat (first | exact Le.refl _ | refine Le.pick (by repeat first | exact Le.here _ _ | apply Le.there) ?_ | refine Le.lose ?_)) ?_
  rintro _ _ ⟨rfl, rfl⟩ q_ hq_
  simp only [List.cons_append, List.nil_append] at hq_; subst hq_
  refine XO.pu (Pu.not rfl) ?_
  refine XO.nil ?_
  refine X.sub (p' := [(10, _), (5, _), (4, _), (0, _), (1, _)]) ⟨rfl, rfl, rfl, rfl, rfl, trivial⟩ ?_
  refine X.condT rfl ?_
  refine X.seq ?_
  refine X.region ?_
  refine XO.pu (Pu.assign rfl) ?_
  refine XO.pu (Pu.assign rfl) ?_
  refine XO.nil ?_
  refine X.sub (p' := [(5, _), (4, _), (0, _), (1, _)]) ⟨rfl, rfl, rfl, rfl, trivial⟩ ?_
  refine X.ret ⟨rfl, Lv.ret (q' := []) Try.func19 (res2 Try.results19 rfl rfl) ⟨_, rfl, rfl, rfl⟩ (by repeat (first | exact Le.refl _ | refine Le.pick (by repeat first | exact Le.here _ _ | apply Le.there) ?_ | refine Le.lose ?_))⟩
theorem Copy_ok (ok : p.Ok) : CallF Try.prog G 24 [.pointer (some ⟨b, 0, none⟩)] [PtH b p] (Ret fun v q => ∃ b2, v = .pointer (some ⟨b2, 0, none⟩) ∧ q = [PtH b2 p, PtH b p]) := by
  refine CallF.of Try.func24 Try.ntmps24 rfl (fun F cs => ?_)
  refine X.sub (p' := [(0, _)]) ⟨rfl, trivial⟩ ?_
  have k1 := ok.k1; have m2 := ok.m2
  refine X.open (fun a c => ?_)
  refine X.seq ?_
  refine X.region ?_
  refine XO.pu (Pu.assign rfl) ?_
  refine XO.nil ?_
  refine X.sub (p' := [(2, _), (0, _)]) ⟨rfl, rfl, trivial⟩ ?_
  refine X.seq ?_
  refine X.seq ?_
  refine X.region ?_
  refine XO.pu (Pu.move rfl) ?_
  refine XO.callF Try.call29 (there_some (every := p.every) ok.e1) rfl (by repeat (first | exact Le.refl _ | refine Le.pick (by repeat first | exact Le.here _ _ | apply Le.there) ?_ | refine Le.lose ?_)) ?_
  rintro _ _ ⟨rfl, rfl⟩ q_ hq_
  simp only [List.cons_append, List.nil_append] at hq_; subst hq_
  refine XO.pu (Pu.not rfl) ?_
  refine XO.nil ?_
  refine X.sub (p' := [(6, _), (2, _), (0, _)]) ⟨rfl, rfl, rfl, trivial⟩ ?_
  refine X.condF rfl ?_
  refine X.skip ?_
  refine X.seq ?_
  refine X.region ?_
  refine XO.pu (Pu.move rfl) ?_
  refine XO.pu (Pu.nilCheck rfl) ?_
  refine XO.rd (Rd.loadA rfl Try.isAgg60 Try.sizeOf60 (by repeat first | exact Has.pto _ _ _ | exact Has.im _ _ _ | refine Has.there ?_) (by rfl)) ?_
  refine XO.ef (Ef.alloc Try.zeroValue60) ?_
  rintro _ _ ⟨n1, rfl, rfl⟩
  refine XO.ef0 (Ef.storeA rfl rfl Try.sizeOf60 rfl rfl (by repeat first | exact Le.here _ _ | apply Le.there) rfl) ?_
  rintro _ _ ⟨rfl, rfl⟩
  refine XO.nil ?_
  refine X.sub (p' := [(3, _), (2, _), (0, _)]) ⟨rfl, rfl, rfl, trivial⟩ ?_
  refine X.seq ?_
  refine X.region ?_
  refine XO.pu (Pu.move rfl) ?_
  refine XO.pu (Pu.nilCheck rfl) ?_
  refine XO.pu (Pu.fieldAddr 22 2 0 rfl Try.underlying60 rfl Try.sizeOf22) ?_
  refine XO.rd (Rd.load rfl Try.isAgg22 (Cl.of (by repeat first | exact Has.pto _ _ _ | exact Has.im _ _ _ | refine Has.there ?_) (by rfl))) ?_
  refine XO.callF Try.call33 (Clone_ok (q := [pto n1 (ptsO p.every p.most (.slice a p.kept.length c) p.gone p.last p.came), pto b (ptsO p.every p.most (.slice a p.kept.length c) p.gone p.last p.came), lsH I 3 a c p.kept]) (l := p.kept) (a := a) (c := c) (Sees.lsH _).there.there (by omega)) rfl (by repeat (first | exact Le.refl _ | refine Le.pick (by repeat first | exact Le.here _ _ | apply Le.there) ?_ | refine Le.lose ?_)) ?_
  rintro _ _ ⟨a2, c2, rfl, rfl⟩ q_ hq_
  simp only [List.cons_append, List.nil_append] at hq_; subst hq_
  refine XO.pu (Pu.fieldAddr 22 2 0 rfl Try.underlying60 rfl Try.sizeOf22) ?_
  refine XO.ef0 (Ef.store rfl rfl Try.sizeOf22 rfl rfl (by repeat first | exact Le.here _ _ | apply Le.there) rfl) ?_
  rintro _ _ ⟨rfl, rfl⟩
  refine XO.nil ?_
  refine X.sub (p' := [(3, _), (2, _)]) ⟨rfl, rfl, trivial⟩ ?_
  refine X.seq ?_
  refine X.region ?_
  refine XO.pu (Pu.assign rfl) ?_
  refine XO.nil ?_
  refine X.sub (p' := [(2, _)]) ⟨rfl, trivial⟩ ?_
  refine X.ret ⟨rfl, Lv.ret (q' := [PtH n1 p, PtH b p]) Try.func24 (res1 Try.results24 rfl) ⟨_, rfl, n1, rfl, rfl⟩ (PtH.close (a := a2) (c := c2) (Le.pick (by repeat first | exact Le.here _ _ | apply Le.there) (Le.pick (by repeat first | exact Le.here _ _ | apply Le.there) (PtH.close (a := a) (c := c) (by repeat (first | exact Le.refl _ | refine Le.pick (by repeat first | exact Le.here _ _ | apply Le.there) ?_ | refine Le.lose ?_))))))⟩
theorem Copy_nil  : CallF Try.prog G 24 [.pointer none] [] (Ret fun v q => v = .pointer none ∧ q = []) := by
  refine CallF.of Try.func24 Try.ntmps24 rfl (fun F cs => ?_)
  refine X.sub (p' := [(0, _)]) ⟨rfl, trivial⟩ ?_
  refine X.seq ?_
  refine X.region ?_
  refine XO.pu (Pu.assign rfl) ?_
  refine XO.nil ?_
  refine X.sub (p' := [(2, _), (0, _)]) ⟨rfl, rfl, trivial⟩ ?_
  refine X.seq ?_
  refine X.seq ?_
  refine X.region ?_
  refine XO.pu (Pu.move rfl) ?_
  refine XO.callF Try.call29 (there_nil) rfl (by repeat (first | exact Le.refl _ | refine Le.pick (by repeat first | exact Le.here _ _ | apply Le.there) ?_ | refine Le.lose ?_)) ?_
  rintro _ _ ⟨rfl, rfl⟩ q_ hq_
  simp only [List.cons_append, List.nil_append] at hq_; subst hq_
  refine XO.pu (Pu.not rfl) ?_
  refine XO.nil ?_
  refine X.sub (p' := [(6, _), (2, _), (0, _)]) ⟨rfl, rfl, rfl, trivial⟩ ?_
  refine X.condT rfl ?_
  refine X.seq ?_
  refine X.region ?_
  refine XO.pu (Pu.assign rfl) ?_
  refine XO.nil ?_
  refine X.sub (p' := [(2, _), (0, _)]) ⟨rfl, rfl, trivial⟩ ?_
  refine X.ret ⟨rfl, Lv.ret (q' := []) Try.func24 (res1 Try.results24 rfl) ⟨_, rfl, rfl, rfl⟩ (by repeat (first | exact Le.refl _ | refine Le.pick (by repeat first | exact Le.here _ _ | apply Le.there) ?_ | refine Le.lose ?_))⟩
theorem Equal_ok {a b : Option Addr} (ha : Sees q a (l.map I)) (hb : Sees q b (m.map I)) (hl : l.length ≤ 1000000) (hm : m.length ≤ 1000000) :
    CallF Try.prog G 35 [.slice a l.length c, .slice b m.length c'] q (Ret fun v q' => v = .bool (decide (l = m)) ∧ q' = q) := by
  refine CallF.of Try.func35 Try.ntmps35 rfl (fun F cs => ?_)
  refine X.sub (p' := [(0, _), (1, _)]) ⟨rfl, rfl, trivial⟩ ?_
  refine X.seq ?_
  refine X.region ?_
  refine XO.pu (Pu.assign rfl) ?_
  refine XO.nil ?_
  refine X.sub (p' := [(4, _), (0, _), (1, _)]) ⟨rfl, rfl, rfl, trivial⟩ ?_
  refine X.seq ?_
  refine X.seq ?_
  refine X.region ?_
  refine XO.pu (Pu.move rfl) ?_
  refine XO.pu (Pu.len rfl Try.underlying22) ?_
  refine XO.pu (Pu.move rfl) ?_
  refine XO.pu (Pu.len rfl Try.underlying22) ?_
  refine XO.pu (Pu.neq rfl rfl) ?_
  refine XO.nil ?_
  refine X.sub (p' := [(10, _), (4, _), (0, _), (1, _)]) ⟨rfl, rfl, rfl, rfl, trivial⟩ ?_
  refine X.cond rfl (fun h => ?_) (fun h => ?_)
  · skip
    refine X.seq ?_
    refine X.region ?_
    refine XO.pu (Pu.assign rfl) ?_
    refine XO.nil ?_
    refine X.sub (p' := [(4, _), (0, _), (1, _)]) ⟨rfl, rfl, rfl, trivial⟩ ?_
    refine X.ret ⟨rfl, Lv.ret (q' := q) Try.func35 (res1 Try.results35 rfl) ⟨_, rfl, congrArg Value.bool (decide_eq_false (fun e => by subst e; simp at h)).symm, rfl⟩ (by repeat (first | exact Le.refl _ | refine Le.pick (by repeat first | exact Le.here _ _ | apply Le.there) ?_ | refine Le.lose ?_))⟩
  · skip
    refine X.skip ?_
    refine X.seq ?_
    refine X.seq ?_
    refine X.region ?_
    refine XO.pu (Pu.move rfl) ?_
    refine XO.pu (Pu.len rfl Try.underlying22) ?_
    refine XO.pu (Pu.move rfl) ?_
    refine XO.nil ?_
    refine X.sub (p' := [(13, _), (12, _), (4, _), (0, _), (1, _)]) ⟨rfl, rfl, rfl, rfl, rfl, trivial⟩ ?_
    refine X.block ?_
    have hlen : l.length = m.length := by simp at h; omega
    have ha' : Sees (q ++ F) a (l.map I) := ha.le (Le.app_left q F)
    have hb' : Sees (q ++ F) b (m.map I) := hb.le (Le.app_left q F)
    refine X.at (X.loop (fun (s : Nat) => s ≤ l.length ∧ l.take s = m.take s) (fun s => [(13, .int .i64 (s : Int)), (12, .int .i64 l.length), (0, .slice a l.length c), (1, .slice b m.length c')]) (fun s => q ++ F) (fun s => l.length - s) (fun s hi_ ih => ?_) 0 ⟨by omega, by simp⟩) ⟨(by first | rfl | exact congrArg some (congrArg (Value.int _) (by omega))), (by first | rfl | exact congrArg some (congrArg (Value.int _) (by omega))), (by first | rfl | exact congrArg some (congrArg (Value.int _) (by omega))), (by first | rfl | exact congrArg some (congrArg (Value.int _) (by omega))), trivial⟩ (Le.refl _)
    try dsimp only at hi_ ih ⊢
    obtain ⟨hi, hpre⟩ := hi_
    refine X.seq ?_
    refine X.region ?_
    refine XO.pu (Pu.lss rfl rfl) ?_
    refine XO.nil ?_
    refine X.sub (p' := [(14, _), (13, _), (12, _), (0, _), (1, _)]) ⟨rfl, rfl, rfl, rfl, rfl, trivial⟩ ?_
    refine X.seq ?_
    refine X.cond rfl (fun h2 => ?_) (fun h2 => ?_)
    · skip
      have hlt : s < l.length := by have := of_decide_eq_true h2; omega
      refine X.addr ha' (by simp; omega) (fun ba oa ea => ?_); subst ea
      refine X.addr hb' (by simp; omega) (fun bb ob eb => ?_); subst eb
      refine X.skip ?_
      refine X.seq ?_
      refine X.block ?_
      refine X.seq ?_
      refine X.region ?_
      refine XO.pu (Pu.move rfl) ?_
      refine XO.pu (Pu.assign rfl) ?_
      refine XO.nil ?_
      refine X.sub (p' := [(5, _), (13, _), (12, _), (0, _), (1, _)]) ⟨rfl, rfl, rfl, rfl, rfl, trivial⟩ ?_
      refine X.seq ?_
      refine X.draw [] Try.mixed (by kernel_rfl) (by kernel_rfl) rfl ?_
      refine XD.pu 0 rfl (Pu.move rfl) ?_
      refine XD.pu 1 rfl (Pu.move rfl) ?_
      refine XD.pu 2 rfl (Pu.indexAddr rfl rfl Try.underlying22 Try.sizeOf3 (by omega) (by omega)) ?_
      refine XD.load 3 rfl rfl Try.isAgg3 (by first | exact ha'.at (n := s) rfl hlt | exact hb'.at (n := s) rfl (by omega)) ?_
      refine XD.pu 4 rfl (Pu.move rfl) ?_
      refine XD.pu 5 rfl (Pu.move rfl) ?_
      refine XD.pu 6 rfl (Pu.indexAddr rfl rfl Try.underlying22 Try.sizeOf3 (by omega) (by omega)) ?_
      refine XD.load 7 rfl rfl Try.isAgg3 (by first | exact ha'.at (n := s) rfl hlt | exact hb'.at (n := s) rfl (by omega)) ?_
      refine XD.pu 8 rfl (Pu.neq rfl rfl) ?_
      refine XD.nil ?_
      refine X.sub (p' := [(24, _), (13, _), (12, _), (0, _), (1, _)]) ⟨rfl, rfl, rfl, rfl, rfl, trivial⟩ ?_
      refine X.cond rfl (fun h3 => ?_) (fun h3 => ?_)
      · skip
        refine X.seq ?_
        refine X.region ?_
        refine XO.pu (Pu.assign rfl) ?_
        refine XO.nil ?_
        refine X.sub (p' := [(4, _), (13, _), (12, _), (0, _), (1, _)]) ⟨rfl, rfl, rfl, rfl, rfl, trivial⟩ ?_
        refine X.ret ⟨rfl, Lv.ret (q' := q) Try.func35 (res1 Try.results35 rfl) ⟨_, rfl, congrArg Value.bool (decide_eq_false (fun e => by subst e; simp at h3)).symm, rfl⟩ (by repeat (first | exact Le.refl _ | refine Le.pick (by repeat first | exact Le.here _ _ | apply Le.there) ?_ | refine Le.lose ?_))⟩
      · skip
        refine X.skip ?_
        refine X.inBlock ?_
        refine X.region ?_
        refine XO.pu (Pu.add rfl rfl (by omega) (by omega)) ?_
        refine XO.pu (Pu.move rfl) ?_
        refine XO.nil ?_
        refine X.sub (p' := [(13, _), (12, _), (0, _), (1, _)]) ⟨rfl, rfl, rfl, rfl, trivial⟩ ?_
        have heq : l[s] = m[s] := by simpa using h3
        refine X.at (ih (s + 1) ⟨by omega, by rw [List.take_succ_eq_append_getElem hlt, List.take_succ_eq_append_getElem (by omega), hpre, heq]⟩ (by omega)) ⟨(by first | rfl | exact congrArg some (congrArg (Value.int _) (by omega))), (by first | rfl | exact congrArg some (congrArg (Value.int _) (by omega))), (by first | rfl | exact congrArg some (congrArg (Value.int _) (by omega))), (by first | rfl | exact congrArg some (congrArg (Value.int _) (by omega))), trivial⟩ (Le.refl _)
    · skip
      have hge : s = l.length := by have := of_decide_eq_false h2; omega
      have heq : l = m := by have := hpre; rw [hge, List.take_length, hlen, List.take_length] at this; exact this
      refine X.exit rfl ?_
      refine X.seq ?_
      refine X.region ?_
      refine XO.pu (Pu.assign rfl) ?_
      refine XO.nil ?_
      refine X.sub (p' := [(4, _)]) ⟨rfl, trivial⟩ ?_
      refine X.ret ⟨rfl, Lv.ret (q' := q) Try.func35 (res1 Try.results35 rfl) ⟨_, rfl, congrArg Value.bool (decide_eq_true heq).symm, rfl⟩ (by repeat (first | exact Le.refl _ | refine Le.pick (by repeat first | exact Le.here _ _ | apply Le.there) ?_ | refine Le.lose ?_))⟩
theorem Same_ok (ok : p.Ok) (ok2 : p2.Ok) : CallF Try.prog G 25 [.pointer (some ⟨b, 0, none⟩), .pointer (some ⟨b2, 0, none⟩)] [PtH b p, PtH b2 p2] (Ret fun v q => ∃ r : Bool, v = .bool r ∧ (r = true ↔ p = p2) ∧ q = [PtH b p, PtH b2 p2]) := by
  refine CallF.of Try.func25 Try.ntmps25 rfl (fun F cs => ?_)
  refine X.sub (p' := [(0, _), (1, _)]) ⟨rfl, rfl, trivial⟩ ?_
  have k1 := ok.k1; have m2 := ok.m2; have k12 := ok2.k1; have m22 := ok2.m2
  refine X.open (fun a c => ?_)
  refine X.le (q' := PtH b2 p2 :: pto b (ptsO p.every p.most (.slice a p.kept.length c) p.gone p.last p.came) :: lsH I 3 a c p.kept :: F) (by repeat (first | exact Le.refl _ | refine Le.pick (by repeat first | exact Le.here _ _ | apply Le.there) ?_ | refine Le.lose ?_)) ?_
  refine X.open (fun a2 c2 => ?_)
  obtain ⟨every, most, kept, gone, last, came⟩ := p
  obtain ⟨every2, most2, kept2, gone2, last2, came2⟩ := p2
  dsimp only at *
  refine X.seq ?_
  refine X.region ?_
  refine XO.pu (Pu.assign rfl) ?_
  refine XO.nil ?_
  refine X.sub (p' := [(4, _), (0, _), (1, _)]) ⟨rfl, rfl, rfl, trivial⟩ ?_
  refine X.seq ?_
  refine X.seq ?_
  refine X.region ?_
  refine XO.pu (Pu.move rfl) ?_
  refine XO.callF Try.call29 (there_some (every := every) ok.e1) rfl (by repeat (first | exact Le.refl _ | refine Le.pick (by repeat first | exact Le.here _ _ | apply Le.there) ?_ | refine Le.lose ?_)) ?_
  rintro _ _ ⟨rfl, rfl⟩ q_ hq_
  simp only [List.cons_append, List.nil_append] at hq_; subst hq_
  refine XO.pu (Pu.not rfl) ?_
  refine XO.pu (Pu.move rfl) ?_
  refine XO.pu (Pu.move rfl) ?_
  refine XO.callF Try.call29 (there_some (every := every2) ok2.e1) rfl (by repeat (first | exact Le.refl _ | refine Le.pick (by repeat first | exact Le.here _ _ | apply Le.there) ?_ | refine Le.lose ?_)) ?_
  rintro _ _ ⟨rfl, rfl⟩ q_ hq_
  simp only [List.cons_append, List.nil_append] at hq_; subst hq_
  refine XO.pu (Pu.not rfl) ?_
  refine XO.pu (Pu.pickF rfl rfl) ?_
  refine XO.nil ?_
  refine X.sub (p' := [(12, _), (4, _), (0, _), (1, _)]) ⟨rfl, rfl, rfl, rfl, trivial⟩ ?_
  refine X.condF rfl ?_
  refine X.skip ?_
  refine X.seq ?_
  refine X.draw [] Try.mixed (by kernel_rfl) (by kernel_rfl) rfl ?_
  refine XD.pu 0 rfl (Pu.move rfl) ?_
  refine XD.pu 1 rfl (Pu.nilCheck rfl) ?_
  refine XD.pu 2 rfl (Pu.fieldAddr 58 0 1 rfl Try.underlying60 rfl Try.sizeOf58) ?_
  refine XD.loadA 3 rfl rfl Try.isAgg58 Try.sizeOf58 (by repeat first | exact Has.pto _ _ _ | exact Has.im _ _ _ | refine Has.there ?_) (by rfl) ?_
  refine XD.pu 4 rfl (Pu.move rfl) ?_
  refine XD.pu 5 rfl (Pu.nilCheck rfl) ?_
  refine XD.pu 6 rfl (Pu.fieldAddr 58 0 1 rfl Try.underlying60 rfl Try.sizeOf58) ?_
  refine XD.loadA 7 rfl rfl Try.isAgg58 Try.sizeOf58 (by repeat first | exact Has.pto _ _ _ | exact Has.im _ _ _ | refine Has.there ?_) (by rfl) ?_
  refine XD.pu 8 rfl (Pu.eqlA rfl rfl (by kernel_rfl) (EqV.struct Try.underlying58 (by kernel_rfl) (by kernel_rfl) ⟨_, _, _, _, rfl, rfl, Try.isAgg3, (EqV.int Try.underlying3 _ _), ⟨_, _, _, _, rfl, rfl, Try.isAgg3, (EqV.int Try.underlying3 _ _), rfl, rfl⟩, rfl⟩)) ?_
  refine XD.pu 9 rfl (Pu.move rfl) ?_
  refine XD.part 27 rfl (fun hh0 => ?_) (fun hh0 => ?_)
  · skip
    refine XD.pu 10 rfl (Pu.move rfl) ?_
    refine XD.pu 11 rfl (Pu.nilCheck rfl) ?_
    refine XD.pu 12 rfl (Pu.fieldAddr 22 2 0 rfl Try.underlying60 rfl Try.sizeOf22) ?_
    refine XD.load 13 rfl rfl Try.isAgg22 (Cl.of (by repeat first | exact Has.pto _ _ _ | exact Has.im _ _ _ | refine Has.there ?_) (by rfl)) ?_
    refine XD.pu 14 rfl (Pu.move rfl) ?_
    refine XD.pu 15 rfl (Pu.nilCheck rfl) ?_
    refine XD.pu 16 rfl (Pu.fieldAddr 22 2 0 rfl Try.underlying60 rfl Try.sizeOf22) ?_
    refine XD.load 17 rfl rfl Try.isAgg22 (Cl.of (by repeat first | exact Has.pto _ _ _ | exact Has.im _ _ _ | refine Has.there ?_) (by rfl)) ?_
    refine XD.callF 18 Try.call35 (Equal_ok (q := [lsH I 3 a c kept, lsH I 3 a2 c2 kept2]) (l := kept) (m := kept2) (a := a) (b := a2) (c := c) (c' := c2) (Sees.lsH _) (Sees.lsH _).there (by omega) (by omega)) rfl rfl (by repeat (first | exact Le.refl _ | refine Le.pick (by repeat first | exact Le.here _ _ | apply Le.there) ?_ | refine Le.lose ?_)) ?_
    rintro _ _ ⟨rfl, rfl⟩ q_ hq_
    simp only [List.cons_append, List.nil_append] at hq_; subst hq_
    refine ⟨⟨(Cl.of (by repeat first | exact Has.pto _ _ _ | exact Has.im _ _ _ | refine Has.there ?_) (by rfl)), (Cl.of (by repeat first | exact Has.pto _ _ _ | exact Has.im _ _ _ | refine Has.there ?_) (by rfl)), (Cl.of (by repeat first | exact Has.pto _ _ _ | exact Has.im _ _ _ | refine Has.there ?_) (by rfl)), (Cl.of (by repeat first | exact Has.pto _ _ _ | exact Has.im _ _ _ | refine Has.there ?_) (by rfl)), trivial⟩, ?_⟩
    refine XD.pu 19 rfl (Pu.pickT rfl rfl) ?_
    refine XD.pu 20 rfl (Pu.move rfl) ?_
    refine XD.part 38 rfl (fun hh1 => ?_) (fun hh1 => ?_)
    · skip
      refine XD.pu 21 rfl (Pu.move rfl) ?_
      refine XD.pu 22 rfl (Pu.nilCheck rfl) ?_
      refine XD.pu 23 rfl (Pu.fieldAddr 3 3 0 rfl Try.underlying60 rfl Try.sizeOf3) ?_
      refine XD.load 24 rfl rfl Try.isAgg3 (Cl.of (by repeat first | exact Has.pto _ _ _ | exact Has.im _ _ _ | refine Has.there ?_) (by rfl)) ?_
      refine XD.pu 25 rfl (Pu.move rfl) ?_
      refine XD.pu 26 rfl (Pu.nilCheck rfl) ?_
      refine XD.pu 27 rfl (Pu.fieldAddr 3 3 0 rfl Try.underlying60 rfl Try.sizeOf3) ?_
      refine XD.load 28 rfl rfl Try.isAgg3 (Cl.of (by repeat first | exact Has.pto _ _ _ | exact Has.im _ _ _ | refine Has.there ?_) (by rfl)) ?_
      refine XD.pu 29 rfl (Pu.eql rfl rfl) ?_
      refine XD.pu 30 rfl (Pu.pickT rfl rfl) ?_
      refine XD.pu 31 rfl (Pu.move rfl) ?_
      refine XD.part 49 rfl (fun hh2 => ?_) (fun hh2 => ?_)
      · skip
        refine XD.pu 32 rfl (Pu.move rfl) ?_
        refine XD.pu 33 rfl (Pu.nilCheck rfl) ?_
        refine XD.pu 34 rfl (Pu.fieldAddr 3 4 0 rfl Try.underlying60 rfl Try.sizeOf3) ?_
        refine XD.load 35 rfl rfl Try.isAgg3 (Cl.of (by repeat first | exact Has.pto _ _ _ | exact Has.im _ _ _ | refine Has.there ?_) (by rfl)) ?_
        refine XD.pu 36 rfl (Pu.move rfl) ?_
        refine XD.pu 37 rfl (Pu.nilCheck rfl) ?_
        refine XD.pu 38 rfl (Pu.fieldAddr 3 4 0 rfl Try.underlying60 rfl Try.sizeOf3) ?_
        refine XD.load 39 rfl rfl Try.isAgg3 (Cl.of (by repeat first | exact Has.pto _ _ _ | exact Has.im _ _ _ | refine Has.there ?_) (by rfl)) ?_
        refine XD.pu 40 rfl (Pu.eql rfl rfl) ?_
        refine XD.pu 41 rfl (Pu.pickT rfl rfl) ?_
        refine XD.pu 42 rfl (Pu.move rfl) ?_
        refine XD.part 60 rfl (fun hh3 => ?_) (fun hh3 => ?_)
        · skip
          refine XD.pu 43 rfl (Pu.move rfl) ?_
          refine XD.pu 44 rfl (Pu.nilCheck rfl) ?_
          refine XD.pu 45 rfl (Pu.fieldAddr 4 5 0 rfl Try.underlying60 rfl Try.sizeOf4) ?_
          refine XD.load 46 rfl rfl Try.isAgg4 (Cl.of (by repeat first | exact Has.pto _ _ _ | exact Has.im _ _ _ | refine Has.there ?_) (by rfl)) ?_
          refine XD.pu 47 rfl (Pu.move rfl) ?_
          refine XD.pu 48 rfl (Pu.nilCheck rfl) ?_
          refine XD.pu 49 rfl (Pu.fieldAddr 4 5 0 rfl Try.underlying60 rfl Try.sizeOf4) ?_
          refine XD.load 50 rfl rfl Try.isAgg4 (Cl.of (by repeat first | exact Has.pto _ _ _ | exact Has.im _ _ _ | refine Has.there ?_) (by rfl)) ?_
          refine XD.pu 51 rfl (Pu.eqlB rfl rfl Try.underlying4) ?_
          refine XD.pu 52 rfl (Pu.pickT rfl rfl) ?_
          refine XD.pu 53 rfl (Pu.assign rfl) ?_
          refine XD.nil ?_
          refine X.sub (p' := [(4, _)]) ⟨rfl, trivial⟩ ?_
          refine X.ret ⟨rfl, Lv.ret (q' := [PtH b ⟨every, most, kept, gone, last, came⟩, PtH b2 ⟨every2, most2, kept2, gone2, last2, came2⟩]) Try.func25 (res1 Try.results25 rfl) ⟨_, rfl, _, rfl, by simp_all [Pt.mk.injEq], rfl⟩ (PtH.close (p := ⟨every, most, kept, gone, last, came⟩) (a := a) (c := c) (Le.pick (by repeat first | exact Le.here _ _ | apply Le.there) (Le.pick (by repeat first | exact Le.here _ _ | apply Le.there) (PtH.close (p := ⟨every2, most2, kept2, gone2, last2, came2⟩) (a := a2) (c := c2) (by repeat (first | exact Le.refl _ | refine Le.pick (by repeat first | exact Le.here _ _ | apply Le.there) ?_ | refine Le.lose ?_))))))⟩
        · skip
          refine XD.pass 43 rfl ?_
          refine XD.pass 44 rfl ?_
          refine XD.pass 45 rfl ?_
          refine XD.pass 46 rfl ?_
          refine XD.pass 47 rfl ?_
          refine XD.pass 48 rfl ?_
          refine XD.pass 49 rfl ?_
          refine XD.pass 50 rfl ?_
          refine XD.pass 51 rfl ?_
          refine XD.pu 52 rfl (Pu.pickF rfl rfl) ?_
          refine XD.pu 53 rfl (Pu.assign rfl) ?_
          refine XD.nil ?_
          refine X.sub (p' := [(4, _)]) ⟨rfl, trivial⟩ ?_
          refine X.ret ⟨rfl, Lv.ret (q' := [PtH b ⟨every, most, kept, gone, last, came⟩, PtH b2 ⟨every2, most2, kept2, gone2, last2, came2⟩]) Try.func25 (res1 Try.results25 rfl) ⟨_, rfl, _, rfl, by simp_all [Pt.mk.injEq], rfl⟩ (PtH.close (p := ⟨every, most, kept, gone, last, came⟩) (a := a) (c := c) (Le.pick (by repeat first | exact Le.here _ _ | apply Le.there) (Le.pick (by repeat first | exact Le.here _ _ | apply Le.there) (PtH.close (p := ⟨every2, most2, kept2, gone2, last2, came2⟩) (a := a2) (c := c2) (by repeat (first | exact Le.refl _ | refine Le.pick (by repeat first | exact Le.here _ _ | apply Le.there) ?_ | refine Le.lose ?_))))))⟩
      · skip
        refine XD.pass 32 rfl ?_
        refine XD.pass 33 rfl ?_
        refine XD.pass 34 rfl ?_
        refine XD.pass 35 rfl ?_
        refine XD.pass 36 rfl ?_
        refine XD.pass 37 rfl ?_
        refine XD.pass 38 rfl ?_
        refine XD.pass 39 rfl ?_
        refine XD.pass 40 rfl ?_
        refine XD.pu 41 rfl (Pu.pickF rfl rfl) ?_
        refine XD.pu 42 rfl (Pu.move rfl) ?_
        refine XD.pass 43 rfl ?_
        refine XD.pass 44 rfl ?_
        refine XD.pass 45 rfl ?_
        refine XD.pass 46 rfl ?_
        refine XD.pass 47 rfl ?_
        refine XD.pass 48 rfl ?_
        refine XD.pass 49 rfl ?_
        refine XD.pass 50 rfl ?_
        refine XD.pass 51 rfl ?_
        refine XD.pu 52 rfl (Pu.pickF rfl rfl) ?_
        refine XD.pu 53 rfl (Pu.assign rfl) ?_
        refine XD.nil ?_
        refine X.sub (p' := [(4, _)]) ⟨rfl, trivial⟩ ?_
        refine X.ret ⟨rfl, Lv.ret (q' := [PtH b ⟨every, most, kept, gone, last, came⟩, PtH b2 ⟨every2, most2, kept2, gone2, last2, came2⟩]) Try.func25 (res1 Try.results25 rfl) ⟨_, rfl, _, rfl, by simp_all [Pt.mk.injEq], rfl⟩ (PtH.close (p := ⟨every, most, kept, gone, last, came⟩) (a := a) (c := c) (Le.pick (by repeat first | exact Le.here _ _ | apply Le.there) (Le.pick (by repeat first | exact Le.here _ _ | apply Le.there) (PtH.close (p := ⟨every2, most2, kept2, gone2, last2, came2⟩) (a := a2) (c := c2) (by repeat (first | exact Le.refl _ | refine Le.pick (by repeat first | exact Le.here _ _ | apply Le.there) ?_ | refine Le.lose ?_))))))⟩
    · skip
      refine XD.pass 21 rfl ?_
      refine XD.pass 22 rfl ?_
      refine XD.pass 23 rfl ?_
      refine XD.pass 24 rfl ?_
      refine XD.pass 25 rfl ?_
      refine XD.pass 26 rfl ?_
      refine XD.pass 27 rfl ?_
      refine XD.pass 28 rfl ?_
      refine XD.pass 29 rfl ?_
      refine XD.pu 30 rfl (Pu.pickF rfl rfl) ?_
      refine XD.pu 31 rfl (Pu.move rfl) ?_
      refine XD.pass 32 rfl ?_
      refine XD.pass 33 rfl ?_
      refine XD.pass 34 rfl ?_
      refine XD.pass 35 rfl ?_
      refine XD.pass 36 rfl ?_
      refine XD.pass 37 rfl ?_
      refine XD.pass 38 rfl ?_
      refine XD.pass 39 rfl ?_
      refine XD.pass 40 rfl ?_
      refine XD.pu 41 rfl (Pu.pickF rfl rfl) ?_
      refine XD.pu 42 rfl (Pu.move rfl) ?_
      refine XD.pass 43 rfl ?_
      refine XD.pass 44 rfl ?_
      refine XD.pass 45 rfl ?_
      refine XD.pass 46 rfl ?_
      refine XD.pass 47 rfl ?_
      refine XD.pass 48 rfl ?_
      refine XD.pass 49 rfl ?_
      refine XD.pass 50 rfl ?_
      refine XD.pass 51 rfl ?_
      refine XD.pu 52 rfl (Pu.pickF rfl rfl) ?_
      refine XD.pu 53 rfl (Pu.assign rfl) ?_
      refine XD.nil ?_
      refine X.sub (p' := [(4, _)]) ⟨rfl, trivial⟩ ?_
      refine X.ret ⟨rfl, Lv.ret (q' := [PtH b ⟨every, most, kept, gone, last, came⟩, PtH b2 ⟨every2, most2, kept2, gone2, last2, came2⟩]) Try.func25 (res1 Try.results25 rfl) ⟨_, rfl, _, rfl, by simp_all [Pt.mk.injEq], rfl⟩ (PtH.close (p := ⟨every, most, kept, gone, last, came⟩) (a := a) (c := c) (Le.pick (by repeat first | exact Le.here _ _ | apply Le.there) (Le.pick (by repeat first | exact Le.here _ _ | apply Le.there) (PtH.close (p := ⟨every2, most2, kept2, gone2, last2, came2⟩) (a := a2) (c := c2) (by repeat (first | exact Le.refl _ | refine Le.pick (by repeat first | exact Le.here _ _ | apply Le.there) ?_ | refine Le.lose ?_))))))⟩
  · skip
    refine XD.pass 10 rfl ?_
    refine XD.pass 11 rfl ?_
    refine XD.pass 12 rfl ?_
    refine XD.pass 13 rfl ?_
    refine XD.pass 14 rfl ?_
    refine XD.pass 15 rfl ?_
    refine XD.pass 16 rfl ?_
    refine XD.pass 17 rfl ?_
    refine XD.pass 18 rfl ?_
    refine XD.pu 19 rfl (Pu.pickF rfl rfl) ?_
    refine XD.pu 20 rfl (Pu.move rfl) ?_
    refine XD.pass 21 rfl ?_
    refine XD.pass 22 rfl ?_
    refine XD.pass 23 rfl ?_
    refine XD.pass 24 rfl ?_
    refine XD.pass 25 rfl ?_
    refine XD.pass 26 rfl ?_
    refine XD.pass 27 rfl ?_
    refine XD.pass 28 rfl ?_
    refine XD.pass 29 rfl ?_
    refine XD.pu 30 rfl (Pu.pickF rfl rfl) ?_
    refine XD.pu 31 rfl (Pu.move rfl) ?_
    refine XD.pass 32 rfl ?_
    refine XD.pass 33 rfl ?_
    refine XD.pass 34 rfl ?_
    refine XD.pass 35 rfl ?_
    refine XD.pass 36 rfl ?_
    refine XD.pass 37 rfl ?_
    refine XD.pass 38 rfl ?_
    refine XD.pass 39 rfl ?_
    refine XD.pass 40 rfl ?_
    refine XD.pu 41 rfl (Pu.pickF rfl rfl) ?_
    refine XD.pu 42 rfl (Pu.move rfl) ?_
    refine XD.pass 43 rfl ?_
    refine XD.pass 44 rfl ?_
    refine XD.pass 45 rfl ?_
    refine XD.pass 46 rfl ?_
    refine XD.pass 47 rfl ?_
    refine XD.pass 48 rfl ?_
    refine XD.pass 49 rfl ?_
    refine XD.pass 50 rfl ?_
    refine XD.pass 51 rfl ?_
    refine XD.pu 52 rfl (Pu.pickF rfl rfl) ?_
    refine XD.pu 53 rfl (Pu.assign rfl) ?_
    refine XD.nil ?_
    refine X.sub (p' := [(4, _)]) ⟨rfl, trivial⟩ ?_
    refine X.ret ⟨rfl, Lv.ret (q' := [PtH b ⟨every, most, kept, gone, last, came⟩, PtH b2 ⟨every2, most2, kept2, gone2, last2, came2⟩]) Try.func25 (res1 Try.results25 rfl) ⟨_, rfl, _, rfl, by simp_all [Pt.mk.injEq], rfl⟩ (PtH.close (p := ⟨every, most, kept, gone, last, came⟩) (a := a) (c := c) (Le.pick (by repeat first | exact Le.here _ _ | apply Le.there) (Le.pick (by repeat first | exact Le.here _ _ | apply Le.there) (PtH.close (p := ⟨every2, most2, kept2, gone2, last2, came2⟩) (a := a2) (c := c2) (by repeat (first | exact Le.refl _ | refine Le.pick (by repeat first | exact Le.here _ _ | apply Le.there) ?_ | refine Le.lose ?_))))))⟩
end
end Go.Proofs.Ytjfkkdohpfbilaa

