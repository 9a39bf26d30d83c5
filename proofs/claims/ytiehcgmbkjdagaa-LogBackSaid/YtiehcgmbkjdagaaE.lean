/- What functions of package log, of its references and of its laws do: contracts of calls, proved by walking their code. -/
import Derived.Test.YtiehcgmbkjdagaaD
import Derived.Test.YtiehcgmbkjdagaaWx16
import Derived.KernelRfl
set_option maxRecDepth 100000
set_option linter.unusedVariables false
set_option linter.unusedSimpArgs false
namespace Go.Proofs.Ytiehcgmbkjdagaa
open Go Go.RowKit Wx

/-! ### turns of threads -/
theorem getD_lt {α : Type} (l : List α) (n : Nat) (d : α) (h : n < l.length) : l.getD n d = l[n] := by simp [List.getD, h]
def addT (l : List Turn) (t : Int) : List Turn := if 0 < l.length ∧ (l.getD (l.length - 1) (0, 0)).1 = t then l.set (l.length - 1) (t, (l.getD (l.length - 1) (0, 0)).2 + 1) else l ++ [(t, 1)]
def turnsOf (l : List Int) : List Turn := l.foldl addT []
theorem turnsOf_succ {l : List Int} {n : Nat} (h : n < l.length) : turnsOf (l.take (n + 1)) = addT (turnsOf (l.take n)) l[n] := by
  unfold turnsOf; rw [List.take_succ_eq_append_getElem h, List.foldl_append]; rfl
theorem addT_len (l : List Turn) (t : Int) : (addT l t).length ≤ l.length + 1 ∧ 0 < (addT l t).length := by unfold addT; split <;> simp; omega
theorem addT_last (l : List Turn) (t : Int) : ((addT l t).getD ((addT l t).length - 1) (0, 0)).1 = t := by
  unfold addT
  split
  · rename_i h
    rw [List.length_set, getD_lt _ _ _ (by rw [List.length_set]; omega)]; simp
  · simp
theorem turnsOf_len (l : List Int) (n : Nat) : (turnsOf (l.take n)).length ≤ n := by
  induction n with
  | zero => simp [turnsOf]
  | succ n ih =>
    rcases Nat.lt_or_ge n l.length with h | h
    · rw [turnsOf_succ h]; have := (addT_len (turnsOf (l.take n)) l[n]).1; omega
    · rw [List.take_of_length_le (by omega)]; rw [List.take_of_length_le h] at ih; omega
theorem turnsOf_last {l : List Int} {n : Nat} (h0 : 0 < n) (h : n ≤ l.length) : 0 < (turnsOf (l.take n)).length ∧ ((turnsOf (l.take n)).getD ((turnsOf (l.take n)).length - 1) (0, 0)).1 = l[n - 1]'(by omega) := by
  obtain ⟨k, rfl⟩ : ∃ k, n = k + 1 := ⟨n - 1, by omega⟩
  rw [turnsOf_succ (by omega)]
  exact ⟨(addT_len _ _).2, by rw [addT_last]; rfl⟩
/-- No count of steps is greater than how many there are. -/
theorem addT_steps {l : List Turn} {t : Int} {m : Int} (h : ∀ x ∈ l, x.2 ≤ m) (h0 : 0 ≤ m) : ∀ x ∈ addT l t, x.2 ≤ m + 1 := by
  intro x hx
  unfold addT at hx
  split at hx
  · rename_i hc
    rcases List.mem_or_eq_of_mem_set hx with hx | rfl
    · have := h x hx; omega
    · have : l.getD (l.length - 1) (0, 0) ∈ l := by rw [getD_lt _ _ _ (by omega)]; exact List.getElem_mem _
      have := h _ this; dsimp only; omega
  · rcases List.mem_append.1 hx with hx | hx
    · have := h x hx; omega
    · simp at hx; subst hx; dsimp only; omega
theorem turnsOf_steps (l : List Int) (n : Nat) : ∀ x ∈ turnsOf (l.take n), x.2 ≤ n := by
  induction n with
  | zero => simp [turnsOf]
  | succ n ih =>
    rcases Nat.lt_or_ge n l.length with h | h
    · rw [turnsOf_succ h]; have := addT_steps (t := l[n]) ih (by omega); intro x hx; have := this x hx; omega
    · rw [List.take_of_length_le (by omega)]; rw [List.take_of_length_le h] at ih; intro x hx; have := ih x hx; omega
theorem addT_pos {l : List Turn} {t : Int} (h : ∀ x ∈ l, 1 ≤ x.2) : ∀ x ∈ addT l t, 1 ≤ x.2 := by
  intro x hx
  unfold addT at hx
  split at hx
  · rename_i hc
    rcases List.mem_or_eq_of_mem_set hx with hx | rfl
    · exact h x hx
    · have : l.getD (l.length - 1) (0, 0) ∈ l := by rw [getD_lt _ _ _ (by omega)]; exact List.getElem_mem _
      have := h _ this; dsimp only; omega
  · rcases List.mem_append.1 hx with hx | hx
    · exact h x hx
    · simp at hx; subst hx; dsimp only; omega
theorem turnsOf_pos (l : List Int) (n : Nat) : ∀ x ∈ turnsOf (l.take n), 1 ≤ x.2 := by
  induction n with
  | zero => simp [turnsOf]
  | succ n ih =>
    rcases Nat.lt_or_ge n l.length with h | h
    · rw [turnsOf_succ h]; exact addT_pos ih
    · rw [List.take_of_length_le (by omega)]; rw [List.take_of_length_le h] at ih; exact ih
section
variable {G : World} {q : List HP} {a b : Option Addr} {c d p : Nat} {l : List Turn} {th : List Int} {t : Int}
theorem add_no (h : ¬ (0 ≤ t ∧ t ≤ 7)) : CallF Try.prog G 36 [.int .i64 t, .pointer (some ⟨p, 0, none⟩)] q (Ret fun v q' => v = .bool false ∧ q' = q) := by
  refine CallF.of Try.func36 Try.ntmps36 rfl (fun F cs => ?_)
  refine X.sub (p' := [(0, _), (1, _)]) ⟨rfl, rfl, trivial⟩ ?_
  refine X.seq ?_
  refine X.region ?_
  refine XO.pu (Pu.assign rfl) ?_
  refine XO.nil ?_
  refine X.sub (p' := [(3, _), (0, _), (1, _)]) ⟨rfl, rfl, rfl, trivial⟩ ?_
  refine X.seq ?_
  refine X.seq ?_
  refine X.region ?_
  refine XO.pu (Pu.move rfl) ?_
  refine XO.cF Try.call37 (threadMay_ok _) ?_
  rintro _ _ ⟨rfl, rfl⟩ _ e_; simp only [ca, na] at e_; subst e_
  refine XO.pu (Pu.not rfl) ?_
  refine XO.nil ?_
  refine X.sub (p' := [(7, _), (3, _), (0, _), (1, _)]) ⟨rfl, rfl, rfl, rfl, trivial⟩ ?_
  refine X.know 7 (.bool true) rfl (congrArg Value.bool (by simp; omega)) ?_
  refine X.condT rfl ?_
  refine X.seq ?_
  refine X.region ?_
  refine XO.pu (Pu.assign rfl) ?_
  refine XO.nil ?_
  refine X.sub (p' := [(3, _), (0, _), (1, _)]) ⟨rfl, rfl, rfl, trivial⟩ ?_
  refine X.retL (q) Try.func36 (res1 Try.results36 rfl) ⟨_, rfl, rfl, rfl⟩
theorem add_ok (h : 0 ≤ t ∧ t ≤ 7) (hl : l.length ≤ 60000) (hm : ∀ x ∈ l, x.2 ≤ 1000000 ∧ -1000000 ≤ x.2) : CallF Try.prog G 36 [.int .i64 t, .pointer (some ⟨p, 0, none⟩)] [pto p (.cells [.slice a l.length c].toArray 23 (0, 0)), rsH tcs 2 57 a c l] (Ret fun v q' => ∃ a' c', v = .bool true ∧ q' = [pto p (.cells [.slice a' (addT l t).length c'].toArray 23 (0, 0)), rsH tcs 2 57 a' c' (addT l t)]) := by
  refine CallF.of Try.func36 Try.ntmps36 rfl (fun F cs => ?_)
  refine X.sub (p' := [(0, _), (1, _)]) ⟨rfl, rfl, trivial⟩ ?_
  have hg : ∀ h : 0 < l.length, l.getD (l.length - 1) (0, 0) = l[l.length - 1] := fun h => getD_lt _ _ _ (by omega)
  refine X.seq ?_
  refine X.region ?_
  refine XO.pu (Pu.assign rfl) ?_
  refine XO.nil ?_
  refine X.sub (p' := [(3, _), (0, _), (1, _)]) ⟨rfl, rfl, rfl, trivial⟩ ?_
  refine X.seq ?_
  refine X.seq ?_
  refine X.region ?_
  refine XO.pu (Pu.move rfl) ?_
  refine XO.cF Try.call37 (threadMay_ok _) ?_
  rintro _ _ ⟨rfl, rfl⟩ _ e_; simp only [ca, na] at e_; subst e_
  refine XO.pu (Pu.not rfl) ?_
  refine XO.nil ?_
  refine X.sub (p' := [(7, _), (3, _), (0, _), (1, _)]) ⟨rfl, rfl, rfl, rfl, trivial⟩ ?_
  refine X.know 7 (.bool false) rfl (congrArg Value.bool (by simp; omega)) ?_
  refine X.condF rfl ?_
  refine X.skip ?_
  refine X.seq ?_
  refine X.seq ?_
  refine X.region ?_
  refine XO.ld Try.isAgg23 ?_
  refine XO.pu (Pu.len rfl Try.underlying23) ?_
  refine XO.pu (Pu.assign rfl) ?_
  refine XO.nil ?_
  refine X.sub (p' := [(4, _), (3, _), (0, _), (1, _)]) ⟨rfl, rfl, rfl, rfl, trivial⟩ ?_
  refine X.seq ?_
  refine X.region ?_
  refine XO.pu (Pu.move rfl) ?_
  refine XO.pu (Pu.gtr rfl rfl) ?_
  refine XO.pu (Pu.move rfl) ?_
  refine XO.part 12 rfl (fun h1 => ?_) (fun h1 => ?_)
  · skip
    have h1 := of_decide_eq_true h1; have hl0 : 0 < l.length := (by omega); have hg := hg hl0
    have hs : Sees (rsH tcs 2 57 a c l :: F) a (l.flatMap tcs) := Sees.rsH _
    refine XO.rsadr hl0 (fun g e_ => ?_); subst e_
    refine XO.ld Try.isAgg23 ?_
    refine XO.pu (Pu.move rfl) ?_
    refine XO.pu (Pu.sub rfl rfl (by omega) (by omega)) ?_
    refine XO.pu (Pu.indexAddr rfl rfl Try.underlying23 Try.sizeOf57 (by omega) (by omega)) ?_
    refine XO.pu (Pu.fieldAddr 3 0 0 rfl Try.underlying57 rfl Try.sizeOf3) ?_
    refine XO.ld Try.isAgg3 ?_
    refine XO.pu (Pu.move rfl) ?_
    refine XO.pu (Pu.eql rfl rfl) ?_
    refine XO.pu (Pu.pickT rfl rfl) ?_
    refine XO.nil ?_
    refine X.sub (p' := [(21, _), (4, _), (3, _), (0, _), (1, _)]) ⟨rfl, rfl, rfl, rfl, rfl, trivial⟩ ?_
    refine X.part 21 rfl (fun h2 => ?_) (fun h2 => ?_)
    · skip
      have h2 : l[l.length - 1].1 = t := by simpa using h2
      have hmx := hm _ (List.getElem_mem (show l.length - 1 < l.length by omega))
      refine X.condT rfl ?_
      refine X.seq ?_
      refine X.region ?_
      refine XO.ld Try.isAgg23 ?_
      refine XO.pu (Pu.move rfl) ?_
      refine XO.pu (Pu.sub rfl rfl (by omega) (by omega)) ?_
      refine XO.pu (Pu.indexAddr rfl rfl Try.underlying23 Try.sizeOf57 (by omega) (by omega)) ?_
      refine XO.pu (Pu.fieldAddr 3 1 0 rfl Try.underlying57 rfl Try.sizeOf3) ?_
      refine XO.ld Try.isAgg3 ?_
      refine XO.pu (Pu.add rfl rfl (by omega) (by omega)) ?_
      refine XO.pu (Pu.indexAddr rfl rfl Try.underlying23 Try.sizeOf57 (by omega) (by omega)) ?_
      refine XO.pu (Pu.fieldAddr 3 1 0 rfl Try.underlying57 rfl Try.sizeOf3) ?_
      refine XO.ef0 (Ef.setR (f := tcs) (l := l) (u := (t, l[l.length - 1].2 + 1)) (n := l.length - 1) (k := 1) rfl rfl Try.sizeOf3 (fun _ => rfl) (by omega) (by omega) rfl (by simp [tcs, h2]) rfl rfl fndA) ?_
      rintro _ _ ⟨rfl, rfl⟩
      rw [show l.set (l.length - 1) (t, l[l.length - 1].2 + 1) = addT l t by unfold addT; rw [hg, if_pos ⟨hl0, h2⟩]]
      have he : l.length = (addT l t).length := by unfold addT; rw [hg, if_pos ⟨hl0, h2⟩]; simp
      refine XO.nil ?_
      refine X.sub (p' := [(3, _), (0, _), (1, _)]) ⟨rfl, rfl, rfl, trivial⟩ ?_
      refine X.seq ?_
      refine X.region ?_
      refine XO.pu (Pu.assign rfl) ?_
      refine XO.nil ?_
      refine X.sub (p' := [(3, _), (0, _), (1, _)]) ⟨rfl, rfl, rfl, trivial⟩ ?_
      rw [he]
      refine X.retL [pto p (.cells [.slice (some ⟨g, 0, none⟩) (addT l t).length c].toArray 23 (0, 0)), rsH tcs 2 57 (some ⟨g, 0, none⟩) c (addT l t)] Try.func36 (res1 Try.results36 rfl) ⟨_, rfl, _, _, rfl, rfl⟩
    · skip
      have hn : ¬ (0 < l.length ∧ (l.getD (l.length - 1) (0, 0)).1 = t) := by rw [hg]; rintro ⟨_, e⟩; rw [e] at h2; simp at h2
      rw [show addT l t = l ++ [(t, 1)] from if_neg hn]
      refine X.condF rfl ?_
      refine X.skip ?_
      refine X.seq ?_
      refine X.region ?_
      refine XO.ld Try.isAgg23 ?_
      refine XO.pu (Pu.move rfl) ?_
      refine XO.pu (Pu.build (cells := [_, _]) [(0, 1), (1, 1)] Try.zeroValue57 Try.underlying57 (by kernel_rfl) rfl rfl) ?_
      refine XO.ef (Ef.litR1 (u := (t, 1)) tcs Try.underlying23 Try.info57 rfl rfl (fun _ => rfl) rfl) ?_
      rintro _ _ ⟨g2, rfl, rfl⟩
      refine XO.ef (Ef.appRA (l := l) (m := [(t, 1)]) Try.underlying23 Try.info57 rfl rfl (fun _ => rfl) rfl rfl fndA ((Sees.rsH _).le leA) (fun _ => rfl) (by simp; omega) (by simp; omega)) ?_
      rintro _ _ ⟨a2, c2, rfl, rfl⟩
      refine XO.ef0 (Ef.st Try.sizeOf23) ?_
      rintro _ _ ⟨rfl, rfl⟩
      refine XO.nil ?_
      refine X.sub (p' := [(3, _), (1, _)]) ⟨rfl, rfl, trivial⟩ ?_
      refine X.seq ?_
      refine X.region ?_
      refine XO.ld Try.isAgg23 ?_
      refine XO.pu (Pu.len rfl Try.underlying23) ?_
      refine XO.pu (Pu.leq rfl rfl) ?_
      refine XO.pu (Pu.assign rfl) ?_
      refine XO.nil ?_
      refine X.sub (p' := [(3, _)]) ⟨rfl, trivial⟩ ?_
      refine X.retL [pto p (.cells [.slice a2 (l ++ [(t, 1)]).length c2].toArray 23 (0, 0)), rsH tcs 2 57 a2 c2 (l ++ [(t, 1)])] Try.func36 (res1 Try.results36 rfl) ⟨_, rfl, a2, c2, congrArg Value.bool (by simp; omega), rfl⟩
  · skip
    have hn : ¬ (0 < l.length ∧ (l.getD (l.length - 1) (0, 0)).1 = t) := by simp at h1; rintro ⟨x, _⟩; simp_all
    refine XO.pass rfl ?_
    refine XO.pass rfl ?_
    refine XO.pass rfl ?_
    refine XO.pass rfl ?_
    refine XO.pass rfl ?_
    refine XO.pass rfl ?_
    refine XO.pass rfl ?_
    refine XO.pass rfl ?_
    refine XO.pu (Pu.pickF rfl rfl) ?_
    refine XO.nil ?_
    refine X.sub (p' := [(21, _), (4, _), (3, _), (0, _), (1, _)]) ⟨rfl, rfl, rfl, rfl, rfl, trivial⟩ ?_
    refine X.condF rfl ?_
    refine X.skip ?_
    refine X.seq ?_
    refine X.region ?_
    refine XO.ld Try.isAgg23 ?_
    refine XO.pu (Pu.move rfl) ?_
    refine XO.pu (Pu.build (cells := [_, _]) [(0, 1), (1, 1)] Try.zeroValue57 Try.underlying57 (by kernel_rfl) rfl rfl) ?_
    rw [show addT l t = l ++ [(t, 1)] from if_neg hn]
    refine XO.ef (Ef.litR1 (u := (t, 1)) tcs Try.underlying23 Try.info57 rfl rfl (fun _ => rfl) rfl) ?_
    rintro _ _ ⟨g2, rfl, rfl⟩
    refine XO.ef (Ef.appRA (l := l) (m := [(t, 1)]) Try.underlying23 Try.info57 rfl rfl (fun _ => rfl) rfl rfl fndA ((Sees.rsH _).le leA) (fun _ => rfl) (by simp; omega) (by simp; omega)) ?_
    rintro _ _ ⟨a2, c2, rfl, rfl⟩
    refine XO.ef0 (Ef.st Try.sizeOf23) ?_
    rintro _ _ ⟨rfl, rfl⟩
    refine XO.nil ?_
    refine X.sub (p' := [(3, _), (1, _)]) ⟨rfl, rfl, trivial⟩ ?_
    refine X.seq ?_
    refine X.region ?_
    refine XO.ld Try.isAgg23 ?_
    refine XO.pu (Pu.len rfl Try.underlying23) ?_
    refine XO.pu (Pu.leq rfl rfl) ?_
    refine XO.pu (Pu.assign rfl) ?_
    refine XO.nil ?_
    refine X.sub (p' := [(3, _)]) ⟨rfl, trivial⟩ ?_
    refine X.retL [pto p (.cells [.slice a2 (l ++ [(t, 1)]).length c2].toArray 23 (0, 0)), rsH tcs 2 57 a2 c2 (l ++ [(t, 1)])] Try.func36 (res1 Try.results36 rfl) ⟨_, rfl, a2, c2, congrArg Value.bool (by simp; omega), rfl⟩
theorem Turns_no (hs : Sees q a (th.map (Value.int .i64))) (hL : th.length ≤ 50000) (ok : ¬ (∀ x ∈ th, 0 ≤ x ∧ x ≤ 7)) : CallF Try.prog G 23 [.slice a th.length c] q (Ret fun v q' => v = .tuple [.slice none 0 0, .int .i64 2].toArray ∧ q' = q) := by
  refine CallF.of Try.func23 Try.ntmps23 rfl (fun F cs => ?_)
  refine X.sub (p' := [(0, _)]) ⟨rfl, trivial⟩ ?_
  refine X.seq ?_
  refine X.region ?_
  refine XO.pu (Pu.assign rfl) ?_
  refine XO.pu (Pu.assign rfl) ?_
  refine XO.nil ?_
  refine X.sub (p' := [(3, _), (2, _), (0, _)]) ⟨rfl, rfl, rfl, trivial⟩ ?_
  refine X.seq ?_
  refine X.seq ?_
  refine X.region ?_
  refine XO.pu (Pu.move rfl) ?_
  refine XO.pu (Pu.len rfl Try.underlying48) ?_
  refine XO.pu (Pu.gtr rfl rfl) ?_
  refine XO.nil ?_
  refine X.sub (p' := [(10, _), (3, _), (2, _), (0, _)]) ⟨rfl, rfl, rfl, rfl, trivial⟩ ?_
  refine X.know 10 (.bool false) rfl (congrArg Value.bool (by simp; omega)) ?_
  refine X.condF rfl ?_
  refine X.skip ?_
  refine X.seq ?_
  refine X.region ?_
  refine XO.ef (Ef.alloc Try.zeroValue23) ?_
  rintro _ _ ⟨n1, rfl, rfl⟩
  refine XO.nil ?_
  refine X.sub (p' := [(4, _), (3, _), (2, _), (0, _)]) ⟨rfl, rfl, rfl, rfl, trivial⟩ ?_
  refine X.seq ?_
  refine X.region ?_
  refine XO.pu (Pu.makeFunc rfl rfl) ?_
  refine XO.pu (Pu.assign rfl) ?_
  refine XO.nil ?_
  refine X.sub (p' := [(5, _), (4, _), (3, _), (2, _), (0, _)]) ⟨rfl, rfl, rfl, rfl, rfl, trivial⟩ ?_
  refine X.seq ?_
  refine X.seq ?_
  refine X.region ?_
  refine XO.pu (Pu.move rfl) ?_
  refine XO.pu (Pu.len rfl Try.underlying48) ?_
  refine XO.pu (Pu.move rfl) ?_
  refine XO.nil ?_
  refine X.sub (p' := [(14, _), (13, _), (12, _), (5, _), (4, _), (3, _), (2, _)]) ⟨rfl, rfl, rfl, rfl, rfl, rfl, rfl, trivial⟩ ?_
  refine X.block ?_
  refine X.at (X.loop (fun (s : Nat × Option Addr × Nat) => s.1 ≤ th.length ∧ (∀ x ∈ th.take s.1, 0 ≤ x ∧ x ≤ 7)) (fun s => [(4, .pointer (some ⟨n1, 0, none⟩)), (5, .func (.func 36) [].toArray [.pointer (some ⟨n1, 0, none⟩)].toArray), (12, .slice a th.length c), (13, .int .i64 (th.length : Int)), (14, .int .i64 (s.1 : Int))]) (fun s => pto n1 (.cells [.slice s.2.1 (turnsOf (th.take s.1)).length s.2.2].toArray 23 (0, 0)) :: rsH tcs 2 57 s.2.1 s.2.2 (turnsOf (th.take s.1)) :: (q ++ F)) (fun s => th.length - s.1) (fun s hi_ ih => ?_) (0, none, 0) ⟨by dsimp only; omega, by simp⟩) ⟨(by first | rfl | exact congrArg some (congrArg (Value.int _) (by omega)) | (show some _ = some _; simp; done) | (show some _ = some _; simp; omega)), (by first | rfl | exact congrArg some (congrArg (Value.int _) (by omega)) | (show some _ = some _; simp; done) | (show some _ = some _; simp; omega)), (by first | rfl | exact congrArg some (congrArg (Value.int _) (by omega)) | (show some _ = some _; simp; done) | (show some _ = some _; simp; omega)), (by first | rfl | exact congrArg some (congrArg (Value.int _) (by omega)) | (show some _ = some _; simp; done) | (show some _ = some _; simp; omega)), (by first | rfl | exact congrArg some (congrArg (Value.int _) (by omega)) | (show some _ = some _; simp; done) | (show some _ = some _; simp; omega)), trivial⟩ (Le.trans (Le.trans leA (Le.rsH_nil tcs 2 57 _)) leA)
  try dsimp only at hi_ ih ⊢
  obtain ⟨hi1, hi2⟩ := hi_
  obtain ⟨i, a2, c2⟩ := s; dsimp only at *
  refine X.seq ?_
  refine X.region ?_
  refine XO.pu (Pu.lss rfl rfl) ?_
  refine XO.nil ?_
  refine X.sub (p' := [(15, _), (4, _), (5, _), (12, _), (13, _), (14, _)]) ⟨rfl, rfl, rfl, rfl, rfl, rfl, trivial⟩ ?_
  refine X.seq ?_
  refine X.part 15 rfl (fun h0 => ?_) (fun h0 => ?_)
  · skip
    have h0 := of_decide_eq_true h0; have hi0 : i < th.length := (by omega)
    refine X.adr hs (by simp; omega) (fun b1 o1 e_ => ?_); subst e_
    have htl := turnsOf_len th i; have hts := turnsOf_steps th i
    refine X.condT rfl ?_
    refine X.skip ?_
    refine X.seq ?_
    refine X.block ?_
    refine X.seq ?_
    refine X.region ?_
    refine XO.pu (Pu.indexAddr rfl rfl Try.underlying48 Try.sizeOf3 (by omega) (by omega)) ?_
    refine XO.ld Try.isAgg3 ?_
    refine XO.pu (Pu.assign rfl) ?_
    refine XO.nil ?_
    refine X.sub (p' := [(7, _), (4, _), (5, _), (12, _), (13, _), (14, _)]) ⟨rfl, rfl, rfl, rfl, rfl, rfl, trivial⟩ ?_
    refine X.seq ?_
    refine X.region ?_
    refine XO.pu (Pu.move rfl) ?_
    refine XO.pu (Pu.move rfl) ?_
    rcases Decidable.em (0 ≤ th[i] ∧ th[i] ≤ 7) with hx | hx
    · skip
      refine XO.cV (CallV.c11 Try.call36 (add_ok (p := n1) (a := a2) (c := c2) (l := turnsOf (th.take i)) (t := th[i]) hx (by omega) (fun y hy => ⟨by have := hts y hy; omega, by have := turnsOf_pos th i y hy; omega⟩))) ?_
      rintro _ _ ⟨a3, c3, rfl, rfl⟩ _ e_; simp only [ca, na] at e_; subst e_
      refine XO.pu (Pu.not rfl) ?_
      refine XO.nil ?_
      refine X.sub (p' := [(21, _), (4, _), (5, _), (12, _), (13, _), (14, _)]) ⟨rfl, rfl, rfl, rfl, rfl, rfl, trivial⟩ ?_
      refine X.know 21 (.bool false) rfl (congrArg Value.bool (rfl)) ?_
      refine X.condF rfl ?_
      refine X.skip ?_
      refine X.inBlock ?_
      refine X.region ?_
      refine XO.pu (Pu.add rfl rfl (by omega) (by omega)) ?_
      refine XO.pu (Pu.move rfl) ?_
      refine XO.nil ?_
      refine X.sub (p' := [(14, _), (4, _), (5, _), (12, _), (13, _)]) ⟨rfl, rfl, rfl, rfl, rfl, trivial⟩ ?_
      rw [← turnsOf_succ hi0]
      refine X.at (ih (i + 1, a3, c3) ⟨by dsimp only; omega, by dsimp only; rw [List.take_succ_eq_append_getElem hi0]; intro y hy; rcases List.mem_append.1 hy with hy | hy; exact hi2 y hy; rw [List.mem_singleton.1 hy]; exact hx⟩ (by dsimp only; omega)) ⟨(by first | rfl | exact congrArg some (congrArg (Value.int _) (by omega)) | (show some _ = some _; simp; done) | (show some _ = some _; simp; omega)), (by first | rfl | exact congrArg some (congrArg (Value.int _) (by omega)) | (show some _ = some _; simp; done) | (show some _ = some _; simp; omega)), (by first | rfl | exact congrArg some (congrArg (Value.int _) (by omega)) | (show some _ = some _; simp; done) | (show some _ = some _; simp; omega)), (by first | rfl | exact congrArg some (congrArg (Value.int _) (by omega)) | (show some _ = some _; simp; done) | (show some _ = some _; simp; omega)), (by first | rfl | exact congrArg some (congrArg (Value.int _) (by omega)) | (show some _ = some _; simp; done) | (show some _ = some _; simp; omega)), trivial⟩ leA
    · skip
      refine XO.cV (CallV.c11 Try.call36 (add_no (q := []) (p := n1) (t := th[i]) hx)) ?_
      rintro _ _ ⟨rfl, rfl⟩ _ e_; simp only [ca, na] at e_; subst e_
      refine XO.pu (Pu.not rfl) ?_
      refine XO.nil ?_
      refine X.sub (p' := [(21, _), (4, _), (5, _), (12, _), (13, _), (14, _)]) ⟨rfl, rfl, rfl, rfl, rfl, rfl, trivial⟩ ?_
      refine X.know 21 (.bool true) rfl (congrArg Value.bool (rfl)) ?_
      refine X.condT rfl ?_
      refine X.seq ?_
      refine X.region ?_
      refine XO.pu (Pu.assign rfl) ?_
      refine XO.pu (Pu.assign rfl) ?_
      refine XO.nil ?_
      refine X.sub (p' := [(3, _), (2, _), (4, _), (5, _), (12, _), (13, _), (14, _)]) ⟨rfl, rfl, rfl, rfl, rfl, rfl, rfl, trivial⟩ ?_
      refine X.retL (q) Try.func23 (res2 Try.results23 rfl rfl) ⟨_, rfl, rfl, rfl⟩
  · skip
    have h0 := of_decide_eq_false h0; obtain rfl : i = th.length := by omega
    rw [List.take_length] at *
    exact (ok hi2).elim
theorem Turns_ok (hs : Sees q a (th.map (Value.int .i64))) (hL : th.length ≤ 50000) (ok : ∀ x ∈ th, 0 ≤ x ∧ x ≤ 7) : CallF Try.prog G 23 [.slice a th.length c] q (Ret fun v q' => ∃ a' c', v = .tuple [.slice a' (turnsOf th).length c', .int .i64 0].toArray ∧ q' = rsH tcs 2 57 a' c' (turnsOf th) :: q) := by
  refine CallF.of Try.func23 Try.ntmps23 rfl (fun F cs => ?_)
  refine X.sub (p' := [(0, _)]) ⟨rfl, trivial⟩ ?_
  refine X.seq ?_
  refine X.region ?_
  refine XO.pu (Pu.assign rfl) ?_
  refine XO.pu (Pu.assign rfl) ?_
  refine XO.nil ?_
  refine X.sub (p' := [(3, _), (2, _), (0, _)]) ⟨rfl, rfl, rfl, trivial⟩ ?_
  refine X.seq ?_
  refine X.seq ?_
  refine X.region ?_
  refine XO.pu (Pu.move rfl) ?_
  refine XO.pu (Pu.len rfl Try.underlying48) ?_
  refine XO.pu (Pu.gtr rfl rfl) ?_
  refine XO.nil ?_
  refine X.sub (p' := [(10, _), (3, _), (2, _), (0, _)]) ⟨rfl, rfl, rfl, rfl, trivial⟩ ?_
  refine X.know 10 (.bool false) rfl (congrArg Value.bool (by simp; omega)) ?_
  refine X.condF rfl ?_
  refine X.skip ?_
  refine X.seq ?_
  refine X.region ?_
  refine XO.ef (Ef.alloc Try.zeroValue23) ?_
  rintro _ _ ⟨n1, rfl, rfl⟩
  refine XO.nil ?_
  refine X.sub (p' := [(4, _), (3, _), (2, _), (0, _)]) ⟨rfl, rfl, rfl, rfl, trivial⟩ ?_
  refine X.seq ?_
  refine X.region ?_
  refine XO.pu (Pu.makeFunc rfl rfl) ?_
  refine XO.pu (Pu.assign rfl) ?_
  refine XO.nil ?_
  refine X.sub (p' := [(5, _), (4, _), (3, _), (2, _), (0, _)]) ⟨rfl, rfl, rfl, rfl, rfl, trivial⟩ ?_
  refine X.seq ?_
  refine X.seq ?_
  refine X.region ?_
  refine XO.pu (Pu.move rfl) ?_
  refine XO.pu (Pu.len rfl Try.underlying48) ?_
  refine XO.pu (Pu.move rfl) ?_
  refine XO.nil ?_
  refine X.sub (p' := [(14, _), (13, _), (12, _), (5, _), (4, _), (3, _), (2, _)]) ⟨rfl, rfl, rfl, rfl, rfl, rfl, rfl, trivial⟩ ?_
  refine X.block ?_
  refine X.at (X.loop (fun (s : Nat × Option Addr × Nat) => s.1 ≤ th.length ∧ (∀ x ∈ th.take s.1, 0 ≤ x ∧ x ≤ 7)) (fun s => [(4, .pointer (some ⟨n1, 0, none⟩)), (5, .func (.func 36) [].toArray [.pointer (some ⟨n1, 0, none⟩)].toArray), (12, .slice a th.length c), (13, .int .i64 (th.length : Int)), (14, .int .i64 (s.1 : Int))]) (fun s => pto n1 (.cells [.slice s.2.1 (turnsOf (th.take s.1)).length s.2.2].toArray 23 (0, 0)) :: rsH tcs 2 57 s.2.1 s.2.2 (turnsOf (th.take s.1)) :: (q ++ F)) (fun s => th.length - s.1) (fun s hi_ ih => ?_) (0, none, 0) ⟨by dsimp only; omega, by simp⟩) ⟨(by first | rfl | exact congrArg some (congrArg (Value.int _) (by omega)) | (show some _ = some _; simp; done) | (show some _ = some _; simp; omega)), (by first | rfl | exact congrArg some (congrArg (Value.int _) (by omega)) | (show some _ = some _; simp; done) | (show some _ = some _; simp; omega)), (by first | rfl | exact congrArg some (congrArg (Value.int _) (by omega)) | (show some _ = some _; simp; done) | (show some _ = some _; simp; omega)), (by first | rfl | exact congrArg some (congrArg (Value.int _) (by omega)) | (show some _ = some _; simp; done) | (show some _ = some _; simp; omega)), (by first | rfl | exact congrArg some (congrArg (Value.int _) (by omega)) | (show some _ = some _; simp; done) | (show some _ = some _; simp; omega)), trivial⟩ (Le.trans (Le.trans leA (Le.rsH_nil tcs 2 57 _)) leA)
  try dsimp only at hi_ ih ⊢
  obtain ⟨hi1, hi2⟩ := hi_
  obtain ⟨i, a2, c2⟩ := s; dsimp only at *
  refine X.seq ?_
  refine X.region ?_
  refine XO.pu (Pu.lss rfl rfl) ?_
  refine XO.nil ?_
  refine X.sub (p' := [(15, _), (4, _), (5, _), (12, _), (13, _), (14, _)]) ⟨rfl, rfl, rfl, rfl, rfl, rfl, trivial⟩ ?_
  refine X.seq ?_
  refine X.part 15 rfl (fun h0 => ?_) (fun h0 => ?_)
  · skip
    have h0 := of_decide_eq_true h0; have hi0 : i < th.length := (by omega)
    refine X.adr hs (by simp; omega) (fun b1 o1 e_ => ?_); subst e_
    have htl := turnsOf_len th i; have hts := turnsOf_steps th i
    refine X.condT rfl ?_
    refine X.skip ?_
    refine X.seq ?_
    refine X.block ?_
    refine X.seq ?_
    refine X.region ?_
    refine XO.pu (Pu.indexAddr rfl rfl Try.underlying48 Try.sizeOf3 (by omega) (by omega)) ?_
    refine XO.ld Try.isAgg3 ?_
    refine XO.pu (Pu.assign rfl) ?_
    refine XO.nil ?_
    refine X.sub (p' := [(7, _), (4, _), (5, _), (12, _), (13, _), (14, _)]) ⟨rfl, rfl, rfl, rfl, rfl, rfl, trivial⟩ ?_
    refine X.seq ?_
    refine X.region ?_
    refine XO.pu (Pu.move rfl) ?_
    refine XO.pu (Pu.move rfl) ?_
    rcases Decidable.em (0 ≤ th[i] ∧ th[i] ≤ 7) with hx | hx
    · skip
      refine XO.cV (CallV.c11 Try.call36 (add_ok (p := n1) (a := a2) (c := c2) (l := turnsOf (th.take i)) (t := th[i]) hx (by omega) (fun y hy => ⟨by have := hts y hy; omega, by have := turnsOf_pos th i y hy; omega⟩))) ?_
      rintro _ _ ⟨a3, c3, rfl, rfl⟩ _ e_; simp only [ca, na] at e_; subst e_
      refine XO.pu (Pu.not rfl) ?_
      refine XO.nil ?_
      refine X.sub (p' := [(21, _), (4, _), (5, _), (12, _), (13, _), (14, _)]) ⟨rfl, rfl, rfl, rfl, rfl, rfl, trivial⟩ ?_
      refine X.know 21 (.bool false) rfl (congrArg Value.bool (rfl)) ?_
      refine X.condF rfl ?_
      refine X.skip ?_
      refine X.inBlock ?_
      refine X.region ?_
      refine XO.pu (Pu.add rfl rfl (by omega) (by omega)) ?_
      refine XO.pu (Pu.move rfl) ?_
      refine XO.nil ?_
      refine X.sub (p' := [(14, _), (4, _), (5, _), (12, _), (13, _)]) ⟨rfl, rfl, rfl, rfl, rfl, trivial⟩ ?_
      rw [← turnsOf_succ hi0]
      refine X.at (ih (i + 1, a3, c3) ⟨by dsimp only; omega, by dsimp only; rw [List.take_succ_eq_append_getElem hi0]; intro y hy; rcases List.mem_append.1 hy with hy | hy; exact hi2 y hy; rw [List.mem_singleton.1 hy]; exact hx⟩ (by dsimp only; omega)) ⟨(by first | rfl | exact congrArg some (congrArg (Value.int _) (by omega)) | (show some _ = some _; simp; done) | (show some _ = some _; simp; omega)), (by first | rfl | exact congrArg some (congrArg (Value.int _) (by omega)) | (show some _ = some _; simp; done) | (show some _ = some _; simp; omega)), (by first | rfl | exact congrArg some (congrArg (Value.int _) (by omega)) | (show some _ = some _; simp; done) | (show some _ = some _; simp; omega)), (by first | rfl | exact congrArg some (congrArg (Value.int _) (by omega)) | (show some _ = some _; simp; done) | (show some _ = some _; simp; omega)), (by first | rfl | exact congrArg some (congrArg (Value.int _) (by omega)) | (show some _ = some _; simp; done) | (show some _ = some _; simp; omega)), trivial⟩ leA
    · skip
      exact (hx (ok _ (List.getElem_mem hi0))).elim
  · skip
    have h0 := of_decide_eq_false h0; obtain rfl : i = th.length := by omega
    rw [List.take_length] at *
    refine X.condF rfl ?_
    refine X.exit rfl ?_
    refine X.seq ?_
    refine X.region ?_
    refine XO.ld Try.isAgg23 ?_
    refine XO.pu (Pu.assign rfl) ?_
    refine XO.pu (Pu.assign rfl) ?_
    refine XO.nil ?_
    refine X.sub (p' := [(3, _), (2, _)]) ⟨rfl, rfl, trivial⟩ ?_
    refine X.retL (rsH tcs 2 57 a2 c2 (turnsOf th) :: q) Try.func23 (res2 Try.results23 rfl rfl) ⟨_, rfl, a2, c2, rfl, rfl⟩
theorem RTurns_no (hs : Sees q a (th.map (Value.int .i64))) (hL : th.length ≤ 50000) (ok : ¬ (∀ x ∈ th, 0 ≤ x ∧ x ≤ 7)) : CallF Try.prog G 24 [.slice a th.length c] q (Ret fun v q' => v = .tuple [.slice none 0 0, .int .i64 2].toArray ∧ q' = q) := by
  refine CallF.of Try.func24 Try.ntmps24 rfl (fun F cs => ?_)
  refine X.sub (p' := [(0, _)]) ⟨rfl, trivial⟩ ?_
  refine X.seq ?_
  refine X.region ?_
  refine XO.pu (Pu.assign rfl) ?_
  refine XO.pu (Pu.assign rfl) ?_
  refine XO.nil ?_
  refine X.sub (p' := [(3, _), (2, _), (0, _)]) ⟨rfl, rfl, rfl, trivial⟩ ?_
  refine X.seq ?_
  refine X.region ?_
  refine XO.pu (Pu.assign rfl) ?_
  refine XO.nil ?_
  refine X.sub (p' := [(4, _), (3, _), (2, _), (0, _)]) ⟨rfl, rfl, rfl, rfl, trivial⟩ ?_
  refine X.seq ?_
  refine X.seq ?_
  refine X.region ?_
  refine XO.pu (Pu.assign rfl) ?_
  refine XO.nil ?_
  refine X.sub (p' := [(5, _), (4, _), (3, _), (2, _), (0, _)]) ⟨rfl, rfl, rfl, rfl, rfl, trivial⟩ ?_
  refine X.block ?_
  refine X.at (X.loop (fun (s : Nat × Option Addr × Nat) => s.1 ≤ th.length ∧ (∀ x ∈ th.take s.1, 0 ≤ x ∧ x ≤ 7)) (fun s => [(0, .slice a th.length c), (4, .slice s.2.1 (turnsOf (th.take s.1)).length s.2.2), (5, .int .i64 (s.1 : Int))]) (fun s => rsH tcs 2 57 s.2.1 s.2.2 (turnsOf (th.take s.1)) :: (q ++ F)) (fun s => th.length - s.1) (fun s hi_ ih => ?_) (0, none, 0) ⟨by dsimp only; omega, by simp⟩) ⟨(by first | rfl | exact congrArg some (congrArg (Value.int _) (by omega)) | (show some _ = some _; simp; done) | (show some _ = some _; simp; omega)), (by first | rfl | exact congrArg some (congrArg (Value.int _) (by omega)) | (show some _ = some _; simp; done) | (show some _ = some _; simp; omega)), (by first | rfl | exact congrArg some (congrArg (Value.int _) (by omega)) | (show some _ = some _; simp; done) | (show some _ = some _; simp; omega)), trivial⟩ (Le.trans leA (Le.rsH_nil tcs 2 57 _))
  try dsimp only at hi_ ih ⊢
  obtain ⟨hi1, hi2⟩ := hi_
  obtain ⟨i, a2, c2⟩ := s; dsimp only at *
  refine X.seq ?_
  refine X.seq ?_
  refine X.region ?_
  refine XO.pu (Pu.move rfl) ?_
  refine XO.pu (Pu.move rfl) ?_
  refine XO.pu (Pu.len rfl Try.underlying48) ?_
  refine XO.pu (Pu.lss rfl rfl) ?_
  refine XO.nil ?_
  refine X.sub (p' := [(9, _), (0, _), (4, _), (5, _)]) ⟨rfl, rfl, rfl, rfl, trivial⟩ ?_
  refine X.part 9 rfl (fun h0 => ?_) (fun h0 => ?_)
  · skip
    have h0 := of_decide_eq_true h0; have hi0 : i < th.length := (by omega)
    refine X.adr hs (by simp; omega) (fun b1 o1 e_ => ?_); subst e_
    have htl := turnsOf_len th i; have hts := turnsOf_steps th i
    generalize hG : turnsOf (th.take i) = L at *
    refine X.condT rfl ?_
    refine X.skip ?_
    refine X.seq ?_
    refine X.block ?_
    refine X.seq ?_
    refine X.seq ?_
    refine X.region ?_
    refine XO.pu (Pu.move rfl) ?_
    refine XO.pu (Pu.move rfl) ?_
    refine XO.pu (Pu.indexAddr rfl rfl Try.underlying48 Try.sizeOf3 (by omega) (by omega)) ?_
    refine XO.ld Try.isAgg3 ?_
    refine XO.pu (Pu.lss rfl rfl) ?_
    refine XO.pu (Pu.move rfl) ?_
    refine XO.sub (p' := [(17, _), (0, _), (4, _), (5, _)]) ⟨rfl, rfl, rfl, rfl, trivial⟩ ?_
    apply XO.cutOr 6 23 17 rfl
    · skip
      intro g1 M1; have h1 := g1; try simp only [decide_eq_true_eq, decide_eq_false_iff_not, bne_iff_ne, beq_iff_eq, ne_eq, bne_eq_false_iff_eq, beq_eq_false_iff_ne, Bool.not_eq_true', Bool.not_eq_false', Int.not_lt, Int.not_le, Bool.not_not, Bool.and_eq_true, Bool.and_eq_false_iff, Bool.true_and, Bool.and_true, beq_self_eq_true, Bool.or_eq_true, Bool.or_eq_false_iff] at h1
      refine XO.pu (Pu.move rfl) ?_
      refine XO.pu (Pu.move rfl) ?_
      refine XO.pu (Pu.indexAddr rfl rfl Try.underlying48 Try.sizeOf3 (by omega) (by omega)) ?_
      refine XO.ld Try.isAgg3 ?_
      refine XO.pu (Pu.gtr rfl rfl) ?_
      refine XO.pu (Pu.pickF rfl rfl) ?_
      exact XO.fin M1 ⟨orF g1, congrArg (fun x => some (Value.bool x)) g1.symm, rfl, rfl, rfl, trivial⟩
    · skip
      intro g1 M1; have h1 := g1; try simp only [decide_eq_true_eq, decide_eq_false_iff_not, bne_iff_ne, beq_iff_eq, ne_eq, bne_eq_false_iff_eq, beq_eq_false_iff_ne, Bool.not_eq_true', Bool.not_eq_false', Int.not_lt, Int.not_le, Bool.not_not, Bool.and_eq_true, Bool.and_eq_false_iff, Bool.true_and, Bool.and_true, beq_self_eq_true, Bool.or_eq_true, Bool.or_eq_false_iff] at h1
      refine XO.pass rfl ?_
      refine XO.pass rfl ?_
      refine XO.pass rfl ?_
      refine XO.pass rfl ?_
      refine XO.pass rfl ?_
      refine XO.pu (Pu.pickT rfl rfl) ?_
      exact XO.fin M1 ⟨orT g1, congrArg (fun x => some (Value.bool x)) g1.symm, rfl, rfl, rfl, trivial⟩
    · skip
      refine XO.nil ?_
      refine X.sub (p' := [(23, _), (0, _), (4, _), (5, _)]) ⟨rfl, rfl, rfl, rfl, trivial⟩ ?_
      refine X.part 23 rfl (fun h9 => ?_) (fun h9 => ?_)
      · skip
        try simp only [decide_eq_true_eq, decide_eq_false_iff_not, bne_iff_ne, beq_iff_eq, ne_eq, bne_eq_false_iff_eq, beq_eq_false_iff_ne, Bool.not_eq_true', Bool.not_eq_false', Int.not_lt, Int.not_le, Bool.not_not, Bool.and_eq_true, Bool.and_eq_false_iff, Bool.true_and, Bool.and_true, beq_self_eq_true, Bool.or_eq_true, Bool.or_eq_false_iff] at h9
        refine X.condT rfl ?_
        refine X.seq ?_
        refine X.region ?_
        refine XO.pu (Pu.assign rfl) ?_
        refine XO.pu (Pu.assign rfl) ?_
        refine XO.nil ?_
        refine X.sub (p' := [(3, _), (2, _), (0, _), (4, _), (5, _)]) ⟨rfl, rfl, rfl, rfl, rfl, trivial⟩ ?_
        refine X.retL (q) Try.func24 (res2 Try.results24 rfl rfl) ⟨_, rfl, rfl, rfl⟩
      · skip
        try simp only [decide_eq_true_eq, decide_eq_false_iff_not, bne_iff_ne, beq_iff_eq, ne_eq, bne_eq_false_iff_eq, beq_eq_false_iff_ne, Bool.not_eq_true', Bool.not_eq_false', Int.not_lt, Int.not_le, Bool.not_not, Bool.and_eq_true, Bool.and_eq_false_iff, Bool.true_and, Bool.and_true, beq_self_eq_true, Bool.or_eq_true, Bool.or_eq_false_iff] at h9
        have hx : 0 ≤ th[i] ∧ th[i] ≤ 7 := by omega
        refine X.condF rfl ?_
        refine X.skip ?_
        refine X.seq ?_
        refine X.draw [] Try.mixed (by kernel_rfl) (by kernel_rfl) rfl ?_
        refine XD.pu 0 rfl (Pu.move rfl) ?_
        refine XD.pu 1 rfl (Pu.gtr rfl rfl) ?_
        refine XD.pu 2 rfl (Pu.move rfl) ?_
        refine XD.sub (p' := [(26, _), (0, _), (4, _), (5, _)]) ⟨rfl, rfl, rfl, rfl, trivial⟩ ?_
        apply XD.cutAnd 0 [0, 1, 2, 3, 4, 5, 6, 7, 8, 9, 10, 11, 12, 13] 37 26 rfl
        · skip
          intro g1 M1; have k1 := g1; try simp only [decide_eq_true_eq, decide_eq_false_iff_not, bne_iff_ne, beq_iff_eq, ne_eq, bne_eq_false_iff_eq, beq_eq_false_iff_ne, Bool.not_eq_true', Bool.not_eq_false', Int.not_lt, Int.not_le, Bool.not_not, Bool.and_eq_true, Bool.and_eq_false_iff, Bool.true_and, Bool.and_true, beq_self_eq_true, Bool.or_eq_true, Bool.or_eq_false_iff] at k1
          refine XD.pu 3 rfl (Pu.move rfl) ?_
          refine XD.pu 4 rfl (Pu.move rfl) ?_
          refine XD.pu 5 rfl (Pu.sub rfl rfl (by omega) (by omega)) ?_
          refine XD.pu 6 rfl (Pu.indexAddr rfl rfl Try.underlying48 Try.sizeOf3 (by omega) (by omega)) ?_
          refine XD.ld 7 Try.isAgg3 ?_
          refine XD.pu 8 rfl (Pu.move rfl) ?_
          refine XD.pu 9 rfl (Pu.move rfl) ?_
          refine XD.pu 10 rfl (Pu.indexAddr rfl rfl Try.underlying48 Try.sizeOf3 (by omega) (by omega)) ?_
          refine XD.ld 11 Try.isAgg3 ?_
          refine XD.pu 12 rfl (Pu.eql rfl rfl) ?_
          refine XD.pu 13 rfl (Pu.pickT rfl rfl) ?_
          exact XD.fin M1 ⟨andT g1, congrArg (fun x => some (Value.bool x)) g1.symm, rfl, rfl, rfl, trivial⟩
        · skip
          intro g1 M1; have k1 := g1; try simp only [decide_eq_true_eq, decide_eq_false_iff_not, bne_iff_ne, beq_iff_eq, ne_eq, bne_eq_false_iff_eq, beq_eq_false_iff_ne, Bool.not_eq_true', Bool.not_eq_false', Int.not_lt, Int.not_le, Bool.not_not, Bool.and_eq_true, Bool.and_eq_false_iff, Bool.true_and, Bool.and_true, beq_self_eq_true, Bool.or_eq_true, Bool.or_eq_false_iff] at k1
          refine XD.pass 3 rfl ?_
          refine XD.pass 4 rfl ?_
          refine XD.pass 5 rfl ?_
          refine XD.pass 6 rfl ?_
          refine XD.pass 7 rfl ?_
          refine XD.pass 8 rfl ?_
          refine XD.pass 9 rfl ?_
          refine XD.pass 10 rfl ?_
          refine XD.pass 11 rfl ?_
          refine XD.pass 12 rfl ?_
          refine XD.pu 13 rfl (Pu.pickF rfl rfl) ?_
          exact XD.fin M1 ⟨andF g1, congrArg (fun x => some (Value.bool x)) g1.symm, rfl, rfl, rfl, trivial⟩
        · skip
          intro L_
          refine XD.nil ?_
          refine X.sub (p' := [(37, _), (0, _), (4, _), (5, _)]) ⟨rfl, rfl, rfl, rfl, trivial⟩ ?_
          refine X.part 37 rfl (fun h8 => ?_) (fun h8 => ?_)
          · skip
            try simp only [decide_eq_true_eq, decide_eq_false_iff_not, bne_iff_ne, beq_iff_eq, ne_eq, bne_eq_false_iff_eq, beq_eq_false_iff_ne, Bool.not_eq_true', Bool.not_eq_false', Int.not_lt, Int.not_le, Bool.not_not, Bool.and_eq_true, Bool.and_eq_false_iff, Bool.true_and, Bool.and_true, beq_self_eq_true, Bool.or_eq_true, Bool.or_eq_false_iff] at h8
            obtain ⟨h80, h81⟩ := h8; have hla := turnsOf_last (l := th) (n := i) (by omega) (by omega); rw [hG] at hla; obtain ⟨hl0, hla⟩ := hla
            rw [h81] at hla; have hg : L.getD (L.length - 1) (0, 0) = L[L.length - 1] := getD_lt _ _ _ (by omega)
            have hmx := hts _ (List.getElem_mem (show L.length - 1 < L.length by omega)); have hmy := turnsOf_pos th i _ (by rw [hG]; exact List.getElem_mem (show L.length - 1 < L.length by omega))
            rw [hg] at hla
            refine X.rsadr hl0 (fun g e_ => ?_); subst e_
            have hsL : Sees (rsH tcs 2 57 (some ⟨g, 0, none⟩) c2 L :: (q ++ F)) (some ⟨g, 0, none⟩) (L.flatMap tcs) := Sees.rsH _
            refine X.condT rfl ?_
            refine X.region ?_
            refine XO.pu (Pu.move rfl) ?_
            refine XO.pu (Pu.move rfl) ?_
            refine XO.pu (Pu.len rfl Try.underlying23) ?_
            refine XO.pu (Pu.sub rfl rfl (by omega) (by omega)) ?_
            refine XO.pu (Pu.indexAddr rfl rfl Try.underlying23 Try.sizeOf57 (by omega) (by omega)) ?_
            refine XO.pu (Pu.fieldAddr 3 1 0 rfl Try.underlying57 rfl Try.sizeOf3) ?_
            refine XO.ld Try.isAgg3 ?_
            refine XO.pu (Pu.add rfl rfl (by omega) (by omega)) ?_
            refine XO.pu (Pu.indexAddr rfl rfl Try.underlying23 Try.sizeOf57 (by omega) (by omega)) ?_
            refine XO.pu (Pu.fieldAddr 3 1 0 rfl Try.underlying57 rfl Try.sizeOf3) ?_
            refine XO.ef0 (Ef.setR (f := tcs) (l := L) (u := (th[i], L[L.length - 1].2 + 1)) (n := L.length - 1) (k := 1) rfl rfl Try.sizeOf3 (fun _ => rfl) (by omega) (by omega) rfl (by simp [tcs, hla]) rfl rfl fndA) ?_
            rintro _ _ ⟨rfl, rfl⟩
            rw [show L.set (L.length - 1) (th[i], L[L.length - 1].2 + 1) = addT L th[i] by unfold addT; rw [hg, if_pos ⟨hl0, hla⟩]]
            have he : L.length = (addT L th[i]).length := by unfold addT; rw [hg, if_pos ⟨hl0, hla⟩]; simp
            refine XO.nil ?_
            refine X.sub (p' := [(0, _), (4, _), (5, _)]) ⟨rfl, rfl, rfl, trivial⟩ ?_
            refine X.inBlock ?_
            refine X.region ?_
            refine XO.pu (Pu.move rfl) ?_
            refine XO.pu (Pu.add rfl rfl (by omega) (by omega)) ?_
            refine XO.pu (Pu.assign rfl) ?_
            refine XO.nil ?_
            refine X.sub (p' := [(5, _), (0, _), (4, _)]) ⟨rfl, rfl, rfl, trivial⟩ ?_
            rw [he, ← hG, ← turnsOf_succ hi0]
            refine X.at (ih (i + 1, some ⟨g, 0, none⟩, c2) ⟨by dsimp only; omega, by dsimp only; rw [List.take_succ_eq_append_getElem hi0]; intro y hy; rcases List.mem_append.1 hy with hy | hy; exact hi2 y hy; rw [List.mem_singleton.1 hy]; exact hx⟩ (by dsimp only; omega)) ⟨(by first | rfl | exact congrArg some (congrArg (Value.int _) (by omega)) | (show some _ = some _; simp; done) | (show some _ = some _; simp; omega)), (by first | rfl | exact congrArg some (congrArg (Value.int _) (by omega)) | (show some _ = some _; simp; done) | (show some _ = some _; simp; omega)), (by first | rfl | exact congrArg some (congrArg (Value.int _) (by omega)) | (show some _ = some _; simp; done) | (show some _ = some _; simp; omega)), trivial⟩ leA
          · skip
            try simp only [decide_eq_true_eq, decide_eq_false_iff_not, bne_iff_ne, beq_iff_eq, ne_eq, bne_eq_false_iff_eq, beq_eq_false_iff_ne, Bool.not_eq_true', Bool.not_eq_false', Int.not_lt, Int.not_le, Bool.not_not, Bool.and_eq_true, Bool.and_eq_false_iff, Bool.true_and, Bool.and_true, beq_self_eq_true, Bool.or_eq_true, Bool.or_eq_false_iff] at h8
            have hn : ¬ (0 < L.length ∧ (L.getD (L.length - 1) (0, 0)).1 = th[i]) := by
              rintro ⟨x, e⟩
              rcases Nat.eq_zero_or_pos i with h | h
              · subst h; simp [turnsOf] at hG; subst hG; simp at x
              · have := turnsOf_last (l := th) (n := i) h (by omega); rw [hG, e] at this; rcases h8 with h8 | h8; omega; exact h8 this.2.symm
            have he : addT L th[i] = L ++ [(th[i], 1)] := if_neg hn
            refine X.condF rfl ?_
            refine X.region ?_
            refine XO.pu (Pu.move rfl) ?_
            refine XO.pu (Pu.move rfl) ?_
            refine XO.pu (Pu.move rfl) ?_
            refine XO.pu (Pu.indexAddr rfl rfl Try.underlying48 Try.sizeOf3 (by omega) (by omega)) ?_
            refine XO.ld Try.isAgg3 ?_
            refine XO.pu (Pu.build (cells := [_, _]) [(0, 1), (1, 1)] Try.zeroValue57 Try.underlying57 (by kernel_rfl) rfl rfl) ?_
            refine XO.ef (Ef.litR1 (u := (th[i], 1)) tcs Try.underlying23 Try.info57 rfl rfl (fun _ => rfl) rfl) ?_
            rintro _ _ ⟨g2, rfl, rfl⟩
            refine XO.ef (Ef.appRA (l := L) (m := [(th[i], 1)]) Try.underlying23 Try.info57 rfl rfl (fun _ => rfl) rfl rfl fndA ((Sees.rsH _).le leA) (fun _ => rfl) (by simp; omega) (by simp; omega)) ?_
            rintro _ _ ⟨a3, c3, rfl, rfl⟩
            refine XO.pu (Pu.assign rfl) ?_
            refine XO.nil ?_
            refine X.sub (p' := [(4, _), (0, _), (5, _)]) ⟨rfl, rfl, rfl, trivial⟩ ?_
            refine X.inBlock ?_
            refine X.region ?_
            refine XO.pu (Pu.move rfl) ?_
            refine XO.pu (Pu.add rfl rfl (by omega) (by omega)) ?_
            refine XO.pu (Pu.assign rfl) ?_
            refine XO.nil ?_
            refine X.sub (p' := [(5, _), (4, _), (0, _)]) ⟨rfl, rfl, rfl, trivial⟩ ?_
            rw [← he, ← hG, ← turnsOf_succ hi0]
            refine X.at (ih (i + 1, a3, c3) ⟨by dsimp only; omega, by dsimp only; rw [List.take_succ_eq_append_getElem hi0]; intro y hy; rcases List.mem_append.1 hy with hy | hy; exact hi2 y hy; rw [List.mem_singleton.1 hy]; exact hx⟩ (by dsimp only; omega)) ⟨(by first | rfl | exact congrArg some (congrArg (Value.int _) (by omega)) | (show some _ = some _; simp; done) | (show some _ = some _; simp; omega)), (by first | rfl | exact congrArg some (congrArg (Value.int _) (by omega)) | (show some _ = some _; simp; done) | (show some _ = some _; simp; omega)), (by first | rfl | exact congrArg some (congrArg (Value.int _) (by omega)) | (show some _ = some _; simp; done) | (show some _ = some _; simp; omega)), trivial⟩ leA
  · skip
    have h0 := of_decide_eq_false h0; obtain rfl : i = th.length := by omega
    rw [List.take_length] at *
    have htl := turnsOf_len th th.length; rw [List.take_length] at htl
    exact (ok hi2).elim
theorem RTurns_ok (hs : Sees q a (th.map (Value.int .i64))) (hL : th.length ≤ 50000) (ok : ∀ x ∈ th, 0 ≤ x ∧ x ≤ 7) : CallF Try.prog G 24 [.slice a th.length c] q (Ret fun v q' => ∃ a' c', v = .tuple [.slice a' (turnsOf th).length c', .int .i64 0].toArray ∧ q' = rsH tcs 2 57 a' c' (turnsOf th) :: q) := by
  refine CallF.of Try.func24 Try.ntmps24 rfl (fun F cs => ?_)
  refine X.sub (p' := [(0, _)]) ⟨rfl, trivial⟩ ?_
  refine X.seq ?_
  refine X.region ?_
  refine XO.pu (Pu.assign rfl) ?_
  refine XO.pu (Pu.assign rfl) ?_
  refine XO.nil ?_
  refine X.sub (p' := [(3, _), (2, _), (0, _)]) ⟨rfl, rfl, rfl, trivial⟩ ?_
  refine X.seq ?_
  refine X.region ?_
  refine XO.pu (Pu.assign rfl) ?_
  refine XO.nil ?_
  refine X.sub (p' := [(4, _), (3, _), (2, _), (0, _)]) ⟨rfl, rfl, rfl, rfl, trivial⟩ ?_
  refine X.seq ?_
  refine X.seq ?_
  refine X.region ?_
  refine XO.pu (Pu.assign rfl) ?_
  refine XO.nil ?_
  refine X.sub (p' := [(5, _), (4, _), (3, _), (2, _), (0, _)]) ⟨rfl, rfl, rfl, rfl, rfl, trivial⟩ ?_
  refine X.block ?_
  refine X.at (X.loop (fun (s : Nat × Option Addr × Nat) => s.1 ≤ th.length ∧ (∀ x ∈ th.take s.1, 0 ≤ x ∧ x ≤ 7)) (fun s => [(0, .slice a th.length c), (4, .slice s.2.1 (turnsOf (th.take s.1)).length s.2.2), (5, .int .i64 (s.1 : Int))]) (fun s => rsH tcs 2 57 s.2.1 s.2.2 (turnsOf (th.take s.1)) :: (q ++ F)) (fun s => th.length - s.1) (fun s hi_ ih => ?_) (0, none, 0) ⟨by dsimp only; omega, by simp⟩) ⟨(by first | rfl | exact congrArg some (congrArg (Value.int _) (by omega)) | (show some _ = some _; simp; done) | (show some _ = some _; simp; omega)), (by first | rfl | exact congrArg some (congrArg (Value.int _) (by omega)) | (show some _ = some _; simp; done) | (show some _ = some _; simp; omega)), (by first | rfl | exact congrArg some (congrArg (Value.int _) (by omega)) | (show some _ = some _; simp; done) | (show some _ = some _; simp; omega)), trivial⟩ (Le.trans leA (Le.rsH_nil tcs 2 57 _))
  try dsimp only at hi_ ih ⊢
  obtain ⟨hi1, hi2⟩ := hi_
  obtain ⟨i, a2, c2⟩ := s; dsimp only at *
  refine X.seq ?_
  refine X.seq ?_
  refine X.region ?_
  refine XO.pu (Pu.move rfl) ?_
  refine XO.pu (Pu.move rfl) ?_
  refine XO.pu (Pu.len rfl Try.underlying48) ?_
  refine XO.pu (Pu.lss rfl rfl) ?_
  refine XO.nil ?_
  refine X.sub (p' := [(9, _), (0, _), (4, _), (5, _)]) ⟨rfl, rfl, rfl, rfl, trivial⟩ ?_
  refine X.part 9 rfl (fun h0 => ?_) (fun h0 => ?_)
  · skip
    have h0 := of_decide_eq_true h0; have hi0 : i < th.length := (by omega)
    refine X.adr hs (by simp; omega) (fun b1 o1 e_ => ?_); subst e_
    have htl := turnsOf_len th i; have hts := turnsOf_steps th i
    generalize hG : turnsOf (th.take i) = L at *
    refine X.condT rfl ?_
    refine X.skip ?_
    refine X.seq ?_
    refine X.block ?_
    refine X.seq ?_
    refine X.seq ?_
    refine X.region ?_
    refine XO.pu (Pu.move rfl) ?_
    refine XO.pu (Pu.move rfl) ?_
    refine XO.pu (Pu.indexAddr rfl rfl Try.underlying48 Try.sizeOf3 (by omega) (by omega)) ?_
    refine XO.ld Try.isAgg3 ?_
    refine XO.pu (Pu.lss rfl rfl) ?_
    refine XO.pu (Pu.move rfl) ?_
    refine XO.sub (p' := [(17, _), (0, _), (4, _), (5, _)]) ⟨rfl, rfl, rfl, rfl, trivial⟩ ?_
    apply XO.cutOr 6 23 17 rfl
    · skip
      intro g1 M1; have h1 := g1; try simp only [decide_eq_true_eq, decide_eq_false_iff_not, bne_iff_ne, beq_iff_eq, ne_eq, bne_eq_false_iff_eq, beq_eq_false_iff_ne, Bool.not_eq_true', Bool.not_eq_false', Int.not_lt, Int.not_le, Bool.not_not, Bool.and_eq_true, Bool.and_eq_false_iff, Bool.true_and, Bool.and_true, beq_self_eq_true, Bool.or_eq_true, Bool.or_eq_false_iff] at h1
      refine XO.pu (Pu.move rfl) ?_
      refine XO.pu (Pu.move rfl) ?_
      refine XO.pu (Pu.indexAddr rfl rfl Try.underlying48 Try.sizeOf3 (by omega) (by omega)) ?_
      refine XO.ld Try.isAgg3 ?_
      refine XO.pu (Pu.gtr rfl rfl) ?_
      refine XO.pu (Pu.pickF rfl rfl) ?_
      exact XO.fin M1 ⟨orF g1, congrArg (fun x => some (Value.bool x)) g1.symm, rfl, rfl, rfl, trivial⟩
    · skip
      intro g1 M1; have h1 := g1; try simp only [decide_eq_true_eq, decide_eq_false_iff_not, bne_iff_ne, beq_iff_eq, ne_eq, bne_eq_false_iff_eq, beq_eq_false_iff_ne, Bool.not_eq_true', Bool.not_eq_false', Int.not_lt, Int.not_le, Bool.not_not, Bool.and_eq_true, Bool.and_eq_false_iff, Bool.true_and, Bool.and_true, beq_self_eq_true, Bool.or_eq_true, Bool.or_eq_false_iff] at h1
      refine XO.pass rfl ?_
      refine XO.pass rfl ?_
      refine XO.pass rfl ?_
      refine XO.pass rfl ?_
      refine XO.pass rfl ?_
      refine XO.pu (Pu.pickT rfl rfl) ?_
      exact XO.fin M1 ⟨orT g1, congrArg (fun x => some (Value.bool x)) g1.symm, rfl, rfl, rfl, trivial⟩
    · skip
      refine XO.nil ?_
      refine X.sub (p' := [(23, _), (0, _), (4, _), (5, _)]) ⟨rfl, rfl, rfl, rfl, trivial⟩ ?_
      refine X.part 23 rfl (fun h9 => ?_) (fun h9 => ?_)
      · skip
        try simp only [decide_eq_true_eq, decide_eq_false_iff_not, bne_iff_ne, beq_iff_eq, ne_eq, bne_eq_false_iff_eq, beq_eq_false_iff_ne, Bool.not_eq_true', Bool.not_eq_false', Int.not_lt, Int.not_le, Bool.not_not, Bool.and_eq_true, Bool.and_eq_false_iff, Bool.true_and, Bool.and_true, beq_self_eq_true, Bool.or_eq_true, Bool.or_eq_false_iff] at h9
        exact absurd (ok _ (List.getElem_mem hi0)) (by omega)
      · skip
        try simp only [decide_eq_true_eq, decide_eq_false_iff_not, bne_iff_ne, beq_iff_eq, ne_eq, bne_eq_false_iff_eq, beq_eq_false_iff_ne, Bool.not_eq_true', Bool.not_eq_false', Int.not_lt, Int.not_le, Bool.not_not, Bool.and_eq_true, Bool.and_eq_false_iff, Bool.true_and, Bool.and_true, beq_self_eq_true, Bool.or_eq_true, Bool.or_eq_false_iff] at h9
        have hx : 0 ≤ th[i] ∧ th[i] ≤ 7 := by omega
        refine X.condF rfl ?_
        refine X.skip ?_
        refine X.seq ?_
        refine X.draw [] Try.mixed (by kernel_rfl) (by kernel_rfl) rfl ?_
        refine XD.pu 0 rfl (Pu.move rfl) ?_
        refine XD.pu 1 rfl (Pu.gtr rfl rfl) ?_
        refine XD.pu 2 rfl (Pu.move rfl) ?_
        refine XD.sub (p' := [(26, _), (0, _), (4, _), (5, _)]) ⟨rfl, rfl, rfl, rfl, trivial⟩ ?_
        apply XD.cutAnd 0 [0, 1, 2, 3, 4, 5, 6, 7, 8, 9, 10, 11, 12, 13] 37 26 rfl
        · skip
          intro g1 M1; have k1 := g1; try simp only [decide_eq_true_eq, decide_eq_false_iff_not, bne_iff_ne, beq_iff_eq, ne_eq, bne_eq_false_iff_eq, beq_eq_false_iff_ne, Bool.not_eq_true', Bool.not_eq_false', Int.not_lt, Int.not_le, Bool.not_not, Bool.and_eq_true, Bool.and_eq_false_iff, Bool.true_and, Bool.and_true, beq_self_eq_true, Bool.or_eq_true, Bool.or_eq_false_iff] at k1
          refine XD.pu 3 rfl (Pu.move rfl) ?_
          refine XD.pu 4 rfl (Pu.move rfl) ?_
          refine XD.pu 5 rfl (Pu.sub rfl rfl (by omega) (by omega)) ?_
          refine XD.pu 6 rfl (Pu.indexAddr rfl rfl Try.underlying48 Try.sizeOf3 (by omega) (by omega)) ?_
          refine XD.ld 7 Try.isAgg3 ?_
          refine XD.pu 8 rfl (Pu.move rfl) ?_
          refine XD.pu 9 rfl (Pu.move rfl) ?_
          refine XD.pu 10 rfl (Pu.indexAddr rfl rfl Try.underlying48 Try.sizeOf3 (by omega) (by omega)) ?_
          refine XD.ld 11 Try.isAgg3 ?_
          refine XD.pu 12 rfl (Pu.eql rfl rfl) ?_
          refine XD.pu 13 rfl (Pu.pickT rfl rfl) ?_
          exact XD.fin M1 ⟨andT g1, congrArg (fun x => some (Value.bool x)) g1.symm, rfl, rfl, rfl, trivial⟩
        · skip
          intro g1 M1; have k1 := g1; try simp only [decide_eq_true_eq, decide_eq_false_iff_not, bne_iff_ne, beq_iff_eq, ne_eq, bne_eq_false_iff_eq, beq_eq_false_iff_ne, Bool.not_eq_true', Bool.not_eq_false', Int.not_lt, Int.not_le, Bool.not_not, Bool.and_eq_true, Bool.and_eq_false_iff, Bool.true_and, Bool.and_true, beq_self_eq_true, Bool.or_eq_true, Bool.or_eq_false_iff] at k1
          refine XD.pass 3 rfl ?_
          refine XD.pass 4 rfl ?_
          refine XD.pass 5 rfl ?_
          refine XD.pass 6 rfl ?_
          refine XD.pass 7 rfl ?_
          refine XD.pass 8 rfl ?_
          refine XD.pass 9 rfl ?_
          refine XD.pass 10 rfl ?_
          refine XD.pass 11 rfl ?_
          refine XD.pass 12 rfl ?_
          refine XD.pu 13 rfl (Pu.pickF rfl rfl) ?_
          exact XD.fin M1 ⟨andF g1, congrArg (fun x => some (Value.bool x)) g1.symm, rfl, rfl, rfl, trivial⟩
        · skip
          intro L_
          refine XD.nil ?_
          refine X.sub (p' := [(37, _), (0, _), (4, _), (5, _)]) ⟨rfl, rfl, rfl, rfl, trivial⟩ ?_
          refine X.part 37 rfl (fun h8 => ?_) (fun h8 => ?_)
          · skip
            try simp only [decide_eq_true_eq, decide_eq_false_iff_not, bne_iff_ne, beq_iff_eq, ne_eq, bne_eq_false_iff_eq, beq_eq_false_iff_ne, Bool.not_eq_true', Bool.not_eq_false', Int.not_lt, Int.not_le, Bool.not_not, Bool.and_eq_true, Bool.and_eq_false_iff, Bool.true_and, Bool.and_true, beq_self_eq_true, Bool.or_eq_true, Bool.or_eq_false_iff] at h8
            obtain ⟨h80, h81⟩ := h8; have hla := turnsOf_last (l := th) (n := i) (by omega) (by omega); rw [hG] at hla; obtain ⟨hl0, hla⟩ := hla
            rw [h81] at hla; have hg : L.getD (L.length - 1) (0, 0) = L[L.length - 1] := getD_lt _ _ _ (by omega)
            have hmx := hts _ (List.getElem_mem (show L.length - 1 < L.length by omega)); have hmy := turnsOf_pos th i _ (by rw [hG]; exact List.getElem_mem (show L.length - 1 < L.length by omega))
            rw [hg] at hla
            refine X.rsadr hl0 (fun g e_ => ?_); subst e_
            have hsL : Sees (rsH tcs 2 57 (some ⟨g, 0, none⟩) c2 L :: (q ++ F)) (some ⟨g, 0, none⟩) (L.flatMap tcs) := Sees.rsH _
            refine X.condT rfl ?_
            refine X.region ?_
            refine XO.pu (Pu.move rfl) ?_
            refine XO.pu (Pu.move rfl) ?_
            refine XO.pu (Pu.len rfl Try.underlying23) ?_
            refine XO.pu (Pu.sub rfl rfl (by omega) (by omega)) ?_
            refine XO.pu (Pu.indexAddr rfl rfl Try.underlying23 Try.sizeOf57 (by omega) (by omega)) ?_
            refine XO.pu (Pu.fieldAddr 3 1 0 rfl Try.underlying57 rfl Try.sizeOf3) ?_
            refine XO.ld Try.isAgg3 ?_
            refine XO.pu (Pu.add rfl rfl (by omega) (by omega)) ?_
            refine XO.pu (Pu.indexAddr rfl rfl Try.underlying23 Try.sizeOf57 (by omega) (by omega)) ?_
            refine XO.pu (Pu.fieldAddr 3 1 0 rfl Try.underlying57 rfl Try.sizeOf3) ?_
            refine XO.ef0 (Ef.setR (f := tcs) (l := L) (u := (th[i], L[L.length - 1].2 + 1)) (n := L.length - 1) (k := 1) rfl rfl Try.sizeOf3 (fun _ => rfl) (by omega) (by omega) rfl (by simp [tcs, hla]) rfl rfl fndA) ?_
            rintro _ _ ⟨rfl, rfl⟩
            rw [show L.set (L.length - 1) (th[i], L[L.length - 1].2 + 1) = addT L th[i] by unfold addT; rw [hg, if_pos ⟨hl0, hla⟩]]
            have he : L.length = (addT L th[i]).length := by unfold addT; rw [hg, if_pos ⟨hl0, hla⟩]; simp
            refine XO.nil ?_
            refine X.sub (p' := [(0, _), (4, _), (5, _)]) ⟨rfl, rfl, rfl, trivial⟩ ?_
            refine X.inBlock ?_
            refine X.region ?_
            refine XO.pu (Pu.move rfl) ?_
            refine XO.pu (Pu.add rfl rfl (by omega) (by omega)) ?_
            refine XO.pu (Pu.assign rfl) ?_
            refine XO.nil ?_
            refine X.sub (p' := [(5, _), (0, _), (4, _)]) ⟨rfl, rfl, rfl, trivial⟩ ?_
            rw [he, ← hG, ← turnsOf_succ hi0]
            refine X.at (ih (i + 1, some ⟨g, 0, none⟩, c2) ⟨by dsimp only; omega, by dsimp only; rw [List.take_succ_eq_append_getElem hi0]; intro y hy; rcases List.mem_append.1 hy with hy | hy; exact hi2 y hy; rw [List.mem_singleton.1 hy]; exact hx⟩ (by dsimp only; omega)) ⟨(by first | rfl | exact congrArg some (congrArg (Value.int _) (by omega)) | (show some _ = some _; simp; done) | (show some _ = some _; simp; omega)), (by first | rfl | exact congrArg some (congrArg (Value.int _) (by omega)) | (show some _ = some _; simp; done) | (show some _ = some _; simp; omega)), (by first | rfl | exact congrArg some (congrArg (Value.int _) (by omega)) | (show some _ = some _; simp; done) | (show some _ = some _; simp; omega)), trivial⟩ leA
          · skip
            try simp only [decide_eq_true_eq, decide_eq_false_iff_not, bne_iff_ne, beq_iff_eq, ne_eq, bne_eq_false_iff_eq, beq_eq_false_iff_ne, Bool.not_eq_true', Bool.not_eq_false', Int.not_lt, Int.not_le, Bool.not_not, Bool.and_eq_true, Bool.and_eq_false_iff, Bool.true_and, Bool.and_true, beq_self_eq_true, Bool.or_eq_true, Bool.or_eq_false_iff] at h8
            have hn : ¬ (0 < L.length ∧ (L.getD (L.length - 1) (0, 0)).1 = th[i]) := by
              rintro ⟨x, e⟩
              rcases Nat.eq_zero_or_pos i with h | h
              · subst h; simp [turnsOf] at hG; subst hG; simp at x
              · have := turnsOf_last (l := th) (n := i) h (by omega); rw [hG, e] at this; rcases h8 with h8 | h8; omega; exact h8 this.2.symm
            have he : addT L th[i] = L ++ [(th[i], 1)] := if_neg hn
            refine X.condF rfl ?_
            refine X.region ?_
            refine XO.pu (Pu.move rfl) ?_
            refine XO.pu (Pu.move rfl) ?_
            refine XO.pu (Pu.move rfl) ?_
            refine XO.pu (Pu.indexAddr rfl rfl Try.underlying48 Try.sizeOf3 (by omega) (by omega)) ?_
            refine XO.ld Try.isAgg3 ?_
            refine XO.pu (Pu.build (cells := [_, _]) [(0, 1), (1, 1)] Try.zeroValue57 Try.underlying57 (by kernel_rfl) rfl rfl) ?_
            refine XO.ef (Ef.litR1 (u := (th[i], 1)) tcs Try.underlying23 Try.info57 rfl rfl (fun _ => rfl) rfl) ?_
            rintro _ _ ⟨g2, rfl, rfl⟩
            refine XO.ef (Ef.appRA (l := L) (m := [(th[i], 1)]) Try.underlying23 Try.info57 rfl rfl (fun _ => rfl) rfl rfl fndA ((Sees.rsH _).le leA) (fun _ => rfl) (by simp; omega) (by simp; omega)) ?_
            rintro _ _ ⟨a3, c3, rfl, rfl⟩
            refine XO.pu (Pu.assign rfl) ?_
            refine XO.nil ?_
            refine X.sub (p' := [(4, _), (0, _), (5, _)]) ⟨rfl, rfl, rfl, trivial⟩ ?_
            refine X.inBlock ?_
            refine X.region ?_
            refine XO.pu (Pu.move rfl) ?_
            refine XO.pu (Pu.add rfl rfl (by omega) (by omega)) ?_
            refine XO.pu (Pu.assign rfl) ?_
            refine XO.nil ?_
            refine X.sub (p' := [(5, _), (4, _), (0, _)]) ⟨rfl, rfl, rfl, trivial⟩ ?_
            rw [← he, ← hG, ← turnsOf_succ hi0]
            refine X.at (ih (i + 1, a3, c3) ⟨by dsimp only; omega, by dsimp only; rw [List.take_succ_eq_append_getElem hi0]; intro y hy; rcases List.mem_append.1 hy with hy | hy; exact hi2 y hy; rw [List.mem_singleton.1 hy]; exact hx⟩ (by dsimp only; omega)) ⟨(by first | rfl | exact congrArg some (congrArg (Value.int _) (by omega)) | (show some _ = some _; simp; done) | (show some _ = some _; simp; omega)), (by first | rfl | exact congrArg some (congrArg (Value.int _) (by omega)) | (show some _ = some _; simp; done) | (show some _ = some _; simp; omega)), (by first | rfl | exact congrArg some (congrArg (Value.int _) (by omega)) | (show some _ = some _; simp; done) | (show some _ = some _; simp; omega)), trivial⟩ leA
  · skip
    have h0 := of_decide_eq_false h0; obtain rfl : i = th.length := by omega
    rw [List.take_length] at *
    have htl := turnsOf_len th th.length; rw [List.take_length] at htl
    refine X.condF rfl ?_
    refine X.exit rfl ?_
    refine X.seq ?_
    refine X.seq ?_
    refine X.region ?_
    refine XO.pu (Pu.move rfl) ?_
    refine XO.pu (Pu.len rfl Try.underlying23) ?_
    refine XO.pu (Pu.gtr rfl rfl) ?_
    refine XO.nil ?_
    refine X.sub (p' := [(58, _), (4, _)]) ⟨rfl, rfl, trivial⟩ ?_
    refine X.know 58 (.bool false) rfl (congrArg Value.bool (by simp; omega)) ?_
    refine X.condF rfl ?_
    refine X.skip ?_
    refine X.seq ?_
    refine X.region ?_
    refine XO.pu (Pu.move rfl) ?_
    refine XO.pu (Pu.assign rfl) ?_
    refine XO.pu (Pu.assign rfl) ?_
    refine XO.nil ?_
    refine X.sub (p' := [(3, _), (2, _)]) ⟨rfl, rfl, trivial⟩ ?_
    refine X.retL (rsH tcs 2 57 a2 c2 (turnsOf th) :: q) Try.func24 (res2 Try.results24 rfl rfl) ⟨_, rfl, a2, c2, rfl, rfl⟩
end
end Go.Proofs.Ytiehcgmbkjdagaa

