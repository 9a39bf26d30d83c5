/-
  Plain program logic, part 35: a drawn region with blocks that are made at any time, where one of several others may come next.
-/
import Derived.Test.YtmdnfhpoplpaoaaDoorWc
set_option linter.unusedVariables false
set_option linter.unusedSimpArgs false
namespace Wx
open Go Go.RowKit
section
variable {P : Program} {G : World} {f : Fc} {Q : Post} {ops : List Oper} {k : List Item} {pk p : PE} {ds : List Deferred} {cs : List Frame} {q : List HP} {n : Nat} {done : List Nat} {L : Rds} {o : Oper} {v : Value} {fl : List FlE}
/-- An operation that may come now, and how it goes on behind it. -/
def StepOk (P : Program) (G : World) (f : Fc) (Q : Post) (ops : List Oper) (k : List Item) (pk : PE) (fl : List FlE) (L : Rds) (n : Nat) (done : List Nat) (p : PE) (ds : List Deferred) (cs : List Frame) (q : List HP) (j : Nat) : Prop :=
  ∃ (oj : Oper) (R : Value → List HP → Prop), ops[j]? = some oj ∧ (∀ E, Ef P G p (q ++ E) oj fun v q' => ∃ q1, R v q1 ∧ q' = q1 ++ E) ∧ (∀ v q1, R v q1 → HL q1 (cut oj L) ∧ XF P G f Q ops k pk fl (cut oj L) n (j :: done) (putp p oj.dst v) ds cs q1) ∧
    (fl.map (·.i)).contains j = false ∧ rdy ops done j = true ∧ Wt ops p oj = some true ∧ dOk f.n oj.dst = true
def onlyJ (ops : List Oper) (fl done js : List Nat) : Bool := (List.range ops.length).all fun j => js.contains j || fl.contains j || !rdy ops (fl ++ done) j
theorem XF.any (js : List Nat) (hR : FlR P G f ops done p fl) (hj0 : js ≠ []) (hJ : ∀ j ∈ js, StepOk P G f Q ops k pk fl L n done p ds cs q j) (hL : HL q L)
    (hon : onlyJ ops (fl.map (·.i)) done js = true) (hlen : Nat.ble fl.length n = true) : XF P G f Q ops k pk fl L (n + 1) done p ds cs q := by
  intro a b S m
  induction m generalizing S with
  | zero =>
    intro tm w h1 h2 h3 hn ag fa s
    exfalso
    have hle : S.length ≤ fl.length := by
      have h4 : (fIdx S).length ≤ (fl.map (·.i)).length := by
        refine List.Nodup.length_le_of_subset h1 fun x hx => ?_
        obtain ⟨e, he, rfl⟩ := List.mem_map.1 hx
        exact List.mem_map_of_mem (h2 e he)
      simpa [fIdx] using h4
    have : fl.length ≤ n := by simpa using hlen
    omega
  | succ m ih =>
    intro tm w h1 h2 h3 hn ag fa s
    have nS : ∀ j, (fl.map (·.i)).contains j = false → j ∉ fIdx S := fun j hjf hm => by
      obtain ⟨e, he, e'⟩ := List.mem_map.1 hm
      have : j ∈ fl.map (·.i) := by rw [← e']; exact List.mem_map_of_mem (h2 e he)
      simp [this] at hjf
    refine ⟨fun hnone => ?_, fun x ox hox hrx => ?_⟩
    · obtain ⟨j, r, rfl⟩ := List.exists_cons_of_ne_nil hj0
      obtain ⟨_, _, _, _, _, hjf, hr, _⟩ := hJ j (List.mem_cons_self ..)
      exact absurd (rdy_more hr (nS j hjf)) (by simp [hnone j])
    by_cases hxj : x ∈ js
    · obtain ⟨oj, R, ho, hE, K, hjf, hr, hw, hd⟩ := hJ x hxj
      have hjS := nS x hjf
      rw [ho] at hox; cases hox
      unfold OW
      rw [if_pos (wanted_of ag hw)]
      refine ((hE (fCh S)).ap tm w ag s).mono fun en w' _ hh => ?_
      obtain ⟨q', ⟨v, rfl, q1, hv, rfl⟩, s'⟩ := hh
      refine ⟨((K v q1 hv).1.le (Le.app_left q1 (fCh S))).sl s', ?_⟩
      refine WA.congr _ (done := fIdx S ++ (x :: done)) (fun y => by simp only [List.mem_append, List.mem_cons]; exact ⟨fun h => by rcases h with h | h | h <;> simp [h], fun h => by rcases h with h | h | h <;> simp [h]⟩) ?_
      refine (K v q1 hv).2 a b S m _ w' h1 h2 (by omega) (by rw [putA_size]; exact hn) (ag.put (hn ▸ hd)) ?_ s'
      intro e he
      obtain ⟨o2, ho2, hd2, hr2, _, _, _, _⟩ := hR.get (h2 e he)
      have hne : e.1.i ≠ x := fun e' => hjS (by rw [← e']; exact List.mem_map_of_mem he)
      have hdd := dst_ne a ho2 ho hne hr2 hr (rdy_mem hr) (rdy_mem hr2) hd2
      have := fa e he
      cases hdo : ox.dst with
      | none => simpa [putA] using this
      | some d =>
        have hdne : d ≠ e.1.d := fun e' => hdd (by rw [hdo, e'])
        simpa [putA, Array.getElem?_setIfInBounds, hdne] using this
    · have hxl : x < ops.length := (List.getElem?_eq_some_iff.1 hox).1
      have hxf : x ∈ fl.map (·.i) := by
        have h4 := List.all_eq_true.1 hon x (by simpa using hxl)
        rcases Decidable.em (x ∈ fl.map (·.i)) with h5 | h5
        · exact h5
        · have h6 : rdy ops (fl.map (·.i) ++ done) x = true := rdy_sup hrx (fun y hy => by
            rcases List.mem_append.1 hy with hy | hy
            · obtain ⟨e, he, rfl⟩ := List.mem_map.1 hy
              exact List.mem_append_left _ (List.mem_map_of_mem (h2 e he))
            · exact List.mem_append_right _ hy) (fun hm => by
            rcases List.mem_append.1 hm with hm | hm
            · exact h5 hm
            · exact rdy_mem hrx (List.mem_append_right _ hm))
          simp [hxj, h6] at h4
          simp at h5
          obtain ⟨y, hy, e⟩ := h4
          exact absurd e (h5 y hy)
      obtain ⟨e, he, rfl⟩ := List.mem_map.1 hxf
      have hxS : e.i ∉ fIdx S := fun hm => rdy_mem hrx (List.mem_append_left _ hm)
      refine XF.float a hR h1 h2 hn ag fa s he hxS hox fun g tm' w' k1 k2 k3 k4 k5 k6 => ?_
      refine ⟨((hL.sub fun y hy => (mem_cut.1 hy).1).le (Le.app_left q _)).sl k6, ?_⟩
      exact WA.mono _ (fun y hy => (mem_cut.1 hy).1) (ih ((e, g) :: S) tm' w' k1 k2 (by simp; omega) k3 k4 k5 k6)
theorem StepOk.of (j : Nat) {d : Tmp} {op : Op} {ty : TypeId} {pos : String} {af : Array Edge} {gd : Option (Nat × Bool)} {R : Value → List HP → Prop} (hE : ∀ E, Ef P G p (q ++ E) ⟨some d, op, ty, pos, af, gd⟩ fun v q' => ∃ q1, R v q1 ∧ q' = q1 ++ E)
    (K : ∀ v q1, R v q1 → HL q1 (cut ⟨some d, op, ty, pos, af, gd⟩ L) ∧ XF P G f Q ops k pk fl (cut ⟨some d, op, ty, pos, af, gd⟩ L) n (j :: done) ((d, v) :: p) ds cs q1)
    (ho : ops[j]? = some ⟨some d, op, ty, pos, af, gd⟩ := by rfl) (hif : (fl.map (·.i)).contains j = false := by rfl) (hr : rdy ops done j = true := by rfl) (hw : Wt ops p ⟨some d, op, ty, pos, af, gd⟩ = some true := by rfl) (hd : Nat.blt d f.n = true := by rfl) : StepOk P G f Q ops k pk fl L n done p ds cs q j :=
  ⟨_, R, ho, hE, K, hif, hr, hw, hd⟩
/-- One of two comes next, or what makes blocks. -/
theorem XF.two (i j : Nat) (hR : FlR P G f ops done p fl) (h1 : StepOk P G f Q ops k pk fl L n done p ds cs q i) (h2 : StepOk P G f Q ops k pk fl L n done p ds cs q j) (hL : HL q L := by exact hlA)
    (hon : onlyJ ops (fl.map (·.i)) done [i, j] = true := by rfl) (hlen : Nat.ble fl.length n = true := by rfl) : XF P G f Q ops k pk fl L (n + 1) done p ds cs q :=
  XF.any [i, j] hR (by simp) (fun x hx => by
    rcases List.mem_cons.1 hx with rfl | hx
    · exact h1
    · rw [List.mem_singleton.1 hx]; exact h2) hL hon hlen
end
end Wx

