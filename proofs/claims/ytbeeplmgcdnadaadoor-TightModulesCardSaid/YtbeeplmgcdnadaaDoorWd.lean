/-
  Plain program logic, part 35: a drawn region with blocks that are made at any time, where one of several others may come next.
-/
import Derived.Test.YtbeeplmgcdnadaaDoorWc
set_option linter.unusedVariables false
set_option linter.unusedSimpArgs false
namespace Wx
open Go Go.RowKit
section
variable {P : Program} {G : World} {f : Fc} {Q : Post} {ops : List Oper} {k : List Item} {pk p : PE} {ds : List Deferred} {cs : List Frame} {q : List HP} {n : Nat} {done : List Nat} {L : Rds} {o : Oper} {v : Value} {fl : List FlE}
/-- An operation that may come now, and how it goes on behind it. -/
def StepOk (P : Program) (G : World) (f : Fc) (Q : Post) (ops : List Oper) (k : List Item) (pk : PE) (fl : List FlE) (L : Rds) (n : Nat) (done : List Nat) (p : PE) (ds : List Deferred) (cs : List Frame) (q : List HP) (j : Nat) : Prop :=
  ∃ (oj : Oper) (R : Value → List HP → Prop), ops[j]? = some oj ∧ (∀ E, Ef P G p (q ++ E) oj fun v q' => ∃ q1, R v q1 ∧ q' = q1 ++ E) ∧ (∀ v q1, R v q1 → HL q1 (cut oj L) ∧ XF P G f Q ops k pk fl (cut oj L) n (j :: done) (putp p oj.dst v) ds cs q1) ∧
    (fl.map (·.i)).contains j = false ∧ rdy ops done j = true ∧ Wt ops p oj = some true ∧ dOk f.n oj.dst = true
def onlyJ (ops : List Oper) (fl done js : List Nat) : Bool := (List.range ops.length).all fun j => js.contains j || fl.contains j || !rdy ops (fl ++ done) j
theorem XF.any (js : List Nat) (hR : FlR P G f ops done p fl) (hj0 : js ≠ []) (hJ : ∀ j ∈ js, StepOk P G f Q ops k pk fl L n done p ds cs q j) (hL : HL q L)
    (hon : onlyJ ops (fl.map (·.i)) done js = true) (hlen : Nat.ble fl.length n = true) : XF P G f Q ops k pk fl L (n + 1) done p ds cs q := by
  intro a b S m
  induction m generalizing S with
  | zero =>
    intro tm w h1 h2 h3 hn ag fa s
    exfalso
    have hle : S.length ≤ fl.length := by
      have h4 : (fIdx S).length ≤ (fl.map (·.i)).length := by
        refine List.Nodup.length_le_of_subset h1 fun x hx => ?_
        obtain ⟨e, he, rfl⟩ := List.mem_map.1 hx
        exact List.mem_map_of_mem (h2 e he)
      simpa [fIdx] using h4
    have : fl.length ≤ n := by simpa using hlen
    omega
  | succ m ih =>
    intro tm w h1 h2 h3 hn ag fa s
    have nS : ∀ j, (fl.map (·.i)).contains j = false → j ∉ fIdx S := fun j hjf hm => by
      obtain ⟨e, he, e'⟩ := List.mem_map.1 hm
      have : j ∈ fl.map (·.i) := by rw [← e']; exact List.mem_map_of_mem (h2 e he)
      simp [this] at hjf
    refine ⟨fun hnone => ?_, fun x ox hox hrx => ?_⟩
    · obtain ⟨j, r, rfl⟩ := List.exists_cons_of_ne_nil hj0
      obtain ⟨_, _, _, _, _, hjf, hr, _⟩ := hJ j (List.mem_cons_self ..)
      exact absurd (rdy_more hr (nS j hjf)) (by simp [hnone j])
    by_cases hxj : x ∈ js
    · obtain ⟨oj, R, ho, hE, K, hjf, hr, hw, hd⟩ := hJ x hxj
      have hjS := nS x hjf
      rw [ho] at hox; cases hox
      unfold OW
      rw [if_pos (wanted_of ag hw)]
      refine ((hE (fCh S)).ap tm w ag s).mono fun en w' _ hh => ?_
      obtain ⟨q', ⟨v, rfl, q1, hv, rfl⟩, s'⟩ := hh
      refine ⟨((K v q1 hv).1.le (Le.app_left q1 (fCh S))).sl s', ?_⟩
      refine WA.congr _ (done := fIdx S ++ (x :: done)) (fun y => by simp only [List.mem_append, List.mem_cons]; exact ⟨fun h => by rcases h with h | h | h <;> simp [h], fun h => by rcases h with h | h | h <;> simp [h]⟩) ?_
      refine (K v q1 hv).2 a b S m _ w' h1 h2 (by omega) (by rw [putA_size]; exact hn) (ag.put (hn ▸ hd)) ?_ s'
      intro e he
      obtain ⟨o2, ho2, hd2, hr2, _, _, _, _⟩ := hR.get (h2 e he)
      have hne : e.1.i ≠ x := fun e' => hjS (by rw [← e']; exact List.mem_map_of_mem he)
      have hdd := dst_ne a ho2 ho hne hr2 hr (rdy_mem hr) (rdy_mem hr2) hd2
      have := fa e he
      cases hdo : ox.dst with
      | none => simpa [putA] using this
      | some d =>
        have hdne : d ≠ e.1.d := fun e' => hdd (by rw [hdo, e'])
        simpa [putA, Array.getElem?_setIfInBounds, hdne] using this
    · have hxl : x < ops.length := (List.getElem?_eq_some_iff.1 hox).1
      have hxf : x ∈ fl.map (·.i) := by
        have h4 := List.all_eq_true.1 hon x (by simpa using hxl)
        rcases Decidable.em (x ∈ fl.map (·.i)) with h5 | h5
        · exact h5
        · have h6 : rdy ops (fl.map (·.i) ++ done) x = true := rdy_sup hrx (fun y hy => by
            rcases List.mem_append.1 hy with hy | hy
            · obtain ⟨e, he, rfl⟩ := List.mem_map.1 hy
              exact List.mem_append_left _ (List.mem_map_of_mem (h2 e he))
            · exact List.mem_append_right _ hy) (fun hm => by
            rcases List.mem_append.1 hm with hm | hm
            · exact h5 hm
            · exact rdy_mem hrx (List.mem_append_right _ hm))
          simp [hxj, h6] at h4
          simp at h5
          obtain ⟨y, hy, e⟩ := h4
          exact absurd e (h5 y hy)
      obtain ⟨e, he, rfl⟩ := List.mem_map.1 hxf
      have hxS : e.i ∉ fIdx S := fun hm => rdy_mem hrx (List.mem_append_left _ hm)
      refine XF.float a hR h1 h2 hn ag fa s he hxS hox fun g tm' w' k1 k2 k3 k4 k5 k6 => ?_
      refine ⟨((hL.sub fun y hy => (mem_cut.1 hy).1).le (Le.app_left q _)).sl k6, ?_⟩
      exact WA.mono _ (fun y hy => (mem_cut.1 hy).1) (ih ((e, g) :: S) tm' w' k1 k2 (by simp; omega) k3 k4 k5 k6)
theorem StepOk.of (j : Nat) {d : Tmp} {op : Op} {ty : TypeId} {pos : String} {af : Array Edge} {gd : Option (Nat × Bool)} {R : Value → List HP → Prop} (hE : ∀ E, Ef P G p (q ++ E) ⟨some d, op, ty, pos, af, gd⟩ fun v q' => ∃ q1, R v q1 ∧ q' = q1 ++ E)
    (K : ∀ v q1, R v q1 → HL q1 (cut ⟨some d, op, ty, pos, af, gd⟩ L) ∧ XF P G f Q ops k pk fl (cut ⟨some d, op, ty, pos, af, gd⟩ L) n (j :: done) ((d, v) :: p) ds cs q1)
    (ho : ops[j]? = some ⟨some d, op, ty, pos, af, gd⟩ := by rfl) (hif : (fl.map (·.i)).contains j = false := by rfl) (hr : rdy ops done j = true := by rfl) (hw : Wt ops p ⟨some d, op, ty, pos, af, gd⟩ = some true := by rfl) (hd : Nat.blt d f.n = true := by rfl) : StepOk P G f Q ops k pk fl L n done p ds cs q j :=
  ⟨_, R, ho, hE, K, hif, hr, hw, hd⟩
/-- One of two comes next, or what makes blocks. -/
theorem XF.two (i j : Nat) (hR : FlR P G f ops done p fl) (h1 : StepOk P G f Q ops k pk fl L n done p ds cs q i) (h2 : StepOk P G f Q ops k pk fl L n done p ds cs q j) (hL : HL q L := by exact hlA)
    (hon : onlyJ ops (fl.map (·.i)) done [i, j] = true := by rfl) (hlen : Nat.ble fl.length n = true := by rfl) : XF P G f Q ops k pk fl L (n + 1) done p ds cs q :=
  XF.any [i, j] hR (by simp) (fun x hx => by
    rcases List.mem_cons.1 hx with rfl | hx
    · exact h1
    · rw [List.mem_singleton.1 hx]; exact h2) hL hon hlen
end
end Wx

/-
  Plain program logic, part 36: the built-in copy into an owned slice.
-/
namespace Wx
open Go Go.RowKit
section
variable {P : Program} {G : World} {p : PE} {q r : List HP} {d : Option Tmp} {ty' : TypeId} {pos : String} {af : Array Edge} {gd : Option (Nat × Bool)} {x y : Operand} {a b : Option Addr} {c c' : Nat} {t t2 e : TypeId}
theorem Ef.copyL {α : Type} {f : α → Value} {l m : List α} {z : Value} {bytes : Nat} (ht : P.underlying t = some (.slice e)) (hi : (P.info? e).map (fun i => (i.zero, i.size, i.bytes)) = some (some z, 1, bytes))
    (hx : evp p x = some (.slice a l.length c)) (hy : evp p y = some (.slice b m.length c')) (hq : Le q (Wx.lsH f e a c l :: r)) (hs : Sees q b (m.map f)) (h1 : ∀ u, (f u).oneCell' = true) (hml : m.length ≤ l.length) :
    Ef P G p q ⟨d, .call ⟨.builtin .copy, [x, y].toArray, [t, t2].toArray⟩, ty', pos, af, gd⟩ fun v q' => v = .int .i64 m.length ∧ q' = Wx.lsH f e a c (m ++ l.drop m.length) :: r := by
  obtain ⟨I, hI, e1, e2, e3⟩ := info_parts hi
  intro tm w ag s
  have hev : evl p [x, y] = some [.slice a l.length c, .slice b m.length c'] := by simp [evl, hx, hy]
  have hex := exec_builtin (d := d) (ty := ty') (pos := pos) (af := af) (gd := gd) (bi := .copy) (ats := [t, t2].toArray) ag hev
  rw [hex]
  have hrun : ∀ v w', (Builtin.copy_ #[t, t2] ty' #[.slice a l.length c, .slice b m.length c']).run P w = .ok v w' → (builtin .copy [t, t2].toArray ty' ([x, y].toArray.map fun | .const _ => true | _ => false) [.slice a l.length c, .slice b m.length c'].toArray).run P w = .ok (.value v) w' := by
    intro v w' h; simp [builtin, h]
  have hmin : Nat.min m.length l.length = m.length := Nat.min_eq_left hml
  rcases firstCells_sees (m := m.length) (sz := 1) (hs G w s) (by simp) Nat.one_pos with ⟨h0, _⟩ | ⟨ad, rfl, hc⟩
  · obtain rfl := List.eq_nil_of_length_eq_zero h0
    refine ⟨.int .i64 0, w, _, .inl (hrun _ _ ?_), ?_, rfl, rfl⟩
    · cases b <;> cases a <;> simp [Builtin.copy_, run_underlying ht, Go.sizeOf, typeInfo, hI, Builtin.lenOf, Builtin.firstCells, loadCells, loadCellsFrom, storeCells, goInt]
    · simpa using s.le hq
  · have hsl := s.le hq
    unfold Wx.lsH at hsl
    obtain ⟨hlen, hcase⟩ := hsl.slH_elim
    rcases hcase with ⟨rfl, rfl, h0, s'⟩ | ⟨g, cur, rfl, hnc, hcm, hcs, htk, s'⟩
    · have hm0 : m = [] := List.eq_nil_of_length_eq_zero (by omega)
      have hl0 : l = [] := List.eq_nil_of_length_eq_zero h0
      subst hm0; subst hl0
      refine ⟨.int .i64 0, w, _, .inl (hrun _ _ ?_), ?_, rfl, rfl⟩
      · simp [Builtin.copy_, run_underlying ht, Go.sizeOf, typeInfo, hI, Builtin.lenOf, Builtin.firstCells, loadCells, loadCellsFrom, storeCells, goInt]
      · simpa using s.le hq
    · have hg : w.heap[g]? = some (.cells cur e (0, 0)) := s'.has (Has.pto _ _ _)
      have hfit : 0 + (m.map f).length ≤ cur.size := by rw [List.length_map, hcs]; omega
      have hld := run_loadCells_list (P := P) w ad (m.map f) hc
      rw [List.length_map] at hld
      have hst := run_storeCells_at P g 0 e (m.map f) 0 cur w hg (by simpa using hfit) (fun v hv => by obtain ⟨u, _, rfl⟩ := List.mem_map.1 hv; exact h1 u)
      refine ⟨.int .i64 m.length, w.setRow g (m.map f ++ cur.toList.drop m.length).toArray, _, .inl (hrun _ _ ?_), ?_, rfl, rfl⟩
      · simp [Builtin.copy_, run_underlying ht, Go.sizeOf, typeInfo, hI, e2, Builtin.lenOf, Builtin.firstCells, hmin, hld, goInt]
        have hst2 : (storeCells ⟨g, 0, none⟩ (m.map f)).run P w = .ok () (w.setRow g (m.map f ++ cur.toList.drop m.length).toArray) := by simpa using hst
        rw [hst2]; simp
      · have s2 := s'.put (o' := .cells (m.map f ++ cur.toList.drop m.length).toArray e (0, 0)) (setRow_heap w g cur _ e (0, 0) hg) (fun j hj => setRow_other w g j _ hj) (by simp) rfl rfl rfl
        unfold Wx.lsH
        rw [show (m ++ l.drop m.length).length = l.length by simp; omega]
        refine s2.le (Le.slH_intro hnc hcm ?_ ?_ r)
        · simp only [List.size_toArray, List.length_append, List.length_map, List.length_drop, Array.length_toList]; omega
        · rw [Nat.mul_one] at htk ⊢
          rw [List.take_append, List.length_map, List.take_of_length_le (by rw [List.length_map]; exact hml), List.map_append, List.map_drop, ← htk, List.drop_take]
end
end Wx

/-
  Plain program logic, part 37: arrays that are built and indexed as values; a call of a value in a drawn region that may panic.
-/
namespace Wx
open Go Go.RowKit
section
variable {P : Program} {G : World} {p : PE} {q : List HP} {d : Option Tmp} {ty : TypeId} {pos : String} {af : Array Edge} {gd : Option (Nat × Bool)} {x y : Operand} {t e : TypeId} {kd : IntKind}
theorem Pu.buildA {n sz : Nat} {ps : List (Nat × Operand)} {us : List Value} {z cells : Array Value} (hz : ∀ w, (zeroValue t).run P w = .ok (.agg z) w) (ht : P.underlying t = some (.array n e)) (hs : ∀ w, (Go.sizeOf e).run P w = .ok sz w)
    (hv : evl p (ps.map (·.2)) = some us) (hb : Instr.fill (fun i => some (i * sz, sz)) z ((ps.map (·.1)).zip us) = some cells) : Pu P p ⟨d, .build t ps.toArray, ty, pos, af, gd⟩ (.agg cells) := fun tm w ag => by
  have h2 := evl_of ag hv
  have hps : (ps.toArray.map fun (i, x) => (i, evA tm x)).toList = (ps.map (·.1)).zip us := by
    rw [← h2]; exact zip_ev ps _
  simp only [execOp, Instr.build, Sem.run_bind, hz, Result.andThen_ok, run_underlying ht, hs, Value.cells, hps, hb]
  rfl
theorem Pu.indexA {n : Nat} {i : Int} {l : List Value} {v : Value} (hx : evp p x = some (.agg l.toArray)) (hy : evp p y = some (.int kd i)) (ht : P.underlying t = some (.array n e)) (hs : ∀ w, (Go.sizeOf e).run P w = .ok 1 w) (ha : ∀ w, (isAgg e).run P w = .ok false w)
    (h0 : 0 ≤ i) (h1 : i < n) (hv : nth l i.toNat = some v) : Pu P p ⟨d, .index t x y, ty, pos, af, gd⟩ v := fun tm w ag => by
  have hc : 0 ≤ i ∧ i < (n : Int) := ⟨h0, h1⟩
  rw [nth_eq] at hv
  simp [execOp, evA_of ag hx, evA_of ag hy, Instr.index, asIntOf, run_underlying ht, hc, hs, part, ha, hv]
end
section
variable {P : Program} {G : World} {f : Fc} {Q : Post} {ops : List Oper} {k : List Item} {p : PE} {ds : List Deferred} {cs : List Frame} {q : List HP} {v : Value}
variable {pk : PE} {L : Rds} {n : Nat} {done : List Nat} {args : List Operand} {ats : Array TypeId} {ty : TypeId} {pos : String} {af : Array Edge} {gd : Option (Nat × Bool)} {vs : List Value} {pre : List HP} {R : Value → List HP → Prop} {Rp : List PanicEntry → List HP → Prop} {d : Tmp} {fo : Operand} {fv : Value}
theorem XD.cVP (i : Nat) (hq : Le q pre) (hc : CallV P G fv vs pre (RP R Rp)) (xp : ∀ ch q', Rp ch q' → Q (.panic ch) pk ds cs q')
    (K : ∀ v q', R v q' → HL q' (cut ⟨some d, .call ⟨.value fo, args.toArray, ats⟩, ty, pos, af, gd⟩ L) ∧ XD P G f Q ops k pk (cut ⟨some d, .call ⟨.value fo, args.toArray, ats⟩, ty, pos, af, gd⟩ L) n (i :: done) ((d, v) :: p) ds cs q')
    (hpk : SubP pk p) (ho : ops[i]? = some ⟨some d, .call ⟨.value fo, args.toArray, ats⟩, ty, pos, af, gd⟩ := by rfl) (hf : evp p fo = some fv := by rfl) (hv : evl p args = some vs := by rfl)
    (h1 : onlyR ops done i = true := by rfl) (hr : rdy ops done i = true := by rfl) (hw : Wt ops p ⟨some d, .call ⟨.value fo, args.toArray, ats⟩, ty, pos, af, gd⟩ = some true := by rfl) (hd : Nat.blt d f.n = true := by rfl) : XD P G f Q ops k pk L (n + 1) done p ds cs q :=
  .one (R := fun e q'' => RP R Rp e q'') i ho (fun tm w ag s => by
      rw [exec_call ag hf hv]
      exact (hc [] w ((s.le hq).le (le_nil_r pre))).mono fun e w' _ ⟨q', hR, s'⟩ => ⟨q', hR, by rw [List.append_nil] at s'; exact s'⟩)
    (fun v q'' h => by rcases h with ⟨_, e, r⟩ | ⟨_, e, _⟩ <;> cases e; exact K v q'' r) (fun ch q'' h => by rcases h with ⟨_, e, _⟩ | ⟨_, e, r⟩ <;> cases e; exact ⟨xp ch q'' r, hpk⟩) h1 hr hw hd
end
end Wx

/-
  Plain program logic, part 38: calls in a drawn region with blocks that are made at any time.
-/
namespace Wx
open Go Go.RowKit
section
variable {P : Program} {G : World} {f : Fc} {Q : Post} {ops : List Oper} {k : List Item} {pk p : PE} {ds : List Deferred} {cs : List Frame} {q : List HP} {n : Nat} {done : List Nat} {L : Rds} {o : Oper} {v : Value} {fl : List FlE}
/-- An operation that comes back, by steps of its own. -/
def EfA (P : Program) (G : World) (p : PE) (q : List HP) (o : Oper) (R : Value → List HP → Prop) : Prop := ∀ tm w, Agr tm p → St G w q → Ap P (execOp (evA tm) o) w fun e w' => ∃ q', Ret R e q' ∧ St G w' q'
def StepA (P : Program) (G : World) (f : Fc) (Q : Post) (ops : List Oper) (k : List Item) (pk : PE) (fl : List FlE) (L : Rds) (n : Nat) (done : List Nat) (p : PE) (ds : List Deferred) (cs : List Frame) (q : List HP) (j : Nat) : Prop :=
  ∃ (oj : Oper) (R : Value → List HP → Prop), ops[j]? = some oj ∧ (∀ E, EfA P G p (q ++ E) oj fun v q' => ∃ q1, R v q1 ∧ q' = q1 ++ E) ∧ (∀ v q1, R v q1 → HL q1 (cut oj L) ∧ XF P G f Q ops k pk fl (cut oj L) n (j :: done) (putp p oj.dst v) ds cs q1) ∧
    (fl.map (·.i)).contains j = false ∧ rdy ops done j = true ∧ Wt ops p oj = some true ∧ dOk f.n oj.dst = true
theorem XF.anyA (js : List Nat) (hR : FlR P G f ops done p fl) (hj0 : js ≠ []) (hJ : ∀ j ∈ js, StepA P G f Q ops k pk fl L n done p ds cs q j) (hL : HL q L)
    (hon : onlyJ ops (fl.map (·.i)) done js = true) (hlen : Nat.ble fl.length n = true) : XF P G f Q ops k pk fl L (n + 1) done p ds cs q := by
  intro a b S m
  induction m generalizing S with
  | zero =>
    intro tm w h1 h2 h3 hn ag fa s
    exfalso
    have hle : S.length ≤ fl.length := by
      have h4 : (fIdx S).length ≤ (fl.map (·.i)).length := by
        refine List.Nodup.length_le_of_subset h1 fun x hx => ?_
        obtain ⟨e, he, rfl⟩ := List.mem_map.1 hx
        exact List.mem_map_of_mem (h2 e he)
      simpa [fIdx] using h4
    have : fl.length ≤ n := by simpa using hlen
    omega
  | succ m ih =>
    intro tm w h1 h2 h3 hn ag fa s
    have nS : ∀ j, (fl.map (·.i)).contains j = false → j ∉ fIdx S := fun j hjf hm => by
      obtain ⟨e, he, e'⟩ := List.mem_map.1 hm
      have : j ∈ fl.map (·.i) := by rw [← e']; exact List.mem_map_of_mem (h2 e he)
      simp [this] at hjf
    refine ⟨fun hnone => ?_, fun x ox hox hrx => ?_⟩
    · obtain ⟨j, r, rfl⟩ := List.exists_cons_of_ne_nil hj0
      obtain ⟨_, _, _, _, _, hjf, hr, _⟩ := hJ j (List.mem_cons_self ..)
      exact absurd (rdy_more hr (nS j hjf)) (by simp [hnone j])
    by_cases hxj : x ∈ js
    · obtain ⟨oj, R, ho, hE, K, hjf, hr, hw, hd⟩ := hJ x hxj
      have hjS := nS x hjf
      rw [ho] at hox; cases hox
      unfold OW
      rw [if_pos (wanted_of ag hw)]
      refine (hE (fCh S) tm w ag s).mono fun en w' _ hh => ?_
      obtain ⟨q', ⟨v, rfl, q1, hv, rfl⟩, s'⟩ := hh
      refine ⟨((K v q1 hv).1.le (Le.app_left q1 (fCh S))).sl s', ?_⟩
      refine WA.congr _ (done := fIdx S ++ (x :: done)) (fun y => by simp only [List.mem_append, List.mem_cons]; exact ⟨fun h => by rcases h with h | h | h <;> simp [h], fun h => by rcases h with h | h | h <;> simp [h]⟩) ?_
      refine (K v q1 hv).2 a b S m _ w' h1 h2 (by omega) (by rw [putA_size]; exact hn) (ag.put (hn ▸ hd)) ?_ s'
      intro e he
      obtain ⟨o2, ho2, hd2, hr2, _, _, _, _⟩ := hR.get (h2 e he)
      have hne : e.1.i ≠ x := fun e' => hjS (by rw [← e']; exact List.mem_map_of_mem he)
      have hdd := dst_ne a ho2 ho hne hr2 hr (rdy_mem hr) (rdy_mem hr2) hd2
      have := fa e he
      cases hdo : ox.dst with
      | none => simpa [putA] using this
      | some d =>
        have hdne : d ≠ e.1.d := fun e' => hdd (by rw [hdo, e'])
        simpa [putA, Array.getElem?_setIfInBounds, hdne] using this
    · have hxl : x < ops.length := (List.getElem?_eq_some_iff.1 hox).1
      have hxf : x ∈ fl.map (·.i) := by
        have h4 := List.all_eq_true.1 hon x (by simpa using hxl)
        rcases Decidable.em (x ∈ fl.map (·.i)) with h5 | h5
        · exact h5
        · have h6 : rdy ops (fl.map (·.i) ++ done) x = true := rdy_sup hrx (fun y hy => by
            rcases List.mem_append.1 hy with hy | hy
            · obtain ⟨e, he, rfl⟩ := List.mem_map.1 hy
              exact List.mem_append_left _ (List.mem_map_of_mem (h2 e he))
            · exact List.mem_append_right _ hy) (fun hm => by
            rcases List.mem_append.1 hm with hm | hm
            · exact h5 hm
            · exact rdy_mem hrx (List.mem_append_right _ hm))
          simp [hxj, h6] at h4
          simp at h5
          obtain ⟨y, hy, e⟩ := h4
          exact absurd e (h5 y hy)
      obtain ⟨e, he, rfl⟩ := List.mem_map.1 hxf
      have hxS : e.i ∉ fIdx S := fun hm => rdy_mem hrx (List.mem_append_left _ hm)
      refine XF.float a hR h1 h2 hn ag fa s he hxS hox fun g tm' w' k1 k2 k3 k4 k5 k6 => ?_
      refine ⟨((hL.sub fun y hy => (mem_cut.1 hy).1).le (Le.app_left q _)).sl k6, ?_⟩
      exact WA.mono _ (fun y hy => (mem_cut.1 hy).1) (ih ((e, g) :: S) tm' w' k1 k2 (by simp; omega) k3 k4 k5 k6)
theorem EfA.callF {d : Option Tmp} {fn : FuncId} {args : List Operand} {ats : Array TypeId} {ty : TypeId} {pos : String} {af : Array Edge} {gd : Option (Nat × Bool)} {vs : List Value} {pre F : List HP} {R : Value → List HP → Prop}
    (hcf : ∀ args w, (callFunc fn args).run P w = .ok (.enter fn args) w) (hc : CallF P G fn vs pre (Ret R)) (hv : evl p args = some vs) (hq : Le q (pre ++ F)) (E : List HP) :
    EfA P G p (q ++ E) ⟨d, .call ⟨.value (.func fn), args.toArray, ats⟩, ty, pos, af, gd⟩ fun v q' => ∃ q1, (∃ q0, R v q0 ∧ q1 = q0 ++ F) ∧ q' = q1 ++ E := by
  intro tm w ag s
  rw [exec_call ag (show evp p (.func fn) = some (.func (.func fn) #[] #[]) from rfl) hv]
  have s2 : St G w (pre ++ (F ++ E)) := by rw [← List.append_assoc]; exact s.le (hq.liftR E)
  have hcv : CallV P G (.func (.func fn) #[] #[]) vs pre (Ret R) := CallV.of_callF (a := []) (b := []) hcf (by simpa using hc)
  refine (hcv (F ++ E) w s2).mono fun e w' _ hh => ?_
  obtain ⟨q', ⟨v, he, hR⟩, s'⟩ := hh
  exact ⟨q' ++ F ++ E, ⟨v, he, q' ++ F, ⟨q', hR, rfl⟩, rfl⟩, by rw [List.append_assoc]; exact s'⟩
theorem XF.cX (i : Nat) {d : Tmp} {fn : FuncId} {args : List Operand} {ats : Array TypeId} {ty : TypeId} {pos : String} {af : Array Edge} {gd : Option (Nat × Bool)} {vs : List Value} {pre : List HP} {R : Value → List HP → Prop}
    (hR : FlR P G f ops done p fl) (hcf : ∀ args w, (callFunc fn args).run P w = .ok (.enter fn args) w) (hq : Le q pre) (hc : CallF P G fn vs pre (Ret R))
    (K : ∀ v q', R v q' → HL q' (cut ⟨some d, .call ⟨.value (.func fn), args.toArray, ats⟩, ty, pos, af, gd⟩ L) ∧ XF P G f Q ops k pk fl (cut ⟨some d, .call ⟨.value (.func fn), args.toArray, ats⟩, ty, pos, af, gd⟩ L) n (i :: done) ((d, v) :: p) ds cs q')
    (ho : ops[i]? = some ⟨some d, .call ⟨.value (.func fn), args.toArray, ats⟩, ty, pos, af, gd⟩ := by rfl) (hv : evl p args = some vs := by rfl) (hL : HL q L := by exact hlA)
    (hon : onlyJ ops (fl.map (·.i)) done [i] = true := by rfl) (hif : (fl.map (·.i)).contains i = false := by rfl) (hr : rdy ops done i = true := by rfl) (hw : Wt ops p ⟨some d, .call ⟨.value (.func fn), args.toArray, ats⟩, ty, pos, af, gd⟩ = some true := by rfl)
    (hd : Nat.blt d f.n = true := by rfl) (hlen : Nat.ble fl.length n = true := by rfl) : XF P G f Q ops k pk fl L (n + 1) done p ds cs q :=
  XF.anyA [i] hR (by simp) (fun x hx => by
    rw [List.mem_singleton.1 hx]
    exact ⟨_, _, ho, EfA.callF hcf hc hv (hq.trans (le_nil_r pre)), fun v q1 ⟨q0, h, e⟩ => by rw [List.append_nil] at e; subst e; exact K v _ h, hif, hr, hw, hd⟩) hL hon hlen
end
end Wx

/-
  Plain program logic, part 39: structs within structs are compared.
-/
namespace Wx
open Go Go.RowKit
section
variable {P : Program}
def PartV (P : Program) (xs : List Value) (t : TypeId) (o : Nat) (x : Value) : Prop := ∀ w, (part t xs.toArray o).run P w = .ok x w
theorem PartV.one {xs : List Value} {t : TypeId} {o : Nat} {x : Value} (h : nth xs o = some x) (ha : ∀ w, (isAgg t).run P w = .ok false w) : PartV P xs t o x := fun w => by
  rw [nth_eq] at h
  simp [part, ha w, h]
theorem PartV.sub {xs : List Value} {t : TypeId} {o sz : Nat} (ha : ∀ w, (isAgg t).run P w = .ok true w) (hs : ∀ w, (Go.sizeOf t).run P w = .ok sz w) : PartV P xs t o (.agg (Wx.sub xs o sz).toArray) := fun w => by
  simp [part, ha w, hs w, Wx.sub, List.extract]
def EqG (P : Program) (k : Nat) (xs ys : List Value) : List (TypeId × Nat) → Bool → Prop
  | [], b => b = true
  | (t, o) :: r, b => ∃ x y b1 b2, PartV P xs t o x ∧ PartV P ys t o y ∧ EqV P k t x y b1 ∧ EqG P k xs ys r b2 ∧ b = (b1 && b2)
theorem EqG.run {k : Nat} {xs ys : List Value} {w : World} : ∀ {fs : List Field} {b : Bool}, fs.all (fun f => f.name != "_") = true → EqG P k xs ys (fs.map fun f => (f.type, f.offset)) b → (Op.eqFields k xs.toArray ys.toArray fs).run P w = .ok b w
  | [], b, _, h => by cases h; rfl
  | f :: fs, b, hn, h => by
    obtain ⟨x, y, b1, b2, hx, hy, he, hr, rfl⟩ := h
    simp only [List.all_cons, Bool.and_eq_true, bne_iff_ne, ne_eq] at hn
    have ih := EqG.run (w := w) hn.2 hr
    have he' := he w
    have hx' := hx w
    have hy' := hy w
    simp only [Op.eqFields, ne_eq, hn.1, not_false_eq_true, if_true, Sem.run_bind, hx', hy', Result.andThen_ok, he']
    cases b1
    · simp
    · simp [ih]
theorem EqV.structG {k : Nat} {t : TypeId} {xs ys : List Value} {b : Bool} {fs : List Field} (hu : P.underlying t = some (.struct fs.toArray)) (hp : P.stoodInHeld t = false) (hn : fs.all (fun f => f.name != "_") = true) (h : EqG P k xs ys (fs.map fun f => (f.type, f.offset)) b) :
    EqV P (k + 1) t (.agg xs.toArray) (.agg ys.toArray) b := fun w => by
  have hf : P.fieldsOf t = fs.toArray := by simp [Program.fieldsOf, hu]
  rw [run_equalIn_struct w k t _ _ (by rw [hf]; exact hu) hp, hf]
  exact h.run hn
end
end Wx

