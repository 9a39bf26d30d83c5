/- What functions of package sync, of its references and of its laws do: contracts of calls, proved by walking their code. -/
import Derived.Test.YtlgnnhpbomfdiaaI
import Derived.KernelRfl
set_option maxRecDepth 100000
set_option linter.unusedVariables false
set_option linter.unusedSimpArgs false
namespace Go.Proofs.Ytlgnnhpbomfdiaa
open Go Go.RowKit Wx

theorem map_set_same {α β : Type} (f : α → β) {l : List α} {i : Nat} {x d : α} (h : f x = f (l.getD i d)) : (l.set i x).map f = l.map f := by
  rcases Nat.lt_or_ge i l.length with hi | hi
  · have e : l.getD i d = l[i] := by simp [List.getD, hi]
    rw [map_set_eq, h, e, ← List.getElem_map f (h := by simpa using hi)]
    exact List.set_getElem_self _
  · rw [List.set_eq_of_length_le hi]
theorem Ref.setO {r : RS} {s : Sy} (h : Ref r s) (i : Nat) (t : Int) (a : Option Addr) (c : Nat) : Ref { r with ow := ⟨a, c, r.ow.l.set i t⟩ } { s with owners := s.owners.set i t } := ⟨by show r.ow.l.set i t = s.owners.set i t; rw [h.o], h.c, h.m, h.t, h.k⟩
theorem Ref.setC {r : RS} {s : Sy} (h : Ref r s) (i : Nat) (x : SlV Int) (a : Option Addr) (c : Nat) : Ref { r with cs := ⟨a, c, r.cs.l.set i x⟩ } { s with conds := s.conds.set i x.l } := ⟨h.o, by show (r.cs.l.set i x).map _ = _; rw [map_set_eq, h.c], h.m, h.t, h.k⟩
theorem Ref.setT {r : RS} {s : Sy} (h : Ref r s) (i : Nat) (x : SlV Int) (a : Option Addr) (c : Nat) : Ref { r with st := ⟨a, c, r.st.l.set i x⟩ } { s with chans := s.chans.set i { s.chans.getD i ch0 with all := x.l } } :=
  ⟨h.o, h.c, h.m.trans (map_set_same (d := ch0) (fun c : Ch => c.room) (x := { s.chans.getD i ch0 with all := x.l }) rfl).symm, by show (r.st.l.set i x).map _ = (s.chans.set i _).map _; rw [map_set_eq, map_set_eq, h.t], h.k.trans (map_set_same (d := ch0) (fun c : Ch => (c.taken : Int)) (x := { s.chans.getD i ch0 with all := x.l }) rfl).symm⟩
theorem Ref.setK {r : RS} {s : Sy} (h : Ref r s) (i n : Nat) (a : Option Addr) (c : Nat) : Ref { r with tk := ⟨a, c, r.tk.l.set i n⟩ } { s with chans := s.chans.set i { s.chans.getD i ch0 with taken := n } } :=
  ⟨h.o, h.c, h.m.trans (map_set_same (d := ch0) (fun c : Ch => c.room) (x := { s.chans.getD i ch0 with taken := n }) rfl).symm, h.t.trans (map_set_same (d := ch0) (fun c : Ch => c.all) (x := { s.chans.getD i ch0 with taken := n }) rfl).symm, by show (r.tk.l.set i _) = (s.chans.set i _).map _; rw [map_set_eq, h.k]⟩
theorem Le.shM_suf {a : Option Addr} {c ty k : Nat} {l : List Int} (h : wfL l) (hk : k ≤ l.length) (q : List HP) : Le (slM a c ty 1 l.length (l.map I64) :: q) (shM (.slice IS) ⟨sufA a c k 1, c - k, l.drop k⟩ :: q) := by
  refine .one fun M x p => ?_
  have hs := slP.seesM p
  have h1 : l.length ≤ c ∧ c ≤ maxLen ∧ (a = none → c = 0) := by
    rcases p.2 with ⟨h1, h2, h3⟩ | ⟨g, cur, q1, q2, q3, q4, q5, q6⟩
    · exact ⟨by omega, by rw [h2]; simp [maxLen], fun _ => h2⟩
    · exact ⟨q2, q3, fun e => by rw [q1] at e; cases e⟩
  refine ⟨(by show (l.drop k).length ≤ c - k; rw [List.length_drop]; omega), by dsimp only; omega, fun e => ?_, ?_, fun y hy => h y (List.mem_of_mem_drop hy)⟩
  · dsimp only at e ⊢
    unfold sufA at e
    split at e
    · rename_i e2; omega
    · rw [Option.map_eq_none_iff] at e
      have := h1.2.2 e; omega
  · intro i u hu
    rw [ints_cells, List.map_drop, List.getElem?_drop] at hu
    obtain ⟨b, o, cur, ty', z, e1, e2, e3⟩ := hs _ u hu
    dsimp only
    unfold sufA
    split
    · rename_i e
      have : (l.map I64)[k + i]? = none := List.getElem?_eq_none (by rw [List.length_map]; omega)
      rw [this] at hu; cases hu
    · exact ⟨b, o + k * 1, cur, ty', z, by rw [e1]; simp [Addr.add], e2, by rw [Nat.mul_one, Nat.add_assoc]; exact e3⟩
theorem St.insSuf {G w : World} {q : List HP} {ty k : Nat} {x : SlV Int} (h : wfL x.l) (hk : k ≤ x.l.length) (s : St G w (lsV ty x :: q)) : St G w (shM (.slice IS) ⟨sufA x.a x.c k 1, x.c - k, x.l.drop k⟩ :: q) :=
  (Wx.St.slFreeze (show St G w (slH x.a x.c ty 1 x.l.length (x.l.map I64) :: q) from s)).le (Le.shM_suf h hk q)
section
variable {G : World} {q : List HP} {a b : Option Addr} {c d g p i n : Nat} {r : RS} {s : Sy} {k t v m : Int}
set_option maxHeartbeats 1000000 in
theorem RLock_ok (h : Ref r s) {N : Nat} (hs : s.ok N) (hN : N ≤ 900) : CallF Try.prog G 46 [.agg [.slice r.ow.a r.ow.l.length r.ow.c, .slice r.cs.a r.cs.l.length r.cs.c, .slice r.rm.a r.rm.l.length r.rm.c, .slice r.st.a r.st.l.length r.st.c, .slice r.tk.a r.tk.l.length r.tk.c].toArray, .int .i64 k, .int .i64 t] [refM r] (Ret fun v q' => ∃ r', Ref r' (lockS s k t).1 ∧ v = .tuple [.agg [.slice r'.ow.a r'.ow.l.length r'.ow.c, .slice r'.cs.a r'.cs.l.length r'.cs.c, .slice r'.rm.a r'.rm.l.length r'.rm.c, .slice r'.st.a r'.st.l.length r'.st.c, .slice r'.tk.a r'.tk.l.length r'.tk.c].toArray, .bool (lockS s k t).2.1, .int .i64 (lockS s k t).2.2].toArray ∧ q' = [refM r']) := by
  refine CallF.of Try.func46 Try.ntmps46 rfl (fun F cs => ?_)
  refine X.sub (p' := [(0, _), (1, _), (2, _)]) ⟨rfl, rfl, rfl, trivial⟩ ?_
  change X _ _ _ _ _ _ _ _ (refM r :: F)
  refine X.refM (fun hr => ?_)
  have hz : ∀ q', Le q' (refM r :: F) → RSee q' r := fun q' l => hr.le l; have hl := h.len hs (by omega); have hlo := hl.o; have hlc := hl.c; have hlm := hl.m; have hlt := hl.t; have hlk := hl.k; have eo := h.lo; have ec := h.lc; have em := h.lm; have et := h.lt; have ek := h.lk
  refine X.seq ?_
  refine X.region ?_
  refine XO.ef (Ef.box rfl) ?_
  rintro _ _ ⟨n1, rfl, rfl⟩
  refine XO.ef (Ef.alloc Try.zeroValue53) ?_
  rintro _ _ ⟨n2, rfl, rfl⟩
  refine XO.pu (Pu.assign rfl) ?_
  refine XO.pu (Pu.assign rfl) ?_
  refine XO.nil ?_
  refine X.sub (p' := [(8, _), (7, _), (6, _), (3, _), (1, _), (2, _)]) ⟨rfl, rfl, rfl, rfl, rfl, rfl, trivial⟩ ?_
  refine X.seq ?_
  refine X.seq ?_
  refine X.region ?_
  refine XO.pu (Pu.move rfl) ?_
  refine XO.pu (Pu.lss rfl rfl) ?_
  refine XO.pu (Pu.move rfl) ?_
  refine XO.sub (p' := [(12, _), (8, _), (7, _), (6, _), (3, _), (1, _), (2, _)]) ⟨rfl, rfl, rfl, rfl, rfl, rfl, rfl, trivial⟩ ?_
  apply XO.cutOr 6 18 12 rfl
  · skip
    intro g1 M1; have h1 := g1; try simp only [decide_eq_true_eq, decide_eq_false_iff_not, bne_iff_ne, beq_iff_eq, ne_eq, bne_eq_false_iff_eq, beq_eq_false_iff_ne, Bool.not_eq_true', Bool.not_eq_false', Int.not_lt, Int.not_le, Bool.not_not, Bool.and_eq_true, Bool.and_eq_false_iff, Bool.true_and, Bool.and_true, beq_self_eq_true, Bool.or_eq_true, Bool.or_eq_false_iff] at h1
    refine XO.pu (Pu.move rfl) ?_
    refine XO.pu (Pu.fieldAddr 29 0 0 rfl Try.underlying53 rfl Try.sizeOf29) ?_
    refine XO.ld Try.isAgg29 ?_
    refine XO.pu (Pu.len rfl Try.underlying29) ?_
    refine XO.pu (Pu.geq rfl rfl) ?_
    refine XO.pu (Pu.pickF rfl rfl) ?_
    exact XO.fin M1 ⟨orF g1, congrArg (fun x => some (Value.bool x)) g1.symm, rfl, rfl, rfl, rfl, rfl, rfl, trivial⟩
  · skip
    intro g1 M1; have h1 := g1; try simp only [decide_eq_true_eq, decide_eq_false_iff_not, bne_iff_ne, beq_iff_eq, ne_eq, bne_eq_false_iff_eq, beq_eq_false_iff_ne, Bool.not_eq_true', Bool.not_eq_false', Int.not_lt, Int.not_le, Bool.not_not, Bool.and_eq_true, Bool.and_eq_false_iff, Bool.true_and, Bool.and_true, beq_self_eq_true, Bool.or_eq_true, Bool.or_eq_false_iff] at h1
    refine XO.pass rfl ?_
    refine XO.pass rfl ?_
    refine XO.pass rfl ?_
    refine XO.pass rfl ?_
    refine XO.pass rfl ?_
    refine XO.pu (Pu.pickT rfl rfl) ?_
    exact XO.fin M1 ⟨orT g1, congrArg (fun x => some (Value.bool x)) g1.symm, rfl, rfl, rfl, rfl, rfl, rfl, trivial⟩
  · skip
    refine XO.nil ?_
    refine X.sub (p' := [(18, _), (8, _), (7, _), (6, _), (3, _), (1, _), (2, _)]) ⟨rfl, rfl, rfl, rfl, rfl, rfl, rfl, trivial⟩ ?_
    rcases Decidable.em (inR k r.ow.l.length) with hr0 | hr0
    · skip
      have hr' : inR k s.owners.length := by rw [← eo]; exact hr0
      obtain ⟨i, rfl⟩ := Int.eq_ofNat_of_zero_le hr0.1; have hi : i < r.ow.l.length := (by have := hr0.2; omega)
      refine X.know 18 (.bool false) rfl (congrArg Value.bool (by simp; omega)) ?_
      refine X.condF rfl ?_
      refine X.skip ?_
      refine X.seq ?_
      refine X.seq ?_
      refine X.region ?_
      refine XO.pu (Pu.move rfl) ?_
      refine XO.cR Try.call69 (thread_ok) ?_
      refine XO.pu (Pu.not rfl) ?_
      refine XO.nil ?_
      refine X.sub (p' := [(22, _), (8, _), (7, _), (6, _), (3, _), (1, _), (2, _)]) ⟨rfl, rfl, rfl, rfl, rfl, rfl, rfl, trivial⟩ ?_
      rcases Decidable.em (thr t) with hg | hg
      · skip
        refine X.know 22 (.bool false) rfl (congrArg Value.bool (by simp [hg])) ?_
        have hol := h.ol hi; have hor := hs.o r.ow.l[i] (by rw [← h.o]; exact List.getElem_mem hi)
        refine X.adr ((hz _ leA).so) (by simp; omega) (fun b5 o5 e5 => ?_); have hs5 := hr.so; rw [e5] at hs5; rw [e5]
        refine X.condF rfl ?_
        refine X.skip ?_
        refine X.seq ?_
        refine X.seq ?_
        refine X.region ?_
        refine XO.pu (Pu.fieldAddr 29 0 0 rfl Try.underlying53 rfl Try.sizeOf29) ?_
        refine XO.ld Try.isAgg29 ?_
        refine XO.pu (Pu.move rfl) ?_
        refine XO.pu (Pu.indexAddr rfl rfl Try.underlying29 Try.sizeOf3 (by omega) (by omega)) ?_
        refine XO.ld Try.isAgg3 ?_
        refine XO.pu (Pu.geq rfl rfl) ?_
        refine XO.nil ?_
        refine X.sub (p' := [(29, _), (8, _), (7, _), (6, _), (3, _), (1, _), (2, _)]) ⟨rfl, rfl, rfl, rfl, rfl, rfl, rfl, trivial⟩ ?_
        rcases Decidable.em (r.ow.l[i] = -1) with hx | hx
        · skip
          refine X.know 29 (.bool false) rfl (congrArg Value.bool (by simp; omega)) ?_
          refine X.condF rfl ?_
          refine X.skip ?_
          refine X.seq ?_
          refine X.region ?_
          refine XO.ldA Try.isAgg53 Try.sizeOf53 ?_
          rw [← e5]
          refine XO.cX Try.call70 (Le.refl _) (RCopy_ok (hz _ leA) hl) ?_
          rintro _ _ ⟨r1, hs1, rfl, rfl⟩
          have h1 := hs1.ref h; have el1 := h1.lo; have ec1 := h1.lc; have em1 := h1.lm; have et1 := h1.lt; have ek1 := h1.lk; have hl1 := h1.len hs (by omega)
          unfold refO; simp only [ca, na]
          have hi1 : i < r1.ow.l.length := (by omega)
          refine XO.lsadr (l := r1.ow.l) (by omega) (fun g e6 => ?_); rw [e6]
          refine XO.ef (Ef.alloc Try.zeroValue53) ?_
          rintro _ _ ⟨n3, rfl, rfl⟩
          refine XO.ef0 (Ef.stA Try.sizeOf53) ?_
          rintro _ _ ⟨rfl, rfl⟩
          refine XO.nil ?_
          refine X.sub (p' := [(9, _), (8, _), (7, _), (6, _), (1, _), (2, _)]) ⟨rfl, rfl, rfl, rfl, rfl, rfl, trivial⟩ ?_
          refine X.seq ?_
          refine X.region ?_
          refine XO.pu (Pu.fieldAddr 29 0 0 rfl Try.underlying53 rfl Try.sizeOf29) ?_
          refine XO.ld Try.isAgg29 ?_
          refine XO.pu (Pu.move rfl) ?_
          refine XO.pu (Pu.move rfl) ?_
          refine XO.pu (Pu.indexAddr rfl rfl Try.underlying29 Try.sizeOf3 (by omega) (by omega)) ?_
          refine XO.ef0 (Ef.setL (f := I64) (l := r1.ow.l) (u := t) (n := i) (g := g) (j := (i : Int)) rfl rfl Try.sizeOf3 rfl hi1 rfl rfl fndA) ?_
          rintro _ _ ⟨rfl, rfl⟩
          have hok2 : ({ s with owners := s.owners.set i (t) } : Sy).ok (N + 1) := by have := lockS_ok (hs.mono (Nat.le_succ N)) (i : Int) t; rwa [show lockS s (i : Int) t = ({ s with owners := s.owners.set i (t) }, true, 0) from (if_pos hr').trans ((if_pos hg).trans (if_pos (hol.trans hx)))] at this
          have href2 : Ref { r1 with ow := ⟨some ⟨g, 0, none⟩, r1.ow.c, r1.ow.l.set i (t)⟩ } { s with owners := s.owners.set i (t) } := h1.setO i (t) _ _
          refine XO.nil ?_
          refine X.sub (p' := [(9, _), (8, _), (7, _), (6, _)]) ⟨rfl, rfl, rfl, rfl, trivial⟩ ?_
          refine X.seq ?_
          refine X.region ?_
          refine XO.ldA Try.isAgg53 Try.sizeOf53 ?_
          refine XO.ef0 (Ef.stA Try.sizeOf53) ?_
          rintro _ _ ⟨rfl, rfl⟩
          refine XO.pu (Pu.assign rfl) ?_
          refine XO.pu (Pu.assign rfl) ?_
          refine XO.nil ?_
          refine X.sub (p' := [(8, _), (7, _), (6, _)]) ⟨rfl, rfl, rfl, trivial⟩ ?_
          refine X.turn (q' := refM { r1 with ow := ⟨some ⟨g, 0, none⟩, r1.ow.c, r1.ow.l.set i (t)⟩ } :: pto n2 _ :: F) (fun w s => St.refFz hok2 (by omega) href2 (s.le (show Le _ (refO { r1 with ow := ⟨some ⟨g, 0, none⟩, r1.ow.c, r1.ow.l.set i (t)⟩ } ++ (pto n2 _ :: F)) from by unfold refO; simp only [ca, na]; exact leA))) ?_
          rw [show lockS s (i : Int) t = ({ s with owners := s.owners.set i (t) }, true, 0) from (if_pos hr').trans ((if_pos hg).trans (if_pos (hol.trans hx)))]
          refine X.retL [refM { r1 with ow := ⟨some ⟨g, 0, none⟩, r1.ow.c, r1.ow.l.set i (t)⟩ }] Try.func46 (resC Try.results46 (ResOk.cell rfl (LV.agg Try.isAgg53 Try.sizeOf53 hasA rfl) (ResOk.tmp rfl (ResOk.tmp rfl ResOk.nil)))) ⟨_, rfl, { r1 with ow := ⟨some ⟨g, 0, none⟩, r1.ow.c, r1.ow.l.set i (t)⟩ }, href2, by simp [Wx.sub, splice], rfl⟩
        · skip
          refine X.know 29 (.bool true) rfl (congrArg Value.bool (by simp; omega)) ?_
          rw [← e5]
          refine X.condT rfl ?_
          refine X.seq ?_
          refine X.region ?_
          refine XO.ldA Try.isAgg53 Try.sizeOf53 ?_
          refine XO.ef0 (Ef.stA Try.sizeOf53) ?_
          rintro _ _ ⟨rfl, rfl⟩
          refine XO.pu (Pu.assign rfl) ?_
          refine XO.pu (Pu.assign rfl) ?_
          refine XO.nil ?_
          refine X.sub (p' := [(8, _), (7, _), (6, _), (3, _), (1, _), (2, _)]) ⟨rfl, rfl, rfl, rfl, rfl, rfl, trivial⟩ ?_
          rw [show lockS s (i : Int) t = (s, false, 0) from (if_pos hr').trans ((if_pos hg).trans (if_neg (fun e => hx (hol.symm.trans e))))]
          refine X.retL [refM r] Try.func46 (resC Try.results46 (ResOk.cell rfl (LV.agg Try.isAgg53 Try.sizeOf53 hasA rfl) (ResOk.tmp rfl (ResOk.tmp rfl ResOk.nil)))) ⟨_, rfl, r, h, rfl, rfl⟩
      · skip
        refine X.know 22 (.bool true) rfl (congrArg Value.bool (by simp [hg])) ?_
        refine X.condT rfl ?_
        refine X.seq ?_
        refine X.region ?_
        refine XO.ldA Try.isAgg53 Try.sizeOf53 ?_
        refine XO.ef0 (Ef.stA Try.sizeOf53) ?_
        rintro _ _ ⟨rfl, rfl⟩
        refine XO.pu (Pu.assign rfl) ?_
        refine XO.pu (Pu.assign rfl) ?_
        refine XO.nil ?_
        refine X.sub (p' := [(8, _), (7, _), (6, _), (3, _), (1, _), (2, _)]) ⟨rfl, rfl, rfl, rfl, rfl, rfl, trivial⟩ ?_
        rw [show lockS s (i : Int) t = (s, false, 2) from (if_pos hr').trans (if_neg hg)]
        refine X.retL [refM r] Try.func46 (resC Try.results46 (ResOk.cell rfl (LV.agg Try.isAgg53 Try.sizeOf53 hasA rfl) (ResOk.tmp rfl (ResOk.tmp rfl ResOk.nil)))) ⟨_, rfl, r, h, rfl, rfl⟩
    · skip
      have hr' : ¬ inR k s.owners.length := by rw [← eo]; exact hr0
      refine X.know 18 (.bool true) rfl (congrArg Value.bool (by simp; omega)) ?_
      refine X.condT rfl ?_
      refine X.seq ?_
      refine X.region ?_
      refine XO.ldA Try.isAgg53 Try.sizeOf53 ?_
      refine XO.ef0 (Ef.stA Try.sizeOf53) ?_
      rintro _ _ ⟨rfl, rfl⟩
      refine XO.pu (Pu.assign rfl) ?_
      refine XO.pu (Pu.assign rfl) ?_
      refine XO.nil ?_
      refine X.sub (p' := [(8, _), (7, _), (6, _), (3, _), (1, _), (2, _)]) ⟨rfl, rfl, rfl, rfl, rfl, rfl, trivial⟩ ?_
      rw [show lockS s k t = (s, false, 4) from if_neg hr']
      refine X.retL [refM r] Try.func46 (resC Try.results46 (ResOk.cell rfl (LV.agg Try.isAgg53 Try.sizeOf53 hasA rfl) (ResOk.tmp rfl (ResOk.tmp rfl ResOk.nil)))) ⟨_, rfl, r, h, rfl, rfl⟩
set_option maxHeartbeats 1000000 in
theorem RUnlock_ok (h : Ref r s) {N : Nat} (hs : s.ok N) (hN : N ≤ 900) : CallF Try.prog G 47 [.agg [.slice r.ow.a r.ow.l.length r.ow.c, .slice r.cs.a r.cs.l.length r.cs.c, .slice r.rm.a r.rm.l.length r.rm.c, .slice r.st.a r.st.l.length r.st.c, .slice r.tk.a r.tk.l.length r.tk.c].toArray, .int .i64 k, .int .i64 t] [refM r] (Ret fun v q' => ∃ r', Ref r' (unlockS s k t).1 ∧ v = .tuple [.agg [.slice r'.ow.a r'.ow.l.length r'.ow.c, .slice r'.cs.a r'.cs.l.length r'.cs.c, .slice r'.rm.a r'.rm.l.length r'.rm.c, .slice r'.st.a r'.st.l.length r'.st.c, .slice r'.tk.a r'.tk.l.length r'.tk.c].toArray, .int .i64 (unlockS s k t).2].toArray ∧ q' = [refM r']) := by
  refine CallF.of Try.func47 Try.ntmps47 rfl (fun F cs => ?_)
  refine X.sub (p' := [(0, _), (1, _), (2, _)]) ⟨rfl, rfl, rfl, trivial⟩ ?_
  change X _ _ _ _ _ _ _ _ (refM r :: F)
  refine X.refM (fun hr => ?_)
  have hz : ∀ q', Le q' (refM r :: F) → RSee q' r := fun q' l => hr.le l; have hl := h.len hs (by omega); have hlo := hl.o; have hlc := hl.c; have hlm := hl.m; have hlt := hl.t; have hlk := hl.k; have eo := h.lo; have ec := h.lc; have em := h.lm; have et := h.lt; have ek := h.lk
  refine X.seq ?_
  refine X.region ?_
  refine XO.ef (Ef.box rfl) ?_
  rintro _ _ ⟨n1, rfl, rfl⟩
  refine XO.ef (Ef.alloc Try.zeroValue53) ?_
  rintro _ _ ⟨n2, rfl, rfl⟩
  refine XO.pu (Pu.assign rfl) ?_
  refine XO.nil ?_
  refine X.sub (p' := [(7, _), (6, _), (3, _), (1, _), (2, _)]) ⟨rfl, rfl, rfl, rfl, rfl, trivial⟩ ?_
  refine X.seq ?_
  refine X.seq ?_
  refine X.region ?_
  refine XO.pu (Pu.move rfl) ?_
  refine XO.pu (Pu.lss rfl rfl) ?_
  refine XO.pu (Pu.move rfl) ?_
  refine XO.sub (p' := [(11, _), (7, _), (6, _), (3, _), (1, _), (2, _)]) ⟨rfl, rfl, rfl, rfl, rfl, rfl, trivial⟩ ?_
  apply XO.cutOr 6 17 11 rfl
  · skip
    intro g1 M1; have h1 := g1; try simp only [decide_eq_true_eq, decide_eq_false_iff_not, bne_iff_ne, beq_iff_eq, ne_eq, bne_eq_false_iff_eq, beq_eq_false_iff_ne, Bool.not_eq_true', Bool.not_eq_false', Int.not_lt, Int.not_le, Bool.not_not, Bool.and_eq_true, Bool.and_eq_false_iff, Bool.true_and, Bool.and_true, beq_self_eq_true, Bool.or_eq_true, Bool.or_eq_false_iff] at h1
    refine XO.pu (Pu.move rfl) ?_
    refine XO.pu (Pu.fieldAddr 29 0 0 rfl Try.underlying53 rfl Try.sizeOf29) ?_
    refine XO.ld Try.isAgg29 ?_
    refine XO.pu (Pu.len rfl Try.underlying29) ?_
    refine XO.pu (Pu.geq rfl rfl) ?_
    refine XO.pu (Pu.pickF rfl rfl) ?_
    exact XO.fin M1 ⟨orF g1, congrArg (fun x => some (Value.bool x)) g1.symm, rfl, rfl, rfl, rfl, rfl, trivial⟩
  · skip
    intro g1 M1; have h1 := g1; try simp only [decide_eq_true_eq, decide_eq_false_iff_not, bne_iff_ne, beq_iff_eq, ne_eq, bne_eq_false_iff_eq, beq_eq_false_iff_ne, Bool.not_eq_true', Bool.not_eq_false', Int.not_lt, Int.not_le, Bool.not_not, Bool.and_eq_true, Bool.and_eq_false_iff, Bool.true_and, Bool.and_true, beq_self_eq_true, Bool.or_eq_true, Bool.or_eq_false_iff] at h1
    refine XO.pass rfl ?_
    refine XO.pass rfl ?_
    refine XO.pass rfl ?_
    refine XO.pass rfl ?_
    refine XO.pass rfl ?_
    refine XO.pu (Pu.pickT rfl rfl) ?_
    exact XO.fin M1 ⟨orT g1, congrArg (fun x => some (Value.bool x)) g1.symm, rfl, rfl, rfl, rfl, rfl, trivial⟩
  · skip
    refine XO.nil ?_
    refine X.sub (p' := [(17, _), (7, _), (6, _), (3, _), (1, _), (2, _)]) ⟨rfl, rfl, rfl, rfl, rfl, rfl, trivial⟩ ?_
    rcases Decidable.em (inR k r.ow.l.length) with hr0 | hr0
    · skip
      have hr' : inR k s.owners.length := by rw [← eo]; exact hr0
      obtain ⟨i, rfl⟩ := Int.eq_ofNat_of_zero_le hr0.1; have hi : i < r.ow.l.length := (by have := hr0.2; omega)
      refine X.know 17 (.bool false) rfl (congrArg Value.bool (by simp; omega)) ?_
      refine X.condF rfl ?_
      refine X.skip ?_
      refine X.seq ?_
      refine X.seq ?_
      refine X.region ?_
      refine XO.pu (Pu.move rfl) ?_
      refine XO.cR Try.call69 (thread_ok) ?_
      refine XO.pu (Pu.not rfl) ?_
      refine XO.nil ?_
      refine X.sub (p' := [(21, _), (7, _), (6, _), (3, _), (1, _), (2, _)]) ⟨rfl, rfl, rfl, rfl, rfl, rfl, trivial⟩ ?_
      rcases Decidable.em (thr t) with hg | hg
      · skip
        refine X.know 21 (.bool false) rfl (congrArg Value.bool (by simp [hg])) ?_
        have hol := h.ol hi; have hor := hs.o r.ow.l[i] (by rw [← h.o]; exact List.getElem_mem hi)
        refine X.adr ((hz _ leA).so) (by simp; omega) (fun b5 o5 e5 => ?_); have hs5 := hr.so; rw [e5] at hs5; rw [e5]
        refine X.condF rfl ?_
        refine X.skip ?_
        refine X.seq ?_
        refine X.seq ?_
        refine X.region ?_
        refine XO.pu (Pu.fieldAddr 29 0 0 rfl Try.underlying53 rfl Try.sizeOf29) ?_
        refine XO.ld Try.isAgg29 ?_
        refine XO.pu (Pu.move rfl) ?_
        refine XO.pu (Pu.indexAddr rfl rfl Try.underlying29 Try.sizeOf3 (by omega) (by omega)) ?_
        refine XO.ld Try.isAgg3 ?_
        refine XO.pu (Pu.move rfl) ?_
        refine XO.pu (Pu.neq rfl rfl) ?_
        refine XO.nil ?_
        refine X.sub (p' := [(29, _), (7, _), (6, _), (3, _), (1, _)]) ⟨rfl, rfl, rfl, rfl, rfl, trivial⟩ ?_
        rcases Decidable.em (r.ow.l[i] = t) with hx | hx
        · skip
          refine X.know 29 (.bool false) rfl (congrArg Value.bool (by simp; omega)) ?_
          refine X.condF rfl ?_
          refine X.skip ?_
          refine X.seq ?_
          refine X.region ?_
          refine XO.ldA Try.isAgg53 Try.sizeOf53 ?_
          rw [← e5]
          refine XO.cX Try.call70 (Le.refl _) (RCopy_ok (hz _ leA) hl) ?_
          rintro _ _ ⟨r1, hs1, rfl, rfl⟩
          have h1 := hs1.ref h; have el1 := h1.lo; have ec1 := h1.lc; have em1 := h1.lm; have et1 := h1.lt; have ek1 := h1.lk; have hl1 := h1.len hs (by omega)
          unfold refO; simp only [ca, na]
          have hi1 : i < r1.ow.l.length := (by omega)
          refine XO.lsadr (l := r1.ow.l) (by omega) (fun g e6 => ?_); rw [e6]
          refine XO.ef (Ef.alloc Try.zeroValue53) ?_
          rintro _ _ ⟨n3, rfl, rfl⟩
          refine XO.ef0 (Ef.stA Try.sizeOf53) ?_
          rintro _ _ ⟨rfl, rfl⟩
          refine XO.nil ?_
          refine X.sub (p' := [(8, _), (7, _), (6, _), (1, _)]) ⟨rfl, rfl, rfl, rfl, trivial⟩ ?_
          refine X.seq ?_
          refine X.region ?_
          refine XO.pu (Pu.fieldAddr 29 0 0 rfl Try.underlying53 rfl Try.sizeOf29) ?_
          refine XO.ld Try.isAgg29 ?_
          refine XO.pu (Pu.move rfl) ?_
          refine XO.pu (Pu.indexAddr rfl rfl Try.underlying29 Try.sizeOf3 (by omega) (by omega)) ?_
          refine XO.ef0 (Ef.setL (f := I64) (l := r1.ow.l) (u := -1) (n := i) (g := g) (j := (i : Int)) rfl rfl Try.sizeOf3 rfl hi1 rfl rfl fndA) ?_
          rintro _ _ ⟨rfl, rfl⟩
          have hok2 : ({ s with owners := s.owners.set i (-1) } : Sy).ok (N + 1) := by have := unlockS_ok (hs.mono (Nat.le_succ N)) (i : Int) t; rwa [show unlockS s (i : Int) t = ({ s with owners := s.owners.set i (-1) }, 0) from (if_pos hr').trans ((if_pos hg).trans (if_pos (hol.trans hx)))] at this
          have href2 : Ref { r1 with ow := ⟨some ⟨g, 0, none⟩, r1.ow.c, r1.ow.l.set i (-1)⟩ } { s with owners := s.owners.set i (-1) } := h1.setO i (-1) _ _
          refine XO.nil ?_
          refine X.sub (p' := [(8, _), (7, _), (6, _)]) ⟨rfl, rfl, rfl, trivial⟩ ?_
          refine X.seq ?_
          refine X.region ?_
          refine XO.ldA Try.isAgg53 Try.sizeOf53 ?_
          refine XO.ef0 (Ef.stA Try.sizeOf53) ?_
          rintro _ _ ⟨rfl, rfl⟩
          refine XO.pu (Pu.assign rfl) ?_
          refine XO.nil ?_
          refine X.sub (p' := [(7, _), (6, _)]) ⟨rfl, rfl, trivial⟩ ?_
          refine X.turn (q' := refM { r1 with ow := ⟨some ⟨g, 0, none⟩, r1.ow.c, r1.ow.l.set i (-1)⟩ } :: pto n2 _ :: F) (fun w s => St.refFz hok2 (by omega) href2 (s.le (show Le _ (refO { r1 with ow := ⟨some ⟨g, 0, none⟩, r1.ow.c, r1.ow.l.set i (-1)⟩ } ++ (pto n2 _ :: F)) from by unfold refO; simp only [ca, na]; exact leA))) ?_
          rw [show unlockS s (i : Int) t = ({ s with owners := s.owners.set i (-1) }, 0) from (if_pos hr').trans ((if_pos hg).trans (if_pos (hol.trans hx)))]
          refine X.retL [refM { r1 with ow := ⟨some ⟨g, 0, none⟩, r1.ow.c, r1.ow.l.set i (-1)⟩ }] Try.func47 (resC Try.results47 (ResOk.cell rfl (LV.agg Try.isAgg53 Try.sizeOf53 hasA rfl) (ResOk.tmp rfl ResOk.nil))) ⟨_, rfl, { r1 with ow := ⟨some ⟨g, 0, none⟩, r1.ow.c, r1.ow.l.set i (-1)⟩ }, href2, by simp [Wx.sub, splice], rfl⟩
        · skip
          refine X.know 29 (.bool true) rfl (congrArg Value.bool (by simp; omega)) ?_
          rw [← e5]
          refine X.condT rfl ?_
          refine X.seq ?_
          refine X.region ?_
          refine XO.ldA Try.isAgg53 Try.sizeOf53 ?_
          refine XO.ef0 (Ef.stA Try.sizeOf53) ?_
          rintro _ _ ⟨rfl, rfl⟩
          refine XO.pu (Pu.assign rfl) ?_
          refine XO.nil ?_
          refine X.sub (p' := [(7, _), (6, _), (3, _), (1, _)]) ⟨rfl, rfl, rfl, rfl, trivial⟩ ?_
          rw [show unlockS s (i : Int) t = (s, 140) from (if_pos hr').trans ((if_pos hg).trans (if_neg (fun e => hx (hol.symm.trans e))))]
          refine X.retL [refM r] Try.func47 (resC Try.results47 (ResOk.cell rfl (LV.agg Try.isAgg53 Try.sizeOf53 hasA rfl) (ResOk.tmp rfl ResOk.nil))) ⟨_, rfl, r, h, rfl, rfl⟩
      · skip
        refine X.know 21 (.bool true) rfl (congrArg Value.bool (by simp [hg])) ?_
        refine X.condT rfl ?_
        refine X.seq ?_
        refine X.region ?_
        refine XO.ldA Try.isAgg53 Try.sizeOf53 ?_
        refine XO.ef0 (Ef.stA Try.sizeOf53) ?_
        rintro _ _ ⟨rfl, rfl⟩
        refine XO.pu (Pu.assign rfl) ?_
        refine XO.nil ?_
        refine X.sub (p' := [(7, _), (6, _), (3, _), (1, _), (2, _)]) ⟨rfl, rfl, rfl, rfl, rfl, trivial⟩ ?_
        rw [show unlockS s (i : Int) t = (s, 2) from (if_pos hr').trans (if_neg hg)]
        refine X.retL [refM r] Try.func47 (resC Try.results47 (ResOk.cell rfl (LV.agg Try.isAgg53 Try.sizeOf53 hasA rfl) (ResOk.tmp rfl ResOk.nil))) ⟨_, rfl, r, h, rfl, rfl⟩
    · skip
      have hr' : ¬ inR k s.owners.length := by rw [← eo]; exact hr0
      refine X.know 17 (.bool true) rfl (congrArg Value.bool (by simp; omega)) ?_
      refine X.condT rfl ?_
      refine X.seq ?_
      refine X.region ?_
      refine XO.ldA Try.isAgg53 Try.sizeOf53 ?_
      refine XO.ef0 (Ef.stA Try.sizeOf53) ?_
      rintro _ _ ⟨rfl, rfl⟩
      refine XO.pu (Pu.assign rfl) ?_
      refine XO.nil ?_
      refine X.sub (p' := [(7, _), (6, _), (3, _), (1, _), (2, _)]) ⟨rfl, rfl, rfl, rfl, rfl, trivial⟩ ?_
      rw [show unlockS s k t = (s, 4) from if_neg hr']
      refine X.retL [refM r] Try.func47 (resC Try.results47 (ResOk.cell rfl (LV.agg Try.isAgg53 Try.sizeOf53 hasA rfl) (ResOk.tmp rfl ResOk.nil))) ⟨_, rfl, r, h, rfl, rfl⟩
end
end Go.Proofs.Ytlgnnhpbomfdiaa

