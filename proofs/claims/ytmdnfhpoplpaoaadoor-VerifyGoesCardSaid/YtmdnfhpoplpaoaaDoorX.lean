/- What functions of package verify, of its references and of its laws do: contracts of calls, proved by walking their code. -/
import Derived.Test.YtmdnfhpoplpaoaaDoorS
import Derived.KernelRfl
set_option maxRecDepth 100000
set_option linter.unusedVariables false
set_option linter.unusedSimpArgs false
namespace Go.Proofs.YtmdnfhpoplpaoaaDoor
open Go Go.RowKit Wx
attribute [local irreducible] Wx.lsH Wx.rsH Wx.lsM Wx.rsM Wx.stars

theorem vchk_zero {m : Mdl} (h : vchk m = 0) : mchk m = 0 ∧ ∀ t ∈ m.threads, (dOf m t).2 = 0 := by
  unfold vchk at h
  split at h
  · contradiction
  · rename_i h0
    refine ⟨by omega, ?_⟩
    generalize m.threads = l at h ⊢
    induction l with
    | nil => intro t ht; cases ht
    | cons x r ih =>
      unfold vErr at h
      split at h
      · contradiction
      · rename_i h1
        intro t ht
        rcases List.mem_cons.1 ht with rfl | ht
        · omega
        · exact ih h t ht
theorem goes_of {m : Mdl} {t : Cod} (hin : ∀ x ∈ t.ins, insOk x) (h : (dOf m t).2 = 0) : 0 < t.ins.length ∧ dAt (dOf m t).1 0 = 0 ∧ ∀ a (ha : a < t.ins.length), 0 ≤ dAt (dOf m t).1 a →
    ¬ dAt (dOf m t).1 a < (effS t.ins[a].c).1 ∧ dAt (dOf m t).1 a - (effS t.ins[a].c).1 + (effS t.ins[a].c).2 ≤ 25 ∧ ((t.ins[a].c = 23 ∨ t.ins[a].c = 34) → dAt (dOf m t).1 a = 0) ∧
    ∀ y ∈ nxt t.ins[a] a, 0 ≤ y ∧ y.toNat < t.ins.length ∧ dAt (dOf m t).1 y.toNat = dAt (dOf m t).1 a - (effS t.ins[a].c).1 + (effS t.ins[a].c).2 := by
  unfold dOf at h ⊢
  split at h
  · exact absurd h (by decide)
  · rename_i h0
    split at h
    · exact absurd h (by decide)
    · rename_i h1
      rw [if_neg h0, if_neg h1]
      have hA : ∀ i ∈ insT t, (i.1 = 19 ∨ i.1 = 20 ∨ i.1 = 21) → 0 ≤ i.2.1 := by
        intro i hi hc
        obtain ⟨x, hx, rfl⟩ := List.mem_map.1 hi
        have := (hin x hx).2.1
        have hn : nmA x.c = true := by unfold nmA; simp only [decide_eq_true_eq]; have : (Ins.t x).1 = x.c := rfl; omega
        rw [if_pos hn] at this
        exact this.1
      have e := fun j => dAt_set (D := List.replicate t.ins.length (-1)) (i := 0) (j := j) (b := 0) (by simp; omega)
      obtain ⟨r1, r2, r3⟩ := thrS_goes hA t.ins.length ((List.replicate t.ins.length (-1)).set 0 0) (List.replicate t.ins.length false) (by simp [insT_len]) (by simp [insT_len]) (by simp)
        (fun a ha hd => by rw [List.getD_eq_getElem?_getD, List.getElem?_replicate] at hd; split at hd <;> simp at hd) h
      have e0 : dAt ((List.replicate t.ins.length (-1)).set 0 0) 0 = 0 := by rw [e]; simp
      refine ⟨by omega, by rw [r2 0 (by rw [e0]; omega), e0], fun a ha hd => ?_⟩
      obtain ⟨g1, g2⟩ := r3 a (by rw [insT_len]; exact ha) hd
      obtain ⟨n1, n2, n3⟩ := oneS_next g1
      have o1 : oneS (insT t) a (dAt (thrS (insT t) t.ins.length ((List.replicate t.ins.length (-1)).set 0 0) (List.replicate t.ins.length false)).1 a) = (dAt (thrS (insT t) t.ins.length ((List.replicate t.ins.length (-1)).set 0 0) (List.replicate t.ins.length false)).1 a - (effS t.ins[a].c).1 + (effS t.ins[a].c).2, 0) ∧ dAt (thrS (insT t) t.ins.length ((List.replicate t.ins.length (-1)).set 0 0) (List.replicate t.ins.length false)).1 a - (effS t.ins[a].c).1 + (effS t.ins[a].c).2 ≤ 25 ∧ ((t.ins[a].c = 23 ∨ t.ins[a].c = 34) → dAt (thrS (insT t) t.ins.length ((List.replicate t.ins.length (-1)).set 0 0) (List.replicate t.ins.length false)).1 a = 0) := by
        generalize dAt (thrS (insT t) t.ins.length ((List.replicate t.ins.length (-1)).set 0 0) (List.replicate t.ins.length false)).1 a = d at g1 ⊢
        unfold oneS at g1 ⊢
        rw [insT_at ha] at g1 ⊢
        dsimp only [Ins.t] at g1 ⊢
        split at g1
        · exact absurd g1 (by decide)
        · rename_i k1
          split at g1
          · exact absurd g1 (by decide)
          · rename_i k2
            split at g1
            · exact absurd g1 (by decide)
            · rename_i k3
              rw [if_neg k1, if_neg k2, if_neg k3]
              exact ⟨rfl, by omega, fun hc => Decidable.byContradiction fun hd => k2 ⟨hc, hd⟩⟩
      rw [insT_at ha] at n1 n3 g2
      refine ⟨n3, o1.2.1, o1.2.2, fun y hy => ?_⟩
      rw [nxt_eq] at hy
      have h2 := g2 y hy
      rw [o1.1] at h2
      have h3 := n1 y hy
      rw [insT_len] at h3
      have h4 : 0 ≤ y := by
        unfold nextS at hy
        have hAi := hA (t.ins[a].t) (List.mem_map.2 ⟨_, List.getElem_mem ha, rfl⟩)
        split at hy
        · simp at hy
        · split at hy
          · rename_i e; rw [List.mem_singleton.1 hy]; exact hAi (.inl e)
          · split at hy
            · rename_i e
              have h7 := hAi (by omega)
              split at hy
              · rw [List.mem_singleton.1 hy]; exact h7
              · rcases List.mem_cons.1 hy with rfl | hy
                · exact h7
                · rw [List.mem_singleton.1 hy]; omega
            · simp at hy; omega
      exact ⟨h4, by omega, h2⟩
theorem nxt_two (x : Ins) (a : Int) : (nxt x a).length ≤ 2 := by
  unfold nxt
  (repeat' split) <;> simp
theorem nxt_none {x : Ins} {a : Int} (h : (nxt x a).length = 0) : x.c = 34 := by
  unfold nxt at h
  (repeat' split at h) <;> first | assumption | simp at h
theorem tmod_in (x : Int) {n : Nat} (h : 0 < n) : -(n : Int) < x.tmod n ∧ x.tmod n < n := by
  have h1 := Int.tmod_lt_of_pos x (show (0 : Int) < n by omega)
  have h2 := Int.lt_tmod_of_pos x (show (0 : Int) < n by omega)
  exact ⟨h2, h1⟩
section
variable {G : World} {q pre : List HP} {a b A : Option Addr} {c d C p p0 p1 p2 i : Nat} {lo hi n cd dep : Int} {fv : Value} {x y : Ins} {t : Cod} {m : Mdl} {at_ : Int}
variable {th : Int} {tu : List Int}
set_option maxHeartbeats 8000000 in
theorem verifyGoes_ok (gc : GC q) (g : GE q) (hq : MdlQ q m) (hst : Sees q b (tu.map I64)) (hT : tu.length ≤ 9223372036854775807) : CallF Tryd.prog G 8 [.agg (mdlC m).toArray, .int .i64 th, .slice b tu.length d] (q) (Ret fun v q' => v = .bool true ∧ q' = q) := by
  refine CallF.of Tryd.func8 Tryd.ntmps8 rfl (fun F cs => ?_)
  have hlen := flatMap_len (f := codC) (sz := 4) (fun _ => rfl) m.threads; have hnt := hq.nt
  refine xo 2 ?_
  refine XO.ef (Ef.box rfl) ?_
  rintro _ _ ⟨n1, rfl, rfl⟩
  refine oo 5 ?_
  refine XO.ldA Tryd.isAgg26 Tryd.sizeOf26 ?_
  refine XO.cX Tryd.call9 (Le.refl _) (few_ok (hq.le leA)) ?_
  rintro _ _ ⟨bb, rfl, rfl⟩
  refine XO.pu (Pu.not rfl) ?_
  refine oo 1 ?_
  refine XO.sb [20, 6, 3, 1, 2] ?_
  apply XO.cutOr 5 25 20 rfl
  · skip
    intro g1 M1; have h1 := sp g1
    refine XO.ldA Tryd.isAgg26 Tryd.sizeOf26 ?_
    refine XO.cR Tryd.call12 (VCheck_ok (gc.le leA) (g.le leA) (hq.le leA)) ?_
    refine XO.cR Tryd.call11 (num_ok) ?_
    refine oo 2 ?_
    exact XO.fin M1 ⟨orF g1, subB⟩
  · skip
    intro g1 M1; have h1 := sp g1
    refine oo 5 ?_
    exact XO.fin M1 ⟨orT g1, subB⟩
  · skip
    refine oo 1 ?_
    refine XO.sb [26, 6, 3, 1, 2] ?_
    apply XO.cutOr 3 29 26 rfl
    · skip
      intro g1 M1; have h1 := sp g1
      refine oo 3 ?_
      exact XO.fin M1 ⟨orF g1, subB⟩
    · skip
      intro g1 M1; have h1 := sp g1
      refine oo 3 ?_
      exact XO.fin M1 ⟨orT g1, subB⟩
    · skip
      refine oo 1 ?_
      refine XO.sb [30, 6, 3, 1, 2] ?_
      apply XO.cutOr 6 36 30 rfl
      · skip
        intro g1 M1; have h1 := sp g1
        refine oo 2 ?_
        refine XO.ld Tryd.isAgg24 ?_
        refine oo 3 ?_
        exact XO.fin M1 ⟨orF g1, subB⟩
      · skip
        intro g1 M1; have h1 := sp g1
        refine oo 6 ?_
        exact XO.fin M1 ⟨orT g1, subB⟩
      · skip
        refine oo 1 ?_
        refine XO.sb [37, 6, 3, 1, 2] ?_
        apply XO.cutOr 4 41 37 rfl
        · skip
          intro g1 M1; have h1 := sp g1
          refine oo 4 ?_
          exact XO.fin M1 ⟨orF g1, subB⟩
        · skip
          intro g1 M1; have h1 := sp g1
          refine oo 4 ?_
          exact XO.fin M1 ⟨orT g1, subB⟩
        · skip
          refine ox 1 ?_
          refine X.part 41 rfl (fun h1 => ?_) (fun h1 => ?_)
          · skip
            replace h1 := sp h1
            refine xo 3 ?_
            refine XO.cR Tryd.call10 (works_ok (gc.le leA) (g.le leA)) ?_
            refine ox 2 ?_
            refine X.retL (q) Tryd.func8 (res1 Tryd.results8 rfl) ⟨_, rfl, rfl, rfl⟩
          · skip
            replace h1 := sp h1
            refine xo 5 ?_
            refine XO.ld Tryd.isAgg24 ?_
            refine oo 1 ?_
            have hk00 : vchk m = 0 := by omega
            obtain ⟨hk0, hdd⟩ := vchk_zero hk00; have hth : th.toNat < m.threads.length := by omega
            obtain ⟨hin, hLn⟩ := mdlOk_thr hk0 (List.getElem_mem hth); have hd0 := hdd _ (List.getElem_mem hth)
            obtain ⟨hp0, hD0, hG⟩ := goes_of hin hd0
            have hql := hq.x _ (List.getElem_mem hth); have hsi := hql.i; have hlen2 := flatMap_len (f := insC) (sz := 4) (fun _ => rfl) m.threads[th.toNat].ins
            refine XO.adr hq.t (by rw [hlen]; omega) (fun b1 o1 e1 => ?_)
            have hs1 := hq.t; rw [e1] at hs1
            refine XO.know 44 (.slice (some ⟨b1, o1, none⟩) m.threads.length m.tc) rfl (by rw [e1]) ?_
            refine oo 1 ?_
            refine XO.ldS (n := th.toNat) Tryd.isAgg39 Tryd.sizeOf39 hs1 hth ?_
            refine XO.ef (Ef.alloc Tryd.zeroValue39) ?_
            rintro _ _ ⟨n2, rfl, rfl⟩
            refine XO.ef0 (Ef.stA Tryd.sizeOf39) ?_
            rintro _ _ ⟨rfl, rfl⟩
            refine ox 12 ?_
            refine X.sb [10, 9, 8, 7, 6, 3, 1, 2] ?_
            refine X.know 9 (.int .i64 (dAt (dOf m m.threads[th.toNat]).1 0)) rfl (congrArg (Value.int .i64) hD0.symm) ?_
            refine X.at (X.loop (fun (s : Nat × Nat) => s.1 ≤ tu.length ∧ s.2 < m.threads[th.toNat].ins.length ∧ 0 ≤ dAt (dOf m m.threads[th.toNat]).1 s.2) (fun s => [(10, .int .i64 (s.1 : Int)), (8, .int .i64 (s.2 : Int)), (9, .int .i64 (dAt (dOf m m.threads[th.toNat]).1 s.2)), (1, .int .i64 th), (2, .slice b tu.length d), (3, .pointer (some ⟨n1, 0, none⟩)), (7, .pointer (some ⟨n2, 0, none⟩)), (6, .bool false)]) (fun s => pto n1 (.cells (mdlC m).toArray 26 (0, 0)) :: pto n2 (.cells (codC m.threads[th.toNat]).toArray 39 (0, 0)) :: (q ++ F)) (fun s => tu.length - s.1) (fun s hi_ ih => ?_) (0, 0) ⟨Nat.zero_le _, hp0, by rw [hD0]; exact Int.le_refl 0⟩) subA leA
            try dsimp only at hi_ ih ⊢
            obtain ⟨hi0, hat, hdp⟩ := hi_
            obtain ⟨i, at0⟩ := s; dsimp only at *
            refine xx 8 ?_
            refine X.part 51 rfl (fun h0 => ?_) (fun h0 => ?_)
            · skip
              replace h0 := sp h0; have hi1 : i < tu.length := by omega
              have hix := hin _ (List.getElem_mem hat); have hcx := hix.1; have hnn := effS_nn m.threads[th.toNat].ins[at0].c; have hle := effS_le m.threads[th.toNat].ins[at0].c; obtain ⟨g1, g2, g3, g4⟩ := hG at0 hat hdp
              have hnx : nxOf m th (at0 : Int) = (nxt m.threads[th.toNat].ins[at0] (at0 : Int), 0) := by unfold nxOf; rw [if_neg (by omega), dif_pos ⟨by omega, hth⟩, dif_pos ⟨by omega, by omega⟩]; rfl
              have hl2 := nxt_two m.threads[th.toNat].ins[at0] (at0 : Int); have hl0 := nxt_none (x := m.threads[th.toNat].ins[at0]) (a := (at0 : Int)); have hdl : dAt (dOf m m.threads[th.toNat]).1 at0 ≤ 27 := by omega
              have hnl : 0 < (nxt m.threads[th.toNat].ins[at0] (at0 : Int)).length → -((nxt m.threads[th.toNat].ins[at0] (at0 : Int)).length : Int) < tu[i].tmod (nxt m.threads[th.toNat].ins[at0] (at0 : Int)).length ∧ tu[i].tmod (nxt m.threads[th.toNat].ins[at0] (at0 : Int)).length < (nxt m.threads[th.toNat].ins[at0] (at0 : Int)).length := fun k => tmod_in _ k
              refine xo 10 ?_
              refine XO.know 56 (.bool false) rfl (congrArg Value.bool (decide_eq_false (by omega))) ?_
              refine oo 2 ?_
              refine XO.ld Tryd.isAgg37 ?_
              refine ox 4 ?_
              refine X.know 62 (.bool false) rfl (congrArg Value.bool (by simp; omega)) ?_
              refine xo 5 ?_
              refine XO.ld Tryd.isAgg37 ?_
              refine oo 1 ?_
              refine XO.adr hsi (by rw [hlen2]; omega) (fun b2 o2 e2 => ?_)
              have hs2 := hsi; rw [e2] at hs2
              refine XO.know 65 (.slice (some ⟨b2, o2, none⟩) m.threads[th.toNat].ins.length m.threads[th.toNat].ic) rfl (by rw [e2]) ?_
              refine oo 2 ?_
              refine XO.ld Tryd.isAgg44 ?_ (hc := (Cl.row (j := (at0 : Int)) hs2 leA (fun _ => rfl) hat rfl 0 _ rfl))
              refine XO.cR Tryd.call18 (Effect_ok (cd := m.threads[th.toNat].ins[at0].c) (g.le leA)) ?_
              refine XO.know 70 (.tuple [.int .i64 (effS m.threads[th.toNat].ins[at0].c).1, .int .i64 (effS m.threads[th.toNat].ins[at0].c).2, .bool true].toArray) rfl (if_pos hcx) ?_
              refine oo 12 ?_
              refine XO.pu (Pu.not rfl) ?_
              refine oo 1 ?_
              refine XO.know 76 (.bool false) rfl knw ?_
              refine oo 5 ?_
              refine XO.know 81 (.bool false) rfl (congrArg Value.bool (by simp; omega)) ?_
              refine oo 8 ?_
              refine XO.know 89 (.bool false) rfl (congrArg Value.bool (by simp; omega)) ?_
              refine oo 1 ?_
              refine XO.ld Tryd.isAgg37 ?_
              refine oo 1 ?_
              refine XO.know 91 (.slice (some ⟨b2, o2, none⟩) m.threads[th.toNat].ins.length m.threads[th.toNat].ic) rfl (by rw [e2]) ?_
              refine oo 2 ?_
              refine XO.ld Tryd.isAgg44 ?_ (hc := (Cl.row (j := (at0 : Int)) hs2 leA (fun _ => rfl) hat rfl 0 _ rfl))
              refine oo 2 ?_
              refine XO.part 97 rfl (fun p1 => ?_) (fun p1 => ?_)
              · skip
                replace p1 := sp p1
                refine ox 14 ?_
                refine X.sb [110, 12, 11, 10, 8, 9, 1, 2, 3, 7, 6] ?_
                refine X.know 110 (.bool false) rfl (congrArg Value.bool (by simp; omega)) ?_
                refine xo 13 ?_
                refine XO.ldA Tryd.isAgg26 Tryd.sizeOf26 ?_
                refine oo 2 ?_
                refine XO.cX Tryd.call20 (Le.refl _) (Next_ok (m := m) (th := th) (at_ := (at0 : Int)) (gc.le leA) (hq.le leA)) ?_
                rintro _ _ (⟨hz, rfl, rfl⟩ | ⟨hz, a1, c1, rfl, rfl⟩) <;> rw [hnx] at hz
                · exact absurd rfl hz
                rw [hnx]
                refine oo 10 ?_
                refine XO.cR Tryd.call11 (num_ok) ?_
                refine oo 2 ?_
                refine XO.know 126 (.bool false) rfl knw ?_
                refine ox 5 ?_
                refine X.sb [130, 14, 9, 10, 8, 1, 2, 3, 7, 6] ?_
                refine X.know 130 (.bool false) rfl (congrArg Value.bool (by simp; omega)) ?_
                refine xx 9 ?_
                refine X.part 133 rfl (fun hz1 => ?_) (fun hz1 => ?_)
                · skip
                  replace hz1 := sp hz1; have hc34 := hl0 (by omega)
                  refine xo 4 ?_
                  refine XO.ld Tryd.isAgg37 ?_
                  refine oo 1 ?_
                  refine XO.know 135 (.slice (some ⟨b2, o2, none⟩) m.threads[th.toNat].ins.length m.threads[th.toNat].ic) rfl (by rw [e2]) ?_
                  refine oo 2 ?_
                  refine XO.ld Tryd.isAgg44 ?_ (hc := (Cl.row (j := (at0 : Int)) hs2 leA (fun _ => rfl) hat rfl 0 _ rfl))
                  refine oo 2 ?_
                  refine XO.know 141 (.bool true) rfl (congrArg Value.bool (by rw [beq_iff_eq]; exact hc34)) ?_
                  refine XO.cR Tryd.call10 (works_ok (gc.le leA) (g.le leA)) ?_
                  refine ox 3 ?_
                  refine X.sb [6, 14, 9, 10, 1, 2, 3, 7] ?_
                  refine X.retL (q) Tryd.func8 (res1 Tryd.results8 rfl) ⟨_, rfl, rfl, rfl⟩
                · skip
                  replace hz1 := sp hz1; have hnl2 := hnl (by omega)
                  refine xo 6 ?_
                  refine XO.adr hst (by simp; omega) (fun b3 o3 e3 => ?_)
                  have hs3 := hst; rw [e3] at hs3
                  refine XO.know 144 (.slice (some ⟨b3, o3, none⟩) tu.length d) rfl (by rw [e3]) ?_
                  refine oo 1 ?_
                  refine XO.ld Tryd.isAgg3 ?_ (hc := (Cl.e1 hs3 leA hi1 rfl))
                  refine ox 11 ?_
                  refine X.part 152 rfl (fun hz2 => ?_) (fun hz2 => ?_)
                  · skip
                    replace hz2 := sp hz2
                    refine xo 11 ?_
                    obtain ⟨k, hk⟩ : ∃ k : Nat, (tu[i].tmod (nxt m.threads[th.toNat].ins[at0] (at0 : Int)).length + ((nxt m.threads[th.toNat].ins[at0] (at0 : Int)).length : Int)) = (k : Int) := ⟨((tu[i].tmod (nxt m.threads[th.toNat].ins[at0] (at0 : Int)).length + ((nxt m.threads[th.toNat].ins[at0] (at0 : Int)).length : Int))).toNat, by omega⟩
                    have hkl : k < (nxt m.threads[th.toNat].ins[at0] (at0 : Int)).length := by omega
                    refine XO.know 158 (.int .i64 (k : Int)) rfl (congrArg (Value.int .i64) hk) ?_
                    refine XO.lsadr (l := nxt m.threads[th.toNat].ins[at0] (at0 : Int)) (by omega) (fun gn e_ => ?_); subst e_
                    refine oo 1 ?_
                    refine XO.ld Tryd.isAgg3 ?_ (hc := (Cl.e1 (Sees.lsH _) fndA hkl rfl))
                    refine ox 8 ?_
                    refine X.sb [10, 8, 9, 1, 2, 3, 7, 6] ?_
                    obtain ⟨hy1, hy2, hy3⟩ := g4 _ (List.getElem_mem hkl)
                    refine X.know 8 (.int .i64 ((nxt m.threads[th.toNat].ins[at0] (at0 : Int))[k].toNat : Int)) rfl (congrArg (Value.int .i64) (by omega)) ?_
                    refine X.know 9 (.int .i64 (dAt (dOf m m.threads[th.toNat]).1 (nxt m.threads[th.toNat].ins[at0] (at0 : Int))[k].toNat)) rfl (congrArg (Value.int .i64) (by omega)) ?_
                    refine X.at (ih (i + 1, (nxt m.threads[th.toNat].ins[at0] (at0 : Int))[k].toNat) ⟨by dsimp only; omega, hy2, by dsimp only; rw [hy3]; omega⟩ (by dsimp only; omega)) subA leA
                  · skip
                    replace hz2 := sp hz2
                    refine xo 5 ?_
                    obtain ⟨k, hk⟩ : ∃ k : Nat, (tu[i].tmod (nxt m.threads[th.toNat].ins[at0] (at0 : Int)).length) = (k : Int) := ⟨((tu[i].tmod (nxt m.threads[th.toNat].ins[at0] (at0 : Int)).length)).toNat, by omega⟩
                    have hkl : k < (nxt m.threads[th.toNat].ins[at0] (at0 : Int)).length := by omega
                    refine XO.know 158 (.int .i64 (k : Int)) rfl (congrArg (Value.int .i64) hk) ?_
                    refine XO.lsadr (l := nxt m.threads[th.toNat].ins[at0] (at0 : Int)) (by omega) (fun gn e_ => ?_); subst e_
                    refine oo 1 ?_
                    refine XO.ld Tryd.isAgg3 ?_ (hc := (Cl.e1 (Sees.lsH _) fndA hkl rfl))
                    refine ox 8 ?_
                    refine X.sb [10, 8, 9, 1, 2, 3, 7, 6] ?_
                    obtain ⟨hy1, hy2, hy3⟩ := g4 _ (List.getElem_mem hkl)
                    refine X.know 8 (.int .i64 ((nxt m.threads[th.toNat].ins[at0] (at0 : Int))[k].toNat : Int)) rfl (congrArg (Value.int .i64) (by omega)) ?_
                    refine X.know 9 (.int .i64 (dAt (dOf m m.threads[th.toNat]).1 (nxt m.threads[th.toNat].ins[at0] (at0 : Int))[k].toNat)) rfl (congrArg (Value.int .i64) (by omega)) ?_
                    refine X.at (ih (i + 1, (nxt m.threads[th.toNat].ins[at0] (at0 : Int))[k].toNat) ⟨by dsimp only; omega, hy2, by dsimp only; rw [hy3]; omega⟩ (by dsimp only; omega)) subA leA
              · skip
                replace p1 := sp p1
                refine oo 1 ?_
                refine XO.ld Tryd.isAgg37 ?_
                refine oo 1 ?_
                refine XO.know 99 (.slice (some ⟨b2, o2, none⟩) m.threads[th.toNat].ins.length m.threads[th.toNat].ic) rfl (by rw [e2]) ?_
                refine oo 2 ?_
                refine XO.ld Tryd.isAgg44 ?_ (hc := (Cl.row (j := (at0 : Int)) hs2 leA (fun _ => rfl) hat rfl 0 _ rfl))
                refine oo 3 ?_
                refine XO.part 106 rfl (fun p2 => ?_) (fun p2 => ?_)
                · skip
                  replace p2 := sp p2
                  refine ox 5 ?_
                  refine X.sb [110, 12, 11, 10, 8, 9, 1, 2, 3, 7, 6] ?_
                  refine X.know 110 (.bool false) rfl (congrArg Value.bool (by simp; omega)) ?_
                  refine xo 13 ?_
                  refine XO.ldA Tryd.isAgg26 Tryd.sizeOf26 ?_
                  refine oo 2 ?_
                  refine XO.cX Tryd.call20 (Le.refl _) (Next_ok (m := m) (th := th) (at_ := (at0 : Int)) (gc.le leA) (hq.le leA)) ?_
                  rintro _ _ (⟨hz, rfl, rfl⟩ | ⟨hz, a1, c1, rfl, rfl⟩) <;> rw [hnx] at hz
                  · exact absurd rfl hz
                  rw [hnx]
                  refine oo 10 ?_
                  refine XO.cR Tryd.call11 (num_ok) ?_
                  refine oo 2 ?_
                  refine XO.know 126 (.bool false) rfl knw ?_
                  refine ox 5 ?_
                  refine X.sb [130, 14, 9, 10, 8, 1, 2, 3, 7, 6] ?_
                  refine X.know 130 (.bool false) rfl (congrArg Value.bool (by simp; omega)) ?_
                  refine xx 9 ?_
                  refine X.part 133 rfl (fun hz1 => ?_) (fun hz1 => ?_)
                  · skip
                    replace hz1 := sp hz1; have hc34 := hl0 (by omega)
                    refine xo 4 ?_
                    refine XO.ld Tryd.isAgg37 ?_
                    refine oo 1 ?_
                    refine XO.know 135 (.slice (some ⟨b2, o2, none⟩) m.threads[th.toNat].ins.length m.threads[th.toNat].ic) rfl (by rw [e2]) ?_
                    refine oo 2 ?_
                    refine XO.ld Tryd.isAgg44 ?_ (hc := (Cl.row (j := (at0 : Int)) hs2 leA (fun _ => rfl) hat rfl 0 _ rfl))
                    refine oo 2 ?_
                    refine XO.know 141 (.bool true) rfl (congrArg Value.bool (by rw [beq_iff_eq]; exact hc34)) ?_
                    refine XO.cR Tryd.call10 (works_ok (gc.le leA) (g.le leA)) ?_
                    refine ox 3 ?_
                    refine X.sb [6, 14, 9, 10, 1, 2, 3, 7] ?_
                    refine X.retL (q) Tryd.func8 (res1 Tryd.results8 rfl) ⟨_, rfl, rfl, rfl⟩
                  · skip
                    replace hz1 := sp hz1; have hnl2 := hnl (by omega)
                    refine xo 6 ?_
                    refine XO.adr hst (by simp; omega) (fun b3 o3 e3 => ?_)
                    have hs3 := hst; rw [e3] at hs3
                    refine XO.know 144 (.slice (some ⟨b3, o3, none⟩) tu.length d) rfl (by rw [e3]) ?_
                    refine oo 1 ?_
                    refine XO.ld Tryd.isAgg3 ?_ (hc := (Cl.e1 hs3 leA hi1 rfl))
                    refine ox 11 ?_
                    refine X.part 152 rfl (fun hz2 => ?_) (fun hz2 => ?_)
                    · skip
                      replace hz2 := sp hz2
                      refine xo 11 ?_
                      obtain ⟨k, hk⟩ : ∃ k : Nat, (tu[i].tmod (nxt m.threads[th.toNat].ins[at0] (at0 : Int)).length + ((nxt m.threads[th.toNat].ins[at0] (at0 : Int)).length : Int)) = (k : Int) := ⟨((tu[i].tmod (nxt m.threads[th.toNat].ins[at0] (at0 : Int)).length + ((nxt m.threads[th.toNat].ins[at0] (at0 : Int)).length : Int))).toNat, by omega⟩
                      have hkl : k < (nxt m.threads[th.toNat].ins[at0] (at0 : Int)).length := by omega
                      refine XO.know 158 (.int .i64 (k : Int)) rfl (congrArg (Value.int .i64) hk) ?_
                      refine XO.lsadr (l := nxt m.threads[th.toNat].ins[at0] (at0 : Int)) (by omega) (fun gn e_ => ?_); subst e_
                      refine oo 1 ?_
                      refine XO.ld Tryd.isAgg3 ?_ (hc := (Cl.e1 (Sees.lsH _) fndA hkl rfl))
                      refine ox 8 ?_
                      refine X.sb [10, 8, 9, 1, 2, 3, 7, 6] ?_
                      obtain ⟨hy1, hy2, hy3⟩ := g4 _ (List.getElem_mem hkl)
                      refine X.know 8 (.int .i64 ((nxt m.threads[th.toNat].ins[at0] (at0 : Int))[k].toNat : Int)) rfl (congrArg (Value.int .i64) (by omega)) ?_
                      refine X.know 9 (.int .i64 (dAt (dOf m m.threads[th.toNat]).1 (nxt m.threads[th.toNat].ins[at0] (at0 : Int))[k].toNat)) rfl (congrArg (Value.int .i64) (by omega)) ?_
                      refine X.at (ih (i + 1, (nxt m.threads[th.toNat].ins[at0] (at0 : Int))[k].toNat) ⟨by dsimp only; omega, hy2, by dsimp only; rw [hy3]; omega⟩ (by dsimp only; omega)) subA leA
                    · skip
                      replace hz2 := sp hz2
                      refine xo 5 ?_
                      obtain ⟨k, hk⟩ : ∃ k : Nat, (tu[i].tmod (nxt m.threads[th.toNat].ins[at0] (at0 : Int)).length) = (k : Int) := ⟨((tu[i].tmod (nxt m.threads[th.toNat].ins[at0] (at0 : Int)).length)).toNat, by omega⟩
                      have hkl : k < (nxt m.threads[th.toNat].ins[at0] (at0 : Int)).length := by omega
                      refine XO.know 158 (.int .i64 (k : Int)) rfl (congrArg (Value.int .i64) hk) ?_
                      refine XO.lsadr (l := nxt m.threads[th.toNat].ins[at0] (at0 : Int)) (by omega) (fun gn e_ => ?_); subst e_
                      refine oo 1 ?_
                      refine XO.ld Tryd.isAgg3 ?_ (hc := (Cl.e1 (Sees.lsH _) fndA hkl rfl))
                      refine ox 8 ?_
                      refine X.sb [10, 8, 9, 1, 2, 3, 7, 6] ?_
                      obtain ⟨hy1, hy2, hy3⟩ := g4 _ (List.getElem_mem hkl)
                      refine X.know 8 (.int .i64 ((nxt m.threads[th.toNat].ins[at0] (at0 : Int))[k].toNat : Int)) rfl (congrArg (Value.int .i64) (by omega)) ?_
                      refine X.know 9 (.int .i64 (dAt (dOf m m.threads[th.toNat]).1 (nxt m.threads[th.toNat].ins[at0] (at0 : Int))[k].toNat)) rfl (congrArg (Value.int .i64) (by omega)) ?_
                      refine X.at (ih (i + 1, (nxt m.threads[th.toNat].ins[at0] (at0 : Int))[k].toNat) ⟨by dsimp only; omega, hy2, by dsimp only; rw [hy3]; omega⟩ (by dsimp only; omega)) subA leA
                · skip
                  replace p2 := sp p2
                  refine oo 18 ?_
                  refine XO.ldA Tryd.isAgg26 Tryd.sizeOf26 ?_
                  refine oo 2 ?_
                  refine XO.cX Tryd.call20 (Le.refl _) (Next_ok (m := m) (th := th) (at_ := (at0 : Int)) (gc.le leA) (hq.le leA)) ?_
                  rintro _ _ (⟨hz, rfl, rfl⟩ | ⟨hz, a1, c1, rfl, rfl⟩) <;> rw [hnx] at hz
                  · exact absurd rfl hz
                  rw [hnx]
                  refine oo 10 ?_
                  refine XO.cR Tryd.call11 (num_ok) ?_
                  refine oo 2 ?_
                  refine XO.know 126 (.bool false) rfl knw ?_
                  refine ox 5 ?_
                  refine X.sb [130, 14, 9, 10, 8, 1, 2, 3, 7, 6] ?_
                  refine X.know 130 (.bool false) rfl (congrArg Value.bool (by simp; omega)) ?_
                  refine xx 9 ?_
                  refine X.part 133 rfl (fun hz1 => ?_) (fun hz1 => ?_)
                  · skip
                    replace hz1 := sp hz1; have hc34 := hl0 (by omega)
                    refine xo 4 ?_
                    refine XO.ld Tryd.isAgg37 ?_
                    refine oo 1 ?_
                    refine XO.know 135 (.slice (some ⟨b2, o2, none⟩) m.threads[th.toNat].ins.length m.threads[th.toNat].ic) rfl (by rw [e2]) ?_
                    refine oo 2 ?_
                    refine XO.ld Tryd.isAgg44 ?_ (hc := (Cl.row (j := (at0 : Int)) hs2 leA (fun _ => rfl) hat rfl 0 _ rfl))
                    refine oo 2 ?_
                    refine XO.know 141 (.bool true) rfl (congrArg Value.bool (by rw [beq_iff_eq]; exact hc34)) ?_
                    refine XO.cR Tryd.call10 (works_ok (gc.le leA) (g.le leA)) ?_
                    refine ox 3 ?_
                    refine X.sb [6, 14, 9, 10, 1, 2, 3, 7] ?_
                    refine X.retL (q) Tryd.func8 (res1 Tryd.results8 rfl) ⟨_, rfl, rfl, rfl⟩
                  · skip
                    replace hz1 := sp hz1; have hnl2 := hnl (by omega)
                    refine xo 6 ?_
                    refine XO.adr hst (by simp; omega) (fun b3 o3 e3 => ?_)
                    have hs3 := hst; rw [e3] at hs3
                    refine XO.know 144 (.slice (some ⟨b3, o3, none⟩) tu.length d) rfl (by rw [e3]) ?_
                    refine oo 1 ?_
                    refine XO.ld Tryd.isAgg3 ?_ (hc := (Cl.e1 hs3 leA hi1 rfl))
                    refine ox 11 ?_
                    refine X.part 152 rfl (fun hz2 => ?_) (fun hz2 => ?_)
                    · skip
                      replace hz2 := sp hz2
                      refine xo 11 ?_
                      obtain ⟨k, hk⟩ : ∃ k : Nat, (tu[i].tmod (nxt m.threads[th.toNat].ins[at0] (at0 : Int)).length + ((nxt m.threads[th.toNat].ins[at0] (at0 : Int)).length : Int)) = (k : Int) := ⟨((tu[i].tmod (nxt m.threads[th.toNat].ins[at0] (at0 : Int)).length + ((nxt m.threads[th.toNat].ins[at0] (at0 : Int)).length : Int))).toNat, by omega⟩
                      have hkl : k < (nxt m.threads[th.toNat].ins[at0] (at0 : Int)).length := by omega
                      refine XO.know 158 (.int .i64 (k : Int)) rfl (congrArg (Value.int .i64) hk) ?_
                      refine XO.lsadr (l := nxt m.threads[th.toNat].ins[at0] (at0 : Int)) (by omega) (fun gn e_ => ?_); subst e_
                      refine oo 1 ?_
                      refine XO.ld Tryd.isAgg3 ?_ (hc := (Cl.e1 (Sees.lsH _) fndA hkl rfl))
                      refine ox 8 ?_
                      refine X.sb [10, 8, 9, 1, 2, 3, 7, 6] ?_
                      obtain ⟨hy1, hy2, hy3⟩ := g4 _ (List.getElem_mem hkl)
                      refine X.know 8 (.int .i64 ((nxt m.threads[th.toNat].ins[at0] (at0 : Int))[k].toNat : Int)) rfl (congrArg (Value.int .i64) (by omega)) ?_
                      refine X.know 9 (.int .i64 (dAt (dOf m m.threads[th.toNat]).1 (nxt m.threads[th.toNat].ins[at0] (at0 : Int))[k].toNat)) rfl (congrArg (Value.int .i64) (by omega)) ?_
                      refine X.at (ih (i + 1, (nxt m.threads[th.toNat].ins[at0] (at0 : Int))[k].toNat) ⟨by dsimp only; omega, hy2, by dsimp only; rw [hy3]; omega⟩ (by dsimp only; omega)) subA leA
                    · skip
                      replace hz2 := sp hz2
                      refine xo 5 ?_
                      obtain ⟨k, hk⟩ : ∃ k : Nat, (tu[i].tmod (nxt m.threads[th.toNat].ins[at0] (at0 : Int)).length) = (k : Int) := ⟨((tu[i].tmod (nxt m.threads[th.toNat].ins[at0] (at0 : Int)).length)).toNat, by omega⟩
                      have hkl : k < (nxt m.threads[th.toNat].ins[at0] (at0 : Int)).length := by omega
                      refine XO.know 158 (.int .i64 (k : Int)) rfl (congrArg (Value.int .i64) hk) ?_
                      refine XO.lsadr (l := nxt m.threads[th.toNat].ins[at0] (at0 : Int)) (by omega) (fun gn e_ => ?_); subst e_
                      refine oo 1 ?_
                      refine XO.ld Tryd.isAgg3 ?_ (hc := (Cl.e1 (Sees.lsH _) fndA hkl rfl))
                      refine ox 8 ?_
                      refine X.sb [10, 8, 9, 1, 2, 3, 7, 6] ?_
                      obtain ⟨hy1, hy2, hy3⟩ := g4 _ (List.getElem_mem hkl)
                      refine X.know 8 (.int .i64 ((nxt m.threads[th.toNat].ins[at0] (at0 : Int))[k].toNat : Int)) rfl (congrArg (Value.int .i64) (by omega)) ?_
                      refine X.know 9 (.int .i64 (dAt (dOf m m.threads[th.toNat]).1 (nxt m.threads[th.toNat].ins[at0] (at0 : Int))[k].toNat)) rfl (congrArg (Value.int .i64) (by omega)) ?_
                      refine X.at (ih (i + 1, (nxt m.threads[th.toNat].ins[at0] (at0 : Int))[k].toNat) ⟨by dsimp only; omega, hy2, by dsimp only; rw [hy3]; omega⟩ (by dsimp only; omega)) subA leA
            · skip
              refine xo 4 ?_
              refine XO.cR Tryd.call10 (works_ok (gc.le leA) (g.le leA)) ?_
              refine ox 2 ?_
              refine X.retL (q) Tryd.func8 (res1 Tryd.results8 rfl) ⟨_, rfl, rfl, rfl⟩
end
end Go.Proofs.YtmdnfhpoplpaoaaDoor

