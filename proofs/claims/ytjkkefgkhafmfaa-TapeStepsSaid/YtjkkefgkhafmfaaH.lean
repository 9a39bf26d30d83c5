/- What functions of package tape, of its references and of its laws do: contracts of calls, proved by walking their code. -/
import Derived.Test.YtjkkefgkhafmfaaG
import Derived.KernelRfl
set_option maxRecDepth 100000
set_option linter.unusedVariables false
set_option linter.unusedSimpArgs false
namespace Go.Proofs.Ytjkkefgkhafmfaa
open Go Go.RowKit Wx
attribute [local irreducible] Wx.lsH Wx.rsH Wx.lsM Wx.rsM Wx.stars

section
theorem Cl.rows {α : Type} {f : α → List Value} {sz : Nat} {us : List Value} {bk o k0 n : Nat} {j : Int} {l : List α} {q q0 : List HP} (hs : Sees q0 (some ⟨bk, o, none⟩) (l.flatMap f)) (hq : Le q q0) (hf : ∀ x, (f x).length = sz) (hn : n < l.length) (hj : j = n) (h : ∀ (k : Nat) (v : Value), us[k]? = some v → (f l[n])[k0 + k]? = some v) :
    ∀ (k : Nat) (v : Value), us[k]? = some v → Cl q ⟨bk, o + j.toNat * sz + k0 + k, none⟩ v := fun k v hk => by
  have := Cl.row hs hq hf hn hj (k0 + k) v (h k v hk)
  rwa [← Nat.add_assoc] at this
theorem pre_sum {ls : List Pc} {s r : Nat} (hn : nn (trs ls)) (hs : s < ls.length) : 0 ≤ sumT (trs (ls.take s) ++ ls[s].t.turns.take r) ∧ sumT (trs (ls.take s) ++ ls[s].t.turns.take r) ≤ sumT (trs ls) := by
  have e : trs ls = (trs (ls.take s) ++ ls[s].t.turns.take r) ++ (ls[s].t.turns.drop r ++ trs (ls.drop (s + 1))) := by
    have h1 : trs ls = trs (ls.take (s + 1)) ++ trs (ls.drop (s + 1)) := by unfold trs; rw [← List.flatMap_append, List.take_append_drop]
    rw [h1, trs_succ hs]
    simp only [List.append_assoc]
    rw [← List.append_assoc (List.take r _), List.take_append_drop]
  generalize trs (ls.take s) ++ ls[s].t.turns.take r = X at *
  generalize ls[s].t.turns.drop r ++ trs (ls.drop (s + 1)) = Y at *
  rw [e] at hn ⊢
  have h1 := nn_le (l := X) (fun x hx => hn x (List.mem_append_left _ hx))
  have h2 := nn_le (l := Y) (fun x hx => hn x (List.mem_append_right _ hx))
  rw [sumT_app]; omega
theorem bhd_nil (x : Turn) : bhd [] x = [x] := rfl
theorem bhd_set {l : List Turn} {x y : Turn} (h : 0 < l.length) (h2 : l[l.length - 1].1 = x.1) (hy : y = (l[l.length - 1].1, l[l.length - 1].2 + x.2)) : bhd l x = l.set (l.length - 1) y := by
  subst hy
  have e : l.getD (l.length - 1) zT = l[l.length - 1] := by simp [List.getD, List.getElem?_eq_getElem (show l.length - 1 < l.length by omega)]
  unfold bhd
  rw [e, if_pos ⟨h, h2⟩, h2]
variable {G : World} {q : List HP} {l m : List Turn} {ls : List Pc} {t u : Tkn} {x : Turn} {a b A : Option Addr} {c d C p0 p1 : Nat}
set_option maxHeartbeats 1000000 in
theorem put_ok (hs : Sees q a (l.flatMap tcs)) (hL : l.length ≤ 100000000) (h1 : 0 ≤ x.2 ∧ x.2 ≤ 2305843009213693952) (h2 : ∀ h : 0 < l.length, 0 ≤ (l[l.length - 1]).2 ∧ (l[l.length - 1]).2 ≤ 2305843009213693952) : CallF Try.prog G 27 [.slice a l.length c, .int .i64 x.1, .int .i64 x.2] q (Ret fun v q' => ∃ a' c', v = .slice a' (bhd l x).length c' ∧ q' = rsH tcs 2 45 a' c' (bhd l x) :: q) := by
  refine CallF.of Try.func27 Try.ntmps27 rfl (fun F cs => ?_)
  have hlen := flatMap_len (f := tcs) (sz := 2) (fun _ => rfl) l
  refine xo 6 ?_
  refine XO.ef (Ef.litR0 tcs Try.underlying26 Try.info45) ?_
  rintro _ _ ⟨g0, rfl, rfl⟩
  refine oo 1 ?_
  refine XO.ef (Ef.appRA (l := []) (m := l) Try.underlying26 Try.info45 rfl rfl (fun _ => rfl) rfl rfl fndA (hs.le leA) (fun _ => rfl) (by simp; try omega) (by simp; try omega)) ?_
  rintro _ _ ⟨a2, c2, rfl, rfl⟩
  rw [List.nil_append]
  refine oo 14 ?_
  rcases Nat.eq_zero_or_pos l.length with hl0 | hl0
  · skip
    refine XO.know 16 (.bool false) rfl knw ?_
    refine oo 18 ?_
    refine XO.ef (Ef.litR1 (u := x) tcs Try.underlying26 Try.info45 rfl rfl (fun _ => rfl) rfl) ?_
    rintro _ _ ⟨g2, rfl, rfl⟩
    refine XO.ef (Ef.appRA (l := l) (m := [x]) Try.underlying26 Try.info45 rfl rfl (fun _ => rfl) rfl rfl fndA ((Sees.rsH _).le leA) (fun _ => rfl) (by simp; try omega) (by simp; try omega)) ?_
    rintro _ _ ⟨a3, c3, rfl, rfl⟩
    refine ox 2 ?_
    refine X.sb [6] ?_
    have hb := bhd_new (l := l) (x := x) (by intro h; omega)
    refine X.retL (rsH tcs 2 45 a3 c3 (bhd l x) :: q) Try.func27 (res1 Try.results27 rfl) ⟨_, by rw [hb], a3, c3, rfl, rfl⟩ (by rw [hb]; exact leA)
  · skip
    refine XO.know 16 (.bool true) rfl knw ?_
    refine XO.rsadr hl0 (fun b1 e_ => ?_); subst e_
    have h3 := h2 hl0
    refine oo 5 ?_
    refine XO.ld Try.isAgg3 ?_ (hc := (Cl.row (f := tcs) (sz := 2) (bk := b1) (o := 0) (j := (l.length : Int) - 1) (Sees.rsH (sz := 2) (ty := 45) (c := c2) []) leA (fun _ => rfl) (show l.length - 1 < l.length by omega) (by omega) 0 _ rfl))
    refine ox 4 ?_
    refine X.sb [25, 8, 7, 6, 1, 2] ?_
    refine X.part 25 rfl (fun h1 => ?_) (fun h1 => ?_)
    · skip
      replace h1 := sp h1
      refine xo 11 ?_
      refine XO.ld Try.isAgg3 ?_ (hc := (Cl.row (f := tcs) (sz := 2) (bk := b1) (o := 0) (j := (l.length : Int) - 1) (Sees.rsH (sz := 2) (ty := 45) (c := c2) []) leA (fun _ => rfl) (show l.length - 1 < l.length by omega) (by omega) 1 _ rfl))
      refine oo 4 ?_
      have hb := bhd_set hl0 h1 rfl
      refine XO.ef0 (Ef.setR (l := l) (n := l.length - 1) (k := 1) (u := (l[l.length - 1].1, l[l.length - 1].2 + x.2)) rfl rfl Try.sizeOf3 (fun _ => rfl) (by omega) (by omega) rfl rfl rfl rfl fndA) ?_
      rintro _ _ ⟨rfl, rfl⟩
      refine ox 6 ?_
      refine X.retL (rsH tcs 2 45 (some ⟨b1, 0, none⟩) c2 (bhd l x) :: q) Try.func27 (res1 Try.results27 rfl) ⟨_, by rw [hb, List.length_set], _, c2, rfl, rfl⟩ (by rw [hb]; exact leA)
    · skip
      replace h1 := sp h1
      have hk := h1
      refine xo 8 ?_
      refine XO.ef (Ef.litR1 (u := x) tcs Try.underlying26 Try.info45 rfl rfl (fun _ => rfl) rfl) ?_
      rintro _ _ ⟨g2, rfl, rfl⟩
      refine XO.ef (Ef.appRA (l := l) (m := [x]) Try.underlying26 Try.info45 rfl rfl (fun _ => rfl) rfl rfl fndA ((Sees.rsH _).le leA) (fun _ => rfl) (by simp; try omega) (by simp; try omega)) ?_
      rintro _ _ ⟨a3, c3, rfl, rfl⟩
      refine ox 2 ?_
      have hb := bhd_new (l := l) (x := x) (by intro h; exact hk)
      refine X.retL (rsH tcs 2 45 a3 c3 (bhd l x) :: q) Try.func27 (res1 Try.results27 rfl) ⟨_, by rw [hb], a3, c3, rfl, rfl⟩ (by rw [hb]; exact leA)
set_option maxHeartbeats 2000000 in
theorem RJoin_ok (hs : Sees q A (ls.flatMap pcs)) (hp : ∀ x ∈ ls, Sees q x.a (x.t.turns.flatMap tcs)) (hf : Few ls) : CallF Try.prog G 8 [.slice A ls.length C] q (Ret fun v q' => (joinsOk ls ∧ okT (whole ls) ∧ ∃ a c, v = .tuple [(whole ls).v a c, .int .i64 0].toArray ∧ q' = rsH tcs 2 45 a c ((whole ls).turns) :: q) ∨ (∃ e, jErr e ls ∧ v = .tuple [z0.v none 0, .int .i64 e].toArray ∧ q' = q)) := by
  refine CallF.of Try.func8 Try.ntmps8 rfl (fun F cs => ?_)
  have hlen := flatMap_len (f := pcs) (sz := 6) (fun _ => rfl) ls; have hL := hf.1
  refine xo 2 ?_
  refine XO.ef (Ef.alloc Try.zeroValue32) ?_
  rintro _ _ ⟨n1, rfl, rfl⟩
  refine ox 9 ?_
  refine X.part 11 rfl (fun h0 => ?_) (fun h0 => ?_)
  · skip
    replace h0 := sp h0
    refine xo 4 ?_
    refine XO.ef0 (Ef.stA Try.sizeOf32) ?_
    rintro _ _ ⟨rfl, rfl⟩
    refine ox 2 ?_
    refine X.retL (q) Try.func8 (resC Try.results8 (ResOk.cell rfl (LV.agg Try.isAgg32 Try.sizeOf32 hasA rfl) (ResOk.tmp rfl ResOk.nil))) ⟨_, rfl, .inr ⟨2, .inl ⟨rfl, fun ok => by have := ok.1; omega⟩, rfl, rfl⟩⟩
  · skip
    replace h0 := sp h0
    have hz : 0 < ls.length := by omega
    refine X.adr hs (by rw [hlen]; omega) (fun bA oA e_ => ?_); subst e_
    have h00 := hash0_eq hz
    refine xx 3 ?_
    refine X.draw [] Try.mixed (by kernel_rfl) (by kernel_rfl) rfl ?_
    refine dd [0, 1, 2] ?_
    refine XD.ld 3 Try.isAgg25 ?_ (hc := (Cl.row (f := pcs) (sz := 6) (n := 0) hs leA (fun _ => rfl) (by omega) (by first | rfl | omega) 0 _ rfl))
    refine dd [4, 5, 6, 7, 8, 9] ?_
    refine XD.rdCs 10 (us := ocs (ls[ls.length - 1]).t.e) rfl rfl Try.isAgg30 Try.sizeOf30 rfl (Cl.rows (f := pcs) (sz := 6) (k0 := 2) (n := ls.length - 1) hs leA (fun _ => rfl) (by omega) (by omega) (fun k v hk => by rcases k with _ | _ | _ | _ | k <;> first | exact hk | (simp [ocs] at hk))) ?_
    refine dd [11] ?_
    refine XD.ef 12 rfl (Ef.alloc Try.zeroValue32) ?_
    rintro _ _ ⟨n2, rfl, rfl⟩
    refine ⟨(hlA (h := by repeat first | exact trivial | refine ⟨clA, ?_⟩ | refine ⟨(Cl.row (f := pcs) (sz := 6) (n := 0) hs leA (fun _ => rfl) (by omega) (by first | rfl | omega) 0 _ rfl), ?_⟩ | refine ⟨(Cl.row (f := pcs) (sz := 6) (n := ls.length - 1) hs leA (fun _ => rfl) (by omega) (by first | rfl | omega) 2 _ rfl), ?_⟩ | refine ⟨(Cl.row (f := pcs) (sz := 6) (n := ls.length - 1) hs leA (fun _ => rfl) (by omega) (by first | rfl | omega) 3 _ rfl), ?_⟩ | refine ⟨(Cl.row (f := pcs) (sz := 6) (n := ls.length - 1) hs leA (fun _ => rfl) (by omega) (by first | rfl | omega) 4 _ rfl), ?_⟩ | refine ⟨(Cl.row (f := pcs) (sz := 6) (n := ls.length - 1) hs leA (fun _ => rfl) (by omega) (by first | rfl | omega) 5 _ rfl), ?_⟩)), ?_⟩
    refine XD.ef0 13 rfl (Ef.stA Try.sizeOf32) ?_
    rintro _ _ ⟨rfl, rfl⟩
    refine ⟨trivial, ?_⟩
    refine XD.nil ?_
    refine xx 6 ?_
    refine X.sb [5, 4, 3, 2, 0] ?_
    rw [← h00]
    refine X.at (X.loop (fun (s : Nat) => s ≤ ls.length ∧ ∀ i (h : i < ls.length), i < s → pieceOk ls i ls[i]) (fun s => [(5, .int .i64 (s : Int)), (0, .slice (some ⟨bA, oA, none⟩) ls.length C), (2, .pointer (some ⟨n1, 0, none⟩)), (4, .pointer (some ⟨n2, 0, none⟩)), (3, .int .i64 0)]) (fun s => pto n1 (.cells (z0.cs none 0).toArray 32 (0, 0)) :: pto n2 (.cells ((⟨hash0 ls, [], (ls[ls.length - 1]).t.e⟩ : Tkn).cs none 0).toArray 32 (0, 0)) :: (q ++ F)) (fun s => ls.length - s) (fun s hi_ ih => ?_) 0 ⟨by omega, fun i h k => by omega⟩) subA leA
    try dsimp only at hi_ ih ⊢
    obtain ⟨hi1, hi2⟩ := hi_
    refine xx 8 ?_
    refine X.part 28 rfl (fun h0 => ?_) (fun h0 => ?_)
    · skip
      replace h0 := sp h0
      have hi0 : s < ls.length := by omega
      refine xx 5 ?_
      refine X.draw [] Try.mixed (by kernel_rfl) (by kernel_rfl) rfl ?_
      refine dd [0, 1, 2] ?_
      refine XD.ldS 3 (m := s) Try.isAgg32 Try.sizeOf32 hs hi0 ?_
      refine XD.cRL 4 Try.call15 (RCheck_ok (t := ls[s].t) (a := ls[s].a) (c := ls[s].c) ((hp _ (List.getElem_mem hi0)).le leA)) ?_
      refine dd [5, 6] ?_
      refine XD.sb [37, 5, 0, 2, 4, 3] ?_
      apply XD.cutOr 16 [0, 1, 2, 3, 4, 5, 6, 7, 8, 9, 10, 11, 12, 13, 14, 15] 46 37 rfl
      · skip
        intro g1 M1; have h1 := sp g1
        refine dd [7, 8, 9, 10] ?_
        refine XD.ld 11 Try.isAgg25 ?_ (hc := (Cl.row (f := pcs) (sz := 6) (n := s) hs leA (fun _ => rfl) hi0 rfl 0 _ rfl))
        refine dd [12] ?_
        refine XD.ld 13 Try.isAgg25 ?_
        refine dd [14, 15] ?_
        exact XD.fin M1 ⟨orF g1, subB⟩
      · skip
        intro g1 M1; have h1 := sp g1
        refine dd [7, 8, 9, 10, 11, 12, 13, 14, 15] ?_
        exact XD.fin M1 ⟨orT g1, subB⟩
      · skip
        intro L_
        refine dd [16] ?_
        refine XD.sb [47, 5, 0, 2, 4, 3] ?_
        apply XD.cutOr 0 [0, 1, 2, 3, 4, 5, 6, 7, 8, 9, 10, 11, 12, 13, 14, 15, 16, 17, 18, 19, 20, 21, 22, 23, 24, 25, 26, 27, 28, 29, 30, 31] 62 47 rfl
        · skip
          intro g1 M1; have h1 := sp g1
          refine dd [17, 18, 19, 20, 21, 22] ?_
          refine XD.sb [53, 47, 5, 0, 2, 4, 3] ?_
          apply XD.cutAnd 1 [0, 1, 2, 3, 4, 5, 6, 7, 8, 9, 10, 11, 12, 13, 14, 15, 16, 17, 18, 19, 20, 21, 22, 23, 24, 25, 26, 27, 28, 29, 30] 61 53 rfl
          · skip
            intro g2 M2; have h2 := sp g2
            refine dd [23, 24, 25, 26, 27] ?_
            refine XD.ld 28 Try.isAgg27 ?_ (hc := (Cl.row (f := pcs) (sz := 6) (n := s) hs leA (fun _ => rfl) hi0 rfl 2 _ rfl))
            refine dd [29, 30] ?_
            exact XD.fin M2 ⟨andT g2, subB⟩
          · skip
            intro g2 M2; have h2 := sp g2
            refine dd [23, 24, 25, 26, 27, 28, 29, 30] ?_
            exact XD.fin M2 ⟨andF g2, subB⟩
          · skip
            intro L_
            refine dd [31] ?_
            exact XD.fin M1 ⟨orF g1, subB⟩
        · skip
          intro g1 M1; have h1 := sp g1
          refine dd [17, 18, 19, 20, 21, 22, 23, 24, 25, 26, 27, 28, 29, 30, 31] ?_
          exact XD.fin M1 ⟨orT g1, subB⟩
        · skip
          intro L_
          refine XD.nil ?_
          refine X.part 62 rfl (fun h1 => ?_) (fun h1 => ?_)
          · skip
            replace h1 := sp h1
            refine xo 4 ?_
            refine XO.ef0 (Ef.stA Try.sizeOf32) ?_
            rintro _ _ ⟨rfl, rfl⟩
            refine ox 2 ?_
            refine X.retL (q) Try.func8 (resC Try.results8 (ResOk.cell rfl (LV.agg Try.isAgg32 Try.sizeOf32 hasA rfl) (ResOk.tmp rfl ResOk.nil))) ⟨_, rfl, .inr ⟨2, .inl ⟨rfl, fun ok => by have k := ok.2 s hi0; obtain ⟨k1, k2, k3⟩ := k; rw [← chk_iff] at k1; simp_all; omega⟩, rfl, rfl⟩⟩
          · skip
            replace h1 := sp h1
            refine xx 8 ?_
            refine X.sb [5, 0, 2, 4, 3] ?_
            refine X.at (ih (s + 1) ⟨by omega, fun i h k => by rcases Nat.lt_or_ge i s with e | e; exact hi2 i h e; obtain rfl : i = s := (by omega); unfold pieceOk; rw [chk_iff] at *; simp_all; omega⟩ (by omega)) subA leA
    · skip
      replace h0 := sp h0
      refine xx 12 ?_
      have jo : joinsOk ls := ⟨hz, fun i h => hi2 i h (by omega)⟩
      have hW := jo.whole; have T := trs_facts (l := ls) (fun x hx => ⟨jo.all x hx, hf.2 x hx⟩)
      refine X.le (Le.rsH_nil tcs 2 45 _) ?_
      refine X.at (X.loop (fun (s : Nat × Option Addr × Nat) => s.1 ≤ ls.length) (fun s => [(7, .int .i64 (s.1 : Int)), (6, .int .i64 (sumT (trs (ls.take s.1)))), (0, .slice (some ⟨bA, oA, none⟩) ls.length C), (2, .pointer (some ⟨n1, 0, none⟩)), (4, .pointer (some ⟨n2, 0, none⟩)), (3, .int .i64 0)]) (fun s => rsH tcs 2 45 s.2.1 s.2.2 (jn [] (trs (ls.take s.1))) :: pto n1 (.cells (z0.cs none 0).toArray 32 (0, 0)) :: pto n2 (.cells ((⟨hash0 ls, jn [] (trs (ls.take s.1)), (ls[ls.length - 1]).t.e⟩ : Tkn).cs s.2.1 s.2.2).toArray 32 (0, 0)) :: (q ++ F)) (fun s => ls.length - s.1) (fun s hi_ ihs => ?_) (0, none, 0) (by dsimp only; omega)) subA leA
      try dsimp only at hi_ ihs ⊢
      obtain hj := hi_
      obtain ⟨s, a1, c1⟩ := s; dsimp only at *
      refine xx 8 ?_
      refine X.part 67 rfl (fun h3 => ?_) (fun h3 => ?_)
      · skip
        replace h3 := sp h3; have hi0 : s < ls.length := by omega
        refine xx 9 ?_
        have hq0 : trs (ls.take s) = trs (ls.take s) ++ ls[s].t.turns.take 0 := by simp
        have Jx := hf.jo jo.all hi0; rw [whole_turns] at Jx
        have hps := hp _ (List.getElem_mem hi0); have h40 := hf.2 _ (List.getElem_mem hi0); have hlt := flatMap_len (f := tcs) (sz := 2) (fun _ => rfl) ls[s].t.turns
        refine X.at (X.loop (fun (r : Nat × Option Addr × Nat) => r.1 ≤ ls[s].t.turns.length) (fun r => [(8, .int .i64 (r.1 : Int)), (7, .int .i64 (s : Int)), (6, .int .i64 (sumT (trs (ls.take s) ++ ls[s].t.turns.take r.1))), (0, .slice (some ⟨bA, oA, none⟩) ls.length C), (2, .pointer (some ⟨n1, 0, none⟩)), (4, .pointer (some ⟨n2, 0, none⟩)), (3, .int .i64 0)]) (fun r => rsH tcs 2 45 r.2.1 r.2.2 (jn [] (trs (ls.take s) ++ ls[s].t.turns.take r.1)) :: pto n1 (.cells (z0.cs none 0).toArray 32 (0, 0)) :: pto n2 (.cells ((⟨hash0 ls, jn [] (trs (ls.take s) ++ ls[s].t.turns.take r.1), (ls[ls.length - 1]).t.e⟩ : Tkn).cs r.2.1 r.2.2).toArray 32 (0, 0)) :: (q ++ F)) (fun r => ls[s].t.turns.length - r.1) (fun r hi_ ihr => ?_) (0, a1, c1) (by dsimp only; omega)) subA (by dsimp only; rw [← hq0]; exact leA)
        try dsimp only at hi_ ihr ⊢
        obtain hk := hi_
        obtain ⟨r, a2, c2⟩ := r; dsimp only at *
        refine xo 8 ?_
        refine XO.ld Try.isAgg26 ?_ (hc := (Cl.row (f := pcs) (sz := 6) (n := s) hs leA (fun _ => rfl) hi0 rfl 1 _ rfl))
        refine ox 3 ?_
        refine X.part 77 rfl (fun h4 => ?_) (fun h4 => ?_)
        · skip
          replace h4 := sp h4; have hr0 : r < ls[s].t.turns.length := by omega
          refine X.adr hps (by rw [hlt]; omega) (fun bT oT eT => ?_); rw [eT] at hps
          have hS : sumT (trs (ls.take s) ++ ls[s].t.turns.take (r + 1)) = sumT (trs (ls.take s) ++ ls[s].t.turns.take r) + ls[s].t.turns[r].2 := by rw [sumT_app, sumT_app, sumT_succ hr0]; omega
          have hB0 := pre_sum (r := r) T.1 hi0; have hB1 := pre_sum (r := r + 1) T.1 hi0; have hB2 := T.2.1; have hB3 : (ls.length : Int) ≤ 5 := by omega
          refine xo 11 ?_
          refine XO.ld Try.isAgg26 ?_ (hc := (Cl.row (f := pcs) (sz := 6) (n := s) hs leA (fun _ => rfl) hi0 rfl 1 _ rfl))
          refine XO.know 85 (.slice (some ⟨bT, oT, none⟩) ls[s].t.turns.length ls[s].c) rfl (by rw [eT]) ?_
          refine oo 3 ?_
          refine XO.ld Try.isAgg3 ?_ (hc := (Cl.row (f := tcs) (sz := 2) (n := r) hps leA (fun _ => rfl) hr0 rfl 1 _ rfl))
          refine ox 9 ?_
          refine X.sb [92, 6, 8, 7, 0, 2, 4, 3] ?_
          refine X.part 92 rfl (fun h6 => ?_) (fun h6 => ?_)
          · skip
            replace h6 := sp h6
            refine xo 4 ?_
            refine XO.ef0 (Ef.stA Try.sizeOf32) ?_
            rintro _ _ ⟨rfl, rfl⟩
            refine ox 2 ?_
            refine X.retL (q) Try.func8 (resC Try.results8 (ResOk.cell rfl (LV.agg Try.isAgg32 Try.sizeOf32 hasA rfl) (ResOk.tmp rfl ResOk.nil))) ⟨_, rfl, .inr ⟨3, .inr ⟨rfl, jo, fun ok => by have k := (okT_sum ok).2.1; rw [whole_turns, jn_sum] at k; simp only [sumT, List.map_nil, List.sum_nil] at k hB1 h6 hS; omega⟩, rfl, rfl⟩⟩
          · skip
            replace h6 := sp h6
            refine xx 2 ?_
            refine X.draw [] Try.mixed (by kernel_rfl) (by kernel_rfl) rfl ?_
            refine dd [0] ?_
            refine XD.ld 1 Try.isAgg26 ?_
            refine dd [2, 3, 4, 5] ?_
            refine XD.ld 6 Try.isAgg26 ?_ (hc := (Cl.row (f := pcs) (sz := 6) (n := s) hs leA (fun _ => rfl) hi0 rfl 1 _ rfl))
            refine XD.know 100 (.slice (some ⟨bT, oT, none⟩) ls[s].t.turns.length ls[s].c) rfl (by rw [eT]) ?_
            refine dd [7, 8, 9] ?_
            refine XD.ld 10 Try.isAgg3 ?_ (hc := (Cl.row (f := tcs) (sz := 2) (n := r) hps leA (fun _ => rfl) hr0 rfl 0 _ rfl))
            refine dd [11, 12, 13, 14] ?_
            refine XD.ld 15 Try.isAgg26 ?_ (hc := (Cl.row (f := pcs) (sz := 6) (n := s) hs leA (fun _ => rfl) hi0 rfl 1 _ rfl))
            refine XD.know 109 (.slice (some ⟨bT, oT, none⟩) ls[s].t.turns.length ls[s].c) rfl (by rw [eT]) ?_
            refine dd [16, 17, 18] ?_
            refine XD.ld 19 Try.isAgg3 ?_ (hc := (Cl.row (f := tcs) (sz := 2) (n := r) hps leA (fun _ => rfl) hr0 rfl 1 _ rfl))
            have Jz := Jx.at hr0; simp only [← jn_app] at Jz; obtain ⟨J1, J2, J3⟩ := Jz
            refine XD.cX 20 Try.call27 (Le.refl _) (put_ok (x := ls[s].t.turns[r]) (l := jn [] (trs (ls.take s) ++ ls[s].t.turns.take r)) (a := a2) (c := c2) ((Sees.rsH (sz := 2) (ty := 45) (c := c2) []).le leA) J1 J2 J3) ?_
            rintro _ _ ⟨a3, c3, rfl, rfl⟩
            refine ⟨hlA, ?_⟩
            refine dd [21] ?_
            refine XD.ef0 22 rfl (Ef.st Try.sizeOf26) ?_
            rintro _ _ ⟨rfl, rfl⟩
            refine ⟨trivial, ?_⟩
            refine XD.nil ?_
            refine xx 6 ?_
            refine X.sb [8, 6, 7, 0, 2, 4, 3] ?_
            have hjs := jn_succ (jn [] (trs (ls.take s))) hr0; rw [← jn_app, ← jn_app] at hjs
            refine X.at (ihr (r + 1, a3, c3) (by dsimp only; omega) (by dsimp only; omega)) subA (by dsimp only; rw [hjs]; exact leA)
        · skip
          replace h4 := sp h4
          refine xx 8 ?_
          have hts := trs_succ hi0
          refine X.know 6 (.int .i64 (sumT (trs (ls.take (s + 1))))) rfl (by rw [hts, List.take_of_length_le (show ls[s].t.turns.length ≤ r by omega)]) ?_
          refine X.at (ihs (s + 1, a2, c2) (by dsimp only; omega) (by dsimp only; omega)) subA (by dsimp only; rw [hts]; rw [List.take_of_length_le (show ls[s].t.turns.length ≤ r by omega)]; exact leA)
      · skip
        replace h3 := sp h3
        refine xo 5 ?_
        refine XO.ldA Try.isAgg32 Try.sizeOf32 ?_
        rw [show ls.take s = ls from List.take_of_length_le (by omega)]
        rw [show (⟨hash0 ls, jn [] (trs ls), (ls[ls.length - 1]).t.e⟩ : Tkn) = whole ls from hW.symm, ← whole_turns ls]
        refine XO.cR Try.call15 (RCheck_ok (t := whole ls) (a := a1) (c := c1) ((Sees.rsH (sz := 2) (ty := 45) (c := c1) []).le leA)) ?_
        refine ox 2 ?_
        refine X.part 118 rfl (fun h5 => ?_) (fun h5 => ?_)
        · skip
          replace h5 := sp h5; rw [chk_iff] at h5
          refine xo 4 ?_
          refine XO.ef0 (Ef.stA Try.sizeOf32) ?_
          rintro _ _ ⟨rfl, rfl⟩
          refine ox 2 ?_
          refine X.retL (q) Try.func8 (resC Try.results8 (ResOk.cell rfl (LV.agg Try.isAgg32 Try.sizeOf32 hasA rfl) (ResOk.tmp rfl ResOk.nil))) ⟨_, rfl, .inr ⟨3, .inr ⟨rfl, jo, h5⟩, rfl, rfl⟩⟩
        · skip
          replace h5 := sp h5; rw [chk_iff] at h5
          refine xo 4 ?_
          refine XO.ldA Try.isAgg32 Try.sizeOf32 ?_
          refine XO.ef0 (Ef.stA Try.sizeOf32) ?_
          rintro _ _ ⟨rfl, rfl⟩
          refine ox 2 ?_
          refine X.retL (rsH tcs 2 45 a1 c1 ((whole ls).turns) :: q) Try.func8 (resC Try.results8 (ResOk.cell rfl (LV.agg Try.isAgg32 Try.sizeOf32 hasA rfl) (ResOk.tmp rfl ResOk.nil))) ⟨_, rfl, .inl ⟨jo, h5, a1, c1, rfl, rfl⟩⟩
end
end Go.Proofs.Ytjkkefgkhafmfaa

