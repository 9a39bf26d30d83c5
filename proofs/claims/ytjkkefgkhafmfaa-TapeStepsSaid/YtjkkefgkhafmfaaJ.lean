/- What functions of package tape, of its references and of its laws do: contracts of calls, proved by walking their code. -/
import Derived.Test.YtjkkefgkhafmfaaI
import Derived.KernelRfl
set_option maxRecDepth 100000
set_option linter.unusedVariables false
set_option linter.unusedSimpArgs false
namespace Go.Proofs.Ytjkkefgkhafmfaa
open Go Go.RowKit Wx
attribute [local irreducible] Wx.lsH Wx.rsH Wx.lsM Wx.rsM Wx.stars


def hT (x : Pc) : HP := rsH tcs 2 45 x.a x.c x.t.turns
def hF (x : Pc) : HP := rsM tcs 2 45 x.a x.c x.t.turns
theorem hT_frz (l : List Pc) (G w : World) (q : List HP) (s : St G w (stars (l.map hT) :: q)) : St G w (stars (l.map hF) :: q) :=
  stars_frz (f := hT) (g := hF) (fun x _ G w q s => by unfold hT rsH at s; unfold hF rsM; exact s.slFreeze) G w q s
theorem hF_sees {l : List Pc} {x : Pc} (h : x ∈ l) (q : List HP) : Sees (stars (l.map hF) :: q) x.a (x.t.turns.flatMap tcs) := by
  obtain ⟨i, hi, rfl⟩ := List.getElem_of_mem h
  exact Sees.star hi (fun q => by unfold hF; exact Sees.rsM q) q
section
variable {G : World} {q : List HP} {l m : List Turn} {t u : Tkn} {ns : List Int} {a b A : Option Addr} {c d C p p0 p1 p2 i : Nat} {v_ mn n : Int}
set_option maxHeartbeats 2000000 in
theorem cut1_ok (hs : Sees q a (t.turns.flatMap tcs)) (hn : Sees q b (ns.map (Value.int .i64))) (hN : ns.length ≤ 1000) : CallF Try.prog G 39 [.pointer (some ⟨p0, 0, none⟩), .pointer (some ⟨p1, 0, none⟩), .pointer (some ⟨p2, 0, none⟩)] (pto p0 (.cells (t.cs a c).toArray 32 (0, 0)) :: pto p1 (.cells [.slice b ns.length d].toArray 76 (0, 0)) :: pto p2 (.cells [.slice none 0 0].toArray 22 (0, 0)) :: q) (RP (fun _ q' => okT t ∧ cutsOk (sumT t.turns) ns ∧ ∃ (outs : List Pc) (a2 : Option Addr) (c2 : Nat), outs.map (·.t) = cutsT t (sumT t.turns) t.turns 0 ns ∧ q' = pto p2 (.cells [.slice a2 outs.length c2].toArray 22 (0, 0)) :: rsH pcs 6 32 a2 c2 outs :: stars (outs.map hF) :: q) (fun ch q' => ∃ e, ch = [refE e] ∧ (e = 2 ∧ ¬ (okT t ∧ cutsOk (sumT t.turns) ns)) ∧ q' = pto p2 (.cells [.slice none 0 0].toArray 22 (0, 0)) :: q)) := by
  refine CallF.of Try.func39 Try.ntmps39 rfl (fun F cs => ?_)
  have hnl : (ns.map (Value.int .i64)).length = ns.length := by simp
  refine xo 2 ?_
  refine XO.ldA Try.isAgg32 Try.sizeOf32 ?_
  refine XO.cP Try.call30 (Le.refl _) (open_ok (t := t) (a := a) (c := c) (hs.le leA)) ?_ ?_
  · rintro _ _ ⟨ok, rfl, rfl⟩
    exact FQ.panic Try.func39 (RP.thr ⟨2, rfl, ⟨rfl, fun k => ok k.1⟩, rfl⟩)
  rintro _ _ ⟨ok, n2, rfl, rfl⟩
  obtain ⟨hS1, hS2, hS3⟩ := okT_sum ok; have hL := ok.1
  refine oo 5 ?_
  refine XO.ld Try.isAgg76 ?_
  refine ox 4 ?_
  refine X.at (X.loop (fun (s : Nat × Option Addr) => s.1 ≤ ns.length ∧ s.2 = b ∧ ∀ i (h : i < ns.length), i < s.1 → cutsAt (sumT t.turns) ns i ns[i]) (fun s => [(14, .int .i64 (s.1 : Int)), (12, .slice s.2 ns.length d), (13, .int .i64 (ns.length : Int)), (3, .pointer (some ⟨n2, 0, none⟩)), (1, .pointer (some ⟨p1, 0, none⟩)), (2, .pointer (some ⟨p2, 0, none⟩))]) (fun s => tapH n2 t a c (sumT t.turns) 0 0 :: pto p1 (.cells [.slice s.2 ns.length d].toArray 76 (0, 0)) :: pto p2 (.cells [.slice none 0 0].toArray 22 (0, 0)) :: (q ++ F)) (fun s => ns.length - s.1) (fun s hi_ ih => ?_) (0, b) ⟨by dsimp only; omega, rfl, fun i h k => by dsimp only at k; omega⟩) subA leA
  try dsimp only at hi_ ih ⊢
  obtain ⟨hi1, rfl, hi2⟩ := hi_
  obtain ⟨s, b⟩ := s; dsimp only at *
  refine xx 5 ?_
  refine X.part 15 rfl (fun h0 => ?_) (fun h0 => ?_)
  · skip
    replace h0 := sp h0; have hi0 : s < ns.length := by omega
    refine X.adr hn (by rw [hnl]; omega) (fun b1 o1 e_ => ?_); subst e_
    refine xo 8 ?_
    refine XO.ld Try.isAgg3 ?_
    refine oo 7 ?_
    refine XO.sb [21, 5, 4, 14, 12, 13, 3, 1, 2] ?_
    apply XO.cutAnd 7 28 21 rfl
    · skip
      intro g1 M1; have h1 := sp g1
      refine oo 4 ?_
      refine XO.ld Try.isAgg3 ?_
      refine oo 2 ?_
      exact XO.fin M1 ⟨andT g1, subB⟩
    · skip
      intro g1 M1; have h1 := sp g1
      refine oo 7 ?_
      exact XO.fin M1 ⟨andF g1, subB⟩
    · skip
      refine oo 1 ?_
      refine XO.sb [29, 5, 4, 14, 12, 13, 3, 1, 2] ?_
      apply XO.cutAnd 12 41 29 rfl
      · skip
        intro g1 M1; have h1 := sp g1
        refine oo 3 ?_
        refine XO.sb [32, 29, 5, 4, 14, 12, 13, 3, 1, 2] ?_
        apply XO.cutOr 8 40 32 rfl
        · skip
          intro g2 M2; have h2 := sp g2
          refine XO.ld Try.isAgg76 ?_
          refine oo 3 ?_
          refine XO.ld Try.isAgg3 ?_
          refine oo 3 ?_
          exact XO.fin M2 ⟨orF g2, subB⟩
        · skip
          intro g2 M2; have h2 := sp g2
          refine oo 8 ?_
          exact XO.fin M2 ⟨orT g2, subB⟩
        · skip
          refine oo 1 ?_
          exact XO.fin M1 ⟨andT g1, subB⟩
      · skip
        intro g1 M1; have h1 := sp g1
        refine oo 12 ?_
        exact XO.fin M1 ⟨andF g1, subB⟩
      · skip
        refine XO.cP Try.call21 (Le.refl _) (need_if) ?_ ?_
        · rintro _ _ ⟨hb, rfl, rfl⟩
          replace hb := sp hb
          exact FQ.panic Try.func39 (RP.thr ⟨2, rfl, ⟨rfl, fun k => by have k := k.2 s hi0; obtain ⟨k1, k2, k3⟩ := k; rw [List.getD_eq_getElem?_getD] at k3; rcases hb with hb | hb; (rcases hb with hb | hb <;> omega); rw [List.getElem?_eq_getElem (show s - 1 < ns.length by omega)] at k3; simp only [Option.getD_some] at k3; omega⟩, rfl⟩)
        rintro _ _ ⟨hb, rfl⟩
        replace hb := sp hb
        refine ox 6 ?_
        refine X.at (ih (s + 1, some ⟨b1, o1, none⟩) ⟨by dsimp only; omega, rfl, fun i h k => by rcases Nat.lt_or_ge i s with e | e; exact hi2 i h e; obtain rfl : i = s := (by dsimp only at k; omega); refine ⟨hb.1.1, hb.1.2, ?_⟩; rcases hb.2 with k | k; left; omega; right; rw [List.getD_eq_getElem?_getD, List.getElem?_eq_getElem (show i - 1 < ns.length by omega)]; simpa using k⟩ (by dsimp only; omega)) subA leA
  · skip
    replace h0 := sp h0
    have ok2 : cutsOk (sumT t.turns) ns := fun i h => hi2 i h (by omega)
    refine xo 9 ?_
    refine XO.ld Try.isAgg76 ?_
    refine ox 4 ?_
    refine X.le ((Le.rsH_nil pcs 6 32 _).trans (Le.stars_nil _)) ?_
    refine X.at (X.loop (fun (s : Nat × Option Addr × Int × Nat × Int × List Pc × Option Addr × Nat) => s.1 ≤ ns.length ∧ s.2.1 = b ∧ s.2.2.2.2.2.1.length = s.1 ∧ (0 ≤ s.2.2.1 ∧ s.2.2.1 ≤ sumT t.turns) ∧ s.2.2.1 = (if s.1 = 0 then 0 else ns.getD (s.1 - 1) 0) ∧ Pos t.turns s.2.2.2.1 s.2.2.2.2.1 ∧ sumT (rems t.turns s.2.2.2.1 s.2.2.2.2.1) = sumT t.turns - s.2.2.1 ∧ s.2.2.2.2.2.1.map (·.t) ++ cutsT t (sumT t.turns) (rems t.turns s.2.2.2.1 s.2.2.2.2.1) s.2.2.1 (ns.drop s.1) = cutsT t (sumT t.turns) t.turns 0 ns) (fun s => [(46, .int .i64 (s.1 : Int)), (44, .slice s.2.1 ns.length d), (45, .int .i64 (ns.length : Int)), (3, .pointer (some ⟨n2, 0, none⟩)), (2, .pointer (some ⟨p2, 0, none⟩)), (6, .int .i64 s.2.2.1)]) (fun s => stars (s.2.2.2.2.2.1.map hT) :: rsH pcs 6 32 s.2.2.2.2.2.2.1 s.2.2.2.2.2.2.2 s.2.2.2.2.2.1 :: tapH n2 t a c (sumT t.turns) s.2.2.2.1 s.2.2.2.2.1 :: pto p2 (.cells [.slice s.2.2.2.2.2.2.1 s.2.2.2.2.2.1.length s.2.2.2.2.2.2.2].toArray 22 (0, 0)) :: (q ++ F)) (fun s => ns.length - s.1) (fun s hi_ ih2 => ?_) (0, b, 0, 0, 0, [], none, 0) ⟨by dsimp only; omega, rfl, rfl, ⟨by dsimp only; omega, by dsimp only; omega⟩, rfl, Pos.zero hS3, by simp only [rems_zero, List.drop_zero]; omega, by simp only [rems_zero, List.drop_zero, List.map_nil, List.nil_append]⟩) subA leA
    try dsimp only at hi_ ih2 ⊢
    obtain ⟨k1, rfl, k2, k3, k4, k5, k6, k7⟩ := hi_
    obtain ⟨s, b, fr, i, u, outs, a1, c1⟩ := s; dsimp only at *
    refine xx 5 ?_
    refine X.part 47 rfl (fun h0 => ?_) (fun h0 => ?_)
    · skip
      replace h0 := sp h0; have hi0 : s < ns.length := by omega
      refine X.adr hn (by rw [hnl]; omega) (fun b1 o1 e_ => ?_); subst e_
      obtain ⟨x1, x2, x3⟩ := ok2 s hi0; have x4 : fr ≤ ns[s] := by split at k4; omega; rcases x3 with h | h; omega; omega
      refine xo 7 ?_
      refine XO.ld Try.isAgg3 ?_
      refine ox 3 ?_
      refine X.draw [] Try.mixed (by kernel_rfl) (by kernel_rfl) rfl ?_
      refine XD.ld 0 Try.isAgg22 ?_
      refine dd [1, 2, 3, 4] ?_
      refine XD.cX 5 Try.call40 fndA (piece_ok (t := t) (n := ns[s] - fr) (hs.le leA) hS3 hL k5 (by omega) (by omega) (by omega)) ?_
      rintro _ _ ⟨i2, u2, a2, c2, rfl, rfl, r1, r2⟩
      refine ⟨hlA, ?_⟩
      refine XD.ef 6 rfl (Ef.litR1 (u := (⟨goesT t.hash (tk (rems t.turns i u) (ns[s] - fr)).1, a2, c2⟩ : Pc)) pcs Try.underlying22 Try.info32 rfl rfl (fun _ => rfl) rfl) ?_
      rintro _ _ ⟨g2, rfl, rfl⟩
      refine ⟨hlA, ?_⟩
      refine XD.ef 7 rfl (Ef.appRA (l := outs) (m := [(⟨goesT t.hash (tk (rems t.turns i u) (ns[s] - fr)).1, a2, c2⟩ : Pc)]) Try.underlying22 Try.info32 rfl rfl (fun _ => rfl) rfl rfl fndA ((Sees.rsH _).le leA) (fun _ => rfl) (by simp; try omega) (by simp; try omega)) ?_
      rintro _ _ ⟨a3, c3, rfl, rfl⟩
      refine ⟨trivial, ?_⟩
      refine XD.ef0 8 rfl (Ef.st Try.sizeOf22) ?_
      rintro _ _ ⟨rfl, rfl⟩
      refine ⟨trivial, ?_⟩
      refine XD.nil ?_
      refine xx 9 ?_
      refine X.sb [46, 6, 44, 45, 3, 2] ?_
      refine X.le (Le.trans (b := stars (outs.map hT) :: hT ⟨goesT t.hash (tk (rems t.turns i u) (ns[s] - fr)).1, a2, c2⟩ :: _) (Le.pick fndA (Le.pick fndA (Le.refl _))) (Le.stars_snoc hT outs ⟨goesT t.hash (tk (rems t.turns i u) (ns[s] - fr)).1, a2, c2⟩ _)) ?_
      have hts := tk_sum (rems t.turns i u) (ns[s] - fr) (by omega) (by omega)
      rw [List.drop_eq_getElem_cons hi0, cutsT] at k7
      refine X.at (ih2 (s + 1, some ⟨b1, o1, none⟩, ns[s], i2, u2, outs ++ [⟨goesT t.hash (tk (rems t.turns i u) (ns[s] - fr)).1, a2, c2⟩], a3, c3) ⟨by dsimp only; omega, rfl, by simp [k2], ⟨x1, x2⟩, by simp [List.getElem?_eq_getElem hi0], r2, by dsimp only; rw [r1, hts]; omega, by dsimp only; rw [r1, List.map_append, List.append_assoc]; exact k7⟩ (by dsimp only; omega)) subA leA
    · skip
      replace h0 := sp h0; rw [List.drop_eq_nil_of_le (show ns.length ≤ s by omega), cutsT] at k7
      refine xo 8 ?_
      refine XO.ld Try.isAgg3 ?_
      refine oo 2 ?_
      refine XO.cX Try.call40 fndA (piece_ok (t := t) (n := sumT t.turns - fr) (hs.le leA) hS3 hL k5 (by omega) (by omega) (by omega)) ?_
      rintro _ _ ⟨i2, u2, a2, c2, rfl, rfl, r1, r2⟩
      refine XO.ef (Ef.alloc Try.zeroValue32) ?_
      rintro _ _ ⟨n1, rfl, rfl⟩
      refine XO.ef0 (Ef.stA Try.sizeOf32) ?_
      rintro _ _ ⟨rfl, rfl⟩
      refine oo 7 ?_
      refine XO.ldA Try.isAgg30 Try.sizeOf30 ?_
      refine oo 1 ?_
      refine XO.ef0 (Ef.stA Try.sizeOf30) ?_
      rintro _ _ ⟨rfl, rfl⟩
      refine oo 2 ?_
      refine XO.ld Try.isAgg22 ?_
      refine XO.ldA Try.isAgg32 Try.sizeOf32 ?_
      refine XO.ef (Ef.litR1 (u := (⟨⟨t.hash, (tk (rems t.turns i u) (sumT t.turns - fr)).1, t.e⟩, a2, c2⟩ : Pc)) pcs Try.underlying22 Try.info32 rfl rfl (fun _ => rfl) rfl) ?_
      rintro _ _ ⟨g2, rfl, rfl⟩
      refine XO.ef (Ef.appRA (l := outs) (m := [(⟨⟨t.hash, (tk (rems t.turns i u) (sumT t.turns - fr)).1, t.e⟩, a2, c2⟩ : Pc)]) Try.underlying22 Try.info32 rfl rfl (fun _ => rfl) rfl rfl fndA ((Sees.rsH _).le leA) (fun _ => rfl) (by simp; try omega) (by simp; try omega)) ?_
      rintro _ _ ⟨a3, c3, rfl, rfl⟩
      refine XO.ef0 (Ef.st Try.sizeOf22) ?_
      rintro _ _ ⟨rfl, rfl⟩
      refine ox 1 ?_
      refine X.sb [] ?_
      refine X.le (Le.trans (b := stars (outs.map hT) :: hT ⟨⟨t.hash, (tk (rems t.turns i u) (sumT t.turns - fr)).1, t.e⟩, a2, c2⟩ :: _) (Le.pick fndA (Le.pick fndA (Le.refl _))) (Le.stars_snoc hT outs ⟨⟨t.hash, (tk (rems t.turns i u) (sumT t.turns - fr)).1, t.e⟩, a2, c2⟩ _)) ?_
      refine X.turn (fun w s => hT_frz _ _ _ _ s) ?_
      refine X.fallL (pto p2 (.cells [.slice a3 (outs ++ [(⟨⟨t.hash, (tk (rems t.turns i u) (sumT t.turns - fr)).1, t.e⟩, a2, c2⟩ : Pc)]).length c3].toArray 22 (0, 0)) :: rsH pcs 6 32 a3 c3 (outs ++ [(⟨⟨t.hash, (tk (rems t.turns i u) (sumT t.turns - fr)).1, t.e⟩, a2, c2⟩ : Pc)]) :: stars ((outs ++ [(⟨⟨t.hash, (tk (rems t.turns i u) (sumT t.turns - fr)).1, t.e⟩, a2, c2⟩ : Pc)]).map hF) :: q) Try.func39 (res0 Try.results39) (RP.ret ⟨ok, ok2, outs ++ [(⟨⟨t.hash, (tk (rems t.turns i u) (sumT t.turns - fr)).1, t.e⟩, a2, c2⟩ : Pc)], a3, c3, by rw [List.map_append]; exact k7, rfl⟩)
set_option maxHeartbeats 1000000 in
theorem Cut_ok (hs : Sees q a (t.turns.flatMap tcs)) (hn : Sees q b (ns.map (Value.int .i64))) (hN : ns.length ≤ 1000) : CallF Try.prog G 18 [t.v a c, .slice b ns.length d] (q) (Ret fun v q' => (okT t ∧ cutsOk (sumT t.turns) ns ∧ ∃ (outs : List Pc) (a2 : Option Addr) (c2 : Nat), outs.map (·.t) = cutsT t (sumT t.turns) t.turns 0 ns ∧ v = .tuple [.slice a2 outs.length c2, .int .i64 0].toArray ∧ q' = rsH pcs 6 32 a2 c2 outs :: stars (outs.map hF) :: q) ∨ (¬ (okT t ∧ cutsOk (sumT t.turns) ns) ∧ v = .tuple [.slice none 0 0, .int .i64 2].toArray ∧ q' = q)) := by
  refine CallF.of Try.func18 Try.ntmps18 rfl (fun F cs => ?_)
  unfold Tkn.v
  refine xo 2 ?_
  refine XO.ef (Ef.box rfl) ?_
  rintro _ _ ⟨n1, rfl, rfl⟩
  refine XO.ef (Ef.box rfl) ?_
  rintro _ _ ⟨n2, rfl, rfl⟩
  refine oo 5 ?_
  refine XO.ef (Ef.alloc Try.zeroValue22) ?_
  rintro _ _ ⟨n3, rfl, rfl⟩
  refine oo 4 ?_
  have hJ := fun q1 (h : Le q1 q) => cut1_ok (G := G) (q := q1) (t := t) (a := a) (c := c) (d := d) (p0 := n1) (p1 := n2) (p2 := n3) (hs.le h) (hn.le h) hN
  refine XO.cX Try.call19 (Le.pick fndA (Le.pick fndA (Le.pick fndA (Le.refl _)))) (try_ok (CallV.c03 Try.call39 (hJ _ leA))) ?_
  rintro _ _ (⟨rfl, ok, ok2, outs, a2, c2, hc, rfl⟩ | ⟨e, rfl, ⟨rfl, he⟩, rfl⟩)
  · skip
    refine oo 4 ?_
    refine XO.ld Try.isAgg22 ?_
    refine ox 4 ?_
    refine X.retL (rsH pcs 6 32 a2 c2 outs :: stars (outs.map hF) :: q) Try.func18 (res2 Try.results18 rfl rfl) ⟨_, rfl, .inl ⟨ok, ok2, outs, a2, c2, hc, rfl, rfl⟩⟩
  · skip
    refine oo 4 ?_
    refine XO.ld Try.isAgg22 ?_
    refine ox 4 ?_
    refine X.retL (q) Try.func18 (res2 Try.results18 rfl rfl) ⟨_, rfl, .inr ⟨he, rfl, rfl⟩⟩
end
end Go.Proofs.Ytjkkefgkhafmfaa

