/- What functions of package verify, of its references and of its laws do: contracts of calls, proved by walking their code. -/
import Derived.Test.YtmdnfhpoplpaoaaDoorP
import Derived.KernelRfl
set_option maxRecDepth 100000
set_option linter.unusedVariables false
set_option linter.unusedSimpArgs false
namespace Go.Proofs.YtmdnfhpoplpaoaaDoor
open Go Go.RowKit Wx
attribute [local irreducible] Wx.lsH Wx.rsH Wx.lsM Wx.rsM Wx.stars

theorem Tryd.info39 : (Tryd.prog.info? 39).map (fun i => (i.zero, i.size, i.bytes)) = some (some (.agg #[.string ⟨#[]⟩, .int .i64 0, .slice none 0 0, .slice none 0 0]), 4, 72) := by kernel_rfl
theorem Tryd.info50 : (Tryd.prog.info? 50).map (fun i => (i.zero, i.size, i.bytes)) = some (some (.agg #[.int .i64 0, .int .i64 0, .int .i64 0, .int .i64 0]), 4, 32) := by kernel_rfl
theorem wrap64_rng (z : Int) : -9223372036854775808 ≤ IntKind.i64.wrap z ∧ IntKind.i64.wrap z ≤ 9223372036854775807 := by rw [IntKind.wrap_i64]; omega
theorem Sees.none_ (q : List HP) : Sees q none [] := fun G w s i u h => by simp at h
section
variable {G : World} {q pre : List HP} {a b A : Option Addr} {c d C p p0 p1 p2 i : Nat} {lo hi n cd dep : Int} {fv : Value} {x y : Ins} {t : Cod} {m : Mdl} {at_ : Int}
variable {n : Nat} {l l2 : List Int} {xs : List Ins}
theorem num_ok {n : Int} : CallF Tryd.prog G 11 [.int .i64 n] (q) (Ret fun v q' => v = .int .i64 n ∧ q' = q) := by
  refine CallF.of Tryd.func11 Tryd.ntmps11 rfl (fun F cs => ?_)
  refine xx 9 ?_
  refine X.retL (q) Tryd.func11 (res1 Tryd.results11 rfl) ⟨_, rfl, rfl, rfl⟩
theorem ints_ok (hs : Sees q a (l.map I64)) (hs2 : Sees q b (l2.map I64)) (hL : l.length ≤ 9223372036854775807) (hL2 : l2.length ≤ 9223372036854775807) : CallF Tryd.prog G 17 [.slice a l.length c, .slice b l2.length d] (q) (Ret fun v q' => v = .bool (decide (l = l2)) ∧ q' = q) := by
  refine CallF.of Tryd.func17 Tryd.ntmps17 rfl (fun F cs => ?_)
  refine xx 13 ?_
  refine X.part 10 rfl (fun h0 => ?_) (fun h0 => ?_)
  · skip
    replace h0 := sp h0
    refine xx 5 ?_
    refine X.retL (q) Tryd.func17 (res1 Tryd.results17 rfl) ⟨_, rfl, congrArg Value.bool (by symm; rw [decide_eq_false_iff_not]; intro e; rw [e] at h0; exact h0 rfl), rfl⟩
  · skip
    replace h0 := sp h0; have hll : l.length = l2.length := by omega
    refine xx 8 ?_
    refine X.at (X.loop (fun (s : Nat × Option Addr × Option Addr) => s.1 ≤ l.length ∧ s.2.1 = a ∧ s.2.2 = b ∧ ∀ j (h : j < l.length) (h2 : j < l2.length), j < s.1 → l[j] = l2[j]) (fun s => [(5, .int .i64 (s.1 : Int)), (0, .slice s.2.1 l.length c), (1, .slice s.2.2 l2.length d), (4, .bool false)]) (fun s => (q ++ F)) (fun s => l.length - s.1) (fun s hi_ ih => ?_) (0, a, b) ⟨Nat.zero_le _, rfl, rfl, fun j _ _ k => absurd k (Nat.not_lt_zero j)⟩) subA leA
    try dsimp only at hi_ ih ⊢
    obtain ⟨hk, ha, hb, hP⟩ := hi_
    obtain ⟨k, a2, b2⟩ := s; dsimp only at *; subst ha; subst hb
    refine xx 8 ?_
    refine X.part 14 rfl (fun h0 => ?_) (fun h0 => ?_)
    · skip
      replace h0 := sp h0
      have hk1 : k < l.length := by omega
      have hk2 : k < l2.length := by omega
      refine X.adr hs (by simp; omega) (fun ba oa e1 => ?_); subst e1
      refine X.adr hs2 (by simp; omega) (fun bb ob e2 => ?_); subst e2
      refine xx 5 ?_
      refine X.draw [] Tryd.mixed (by kernel_rfl) (by kernel_rfl) rfl ?_
      refine dd [0, 1, 2] ?_
      refine XD.ld 3 Tryd.isAgg3 ?_ (hc := (Cl.e1 hs leA hk1 rfl))
      refine dd [4, 5, 6] ?_
      refine XD.ld 7 Tryd.isAgg3 ?_ (hc := (Cl.e1 hs2 leA hk2 rfl))
      refine dd [8] ?_
      refine XD.nil ?_
      refine X.part 25 rfl (fun h1 => ?_) (fun h1 => ?_)
      · skip
        replace h1 := sp h1
        refine xx 5 ?_
        refine X.retL (q) Tryd.func17 (res1 Tryd.results17 rfl) ⟨_, rfl, congrArg Value.bool (by symm; rw [decide_eq_false_iff_not]; rintro rfl; exact absurd rfl h1), rfl⟩
      · skip
        replace h1 := sp h1
        refine xx 8 ?_
        refine X.sb [5, 0, 1, 4] ?_
        refine X.at (ih (k + 1, some ⟨ba, oa, none⟩, some ⟨bb, ob, none⟩) ⟨by dsimp only; omega, rfl, rfl, fun j g1 g2 g3 => by dsimp only at g3; rcases Nat.lt_or_ge j k with e | e; exact hP j g1 g2 e; obtain rfl : j = k := (by omega); exact h1⟩ (by dsimp only; omega)) subA leA
    · skip
      replace h0 := sp h0
      refine xx 6 ?_
      refine X.retL (q) Tryd.func17 (res1 Tryd.results17 rfl) ⟨_, rfl, congrArg Value.bool (by symm; rw [decide_eq_true_iff]; exact List.ext_getElem hll (fun j g1 g2 => hP j g1 g2 (by omega))), rfl⟩
set_option maxHeartbeats 2000000 in
theorem few_ok (hq : MdlQ q m) : CallF Tryd.prog G 9 [.agg (mdlC m).toArray] (q) (Ret fun v q' => ∃ bb, v = .bool bb ∧ q' = q) := by
  refine CallF.of Tryd.func9 Tryd.ntmps9 rfl (fun F cs => ?_)
  have hlen := flatMap_len (f := codC) (sz := 4) (fun _ => rfl) m.threads; have hnt := hq.nt; have hnv := hq.nv; have hna := hq.na; have hnc := hq.nc
  refine xo 2 ?_
  refine XO.ef (Ef.box rfl) ?_
  rintro _ _ ⟨n1, rfl, rfl⟩
  refine oo 5 ?_
  refine XO.ld Tryd.isAgg22 ?_
  refine oo 2 ?_
  refine XO.ld Tryd.isAgg23 ?_
  refine oo 1 ?_
  refine XO.pu (Pu.addW rfl rfl) ?_
  refine oo 1 ?_
  refine XO.ld Tryd.isAgg23 ?_
  refine oo 1 ?_
  refine XO.pu (Pu.addW rfl rfl) ?_
  have hw := wrap64_rng (IntKind.i64.wrap ((m.vars.length : Int) + (m.arrays.length : Int)) + (m.chans.length : Int))
  generalize IntKind.i64.wrap (IntKind.i64.wrap ((m.vars.length : Int) + (m.arrays.length : Int)) + (m.chans.length : Int)) = S at hw
  refine ox 8 ?_
  refine X.at (X.loop (fun (s : Nat × Int) => s.1 ≤ m.threads.length ∧ -9223372036854775808 ≤ s.2 ∧ s.2 ≤ 9223372036854775807) (fun s => [(4, .int .i64 (s.1 : Int)), (3, .int .i64 s.2), (1, .pointer (some ⟨n1, 0, none⟩)), (2, .bool false)]) (fun s => pto n1 (.cells (mdlC m).toArray 26 (0, 0)) :: (q ++ F)) (fun s => m.threads.length - s.1) (fun s hi_ ih => ?_) (0, S) ⟨Nat.zero_le _, hw⟩) subA leA
  try dsimp only at hi_ ih ⊢
  obtain ⟨hk, hS1, hS2⟩ := hi_
  obtain ⟨k, S2⟩ := s; dsimp only at *
  refine xo 5 ?_
  refine XO.ld Tryd.isAgg24 ?_
  refine oo 3 ?_
  refine XO.sb [21, 4, 3, 1, 2] ?_
  apply XO.cutAnd 3 24 21 rfl
  · skip
    intro g1 M1; have h1 := sp g1
    refine oo 3 ?_
    exact XO.fin M1 ⟨andT g1, subB⟩
  · skip
    intro g1 M1; have h1 := sp g1
    refine oo 3 ?_
    exact XO.fin M1 ⟨andF g1, subB⟩
  · skip
    refine ox 1 ?_
    refine X.part 24 rfl (fun h3 => ?_) (fun h3 => ?_)
    · skip
      replace h3 := sp h3; have hkN : k < m.threads.length := by omega
      have hql := hq.x _ (List.getElem_mem hkN); have g1 := hql.n; have g2 := hql.ni; have g3 := hql.nl
      refine xx 4 ?_
      refine X.draw [] Tryd.mixed (by kernel_rfl) (by kernel_rfl) rfl ?_
      refine dd [0, 1, 2] ?_
      refine XD.ld 3 Tryd.isAgg24 ?_
      refine dd [4] ?_
      refine XD.adr hq.t (by rw [hlen]; omega) (fun b1 o1 e1 => ?_)
      have hs1 := hq.t; rw [e1] at hs1
      refine XD.know 30 (.slice (some ⟨b1, o1, none⟩) m.threads.length m.tc) rfl (by rw [e1]) ?_
      refine dd [5, 6] ?_
      refine XD.ld 7 Tryd.isAgg9 ?_ (hc := (Cl.row (j := (k : Int)) hs1 leA (fun _ => rfl) hkN rfl 0 _ rfl))
      refine dd [8, 9, 10, 11] ?_
      refine XD.ld 12 Tryd.isAgg24 ?_
      refine dd [13] ?_
      refine XD.know 39 (.slice (some ⟨b1, o1, none⟩) m.threads.length m.tc) rfl (by rw [e1]) ?_
      refine dd [14, 15] ?_
      refine XD.ld 16 Tryd.isAgg37 ?_ (hc := (Cl.row (j := (k : Int)) hs1 leA (fun _ => rfl) hkN rfl 2 _ rfl))
      refine dd [17, 18, 19, 20] ?_
      refine XD.ld 21 Tryd.isAgg24 ?_
      refine dd [22] ?_
      refine XD.know 48 (.slice (some ⟨b1, o1, none⟩) m.threads.length m.tc) rfl (by rw [e1]) ?_
      refine dd [23, 24] ?_
      refine XD.ld 25 Tryd.isAgg23 ?_ (hc := (Cl.row (j := (k : Int)) hs1 leA (fun _ => rfl) hkN rfl 3 _ rfl))
      refine dd [26, 27, 28, 29] ?_
      refine XD.nil ?_
      refine xx 6 ?_
      refine X.sb [4, 3, 1, 2] ?_
      refine X.at (ih (k + 1, S2 + 10 + min (m.threads[k].name.size : Int) 1001 + min (m.threads[k].ins.length : Int) 1001 + min (m.threads[k].lines.length : Int) 1001) ⟨by dsimp only; omega, by dsimp only; omega, by dsimp only; omega⟩ (by dsimp only; omega)) subA leA
    · skip
      refine xx 8 ?_
      refine X.retL (q) Tryd.func9 (res1 Tryd.results9 rfl) ⟨_, rfl, _, rfl, rfl⟩
/-- The module of one thread. -/
def mod1 (xs : List Ins) (a : Option Addr) (c : Nat) (g0 g1 : Nat) : Mdl := ⟨[], [], [], 0, 0, [⟨⟨#[116]⟩, 0, xs, List.replicate xs.length 0, a, c, some ⟨g0, 0, none⟩, xs.length⟩], none, 0, none, 0, none, 0, some ⟨g1, 0, none⟩, 1⟩
theorem module_ok (hL : xs.length ≤ 1000) : CallF Tryd.prog G 21 [.slice a xs.length c] ([]) (Ret fun v q' => ∃ g0 g1, v = .agg (mdlC (mod1 xs a c g0 g1)).toArray ∧ q' = [rsH codC 4 39 (some ⟨g1, 0, none⟩) 1 (mod1 xs a c g0 g1).threads, lsH I64 3 (some ⟨g0, 0, none⟩) xs.length (List.replicate xs.length 0)]) := by
  refine CallF.of Tryd.func21 Tryd.ntmps21 rfl (fun F cs => ?_)
  refine xo 2 ?_
  refine XO.ef (Ef.alloc Tryd.zeroValue26) ?_
  rintro _ _ ⟨n1, rfl, rfl⟩
  refine oo 6 ?_
  refine XO.ef (Ef.make (n := xs.length) rfl rfl Tryd.underlying23 Tryd.info3 rfl rfl (by omega) (by omega)) ?_
  rintro _ _ ⟨g0, rfl, rfl⟩
  refine XO.le (q' := lsH I64 3 (some ⟨g0, 0, none⟩) xs.length (List.replicate xs.length 0) :: _) (Le.trans fndA (by rw [← ls_made (f := I64) (u := 0) rfl]; exact Le.refl _)) ?_
  refine oo 1 ?_
  refine XO.know 7 (.agg (codC (⟨⟨#[116]⟩, 0, xs, List.replicate xs.length 0, a, c, some ⟨g0, 0, none⟩, xs.length⟩ : Cod)).toArray) rfl (by simp [codC]) ?_
  refine XO.ef (Ef.litR1 (u := (⟨⟨#[116]⟩, 0, xs, List.replicate xs.length 0, a, c, some ⟨g0, 0, none⟩, xs.length⟩ : Cod)) codC Tryd.underlying24 Tryd.info39 rfl rfl (fun _ => rfl) rfl) ?_
  rintro _ _ ⟨g1, rfl, rfl⟩
  refine oo 1 ?_
  refine XO.ef0 (Ef.stA Tryd.sizeOf26) ?_
  rintro _ _ ⟨rfl, rfl⟩
  refine ox 1 ?_
  refine X.retL [rsH codC 4 39 (some ⟨g1, 0, none⟩) 1 (mod1 xs a c g0 g1).threads, lsH I64 3 (some ⟨g0, 0, none⟩) xs.length (List.replicate xs.length 0)] Tryd.func21 (resC1 Tryd.results21 (ResOk.cell rfl (LV.agg Tryd.isAgg26 Tryd.sizeOf26 hasA rfl) ResOk.nil)) ⟨_, rfl, g0, g1, rfl, rfl⟩
theorem mod1_q {g0 g1 : Nat} {r1 r2 : List HP} (hs : Sees q a (xs.flatMap insC)) (hL : xs.length ≤ 1000) (h1 : Le q (rsH codC 4 39 (some ⟨g1, 0, none⟩) 1 (mod1 xs a c g0 g1).threads :: r1)) (h2 : Le q (lsH I64 3 (some ⟨g0, 0, none⟩) xs.length (List.replicate xs.length 0) :: r2)) : MdlQ q (mod1 xs a c g0 g1) :=
  ⟨Sees.none_ q, Sees.none_ q, Sees.none_ q, (Sees.rsH _).le h1, fun x hx => by
    obtain rfl := List.mem_singleton.1 hx
    exact ⟨hs, (Sees.lsH _).le h2, (show 1 ≤ 9223372036854775807 by decide), by dsimp only; omega, by dsimp only; rw [List.length_replicate]; omega⟩, Nat.zero_le _, Nat.zero_le _, Nat.zero_le _, (show 1 ≤ 9223372036854775807 by decide)⟩
abbrev iA : Ins := ⟨1, 0, 0, 1⟩
abbrev iB : Ins := ⟨33, 0, 0, 0⟩
abbrev iC : Ins := ⟨34, 0, 0, 0⟩
theorem wk1 (a : Option Addr) (c g0 g1 : Nat) : dpOf (mod1 [iA, iB, iC] a c g0 g1) 0 = ([0, 1, 0], 0) := by kernel_rfl
theorem wk2 (a : Option Addr) (c g0 g1 : Nat) : vchk (mod1 [iB, iC] a c g0 g1) = 173 := by kernel_rfl
theorem wk3 (a : Option Addr) (c g0 g1 : Nat) : vchk (mod1 [iA, iC] a c g0 g1) = 175 := by kernel_rfl
theorem wk4 (a : Option Addr) (c g0 g1 : Nat) : vchk (mod1 [iA] a c g0 g1) = 172 := by kernel_rfl

set_option maxHeartbeats 4000000 in
theorem works_ok (gc : GC q) (g : GE q) : CallF Tryd.prog G 10 [] (q) (Ret fun v q' => v = .bool true ∧ q' = q) := by
  refine CallF.of Tryd.func10 Tryd.ntmps10 rfl (fun F cs => ?_)
  refine xo 9 ?_
  refine XO.ef (Ef.alloc Tryd.zeroValue50) ?_
  rintro _ _ ⟨n1, rfl, rfl⟩
  refine XO.ef (Ef.alloc Tryd.zeroValue50) ?_
  rintro _ _ ⟨n2, rfl, rfl⟩
  refine XO.ef (Ef.alloc Tryd.zeroValue50) ?_
  rintro _ _ ⟨n3, rfl, rfl⟩
  refine XO.ef0 (Ef.stA Tryd.sizeOf50) ?_
  rintro _ _ ⟨rfl, rfl⟩
  refine XO.ef0 (Ef.stA Tryd.sizeOf50) ?_
  rintro _ _ ⟨rfl, rfl⟩
  refine XO.ef0 (Ef.stA Tryd.sizeOf50) ?_
  rintro _ _ ⟨rfl, rfl⟩
  refine oo 3 ?_
  refine XO.ldA Tryd.isAgg50 Tryd.sizeOf50 ?_
  refine XO.ldA Tryd.isAgg50 Tryd.sizeOf50 ?_
  refine XO.ldA Tryd.isAgg50 Tryd.sizeOf50 ?_
  refine XO.ef (Ef.buildSlice (us := [iA, iB, iC].map fun x => .agg (insC x).toArray) (cells := ([iA, iB, iC]).flatMap insC) Tryd.underlying37 Tryd.info50 rfl rfl rfl (by kernel_rfl) rfl) ?_
  rintro _ _ ⟨gs0, rfl, rfl⟩
  refine XO.le (q' := rsH insC 4 50 (some ⟨gs0, 0, none⟩) 3 ([iA, iB, iC]) :: _) (Le.trans fndA (Le.rs_of_sl insC 4 50 (some ⟨gs0, 0, none⟩) 3 ([iA, iB, iC]) _)) ?_
  refine XO.cF Tryd.call21 (module_ok (xs := [iA, iB, iC]) (by decide)) ?_
  rintro _ _ ⟨ga1, gb1, rfl, rfl⟩ _ e_; simp only [ca, na] at e_; subst e_
  refine XO.cX Tryd.call14 (Le.refl _) (Depths_ok (m := mod1 [iA, iB, iC] _ _ _ _) (gc.le leA) (g.le leA) (mod1_q (xs := [iA, iB, iC]) ((Sees.rsH _).le fndA) (by decide) fndA fndA)) ?_
  rintro _ _ (⟨hz, rfl, rfl⟩ | ⟨hz, ad, cd, rfl, rfl⟩)
  · exact absurd (congrArg Prod.snd (wk1 _ _ _ _)) hz
  rw [wk1]
  refine oo 9 ?_
  refine XO.cR Tryd.call11 (num_ok) ?_
  refine oo 2 ?_
  refine XO.know 21 (.bool true) rfl (congrArg Value.bool (by rfl)) ?_
  refine oo 1 ?_
  refine XO.ef (Ef.litL I64 [0, 1, 0] Tryd.underlying23 Tryd.info3 rfl rfl rfl rfl rfl rfl (fun _ => rfl)) ?_
  rintro _ _ ⟨gi, rfl, rfl⟩
  refine XO.cR Tryd.call17 (ints_ok (a := ad) (b := some ⟨gi, 0, none⟩) (l := [0, 1, 0]) (l2 := [0, 1, 0]) ((Sees.lsH _).le fndA) ((Sees.lsH _).le fndA) (by decide) (by decide)) ?_
  refine XO.know 24 (.bool true) rfl (rfl) ?_
  refine oo 2 ?_
  refine XO.know 26 (.bool true) rfl (congrArg Value.bool (by rfl)) ?_
  refine XO.ldA Tryd.isAgg50 Tryd.sizeOf50 ?_
  refine XO.ldA Tryd.isAgg50 Tryd.sizeOf50 ?_
  refine XO.ef (Ef.buildSlice (us := [iB, iC].map fun x => .agg (insC x).toArray) (cells := ([iB, iC]).flatMap insC) Tryd.underlying37 Tryd.info50 rfl rfl rfl (by kernel_rfl) rfl) ?_
  rintro _ _ ⟨gs1, rfl, rfl⟩
  refine XO.le (q' := rsH insC 4 50 (some ⟨gs1, 0, none⟩) 2 ([iB, iC]) :: _) (Le.trans fndA (Le.rs_of_sl insC 4 50 (some ⟨gs1, 0, none⟩) 2 ([iB, iC]) _)) ?_
  refine XO.cF Tryd.call21 (module_ok (xs := [iB, iC]) (by decide)) ?_
  rintro _ _ ⟨ga2, gb2, rfl, rfl⟩ _ e_; simp only [ca, na] at e_; subst e_
  refine XO.cR Tryd.call12 (VCheck_ok (m := mod1 [iB, iC] _ _ _ _) (gc.le leA) (g.le leA) (mod1_q (xs := [iB, iC]) ((Sees.rsH _).le fndA) (by decide) fndA fndA)) ?_
  refine XO.know 31 (.int .i64 173) rfl (congrArg (Value.int .i64) (wk2 _ _ _ _)) ?_
  refine XO.cR Tryd.call11 (num_ok) ?_
  refine oo 3 ?_
  refine XO.know 35 (.bool true) rfl (congrArg Value.bool (by rfl)) ?_
  refine XO.ldA Tryd.isAgg50 Tryd.sizeOf50 ?_
  refine XO.ldA Tryd.isAgg50 Tryd.sizeOf50 ?_
  refine XO.ef (Ef.buildSlice (us := [iA, iC].map fun x => .agg (insC x).toArray) (cells := ([iA, iC]).flatMap insC) Tryd.underlying37 Tryd.info50 rfl rfl rfl (by kernel_rfl) rfl) ?_
  rintro _ _ ⟨gs2, rfl, rfl⟩
  refine XO.le (q' := rsH insC 4 50 (some ⟨gs2, 0, none⟩) 2 ([iA, iC]) :: _) (Le.trans fndA (Le.rs_of_sl insC 4 50 (some ⟨gs2, 0, none⟩) 2 ([iA, iC]) _)) ?_
  refine XO.cF Tryd.call21 (module_ok (xs := [iA, iC]) (by decide)) ?_
  rintro _ _ ⟨ga3, gb3, rfl, rfl⟩ _ e_; simp only [ca, na] at e_; subst e_
  refine XO.cR Tryd.call12 (VCheck_ok (m := mod1 [iA, iC] _ _ _ _) (gc.le leA) (g.le leA) (mod1_q (xs := [iA, iC]) ((Sees.rsH _).le fndA) (by decide) fndA fndA)) ?_
  refine XO.know 40 (.int .i64 175) rfl (congrArg (Value.int .i64) (wk3 _ _ _ _)) ?_
  refine XO.cR Tryd.call11 (num_ok) ?_
  refine oo 3 ?_
  refine XO.know 44 (.bool true) rfl (congrArg Value.bool (by rfl)) ?_
  refine XO.ldA Tryd.isAgg50 Tryd.sizeOf50 ?_
  refine XO.ef (Ef.buildSlice (us := [iA].map fun x => .agg (insC x).toArray) (cells := ([iA]).flatMap insC) Tryd.underlying37 Tryd.info50 rfl rfl rfl (by kernel_rfl) rfl) ?_
  rintro _ _ ⟨gs3, rfl, rfl⟩
  refine XO.le (q' := rsH insC 4 50 (some ⟨gs3, 0, none⟩) 1 ([iA]) :: _) (Le.trans fndA (Le.rs_of_sl insC 4 50 (some ⟨gs3, 0, none⟩) 1 ([iA]) _)) ?_
  refine XO.cF Tryd.call21 (module_ok (xs := [iA]) (by decide)) ?_
  rintro _ _ ⟨ga4, gb4, rfl, rfl⟩ _ e_; simp only [ca, na] at e_; subst e_
  refine XO.cR Tryd.call12 (VCheck_ok (m := mod1 [iA] _ _ _ _) (gc.le leA) (g.le leA) (mod1_q (xs := [iA]) ((Sees.rsH _).le fndA) (by decide) fndA fndA)) ?_
  refine XO.know 48 (.int .i64 172) rfl (congrArg (Value.int .i64) (wk4 _ _ _ _)) ?_
  refine XO.cR Tryd.call11 (num_ok) ?_
  refine ox 4 ?_
  refine X.sb [0] ?_
  refine X.retL (q) Tryd.func10 (res1 Tryd.results10 rfl) ⟨_, rfl, rfl, rfl⟩
end
end Go.Proofs.YtmdnfhpoplpaoaaDoor

