/- What functions of package verify, of its references and of its laws do: contracts of calls, proved by walking their code. -/
import Derived.Test.YtmdnfhpoplpaoaaDoorS
import Derived.KernelRfl
set_option maxRecDepth 100000
set_option linter.unusedVariables false
set_option linter.unusedSimpArgs false
namespace Go.Proofs.YtmdnfhpoplpaoaaDoor
open Go Go.RowKit Wx
attribute [local irreducible] Wx.lsH Wx.rsH Wx.lsM Wx.rsM Wx.stars

theorem Tryd.info2 : (Tryd.prog.info? 2).map (fun i => (i.zero, i.size, i.bytes)) = some (some (.int .i64 0), 1, 8) := by kernel_rfl
theorem dp_bad2 {m : Mdl} {th : Int} (h : mchk m ≠ 0) : dpOf m th = ([], 2) := by
  unfold dpOf; rw [if_pos h, show mchk m = 2 by unfold mchk at h ⊢; split <;> simp_all]
theorem vchk_bad {m : Mdl} (h : mchk m ≠ 0) : vchk m = 2 := by
  unfold vchk; rw [if_pos h]; unfold mchk at h ⊢; split <;> simp_all
theorem vchk_one {m : Mdl} {t : Cod} (h : mchk m = 0) (ht : m.threads = [t]) : vchk m = (dOf m t).2 := by
  unfold vchk; rw [if_neg (by omega), ht]; unfold vErr; split <;> simp_all [vErr]
def mod2 (xs : List Ins) (a : Option Addr) (c : Nat) (loc : Int) (g0 g1 g2 g3 g4 : Nat) : Mdl := ⟨[1, 2], [3, 4], [1, 2], 2, 2, [⟨⟨#[116]⟩, loc, xs, List.replicate xs.length 0, a, c, some ⟨g3, 0, none⟩, xs.length⟩], some ⟨g0, 0, none⟩, 2, some ⟨g1, 0, none⟩, 2, some ⟨g2, 0, none⟩, 2, some ⟨g4, 0, none⟩, 1⟩
theorem mod2_q {q : List HP} {xs : List Ins} {a : Option Addr} {c : Nat} {loc : Int} {g0 g1 g2 g3 g4 : Nat} {r0 r1 r2 r3 r4 : List HP} (hs : Sees q a (xs.flatMap insC)) (hL : xs.length ≤ 1000)
    (h0 : Le q (lsH I64 2 (some ⟨g0, 0, none⟩) 2 [1, 2] :: r0)) (h1 : Le q (lsH I64 3 (some ⟨g1, 0, none⟩) 2 [3, 4] :: r1)) (h2 : Le q (lsH I64 3 (some ⟨g2, 0, none⟩) 2 [1, 2] :: r2))
    (h3 : Le q (lsH I64 3 (some ⟨g3, 0, none⟩) xs.length (List.replicate xs.length 0) :: r3)) (h4 : Le q (rsH codC 4 39 (some ⟨g4, 0, none⟩) 1 (mod2 xs a c loc g0 g1 g2 g3 g4).threads :: r4)) : MdlQ q (mod2 xs a c loc g0 g1 g2 g3 g4) :=
  ⟨(Sees.lsH _).le h0, (Sees.lsH _).le h1, (Sees.lsH _).le h2, (Sees.rsH _).le h4, fun x hx => by
    obtain rfl := List.mem_singleton.1 hx
    exact ⟨hs, (Sees.lsH _).le h3, (show 1 ≤ 9223372036854775807 by decide), by dsimp only; omega, by dsimp only; rw [List.length_replicate]; omega⟩, (show 2 ≤ 9223372036854775807 by decide), (show 2 ≤ 9223372036854775807 by decide), (show 2 ≤ 9223372036854775807 by decide), (show 1 ≤ 9223372036854775807 by decide)⟩
section
variable {G : World} {q pre : List HP} {a b A : Option Addr} {c d C p p0 p1 p2 i : Nat} {lo hi n cd dep : Int} {fv : Value} {x y : Ins} {t : Cod} {m : Mdl} {at_ : Int}
variable {l : List Ins} {loc : Int}
set_option maxHeartbeats 4000000 in
theorem verifyCodes_ok (gc : GC q) (g : GE q) (hs : Sees q a (l.flatMap insC)) (hL0 : l.length ≤ 9223372036854775807) : CallF Tryd.prog G 5 [.slice a l.length c, .int .i64 loc] (q) (Ret fun v q' => v = .bool true ∧ q' = q) := by
  refine CallF.of Tryd.func5 Tryd.ntmps5 rfl (fun F cs => ?_)
  refine xx 11 ?_
  refine X.part 12 rfl (fun h0 => ?_) (fun h0 => ?_)
  · skip
    refine xo 3 ?_
    refine XO.cR Tryd.call10 (works_ok (gc.le leA) (g.le leA)) ?_
    refine ox 2 ?_
    refine X.retL (q) Tryd.func5 (res1 Tryd.results5 rfl) ⟨_, rfl, rfl, rfl⟩
  · skip
    replace h0 := sp h0; have hL : l.length ≤ 1000 := by omega
    refine xo 4 ?_
    refine XO.ef (Ef.litL I64 [1, 2] Tryd.underlying22 Tryd.info2 rfl rfl rfl rfl rfl rfl (fun _ => rfl)) ?_
    rintro _ _ ⟨g0, rfl, rfl⟩
    refine XO.ef (Ef.litL I64 [3, 4] Tryd.underlying23 Tryd.info3 rfl rfl rfl rfl rfl rfl (fun _ => rfl)) ?_
    rintro _ _ ⟨g1, rfl, rfl⟩
    refine XO.ef (Ef.litL I64 [1, 2] Tryd.underlying23 Tryd.info3 rfl rfl rfl rfl rfl rfl (fun _ => rfl)) ?_
    rintro _ _ ⟨g2, rfl, rfl⟩
    refine oo 4 ?_
    refine XO.ef (Ef.make (n := l.length) rfl rfl Tryd.underlying23 Tryd.info3 rfl rfl (by omega) (by omega)) ?_
    rintro _ _ ⟨g3, rfl, rfl⟩
    refine XO.le (q' := lsH I64 3 (some ⟨g3, 0, none⟩) l.length (List.replicate l.length 0) :: _) (Le.trans fndA (by rw [← ls_made (f := I64) (u := 0) rfl]; exact Le.refl _)) ?_
    refine oo 1 ?_
    refine XO.know 22 (.agg (codC (⟨⟨#[116]⟩, loc, l, List.replicate l.length 0, a, c, some ⟨g3, 0, none⟩, l.length⟩ : Cod)).toArray) rfl (by simp [codC]) ?_
    refine XO.ef (Ef.litR1 (u := (⟨⟨#[116]⟩, loc, l, List.replicate l.length 0, a, c, some ⟨g3, 0, none⟩, l.length⟩ : Cod)) codC Tryd.underlying24 Tryd.info39 rfl rfl (fun _ => rfl) rfl) ?_
    rintro _ _ ⟨g4, rfl, rfl⟩
    have hz0 : Le (rsH codC 4 39 (some ⟨g4, 0, none⟩) 1 [(⟨⟨#[116]⟩, loc, l, List.replicate l.length 0, a, c, some ⟨g3, 0, none⟩, l.length⟩ : Cod)] :: []) [rsH codC 4 39 (some ⟨g4, 0, none⟩) 1 (mod2 l a c loc g0 g1 g2 g3 g4).threads] := Le.refl _
    have hsR : Sees [rsH codC 4 39 (some ⟨g4, 0, none⟩) 1 [(⟨⟨#[116]⟩, loc, l, List.replicate l.length 0, a, c, some ⟨g3, 0, none⟩, l.length⟩ : Cod)]] (some ⟨g4, 0, none⟩) ([(⟨⟨#[116]⟩, loc, l, List.replicate l.length 0, a, c, some ⟨g3, 0, none⟩, l.length⟩ : Cod)].flatMap codC) := Sees.rsH []
    have hth : 0 < [(⟨⟨#[116]⟩, loc, l, List.replicate l.length 0, a, c, some ⟨g3, 0, none⟩, l.length⟩ : Cod)].length := Nat.zero_lt_one
    refine oo 1 ?_
    refine XO.ef (Ef.alloc Tryd.zeroValue26) ?_
    rintro _ _ ⟨n1, rfl, rfl⟩
    refine XO.ef0 (Ef.stA Tryd.sizeOf26) ?_
    rintro _ _ ⟨rfl, rfl⟩
    refine oo 3 ?_
    refine XO.ldA Tryd.isAgg26 Tryd.sizeOf26 ?_
    rcases Decidable.em (mchk (mod2 l a c loc g0 g1 g2 g3 g4) = 0) with hk0 | hk0
    · skip
      obtain ⟨hin, hLn⟩ := mdlOk_thr hk0 (t := (⟨⟨#[116]⟩, loc, l, List.replicate l.length 0, a, c, some ⟨g3, 0, none⟩, l.length⟩ : Cod)) (List.mem_singleton.2 rfl)
      have hdp : dpOf (mod2 l a c loc g0 g1 g2 g3 g4) 0 = dOf (mod2 l a c loc g0 g1 g2 g3 g4) (⟨⟨#[116]⟩, loc, l, List.replicate l.length 0, a, c, some ⟨g3, 0, none⟩, l.length⟩ : Cod) := by unfold dpOf; rw [if_neg (by omega), dif_pos ⟨by decide, Nat.zero_lt_one⟩]; rfl
      have hvc : vchk (mod2 l a c loc g0 g1 g2 g3 g4) = (dOf (mod2 l a c loc g0 g1 g2 g3 g4) (⟨⟨#[116]⟩, loc, l, List.replicate l.length 0, a, c, some ⟨g3, 0, none⟩, l.length⟩ : Cod)).2 := vchk_one hk0 rfl
      refine XO.cX Tryd.call14 (Le.refl _) (Depths_ok (m := (mod2 l a c loc g0 g1 g2 g3 g4)) (th := 0) (gc.le leA) (g.le leA) (mod2_q (xs := l) (a := a) (c := c) (loc := loc) (g0 := g0) (g1 := g1) (g2 := g2) (g3 := g3) (g4 := g4) (hs.le leA) hL fndA fndA fndA fndA fndA)) ?_
      rintro _ _ (⟨hz, rfl, rfl⟩ | ⟨hz, a1, c1, rfl, rfl⟩)
      · skip
        rw [hdp] at hz ⊢
        refine oo 9 ?_
        refine XO.ldA Tryd.isAgg26 Tryd.sizeOf26 ?_
        refine XO.cR Tryd.call15 (RCheck_ok (m := (mod2 l a c loc g0 g1 g2 g3 g4)) (mod2_q (xs := l) (a := a) (c := c) (loc := loc) (g0 := g0) (g1 := g1) (g2 := g2) (g3 := g3) (g4 := g4) (hs.le leA) hL fndA fndA fndA fndA fndA)) ?_
        refine ox 2 ?_
        refine X.sb [32, 7, 6, 5, 4] ?_
        refine X.know 32 (.bool false) rfl (congrArg Value.bool (by rw [bne_eq_false_iff_eq]; exact hk0)) ?_
        refine xx 3 ?_
        refine X.draw [] Tryd.mixed (by kernel_rfl) (by kernel_rfl) rfl ?_
        refine XD.loadA 0 rfl rfl Tryd.isAgg26 Tryd.sizeOf26 hasA (by rfl) ?_
        refine dd [1] ?_
        refine XD.ld 2 Tryd.isAgg24 ?_
        refine dd [3] ?_
        refine XD.ldS 4 (m := 0) Tryd.isAgg39 Tryd.sizeOf39 hsR hth ?_
        refine XD.cX 5 Tryd.call16 (Le.refl _) (RThread_ok (m := (mod2 l a c loc g0 g1 g2 g3 g4)) (t := (⟨⟨#[116]⟩, loc, l, List.replicate l.length 0, a, c, some ⟨g3, 0, none⟩, l.length⟩ : Cod)) (((mod2_q (xs := l) (a := a) (c := c) (loc := loc) (g0 := g0) (g1 := g1) (g2 := g2) (g3 := g3) (g4 := g4) (hs.le leA) hL fndA fndA fndA fndA fndA)).x _ (List.mem_singleton.2 rfl)) hin hLn) ?_
        rintro _ _ (⟨hz2, rfl, rfl⟩ | ⟨hz2, a2, c2, rfl, rfl⟩) <;> refine ⟨(hlA (h := by repeat first | exact trivial | refine ⟨clA, ?_⟩ | refine ⟨Cl.row hsR leA (fun _ => rfl) hth rfl 0 _ rfl, ?_⟩ | refine ⟨Cl.row hsR leA (fun _ => rfl) hth rfl 1 _ rfl, ?_⟩ | refine ⟨Cl.row hsR leA (fun _ => rfl) hth rfl 2 _ rfl, ?_⟩ | refine ⟨Cl.row hsR leA (fun _ => rfl) hth rfl 3 _ rfl, ?_⟩)), ?_⟩
        rotate_left; · exact absurd hz2 hz
        refine dd [6, 7, 8, 9, 10] ?_
        refine XD.nil ?_
        refine xo 4 ?_
        refine XO.cR Tryd.call17 (ints_ok (a := none) (b := none) (l := []) (l2 := []) (Sees.none_ _) (Sees.none_ _) (by decide) (by decide)) ?_
        refine XO.know 56 (.bool true) rfl (by first | rfl | exact congrArg Value.bool (decide_eq_true rfl)) ?_
        refine oo 1 ?_
        refine XO.know 57 (.bool true) rfl (congrArg Value.bool (by first | rfl | exact decide_eq_true rfl | (rw [beq_iff_eq]; done) | (simp; done))) ?_
        refine oo 1 ?_
        refine XO.cR Tryd.call11 (num_ok) ?_
        refine oo 4 ?_
        refine XO.know 63 (.bool true) rfl (congrArg Value.bool (by first | rfl | exact decide_eq_true rfl | (rw [beq_iff_eq]; done) | (simp; done))) ?_
        refine XO.ldA Tryd.isAgg26 Tryd.sizeOf26 ?_
        refine XO.cR Tryd.call12 (VCheck_ok (m := (mod2 l a c loc g0 g1 g2 g3 g4)) (gc.le leA) (g.le leA) (mod2_q (xs := l) (a := a) (c := c) (loc := loc) (g0 := g0) (g1 := g1) (g2 := g2) (g3 := g3) (g4 := g4) (hs.le leA) hL fndA fndA fndA fndA fndA)) ?_
        refine XO.know 65 (.int .i64 (dOf (mod2 l a c loc g0 g1 g2 g3 g4) (⟨⟨#[116]⟩, loc, l, List.replicate l.length 0, a, c, some ⟨g3, 0, none⟩, l.length⟩ : Cod)).2) rfl (congrArg (Value.int .i64) (hvc)) ?_
        refine XO.cR Tryd.call11 (num_ok) ?_
        refine oo 4 ?_
        refine XO.know 70 (.bool true) rfl (congrArg Value.bool (by first | rfl | exact decide_eq_true rfl | (rw [beq_iff_eq]; done) | (simp; done))) ?_
        refine XO.cR Tryd.call10 (works_ok (gc.le leA) (g.le leA)) ?_
        refine ox 3 ?_
        refine X.sb [4] ?_
        refine X.retL (q) Tryd.func5 (res1 Tryd.results5 rfl) ⟨_, rfl, rfl, rfl⟩
      · skip
        rw [hdp] at hz ⊢
        refine XO.lsmax (l := (dOf (mod2 l a c loc g0 g1 g2 g3 g4) (⟨⟨#[116]⟩, loc, l, List.replicate l.length 0, a, c, some ⟨g3, 0, none⟩, l.length⟩ : Cod)).1) (fun hmx => ?_)
        refine oo 9 ?_
        refine XO.ldA Tryd.isAgg26 Tryd.sizeOf26 ?_
        refine XO.cR Tryd.call15 (RCheck_ok (m := (mod2 l a c loc g0 g1 g2 g3 g4)) (mod2_q (xs := l) (a := a) (c := c) (loc := loc) (g0 := g0) (g1 := g1) (g2 := g2) (g3 := g3) (g4 := g4) (hs.le leA) hL fndA fndA fndA fndA fndA)) ?_
        refine ox 2 ?_
        refine X.sb [32, 7, 6, 5, 4] ?_
        refine X.know 32 (.bool false) rfl (congrArg Value.bool (by rw [bne_eq_false_iff_eq]; exact hk0)) ?_
        refine xx 3 ?_
        refine X.draw [] Tryd.mixed (by kernel_rfl) (by kernel_rfl) rfl ?_
        refine XD.loadA 0 rfl rfl Tryd.isAgg26 Tryd.sizeOf26 hasA (by rfl) ?_
        refine dd [1] ?_
        refine XD.ld 2 Tryd.isAgg24 ?_
        refine dd [3] ?_
        refine XD.ldS 4 (m := 0) Tryd.isAgg39 Tryd.sizeOf39 hsR hth ?_
        refine XD.cX 5 Tryd.call16 (Le.refl _) (RThread_ok (m := (mod2 l a c loc g0 g1 g2 g3 g4)) (t := (⟨⟨#[116]⟩, loc, l, List.replicate l.length 0, a, c, some ⟨g3, 0, none⟩, l.length⟩ : Cod)) (((mod2_q (xs := l) (a := a) (c := c) (loc := loc) (g0 := g0) (g1 := g1) (g2 := g2) (g3 := g3) (g4 := g4) (hs.le leA) hL fndA fndA fndA fndA fndA)).x _ (List.mem_singleton.2 rfl)) hin hLn) ?_
        rintro _ _ (⟨hz2, rfl, rfl⟩ | ⟨hz2, a2, c2, rfl, rfl⟩) <;> refine ⟨(hlA (h := by repeat first | exact trivial | refine ⟨clA, ?_⟩ | refine ⟨Cl.row hsR leA (fun _ => rfl) hth rfl 0 _ rfl, ?_⟩ | refine ⟨Cl.row hsR leA (fun _ => rfl) hth rfl 1 _ rfl, ?_⟩ | refine ⟨Cl.row hsR leA (fun _ => rfl) hth rfl 2 _ rfl, ?_⟩ | refine ⟨Cl.row hsR leA (fun _ => rfl) hth rfl 3 _ rfl, ?_⟩)), ?_⟩
        · exact absurd hz hz2
        refine dd [6, 7, 8, 9, 10] ?_
        refine XD.nil ?_
        refine xo 4 ?_
        refine XO.cR Tryd.call17 (ints_ok (a := a1) (b := a2) (l := (dOf (mod2 l a c loc g0 g1 g2 g3 g4) (⟨⟨#[116]⟩, loc, l, List.replicate l.length 0, a, c, some ⟨g3, 0, none⟩, l.length⟩ : Cod)).1) (l2 := (dOf (mod2 l a c loc g0 g1 g2 g3 g4) (⟨⟨#[116]⟩, loc, l, List.replicate l.length 0, a, c, some ⟨g3, 0, none⟩, l.length⟩ : Cod)).1) ((Sees.lsH _).le fndA) ((Sees.lsH _).le fndA) hmx hmx) ?_
        refine XO.know 56 (.bool true) rfl (by first | rfl | exact congrArg Value.bool (decide_eq_true rfl)) ?_
        refine oo 1 ?_
        refine XO.know 57 (.bool true) rfl (congrArg Value.bool (by first | rfl | exact decide_eq_true rfl | (rw [beq_iff_eq]; done) | (simp; done))) ?_
        refine oo 1 ?_
        refine XO.cR Tryd.call11 (num_ok) ?_
        refine oo 4 ?_
        refine XO.know 63 (.bool true) rfl (congrArg Value.bool (by first | rfl | exact decide_eq_true rfl | (rw [beq_iff_eq]; done) | (simp; done))) ?_
        refine XO.ldA Tryd.isAgg26 Tryd.sizeOf26 ?_
        refine XO.cR Tryd.call12 (VCheck_ok (m := (mod2 l a c loc g0 g1 g2 g3 g4)) (gc.le leA) (g.le leA) (mod2_q (xs := l) (a := a) (c := c) (loc := loc) (g0 := g0) (g1 := g1) (g2 := g2) (g3 := g3) (g4 := g4) (hs.le leA) hL fndA fndA fndA fndA fndA)) ?_
        refine XO.know 65 (.int .i64 0) rfl (congrArg (Value.int .i64) (hvc.trans hz)) ?_
        refine XO.cR Tryd.call11 (num_ok) ?_
        refine oo 4 ?_
        refine XO.know 70 (.bool true) rfl (congrArg Value.bool (by first | rfl | exact decide_eq_true rfl | (rw [beq_iff_eq]; done) | (simp; done))) ?_
        refine XO.cR Tryd.call10 (works_ok (gc.le leA) (g.le leA)) ?_
        refine ox 3 ?_
        refine X.sb [4] ?_
        refine X.retL (q) Tryd.func5 (res1 Tryd.results5 rfl) ⟨_, rfl, rfl, rfl⟩
    · skip
      refine XO.cX Tryd.call14 (Le.refl _) (Depths_ok (m := (mod2 l a c loc g0 g1 g2 g3 g4)) (th := 0) (gc.le leA) (g.le leA) (mod2_q (xs := l) (a := a) (c := c) (loc := loc) (g0 := g0) (g1 := g1) (g2 := g2) (g3 := g3) (g4 := g4) (hs.le leA) hL fndA fndA fndA fndA fndA)) ?_
      rintro _ _ (⟨hz, rfl, rfl⟩ | ⟨hz, a1, c1, rfl, rfl⟩) <;> rw [dp_bad2 hk0] at hz
      rotate_left; · exact absurd hz (by decide)
      rw [dp_bad2 hk0]
      refine oo 9 ?_
      refine XO.ldA Tryd.isAgg26 Tryd.sizeOf26 ?_
      refine XO.cR Tryd.call15 (RCheck_ok (m := (mod2 l a c loc g0 g1 g2 g3 g4)) (mod2_q (xs := l) (a := a) (c := c) (loc := loc) (g0 := g0) (g1 := g1) (g2 := g2) (g3 := g3) (g4 := g4) (hs.le leA) hL fndA fndA fndA fndA fndA)) ?_
      refine ox 2 ?_
      refine X.sb [32, 7, 6, 5, 4] ?_
      refine X.know 32 (.bool true) rfl (congrArg Value.bool (by rw [bne_iff_ne]; exact hk0)) ?_
      refine xo 4 ?_
      refine XO.cR Tryd.call11 (num_ok) ?_
      refine oo 2 ?_
      refine XO.know 36 (.bool true) rfl (congrArg Value.bool (by first | rfl | exact decide_eq_true rfl | (rw [beq_iff_eq]; done) | (simp; done))) ?_
      refine XO.ldA Tryd.isAgg26 Tryd.sizeOf26 ?_
      refine XO.cR Tryd.call12 (VCheck_ok (m := (mod2 l a c loc g0 g1 g2 g3 g4)) (gc.le leA) (g.le leA) (mod2_q (xs := l) (a := a) (c := c) (loc := loc) (g0 := g0) (g1 := g1) (g2 := g2) (g3 := g3) (g4 := g4) (hs.le leA) hL fndA fndA fndA fndA fndA)) ?_
      refine XO.know 38 (.int .i64 2) rfl (congrArg (Value.int .i64) (vchk_bad hk0)) ?_
      refine XO.cR Tryd.call11 (num_ok) ?_
      refine oo 3 ?_
      refine XO.know 42 (.bool true) rfl (congrArg Value.bool (by first | rfl | exact decide_eq_true rfl | (rw [beq_iff_eq]; done) | (simp; done))) ?_
      refine XO.cR Tryd.call10 (works_ok (gc.le leA) (g.le leA)) ?_
      refine ox 3 ?_
      refine X.sb [4, 7, 6, 5] ?_
      refine X.retL (q) Tryd.func5 (res1 Tryd.results5 rfl) ⟨_, rfl, rfl, rfl⟩
end
end Go.Proofs.YtmdnfhpoplpaoaaDoor

