/- What functions of package vm, of its references and of its laws do: contracts of calls, proved by walking their code. -/
import Derived.Test.YtcklgodcjnnllaaGreatDoorZ
import Derived.Test.YtcklgodcjnnllaaGreatDoorRa
import Derived.Test.YtcklgodcjnnllaaGreatDoorWd
import Derived.KernelRfl
set_option maxRecDepth 100000
set_option linter.unusedVariables false
set_option linter.unusedSimpArgs false
namespace Go.Proofs.YtcklgodcjnnllaaGreatDoor
open Go Go.RowKit Wx
attribute [local irreducible] Wx.lsH Wx.rsH Wx.lsM Wx.rsM Wx.stars

theorem Tryz.info46 : (Tryz.prog.info? 46).map (fun i => (i.zero, i.size, i.bytes)) = some (some (.agg #[.string ⟨#[]⟩, .int .i64 0, .slice none 0 0, .slice none 0 0]), 4, 72) := by kernel_rfl
theorem Tryz.info52 : (Tryz.prog.info? 52).map (fun i => (i.zero, i.size, i.bytes)) = some (some (.agg #[.int .i64 0, .int .i64 0, .int .i64 0, .int .i64 0]), 4, 32) := by kernel_rfl
section
variable {G : World} {q pre : List HP} {a b A : Option Addr} {c d C p p0 p1 p2 i : Nat} {lo hi n cd dep : Int} {fv : Value} {x y : Ins} {t : Cod} {m : Mdl} {at_ : Int}
variable {l cells loc : List Int} {idx arr z k u pc code : Int} {x1 x2 x3 x4 x5 x6 old : Value} {pm cc lc n1 n2 : Nat} {la cda : Option Addr}
variable {f f2 : Frm} {last : Int} {kk : Nat} {xs : List Ins} {l2 : List Int}
set_option maxHeartbeats 4000000 in
theorem Same_ok (hf : FrmQ q f) (hf2 : FrmQ q f2) : CallF Tryz.prog G 22 [.agg (frmC f).toArray, .agg (frmC f2).toArray] (q) (Ret fun v q' => v = .bool (decide (f.code = f2.code ∧ f.pc = f2.pc ∧ f.loc = f2.loc ∧ f.stk = f2.stk)) ∧ q' = q) := by
 refine CallF.of Tryz.func22 Tryz.ntmps22 rfl (fun F cs => ?_)
 have k1 := hf.nl; have k2 := hf.ns; have k3 := hf2.nl; have k4 := hf2.ns
 refine xo 2 ?_
 refine XO.bx fun n1 => ?_
 refine XO.bx fun n2 => ?_
 refine oo 6 ?_
 refine ld ?_
 refine oo 1 ?_
 refine ld ?_
 refine oo 2 ?_
 refine XO.sb [12, 4, 3, 2] ?_
 apply XO.cutOr 6 18 12 rfl
 · skip
   intro g1 M1; have h1 := sp g1
   refine oo 1 ?_
   refine ld ?_
   refine oo 1 ?_
   refine ld ?_
   refine oo 2 ?_
   exact XO.fin M1 ⟨orF g1, subB⟩
 · skip
   intro g1 M1; have h1 := sp g1
   refine oo 6 ?_
   exact XO.fin M1 ⟨orT g1, subB⟩
 · skip
   refine oo 1 ?_
   refine XO.sb [19, 4, 3, 2] ?_
   apply XO.cutOr 8 27 19 rfl
   · skip
     intro g1 M1; have h1 := sp g1
     refine oo 1 ?_
     refine ld ?_
     refine oo 2 ?_
     refine ld ?_
     refine oo 3 ?_
     exact XO.fin M1 ⟨orF g1, subB⟩
   · skip
     intro g1 M1; have h1 := sp g1
     refine oo 8 ?_
     exact XO.fin M1 ⟨orT g1, subB⟩
   · skip
     refine oo 1 ?_
     refine XO.sb [28, 4, 3, 2] ?_
     apply XO.cutOr 8 36 28 rfl
     · skip
       intro g1 M1; have h1 := sp g1
       refine oo 1 ?_
       refine ld ?_
       refine oo 2 ?_
       refine ld ?_
       refine oo 3 ?_
       exact XO.fin M1 ⟨orF g1, subB⟩
     · skip
       intro g1 M1; have h1 := sp g1
       refine oo 8 ?_
       exact XO.fin M1 ⟨orT g1, subB⟩
     · skip
       refine ox 1 ?_
       refine X.part 36 rfl (fun h1 => ?_) (fun h1 => ?_)
       · skip
         replace h1 := sp h1
         refine xx 5 ?_
         refine X.retL (q) Tryz.func22 (res1 Tryz.results22 rfl) ⟨_, rfl, congrArg Value.bool (by symm; rw [decide_eq_false_iff_not]; rintro ⟨e1, e2, e3, e4⟩; rw [e3, e4] at h1; simp [e1, e2] at h1), rfl⟩
       · skip
         replace h1 := sp h1
         refine xx 8 ?_
         have hll : f.loc.length = f2.loc.length ∧ f.stk.length = f2.stk.length ∧ f.code = f2.code ∧ f.pc = f2.pc := by omega
         refine X.at (X.loop (fun (s : Nat) => s ≤ f.loc.length ∧ ∀ j (h : j < f.loc.length) (h2 : j < f2.loc.length), j < s → f.loc[j] = f2.loc[j]) (fun s => [(5, .int .i64 (s : Int)), (2, .pointer (some ⟨n1, 0, none⟩)), (3, .pointer (some ⟨n2, 0, none⟩)), (4, .bool false)]) (fun s => pto n2 (.cells (frmC f2).toArray 28 (0, 0)) :: pto n1 (.cells (frmC f).toArray 28 (0, 0)) :: (q ++ F)) (fun s => f.loc.length - s) (fun s hi_ ih => ?_) 0 ⟨Nat.zero_le _, fun j _ _ k => absurd k (Nat.not_lt_zero j)⟩) subA leA
         try dsimp only at hi_ ih ⊢
         obtain ⟨hk, hP⟩ := hi_
         refine xo 5 ?_
         refine ld ?_
         refine ox 3 ?_
         refine X.part 41 rfl (fun h0 => ?_) (fun h0 => ?_)
         · skip
           replace h0 := sp h0
           have hk1 : s < f.loc.length := by omega
           have hk2 : s < f2.loc.length := by omega
           refine xx 5 ?_
           refine drw ?_
           refine dd [0] ?_
           refine ldD 1 ?_
           refine dd [2] ?_
           refine XD.adr hf.l (by simp; omega) (fun bxl oxl exl => ?_)
           have hsxl := hf.l; rw [exl] at hsxl
           refine XD.know 45 (.slice (some ⟨bxl, oxl, none⟩) f.loc.length f.lc) rfl (by rw [exl]) ?_
           refine dd [3] ?_
           refine ldD 4 ?_ (hc := (Cl.e1 hsxl leA hk1 rfl))
           refine dd [5] ?_
           refine ldD 6 ?_
           refine dd [7] ?_
           refine XD.adr hf2.l (by simp; omega) (fun byl oyl eyl => ?_)
           have hsyl := hf2.l; rw [eyl] at hsyl
           refine XD.know 50 (.slice (some ⟨byl, oyl, none⟩) f2.loc.length f2.lc) rfl (by rw [eyl]) ?_
           refine dd [8] ?_
           refine ldD 9 ?_ (hc := (Cl.e1 hsyl leA hk2 rfl))
           refine dd [10] ?_
           refine XD.nil ?_
           refine X.part 54 rfl (fun h1 => ?_) (fun h1 => ?_)
           · skip
             replace h1 := sp h1
             refine xx 5 ?_
             refine X.sb [4, 5, 2, 3] ?_
             refine X.retL (q) Tryz.func22 (res1 Tryz.results22 rfl) ⟨_, rfl, congrArg Value.bool (by symm; rw [decide_eq_false_iff_not]; rintro ⟨e1, e2, e3, e4⟩; apply h1; simp only [e3]), rfl⟩
           · skip
             replace h1 := sp h1
             refine xx 8 ?_
             refine X.sb [5, 2, 3, 4] ?_
             refine X.at (ih (s + 1) ⟨by omega, fun j g1 g2 g3 => by rcases Nat.lt_or_ge j s with e | e; exact hP j g1 g2 e; obtain rfl : j = s := (by omega); exact h1⟩ (by omega)) subA leA
         · skip
           replace h0 := sp h0
           refine xx 8 ?_
           have hloc : f.loc = f2.loc := List.ext_getElem hll.1 (fun j g1 g2 => hP j g1 g2 (by omega))
           clear hP hk ih
           refine X.at (X.loop (fun (s : Nat) => s ≤ f.stk.length ∧ ∀ j (h : j < f.stk.length) (h2 : j < f2.stk.length), j < s → f.stk[j] = f2.stk[j]) (fun s => [(6, .int .i64 (s : Int)), (2, .pointer (some ⟨n1, 0, none⟩)), (3, .pointer (some ⟨n2, 0, none⟩)), (4, .bool false)]) (fun s => pto n2 (.cells (frmC f2).toArray 28 (0, 0)) :: pto n1 (.cells (frmC f).toArray 28 (0, 0)) :: (q ++ F)) (fun s => f.stk.length - s) (fun s hi_ ih => ?_) 0 ⟨Nat.zero_le _, fun j _ _ k => absurd k (Nat.not_lt_zero j)⟩) subA leA
           try dsimp only at hi_ ih ⊢
           obtain ⟨hk, hP⟩ := hi_
           refine xo 5 ?_
           refine ld ?_
           refine ox 3 ?_
           refine X.part 59 rfl (fun h0 => ?_) (fun h0 => ?_)
           · skip
             replace h0 := sp h0
             have hk1 : s < f.stk.length := by omega
             have hk2 : s < f2.stk.length := by omega
             refine xx 5 ?_
             refine drw ?_
             refine dd [0] ?_
             refine ldD 1 ?_
             refine dd [2] ?_
             refine XD.adr hf.s (by simp; omega) (fun bxs oxs exs => ?_)
             have hsxs := hf.s; rw [exs] at hsxs
             refine XD.know 63 (.slice (some ⟨bxs, oxs, none⟩) f.stk.length f.sc) rfl (by rw [exs]) ?_
             refine dd [3] ?_
             refine ldD 4 ?_ (hc := (Cl.e1 hsxs leA hk1 rfl))
             refine dd [5] ?_
             refine ldD 6 ?_
             refine dd [7] ?_
             refine XD.adr hf2.s (by simp; omega) (fun bys oys eys => ?_)
             have hsys := hf2.s; rw [eys] at hsys
             refine XD.know 68 (.slice (some ⟨bys, oys, none⟩) f2.stk.length f2.sc) rfl (by rw [eys]) ?_
             refine dd [8] ?_
             refine ldD 9 ?_ (hc := (Cl.e1 hsys leA hk2 rfl))
             refine dd [10] ?_
             refine XD.nil ?_
             refine X.part 72 rfl (fun h1 => ?_) (fun h1 => ?_)
             · skip
               replace h1 := sp h1
               refine xx 5 ?_
               refine X.sb [4, 6, 2, 3] ?_
               refine X.retL (q) Tryz.func22 (res1 Tryz.results22 rfl) ⟨_, rfl, congrArg Value.bool (by symm; rw [decide_eq_false_iff_not]; rintro ⟨e1, e2, e3, e4⟩; apply h1; simp only [e4]), rfl⟩
             · skip
               replace h1 := sp h1
               refine xx 8 ?_
               refine X.sb [6, 2, 3, 4] ?_
               refine X.at (ih (s + 1) ⟨by omega, fun j g1 g2 g3 => by rcases Nat.lt_or_ge j s with e | e; exact hP j g1 g2 e; obtain rfl : j = s := (by omega); exact h1⟩ (by omega)) subA leA
           · skip
             replace h0 := sp h0
             refine xx 6 ?_
             have hstk : f.stk = f2.stk := List.ext_getElem hll.2.1 (fun j g1 g2 => hP j g1 g2 (by omega))
             refine X.retL (q) Tryz.func22 (res1 Tryz.results22 rfl) ⟨_, rfl, congrArg Value.bool (by symm; rw [decide_eq_true_iff]; exact ⟨hll.2.2.1, hll.2.2.2, hloc, hstk⟩), rfl⟩
/-- The module of one thread without a name for anything. -/
def modk (xs : List Ins) (a : Option Addr) (c : Nat) (g0 g1 : Nat) : Mdl := ⟨[], [], [], 0, 0, [⟨⟨#[109, 97, 105, 110]⟩, 0, xs, List.replicate xs.length 0, a, c, some ⟨g0, 0, none⟩, xs.length⟩], none, 0, none, 0, none, 0, some ⟨g1, 0, none⟩, 1⟩
theorem code_ok (hL : xs.length ≤ 1000) : CallF Tryz.prog G 17 [.slice a xs.length c] ([]) (Ret fun v q' => ∃ g0 g1, v = .agg (mdlC (modk xs a c g0 g1)).toArray ∧ q' = [rsH codC 4 46 (some ⟨g1, 0, none⟩) 1 (modk xs a c g0 g1).threads, lsH I64 3 (some ⟨g0, 0, none⟩) xs.length (List.replicate xs.length 0)]) := by
 refine CallF.of Tryz.func17 Tryz.ntmps17 rfl (fun F cs => ?_)
 refine xo 2 ?_
 refine XO.al Tryz.zeroValue26 fun n1 => ?_
 refine oo 6 ?_
 refine XO.ef (Ef.make (n := xs.length) rfl rfl Tryz.underlying23 Tryz.info3 rfl rfl (by omega) (by omega)) ?_
 rintro _ _ ⟨g0, rfl, rfl⟩
 refine XO.le (q' := lsH I64 3 (some ⟨g0, 0, none⟩) xs.length (List.replicate xs.length 0) :: _) (Le.trans fndA (by rw [← ls_made (f := I64) (u := 0) rfl]; exact Le.refl _)) ?_
 refine oo 1 ?_
 refine XO.know 7 (.agg (codC (⟨⟨#[109, 97, 105, 110]⟩, 0, xs, List.replicate xs.length 0, a, c, some ⟨g0, 0, none⟩, xs.length⟩ : Cod)).toArray) rfl (by simp [codC]) ?_
 refine XO.ef (Ef.litR1 (u := (⟨⟨#[109, 97, 105, 110]⟩, 0, xs, List.replicate xs.length 0, a, c, some ⟨g0, 0, none⟩, xs.length⟩ : Cod)) codC Tryz.underlying24 Tryz.info46 rfl rfl (fun _ => rfl) rfl) ?_
 rintro _ _ ⟨g1, rfl, rfl⟩
 refine oo 1 ?_
 refine stA ?_
 refine ox 1 ?_
 refine X.retL [rsH codC 4 46 (some ⟨g1, 0, none⟩) 1 (modk xs a c g0 g1).threads, lsH I64 3 (some ⟨g0, 0, none⟩) xs.length (List.replicate xs.length 0)] Tryz.func17 (resC1 Tryz.results17 (ResOk.cell rfl (LV.agg Tryz.isAgg26 Tryz.sizeOf26 hasA rfl) ResOk.nil)) ⟨_, rfl, g0, g1, rfl, rfl⟩
theorem modk_q {g0 g1 : Nat} {r1 r2 : List HP} (hs : Sees q a (xs.flatMap insC)) (hL : xs.length ≤ 1000) (h1 : Le q (rsH codC 4 46 (some ⟨g1, 0, none⟩) 1 (modk xs a c g0 g1).threads :: r1)) (h2 : Le q (lsH I64 3 (some ⟨g0, 0, none⟩) xs.length (List.replicate xs.length 0) :: r2)) : MdlQ q (modk xs a c g0 g1) :=
  ⟨Sees.nil _ _, Sees.nil _ _, Sees.nil _ _, (Sees.rsH _).le h1, fun x hx => by
    obtain rfl := List.mem_singleton.1 hx
    exact ⟨hs, (Sees.lsH _).le h2, (show 4 ≤ 9223372036854775807 by decide), by dsimp only; omega, by dsimp only; rw [List.length_replicate]; omega⟩, Nat.zero_le _, Nat.zero_le _, Nat.zero_le _, (show 1 ≤ 9223372036854775807 by decide), Nat.zero_le _⟩
abbrev kI : List Ins := [⟨1, 0, 0, 6⟩, ⟨33, 0, 0, 0⟩, ⟨34, 0, 0, 0⟩]
theorem kn_v (a : Option Addr) (c g0 g1 : Nat) : vchk (modk kI a c g0 g1) = 0 := by kernel_rfl
theorem kn_d (a : Option Addr) (c g0 g1 : Nat) : (dOf (modk kI a c g0 g1) ⟨⟨#[109, 97, 105, 110]⟩, 0, kI, List.replicate 3 0, a, c, some ⟨g0, 0, none⟩, 3⟩).1 = [0, 1, 0] := by kernel_rfl
theorem kn_m (a : Option Addr) (c g0 g1 : Nat) (pc : Int) (stk : List Int) (la sa : Option Addr) (lc sc : Nat) (h : (pc = 0 ∧ stk = []) ∨ (pc = 1 ∧ stk = [6])) : mayS (modk kI a c g0 g1) ⟨0, pc, [], stk, la, lc, sa, sc⟩ 0 := by
  rcases h with ⟨rfl, rfl⟩ | ⟨rfl, rfl⟩
  · exact ⟨kn_v a c g0 g1, Int.le_refl 0, Nat.zero_lt_one, Int.le_refl 0, (by decide : (0 : Int) < 3), rfl, (by intro n hn; cases hn), (by intro n hn; cases hn), (by show 0 ≤ dAt (dOf _ _).1 0; erw [kn_d]; decide), (by show dAt (dOf _ _).1 0 = _; erw [kn_d]; rfl)⟩
  · exact ⟨kn_v a c g0 g1, Int.le_refl 0, Nat.zero_lt_one, (by decide : (0 : Int) ≤ 1), (by decide : (1 : Int) < 3), rfl, (by intro n hn; cases hn), (by intro n hn; rw [List.mem_singleton.1 hn]; decide), (by show 0 ≤ dAt (dOf _ _).1 1; erw [kn_d]; decide), (by show dAt (dOf _ _).1 1 = _; erw [kn_d]; rfl)⟩
theorem kn_1 (a : Option Addr) (c g0 g1 : Nat) (la sa : Option Addr) (lc sc : Nat) : doAt (modk kI a c g0 g1) ⟨0, 0, [], [], la, lc, sa, sc⟩ [] = ((1, [], [6]), dPlain) := by rfl
theorem kn_2 (a : Option Addr) (c g0 g1 : Nat) (la sa : Option Addr) (lc sc : Nat) : doAt (modk kI a c g0 g1) ⟨0, 1, [], [6], la, lc, sa, sc⟩ [] = ((2, [], []), dVal 6 6) := by rfl
set_option maxHeartbeats 8000000 in
theorem known_ok (gc : GC q) (g : GE q) : CallF Tryz.prog G 10 [] (q) (Ret fun v q' => v = .bool true ∧ q' = q) := by
 refine CallF.of Tryz.func10 Tryz.ntmps10 rfl (fun F cs => ?_)
 refine xo 9 ?_
 refine XO.ef (Ef.buildSlice (us := kI.map fun x => .agg (insC x).toArray) (cells := kI.flatMap insC) Tryz.underlying44 Tryz.info52 rfl rfl rfl (by kernel_rfl) rfl) ?_
 rintro _ _ ⟨gs, rfl, rfl⟩
 refine XO.le (q' := rsH insC 4 52 (some ⟨gs, 0, none⟩) 3 kI :: _) (Le.trans fndA (Le.rs_of_sl insC 4 52 (some ⟨gs, 0, none⟩) 3 kI _)) ?_
 refine XO.cF Tryz.call17 (code_ok (xs := kI) (by decide)) ?_
 rintro _ _ ⟨ga, gb, rfl, rfl⟩ _ e_; simp only [ca, na] at e_; subst e_
 refine XO.al Tryz.zeroValue26 fun n1 => ?_
 refine stA ?_
 refine oo 3 ?_
 refine ldA ?_
 refine XO.cX Tryz.call18 (Le.refl _) (New_ok (m := (modk kI (some ⟨gs, 0, none⟩) 3 ga gb)) (th := 0) (gc.le leA) (g.le leA) (modk_q (xs := kI) (a := some ⟨gs, 0, none⟩) (c := 3) (g0 := ga) (g1 := gb) ((Sees.rsH _).le fndA) (by decide) fndA fndA)) ?_
 rintro _ _ (⟨hh, la, lc, rfl, rfl⟩ | ⟨hh, rfl, rfl⟩)
 rotate_left; · exact absurd ⟨kn_v _ _ _ _, Int.le_refl 0, Nat.zero_lt_one⟩ hh
 refine oo 3 ?_
 refine XO.al Tryz.zeroValue28 fun n2 => ?_
 refine stA ?_
 refine oo 4 ?_
 refine ldA ?_
 refine ldA ?_
 refine XO.cX Tryz.call25 (Le.refl _) (VDo_ok (m := (modk kI (some ⟨gs, 0, none⟩) 3 ga gb)) (f := ⟨0, 0, [], [], la, lc, none, 0⟩) (cells := []) (cda := none) (cc := 0) (gc.le leA) (g.le leA) (modk_q (xs := kI) (a := some ⟨gs, 0, none⟩) (c := 3) (g0 := ga) (g1 := gb) ((Sees.rsH _).le fndA) (by decide) fndA fndA) ⟨(Sees.nil _ _), (Sees.nil _ _), Nat.zero_le _, Nat.zero_le _⟩ (Sees.nil _ _) (Nat.zero_le _)) ?_
 rintro _ _ (⟨hok, la1, lc1, sa1, sc1, rfl, rfl⟩ | ⟨hno, rfl, rfl⟩)
 rotate_left; · exact absurd ⟨kn_m (some ⟨gs, 0, none⟩) 3 ga gb 0 [] la none lc 0 (.inl ⟨rfl, rfl⟩), rfl, (by intro n hn; cases hn)⟩ hno
 rw [kn_1]
 refine oo 4 ?_
 refine XO.al Tryz.zeroValue28 fun n3 => ?_
 refine XO.al Tryz.zeroValue74 fun n4 => ?_
 refine stA ?_
 refine stA ?_
 refine oo 4 ?_
 refine ldA ?_
 refine ldA ?_
 refine XO.cX Tryz.call25 (Le.refl _) (VDo_ok (m := (modk kI (some ⟨gs, 0, none⟩) 3 ga gb)) (f := ⟨0, 1, [], [6], la1, lc1, sa1, sc1⟩) (cells := []) (cda := none) (cc := 0) (gc.le leA) (g.le leA) (modk_q (xs := kI) (a := some ⟨gs, 0, none⟩) (c := 3) (g0 := ga) (g1 := gb) ((Sees.rsH _).le fndA) (by decide) fndA fndA) ⟨(Sees.lsH _).le fndA, (Sees.lsH _).le fndA, Nat.zero_le _, (show 1 ≤ 9223372036854775807 by decide)⟩ (Sees.nil _ _) (Nat.zero_le _)) ?_
 rintro _ _ (⟨hok2, la2, lc2, sa2, sc2, rfl, rfl⟩ | ⟨hno, rfl, rfl⟩)
 rotate_left; · exact absurd ⟨kn_m (some ⟨gs, 0, none⟩) 3 ga gb 1 [6] la1 sa1 lc1 sc1 (.inr ⟨rfl, rfl⟩), rfl, (by intro n hn; cases hn)⟩ hno
 rw [kn_2]
 refine oo 4 ?_
 refine XO.al Tryz.zeroValue28 fun n5 => ?_
 refine XO.al Tryz.zeroValue74 fun n6 => ?_
 refine stA ?_
 refine stA ?_
 refine oo 7 ?_
 refine XO.kt 36 ?_
 refine oo 4 ?_
 refine XO.kt 40 ?_
 refine oo 4 ?_
 refine XO.kt 44 ?_
 refine oo 1 ?_
 refine ld ?_
 refine oo 3 ?_
 refine XO.kt 49 ?_
 refine oo 1 ?_
 refine ld ?_
 refine oo 4 ?_
 refine XO.kt 55 ?_
 refine oo 1 ?_
 refine ld ?_
 refine XO.lsadr (fl := I64) (l := ([6] : List Int)) (a := sa1) (by decide) (fun gq e_ => ?_); subst e_
 refine oo 1 ?_
 refine ld ?_ (hc := (Cl.e1 (n := 0) (l := ([6] : List Int)) (Sees.lsH _) fndA (by decide) rfl))
 refine oo 3 ?_
 refine XO.kt 62 ?_
 refine oo 1 ?_
 refine ld ?_
 refine oo 3 ?_
 refine XO.kt 67 ?_
 refine oo 1 ?_
 refine ld ?_
 refine oo 3 ?_
 refine XO.kt 72 ?_
 refine oo 1 ?_
 refine ld ?_
 refine ox 4 ?_
 refine X.sb [0] ?_
 refine X.retL (q) Tryz.func10 (res1 Tryz.results10 rfl) ⟨_, rfl, rfl, rfl⟩
set_option maxHeartbeats 4000000 in
theorem large_ok (hq : MdlQ q m) (hf : FrmQ q f) (hcl : cells.length ≤ 9223372036854775807) : CallF Tryz.prog G 9 [.agg (mdlC m).toArray, .agg (frmC f).toArray, .slice cda cells.length cc] (q) (Ret fun v q' => ∃ bb, v = .bool bb ∧ (bb = false → f.loc.length ≤ 40 ∧ f.stk.length ≤ 40 ∧ cells.length ≤ 600 ∧ m.threads.length ≤ 4) ∧ q' = q) := by
 refine CallF.of Tryz.func9 Tryz.ntmps9 rfl (fun F cs => ?_)
 have hlen := flatMap_len (f := codC) (sz := 4) (fun _ => rfl) m.threads; have hnt := hq.nt; have hnv := hq.nv; have hna := hq.na; have hnc := hq.nc; have hnl := hf.nl; have hns := hf.ns
 refine xo 2 ?_
 refine XO.bx fun n1 => ?_
 refine XO.bx fun n2 => ?_
 refine oo 6 ?_
 refine ld ?_
 refine oo 3 ?_
 refine XO.sb [12, 6, 4, 3, 2] ?_
 apply XO.cutOr 5 17 12 rfl
 · skip
   intro g1 M1; have h1 := sp g1
   refine oo 1 ?_
   refine ld ?_
   refine oo 3 ?_
   exact XO.fin M1 ⟨orF g1, subB⟩
 · skip
   intro g1 M1; have h1 := sp g1
   refine oo 5 ?_
   exact XO.fin M1 ⟨orT g1, subB⟩
 · skip
   refine oo 1 ?_
   refine XO.sb [18, 6, 4, 3, 2] ?_
   apply XO.cutOr 5 23 18 rfl
   · skip
     intro g1 M1; have h1 := sp g1
     refine oo 1 ?_
     refine ld ?_
     refine oo 3 ?_
     exact XO.fin M1 ⟨orF g1, subB⟩
   · skip
     intro g1 M1; have h1 := sp g1
     refine oo 5 ?_
     exact XO.fin M1 ⟨orT g1, subB⟩
   · skip
     refine oo 1 ?_
     refine XO.sb [24, 6, 4, 3, 2] ?_
     apply XO.cutOr 5 29 24 rfl
     · skip
       intro g1 M1; have h1 := sp g1
       refine oo 1 ?_
       refine ld ?_
       refine oo 3 ?_
       exact XO.fin M1 ⟨orF g1, subB⟩
     · skip
       intro g1 M1; have h1 := sp g1
       refine oo 5 ?_
       exact XO.fin M1 ⟨orT g1, subB⟩
     · skip
       refine oo 1 ?_
       refine XO.sb [30, 6, 4, 3, 2] ?_
       apply XO.cutOr 5 35 30 rfl
       · skip
         intro g1 M1; have h1 := sp g1
         refine oo 1 ?_
         refine ld ?_
         refine oo 3 ?_
         exact XO.fin M1 ⟨orF g1, subB⟩
       · skip
         intro g1 M1; have h1 := sp g1
         refine oo 5 ?_
         exact XO.fin M1 ⟨orT g1, subB⟩
       · skip
         refine oo 1 ?_
         refine XO.sb [36, 6, 4, 3, 2] ?_
         apply XO.cutOr 5 41 36 rfl
         · skip
           intro g1 M1; have h1 := sp g1
           refine oo 1 ?_
           refine ld ?_
           refine oo 3 ?_
           exact XO.fin M1 ⟨orF g1, subB⟩
         · skip
           intro g1 M1; have h1 := sp g1
           refine oo 5 ?_
           exact XO.fin M1 ⟨orT g1, subB⟩
         · skip
           refine oo 1 ?_
           refine XO.sb [42, 6, 3, 2] ?_
           apply XO.cutOr 4 46 42 rfl
           · skip
             intro g1 M1; have h1 := sp g1
             refine oo 4 ?_
             exact XO.fin M1 ⟨orF g1, subB⟩
           · skip
             intro g1 M1; have h1 := sp g1
             refine oo 4 ?_
             exact XO.fin M1 ⟨orT g1, subB⟩
           · skip
             refine ox 1 ?_
             refine X.part 46 rfl (fun h1 => ?_) (fun h1 => ?_)
             · skip
               replace h1 := sp h1
               refine xx 5 ?_
               refine X.retL (q) Tryz.func9 (res1 Tryz.results9 rfl) ⟨_, rfl, _, rfl, (fun h => by cases h), rfl⟩
             · skip
               replace h1 := sp h1
               refine xx 8 ?_
               refine X.at (X.loop (fun (s : Nat) => s ≤ m.threads.length) (fun s => [(7, .int .i64 (s : Int)), (3, .pointer (some ⟨n1, 0, none⟩)), (6, .bool false)]) (fun s => pto n1 (.cells (mdlC m).toArray 26 (0, 0)) :: (q ++ F)) (fun s => m.threads.length - s) (fun s hi_ ih => ?_) 0 (Nat.zero_le _)) subA leA
               try dsimp only at hi_ ih ⊢
               obtain hk := hi_
               refine xo 5 ?_
               refine ld ?_
               refine ox 3 ?_
               refine X.part 51 rfl (fun h0 => ?_) (fun h0 => ?_)
               · skip
                 replace h0 := sp h0
                 have hkN : s < m.threads.length := by omega
                 have hql := hq.x _ (List.getElem_mem hkN); have g1 := hql.n; have g2 := hql.ni; have g3 := hql.nl
                 refine xo 7 ?_
                 refine ld ?_
                 refine oo 1 ?_
                 refine XO.adr hq.t (by rw [hlen]; omega) (fun b1 o1 e1 => ?_)
                 have hs1 := hq.t; rw [e1] at hs1
                 refine XO.know 55 (.slice (some ⟨b1, o1, none⟩) m.threads.length m.tc) rfl (by rw [e1]) ?_
                 refine oo 2 ?_
                 refine ld ?_ (hc := (Cl.row (j := (s : Int)) hs1 leA (fun _ => rfl) hkN rfl 2 _ rfl))
                 refine oo 3 ?_
                 refine XO.sb [62, 7, 3, 6] ?_
                 apply XO.cutOr 9 71 62 rfl
                 · skip
                   intro g1 M1; have h1 := sp g1
                   refine oo 1 ?_
                   refine ld ?_
                   refine oo 1 ?_
                   refine XO.know 64 (.slice (some ⟨b1, o1, none⟩) m.threads.length m.tc) rfl (by rw [e1]) ?_
                   refine oo 2 ?_
                   refine ld ?_ (hc := (Cl.row (j := (s : Int)) hs1 leA (fun _ => rfl) hkN rfl 3 _ rfl))
                   refine oo 3 ?_
                   exact XO.fin M1 ⟨orF g1, subB⟩
                 · skip
                   intro g1 M1; have h1 := sp g1
                   refine oo 9 ?_
                   exact XO.fin M1 ⟨orT g1, subB⟩
                 · skip
                   refine oo 1 ?_
                   refine XO.sb [72, 7, 3, 6] ?_
                   apply XO.cutOr 9 81 72 rfl
                   · skip
                     intro g1 M1; have h1 := sp g1
                     refine oo 1 ?_
                     refine ld ?_
                     refine oo 1 ?_
                     refine XO.know 74 (.slice (some ⟨b1, o1, none⟩) m.threads.length m.tc) rfl (by rw [e1]) ?_
                     refine oo 2 ?_
                     refine ld ?_ (hc := (Cl.row (j := (s : Int)) hs1 leA (fun _ => rfl) hkN rfl 0 _ rfl))
                     refine oo 3 ?_
                     exact XO.fin M1 ⟨orF g1, subB⟩
                   · skip
                     intro g1 M1; have h1 := sp g1
                     refine oo 9 ?_
                     exact XO.fin M1 ⟨orT g1, subB⟩
                   · skip
                     refine ox 1 ?_
                     refine X.sb [81, 7, 3, 6] ?_
                     refine X.part 81 rfl (fun h1 => ?_) (fun h1 => ?_)
                     · skip
                       replace h1 := sp h1
                       refine xx 5 ?_
                       refine X.retL (q) Tryz.func9 (res1 Tryz.results9 rfl) ⟨_, rfl, _, rfl, (fun h => by cases h), rfl⟩
                     · skip
                       replace h1 := sp h1
                       refine xx 8 ?_
                       refine X.at (ih (s + 1) (by omega) (by omega)) subA leA
               · skip
                 replace h0 := sp h0
                 refine xx 6 ?_
                 refine X.retL (q) Tryz.func9 (res1 Tryz.results9 rfl) ⟨_, rfl, _, rfl, (fun _ => by omega), rfl⟩
end
end Go.Proofs.YtcklgodcjnnllaaGreatDoor

