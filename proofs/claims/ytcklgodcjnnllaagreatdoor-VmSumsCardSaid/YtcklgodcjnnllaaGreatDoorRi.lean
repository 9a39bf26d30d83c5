/- What functions of package vm, of its references and of its laws do: contracts of calls, proved by walking their code. -/
import Derived.Test.YtcklgodcjnnllaaGreatDoorRf
import Derived.Test.YtcklgodcjnnllaaGreatDoorWe
import Derived.KernelRfl
set_option maxRecDepth 100000
set_option linter.unusedVariables false
set_option linter.unusedSimpArgs false
namespace Go.Proofs.YtcklgodcjnnllaaGreatDoor
open Go Go.RowKit Wx
attribute [local irreducible] Wx.lsH Wx.rsH Wx.lsM Wx.rsM Wx.stars

section
variable {G : World} {q pre : List HP} {a b A : Option Addr} {c d C p p0 p1 p2 i : Nat} {lo hi n cd dep : Int} {fv : Value} {x y : Ins} {t : Cod} {m : Mdl} {at_ : Int}
variable {l cells loc : List Int} {idx arr z k u pc code : Int} {x1 x2 x3 x4 x5 x6 old : Value} {pm cc lc n1 n2 : Nat} {la cda : Option Addr}
variable {f f2 : Frm} {tt kd : Int}
def pushS (l : List Int) : List Ins := l.map fun n => ⟨1, 0, 0, n⟩
set_option maxHeartbeats 32000000 in
theorem vmSums_ok (gc : GC q) (g : GE q) (hs : Sees q a (l.map I64)) (hL : l.length ≤ 9223372036854775807) : CallF Tryz.prog G 5 [.int .i64 u, .int .i64 z, .slice a l.length c] (q) (Ret fun v q' => v = .bool true ∧ q' = q) := by
  refine CallF.of Tryz.func5 Tryz.ntmps5 rfl (fun F cs => ?_)
  refine xo 11 ?_
  refine XO.part 18 rfl (fun h1 => ?_) (fun h1 => ?_)
  · skip
    replace h1 := sp h1
    refine oo 15 ?_
    refine XO.cR Tryz.call10 (known_ok (gc.le leA) (g.le leA)) ?_
    refine ox 2 ?_
    refine X.sb [6, 0, 1, 2] ?_
    refine X.retL (q) Tryz.func5 (res1 Tryz.results5 rfl) ⟨_, rfl, rfl, rfl⟩
  · skip
    replace h1 := sp h1
    refine oo 1 ?_
    refine XO.cR Tryz.call13 (RValues_ok (hs.le leA) hL) ?_
    refine XO.pu (Pu.not rfl) ?_
    refine oo 2 ?_
    refine XO.part 23 rfl (fun h2 => ?_) (fun h2 => ?_)
    · skip
      replace h2 := sp h2
      refine oo 10 ?_
      refine XO.cR Tryz.call10 (known_ok (gc.le leA) (g.le leA)) ?_
      refine ox 2 ?_
      refine X.sb [6, 0, 1, 2] ?_
      refine X.retL (q) Tryz.func5 (res1 Tryz.results5 rfl) ⟨_, rfl, rfl, rfl⟩
    · skip
      replace h2 := sp h2
      refine oo 2 ?_
      refine XO.ef (Ef.litL I64 [u, z] Tryz.underlying22 Tryz.info2 rfl rfl rfl rfl rfl rfl (fun _ => rfl)) ?_
      rintro _ _ ⟨g26, rfl, rfl⟩
      refine XO.cR Tryz.call13 (RValues_ok (l := [u, z]) ((Sees.lsH _).le fndA) (show 2 ≤ 9223372036854775807 by decide)) ?_
      refine XO.pu (Pu.not rfl) ?_
      refine ox 2 ?_
      refine X.sb [29, 6, 0, 1, 2] ?_
      refine X.part 29 rfl (fun h3 => ?_) (fun h3 => ?_)
      · skip
        replace h3 := sp h3
        refine xo 3 ?_
        refine XO.cR Tryz.call10 (known_ok (gc.le leA) (g.le leA)) ?_
        refine ox 2 ?_
        refine X.retL (q) Tryz.func5 (res1 Tryz.results5 rfl) ⟨_, rfl, rfl, rfl⟩
      · skip
        replace h3 := sp h3
        refine xx 8 ?_
        have hL20 : l.length ≤ 20 := by omega
        refine X.at (X.loop (fun (s : Nat) => 8 ≤ s ∧ s ≤ 23) (fun s => [(7, .int .i64 (s : Int)), (0, .int .i64 u), (1, .int .i64 z), (2, .slice a l.length c), (6, .bool false)]) (fun s => (q ++ F)) (fun s => 23 - s) (fun s hi_ ihk => ?_) 8 ⟨by omega, by omega⟩) subA leA
        try dsimp only at hi_ ihk ⊢
        obtain hk := hi_
        refine xx 6 ?_
        refine X.part 32 rfl (fun h0 => ?_) (fun h0 => ?_)
        · skip
          replace h0 := sp h0
          have hcls : (10 ≤ s ∧ s ≤ 18) ∨ s = 19 ∨ (s = 20 ∨ s = 21) ∨ (s = 8 ∨ s = 9 ∨ s = 22) := by omega
          rcases hcls with hcl | hcl | hcl | hcl
          · skip
            refine xx 14 ?_
            refine X.at (X.loop (fun (r : Nat × Option Addr × Nat) => r.1 ≤ l.length) (fun r => [(8, .slice r.2.1 (pushS (l.take r.1)).length r.2.2), (9, .int .i64 (r.1 : Int)), (7, .int .i64 (s : Int)), (0, .int .i64 u), (1, .int .i64 z), (2, .slice a l.length c), (6, .bool false)]) (fun r => rsH insC 4 52 r.2.1 r.2.2 (pushS (l.take r.1)) :: (q ++ F)) (fun r => l.length - r.1) (fun r hi_ ihr => ?_) (0, none, 0) (Nat.zero_le _)) subA (Le.trans leA (Le.trans (Le.rsH_nil insC 4 52 _) leA))
            try dsimp only at hi_ ihr ⊢
            obtain hr := hi_
            obtain ⟨i, a1, c1⟩ := r; dsimp only at *
            refine xx 8 ?_
            refine X.part 38 rfl (fun h1 => ?_) (fun h1 => ?_)
            · skip
              replace h1 := sp h1; have hi1 : i < l.length := by omega
              refine X.adr (hs.le leA) (by simp; omega) (fun ba oa e1 => ?_)
              have hs1 := hs; rw [e1] at hs1
              refine xo 8 ?_
              refine XO.know 42 (.slice (some ⟨ba, oa, none⟩) l.length c) rfl (by rw [e1]) ?_
              refine oo 1 ?_
              refine XO.ld Tryz.isAgg2 ?_ (hc := (Cl.e1 hs1 leA hi1 rfl))
              refine oo 1 ?_
              refine XO.ef (Ef.buildSlice (us := ([⟨1, 0, 0, l[i]⟩] : List Ins).map fun x => .agg (insC x).toArray) (cells := ([⟨1, 0, 0, l[i]⟩] : List Ins).flatMap insC) Tryz.underlying44 Tryz.info52 rfl rfl rfl (by kernel_rfl) rfl) ?_
              rintro _ _ ⟨gb, rfl, rfl⟩
              refine XO.le (q' := rsH insC 4 52 (some ⟨gb, 0, none⟩) 1 ([⟨1, 0, 0, l[i]⟩]) :: _) (Le.trans fndA (Le.rs_of_sl insC 4 52 (some ⟨gb, 0, none⟩) 1 ([⟨1, 0, 0, l[i]⟩] : List Ins) _)) ?_
              refine XO.ef (Ef.appRA (f := insC) (l := pushS (l.take i)) (m := [⟨1, 0, 0, l[i]⟩]) Tryz.underlying44 Tryz.info52 rfl rfl (fun _ => rfl) rfl rfl fndA ((Sees.rsH _).le fndA) (fun _ => rfl) (by simp [pushS]; omega) (by simp [pushS]; omega)) ?_
              rintro _ _ ⟨a2, c2, rfl, rfl⟩
              have hpp : pushS (l.take i) ++ [⟨1, 0, 0, l[i]⟩] = pushS (l.take (i + 1)) := by unfold pushS; rw [List.take_succ_eq_append_getElem hi1, List.map_append]; rfl
              rw [hpp]
              refine ox 8 ?_
              refine X.sb [9, 8, 7, 0, 1, 2, 6] ?_
              refine X.at (ihr (i + 1, a2, c2) (by dsimp only; omega) (by dsimp only; omega)) subA leA
            · skip
              replace h1 := sp h1; obtain rfl : i = l.length := by omega
              rw [List.take_length] at *; clear ihr
              have hpl : (pushS l).length = l.length := by simp [pushS]
              refine xo 11 ?_
              refine XO.ef (Ef.buildSlice (us := ([⟨1, 0, 0, u⟩, ⟨1, 0, 0, z⟩, ⟨(s : Int), 0, 0, 0⟩] : List Ins).map fun x => .agg (insC x).toArray) (cells := ([⟨1, 0, 0, u⟩, ⟨1, 0, 0, z⟩, ⟨(s : Int), 0, 0, 0⟩] : List Ins).flatMap insC) Tryz.underlying44 Tryz.info52 rfl rfl rfl (by kernel_rfl) rfl) ?_
              rintro _ _ ⟨gc3, rfl, rfl⟩
              refine XO.le (q' := rsH insC 4 52 (some ⟨gc3, 0, none⟩) 3 ([⟨1, 0, 0, u⟩, ⟨1, 0, 0, z⟩, ⟨(s : Int), 0, 0, 0⟩]) :: _) (Le.trans fndA (Le.rs_of_sl insC 4 52 (some ⟨gc3, 0, none⟩) 3 ([⟨1, 0, 0, u⟩, ⟨1, 0, 0, z⟩, ⟨(s : Int), 0, 0, 0⟩] : List Ins) _)) ?_
              refine XO.ef (Ef.appRA (f := insC) (l := pushS l) (m := [⟨1, 0, 0, u⟩, ⟨1, 0, 0, z⟩, ⟨(s : Int), 0, 0, 0⟩]) Tryz.underlying44 Tryz.info52 rfl rfl (fun _ => rfl) rfl rfl fndA ((Sees.rsH _).le fndA) (fun _ => rfl) (by simp [pushS]; omega) (by simp [pushS]; omega)) ?_
              rintro _ _ ⟨a3, c3, rfl, rfl⟩
              have hbl : (pushS l ++ ([⟨1, 0, 0, u⟩, ⟨1, 0, 0, z⟩, ⟨(s : Int), 0, 0, 0⟩] : List Ins) : List Ins).length = l.length + 3 := by simp [pushS]
              refine oo 8 ?_
              refine XO.sb [60, 8, 7, 0, 1, 2, 6] ?_
              apply XO.cutAnd 3 63 60 rfl
              · skip
                intro g1 M1; have y1 := sp g1
                refine oo 3 ?_
                exact XO.fin M1 ⟨andT g1, subB⟩
              · skip
                intro g1 M1; have y1 := sp g1
                refine oo 3 ?_
                exact XO.fin M1 ⟨andF g1, subB⟩
              · skip
                refine ox 1 ?_
                refine X.sb [63, 8, 7, 0, 1, 2, 6] ?_
                refine X.know 63 (.bool false) rfl (congrArg Value.bool (by first | exact decide_eq_true (by omega) | exact decide_eq_false (by omega) | (rw [beq_iff_eq]; omega) | (rw [beq_eq_false_iff_ne]; omega) | (simp; omega))) ?_
                refine xo 22 ?_
                refine XO.sb [80, 11, 10, 8, 7, 0, 1, 2, 6] ?_
                apply XO.cutAnd 3 83 80 rfl
                · skip
                  intro g1 M1; have y1 := sp g1
                  refine oo 3 ?_
                  exact XO.fin M1 ⟨andT g1, subB⟩
                · skip
                  intro g1 M1; have y1 := sp g1
                  refine oo 3 ?_
                  exact XO.fin M1 ⟨andF g1, subB⟩
                · skip
                  refine oo 1 ?_
                  refine XO.sb [84, 11, 10, 8, 7, 0, 1, 2, 6] ?_
                  apply XO.cutOr 3 87 84 rfl
                  · skip
                    intro g1 M1; have y1 := sp g1
                    refine oo 3 ?_
                    exact XO.fin M1 ⟨orF g1, subB⟩
                  · skip
                    intro g1 M1; have y1 := sp g1
                    refine oo 3 ?_
                    exact XO.fin M1 ⟨orT g1, subB⟩
                  · skip
                    refine oo 1 ?_
                    refine XO.sb [88, 11, 10, 8, 7, 0, 1, 2, 6] ?_
                    apply XO.cutOr 3 91 88 rfl
                    · skip
                      intro g1 M1; have y1 := sp g1
                      refine oo 3 ?_
                      exact XO.fin M1 ⟨orF g1, subB⟩
                    · skip
                      intro g1 M1; have y1 := sp g1
                      refine oo 3 ?_
                      exact XO.fin M1 ⟨orT g1, subB⟩
                    · skip
                      refine ox 1 ?_
                      refine X.know 91 (.bool true) rfl (congrArg Value.bool (by first | exact decide_eq_true (by omega) | exact decide_eq_false (by omega) | (rw [beq_iff_eq]; omega) | (rw [beq_eq_false_iff_ne]; omega) | (simp; omega))) ?_
                      refine xx 12 ?_
                      refine X.sb [12, 11, 10, 8, 7, 0, 1, 2, 6] ?_
                      obtain ⟨B, hB⟩ : ∃ B, B = (pushS l ++ ([⟨1, 0, 0, u⟩, ⟨1, 0, 0, z⟩, ⟨(s : Int), 0, 0, 0⟩] : List Ins)) := ⟨_, rfl⟩
                      have hBl : B.length = l.length + 3 := by rw [hB]; exact hbl
                      refine X.know 8 (.slice a3 B.length c3) rfl (by rw [hB]) ?_
                      refine X.le (q' := rsH insC 4 52 a3 c3 (B) :: _) (by rw [hB]; exact fndA) ?_
                      refine X.know 10 (.int .i64 ((l.length + 2 : Nat) : Int)) rfl (congrArg (Value.int .i64) (by omega)) ?_
                      refine X.know 11 (.int .i64 ((l.length + 1 : Nat) : Int)) rfl (congrArg (Value.int .i64) (by omega)) ?_
                      clear hB
                      refine X.at (X.loop (fun (r : Nat × Option Addr × Nat) => r.1 ≤ l.length + 1) (fun r => [(8, .slice r.2.1 (B ++ List.replicate r.1 (⟨33, 0, 0, 0⟩ : Ins)).length r.2.2), (12, .int .i64 (r.1 : Int)), (11, .int .i64 ((l.length + 1 : Nat) : Int)), (10, .int .i64 ((l.length + 2 : Nat) : Int)), (7, .int .i64 (s : Int)), (0, .int .i64 u), (1, .int .i64 z), (2, .slice a l.length c), (6, .bool false)]) (fun r => rsH insC 4 52 r.2.1 r.2.2 (B ++ List.replicate r.1 (⟨33, 0, 0, 0⟩ : Ins)) :: (q ++ F)) (fun r => l.length + 1 - r.1) (fun r hi_ ihr => ?_) (0, a3, c3) (Nat.zero_le _)) subA (by simp only [List.replicate_zero, List.append_nil]; exact leA)
                      try dsimp only at hi_ ihr ⊢
                      obtain hr := hi_
                      obtain ⟨j, a4, c4⟩ := r; dsimp only at *
                      refine xx 7 ?_
                      refine X.part 96 rfl (fun h2 => ?_) (fun h2 => ?_)
                      · skip
                        replace h2 := sp h2
                        refine xo 7 ?_
                        refine XO.ef (Ef.buildSlice (us := ([⟨33, 0, 0, 0⟩] : List Ins).map fun x => .agg (insC x).toArray) (cells := ([⟨33, 0, 0, 0⟩] : List Ins).flatMap insC) Tryz.underlying44 Tryz.info52 rfl rfl rfl (by kernel_rfl) rfl) ?_
                        rintro _ _ ⟨gd, rfl, rfl⟩
                        refine XO.le (q' := rsH insC 4 52 (some ⟨gd, 0, none⟩) 1 ([⟨33, 0, 0, 0⟩]) :: _) (Le.trans fndA (Le.rs_of_sl insC 4 52 (some ⟨gd, 0, none⟩) 1 ([⟨33, 0, 0, 0⟩] : List Ins) _)) ?_
                        refine XO.ef (Ef.appRA (f := insC) (l := B ++ List.replicate j (⟨33, 0, 0, 0⟩ : Ins)) (m := [(⟨33, 0, 0, 0⟩ : Ins)]) Tryz.underlying44 Tryz.info52 rfl rfl (fun _ => rfl) rfl rfl fndA ((Sees.rsH _).le fndA) (fun _ => rfl) (by simp; omega) (by simp; omega)) ?_
                        rintro _ _ ⟨a5, c5, rfl, rfl⟩
                        have hpp : B ++ List.replicate j (⟨33, 0, 0, 0⟩ : Ins) ++ [(⟨33, 0, 0, 0⟩ : Ins)] = B ++ List.replicate (j + 1) (⟨33, 0, 0, 0⟩ : Ins) := by rw [List.replicate_succ', List.append_assoc]
                        rw [hpp]
                        refine ox 8 ?_
                        refine X.at (ihr (j + 1, a5, c5) (by dsimp only; omega) (by dsimp only; omega)) subA leA
                      · skip
                        replace h2 := sp h2; obtain rfl : j = l.length + 1 := by omega
                        clear ihr
                        refine xo 6 ?_
                        refine XO.ef (Ef.buildSlice (us := ([⟨34, 0, 0, 0⟩] : List Ins).map fun x => .agg (insC x).toArray) (cells := ([⟨34, 0, 0, 0⟩] : List Ins).flatMap insC) Tryz.underlying44 Tryz.info52 rfl rfl rfl (by kernel_rfl) rfl) ?_
                        rintro _ _ ⟨ge, rfl, rfl⟩
                        refine XO.le (q' := rsH insC 4 52 (some ⟨ge, 0, none⟩) 1 ([⟨34, 0, 0, 0⟩]) :: _) (Le.trans fndA (Le.rs_of_sl insC 4 52 (some ⟨ge, 0, none⟩) 1 ([⟨34, 0, 0, 0⟩] : List Ins) _)) ?_
                        refine XO.ef (Ef.appRA (f := insC) (l := B ++ List.replicate (l.length + 1) (⟨33, 0, 0, 0⟩ : Ins)) (m := [⟨34, 0, 0, 0⟩]) Tryz.underlying44 Tryz.info52 rfl rfl (fun _ => rfl) rfl rfl fndA ((Sees.rsH _).le fndA) (fun _ => rfl) (by simp; omega) (by simp; omega)) ?_
                        rintro _ _ ⟨a6, c6, rfl, rfl⟩
                        obtain ⟨XS, hXS⟩ : ∃ XS, XS = B ++ List.replicate (l.length + 1) (⟨33, 0, 0, 0⟩ : Ins) ++ [⟨34, 0, 0, 0⟩] := ⟨_, rfl⟩
                        rw [← hXS]
                        have hXl : XS.length ≤ 1000 := by rw [hXS]; simp; omega
                        clear hXS
                        refine XO.cF Tryz.call17 (code_ok (xs := XS) (a := a6) (c := c6) hXl) ?_
                        rintro _ _ ⟨ga, gb, rfl, rfl⟩ _ e_; simp only [ca, na] at e_; subst e_
                        refine XO.ef (Ef.alloc Tryz.zeroValue26) ?_
                        rintro _ _ ⟨n1, rfl, rfl⟩
                        refine XO.ef0 (Ef.stA Tryz.sizeOf26) ?_
                        rintro _ _ ⟨rfl, rfl⟩
                        refine oo 5 ?_
                        refine XO.le (q' := lsH I64 2 none 0 [] :: _) (Le.lsH_nil _ _ _) ?_
                        refine XO.ef (Ef.appA (f := I64) (l := []) (m := l) Tryz.underlying22 Tryz.info2 rfl rfl rfl fndA (hs.le leA) (fun _ => rfl) (by simp; omega) (by simp; omega)) ?_
                        rintro _ _ ⟨a7, c7, rfl, rfl⟩
                        rw [List.nil_append]
                        refine oo 2 ?_
                        refine XO.ef (Ef.litL I64 [u, z] Tryz.underlying22 Tryz.info2 rfl rfl rfl rfl rfl rfl (fun _ => rfl)) ?_
                        rintro _ _ ⟨gf, rfl, rfl⟩
                        refine XO.ef (Ef.appA (f := I64) (l := l) (m := [u, z]) Tryz.underlying22 Tryz.info2 rfl rfl rfl fndA ((Sees.lsH _).le fndA) (fun _ => rfl) (by simp; omega) (by simp; omega)) ?_
                        rintro _ _ ⟨a8, c8, rfl, rfl⟩
                        refine oo 1 ?_
                        refine XO.ef (Ef.alloc Tryz.zeroValue28) ?_
                        rintro _ _ ⟨n2, rfl, rfl⟩
                        refine XO.ef0 (Ef.stA Tryz.sizeOf28) ?_
                        rintro _ _ ⟨rfl, rfl⟩
                        refine oo 3 ?_
                        refine XO.ldA Tryz.isAgg26 Tryz.sizeOf26 ?_
                        refine XO.ldA Tryz.isAgg28 Tryz.sizeOf28 ?_
                        refine XO.lscap (fl := I64) (l := l ++ [u, z]) (fun hcap => ?_)
                        refine XO.cR Tryz.call11 (does_ok (m := (modk XS a6 c6 ga gb)) (f := ⟨0, ((l.length + 2 : Nat) : Int), [], l ++ [u, z], none, 0, a8, c8⟩) (cells := []) (cda := none) (cc := 0) (gc.le leA) (g.le leA) (modk_q (xs := XS) (a := a6) (c := c6) (g0 := ga) (g1 := gb) ((Sees.rsH _).le fndA) hXl fndA fndA) ⟨Sees.nil _ _, (Sees.lsH _).le fndA, Nat.zero_le _, (by simp; omega)⟩ (Sees.nil _ _) hcap ⟨Nat.zero_le _, (by simp; omega), Nat.zero_le _⟩) ?_
                        refine XO.pu (Pu.not rfl) ?_
                        refine ox 1 ?_
                        refine X.sb [119, 7, 0, 1, 2, 6] ?_
                        refine X.know 119 (.bool false) rfl knw ?_
                        refine xx 8 ?_
                        refine X.at (ihk (s + 1) ⟨by omega, by omega⟩ (by omega)) subA leA
          · skip
            refine xx 14 ?_
            refine X.at (X.loop (fun (r : Nat × Option Addr × Nat) => r.1 ≤ l.length) (fun r => [(8, .slice r.2.1 (pushS (l.take r.1)).length r.2.2), (9, .int .i64 (r.1 : Int)), (7, .int .i64 (s : Int)), (0, .int .i64 u), (1, .int .i64 z), (2, .slice a l.length c), (6, .bool false)]) (fun r => rsH insC 4 52 r.2.1 r.2.2 (pushS (l.take r.1)) :: (q ++ F)) (fun r => l.length - r.1) (fun r hi_ ihr => ?_) (0, none, 0) (Nat.zero_le _)) subA (Le.trans leA (Le.trans (Le.rsH_nil insC 4 52 _) leA))
            try dsimp only at hi_ ihr ⊢
            obtain hr := hi_
            obtain ⟨i, a1, c1⟩ := r; dsimp only at *
            refine xx 8 ?_
            refine X.part 38 rfl (fun h1 => ?_) (fun h1 => ?_)
            · skip
              replace h1 := sp h1; have hi1 : i < l.length := by omega
              refine X.adr (hs.le leA) (by simp; omega) (fun ba oa e1 => ?_)
              have hs1 := hs; rw [e1] at hs1
              refine xo 8 ?_
              refine XO.know 42 (.slice (some ⟨ba, oa, none⟩) l.length c) rfl (by rw [e1]) ?_
              refine oo 1 ?_
              refine XO.ld Tryz.isAgg2 ?_ (hc := (Cl.e1 hs1 leA hi1 rfl))
              refine oo 1 ?_
              refine XO.ef (Ef.buildSlice (us := ([⟨1, 0, 0, l[i]⟩] : List Ins).map fun x => .agg (insC x).toArray) (cells := ([⟨1, 0, 0, l[i]⟩] : List Ins).flatMap insC) Tryz.underlying44 Tryz.info52 rfl rfl rfl (by kernel_rfl) rfl) ?_
              rintro _ _ ⟨gb, rfl, rfl⟩
              refine XO.le (q' := rsH insC 4 52 (some ⟨gb, 0, none⟩) 1 ([⟨1, 0, 0, l[i]⟩]) :: _) (Le.trans fndA (Le.rs_of_sl insC 4 52 (some ⟨gb, 0, none⟩) 1 ([⟨1, 0, 0, l[i]⟩] : List Ins) _)) ?_
              refine XO.ef (Ef.appRA (f := insC) (l := pushS (l.take i)) (m := [⟨1, 0, 0, l[i]⟩]) Tryz.underlying44 Tryz.info52 rfl rfl (fun _ => rfl) rfl rfl fndA ((Sees.rsH _).le fndA) (fun _ => rfl) (by simp [pushS]; omega) (by simp [pushS]; omega)) ?_
              rintro _ _ ⟨a2, c2, rfl, rfl⟩
              have hpp : pushS (l.take i) ++ [⟨1, 0, 0, l[i]⟩] = pushS (l.take (i + 1)) := by unfold pushS; rw [List.take_succ_eq_append_getElem hi1, List.map_append]; rfl
              rw [hpp]
              refine ox 8 ?_
              refine X.sb [9, 8, 7, 0, 1, 2, 6] ?_
              refine X.at (ihr (i + 1, a2, c2) (by dsimp only; omega) (by dsimp only; omega)) subA leA
            · skip
              replace h1 := sp h1; obtain rfl : i = l.length := by omega
              rw [List.take_length] at *; clear ihr
              have hpl : (pushS l).length = l.length := by simp [pushS]
              refine xo 11 ?_
              refine XO.ef (Ef.buildSlice (us := ([⟨1, 0, 0, u⟩, ⟨1, 0, 0, z⟩, ⟨(s : Int), 0, 0, 0⟩] : List Ins).map fun x => .agg (insC x).toArray) (cells := ([⟨1, 0, 0, u⟩, ⟨1, 0, 0, z⟩, ⟨(s : Int), 0, 0, 0⟩] : List Ins).flatMap insC) Tryz.underlying44 Tryz.info52 rfl rfl rfl (by kernel_rfl) rfl) ?_
              rintro _ _ ⟨gc3, rfl, rfl⟩
              refine XO.le (q' := rsH insC 4 52 (some ⟨gc3, 0, none⟩) 3 ([⟨1, 0, 0, u⟩, ⟨1, 0, 0, z⟩, ⟨(s : Int), 0, 0, 0⟩]) :: _) (Le.trans fndA (Le.rs_of_sl insC 4 52 (some ⟨gc3, 0, none⟩) 3 ([⟨1, 0, 0, u⟩, ⟨1, 0, 0, z⟩, ⟨(s : Int), 0, 0, 0⟩] : List Ins) _)) ?_
              refine XO.ef (Ef.appRA (f := insC) (l := pushS l) (m := [⟨1, 0, 0, u⟩, ⟨1, 0, 0, z⟩, ⟨(s : Int), 0, 0, 0⟩]) Tryz.underlying44 Tryz.info52 rfl rfl (fun _ => rfl) rfl rfl fndA ((Sees.rsH _).le fndA) (fun _ => rfl) (by simp [pushS]; omega) (by simp [pushS]; omega)) ?_
              rintro _ _ ⟨a3, c3, rfl, rfl⟩
              have hbl : (pushS l ++ ([⟨1, 0, 0, u⟩, ⟨1, 0, 0, z⟩, ⟨(s : Int), 0, 0, 0⟩] : List Ins) : List Ins).length = l.length + 3 := by simp [pushS]
              refine oo 8 ?_
              refine XO.sb [60, 8, 7, 0, 1, 2, 6] ?_
              apply XO.cutAnd 3 63 60 rfl
              · skip
                intro g1 M1; have y1 := sp g1
                refine oo 3 ?_
                exact XO.fin M1 ⟨andT g1, subB⟩
              · skip
                intro g1 M1; have y1 := sp g1
                refine oo 3 ?_
                exact XO.fin M1 ⟨andF g1, subB⟩
              · skip
                refine ox 1 ?_
                refine X.sb [63, 8, 7, 0, 1, 2, 6] ?_
                refine X.know 63 (.bool true) rfl (congrArg Value.bool (by first | exact decide_eq_true (by omega) | exact decide_eq_false (by omega) | (rw [beq_iff_eq]; omega) | (rw [beq_eq_false_iff_ne]; omega) | (simp; omega))) ?_
                refine xo 8 ?_
                refine XO.rsadr (l := pushS l ++ ([⟨1, 0, 0, u⟩, ⟨1, 0, 0, z⟩, ⟨(s : Int), 0, 0, 0⟩] : List Ins)) (a := a3) (by omega) (fun g3 e_ => ?_); subst e_
                refine oo 2 ?_
                refine XO.ef0 (Ef.setR (f := insC) (l := pushS l ++ ([⟨1, 0, 0, u⟩, ⟨1, 0, 0, z⟩, ⟨(s : Int), 0, 0, 0⟩] : List Ins)) (u := ⟨(s : Int), ((pushS l ++ ([⟨1, 0, 0, u⟩, ⟨1, 0, 0, z⟩, ⟨(s : Int), 0, 0, 0⟩] : List Ins)).length : Int), 0, 0⟩) (n := l.length + 2) (k := 1) rfl rfl Tryz.sizeOf3 (fun _ => rfl) (by omega) (by omega) rfl (by rw [List.getElem_append_right (by omega)]; simp [hpl, insC]) rfl rfl fndA) ?_
                rintro _ _ ⟨rfl, rfl⟩
                refine oo 21 ?_
                refine XO.sb [80, 11, 10, 8, 7, 0, 1, 2, 6] ?_
                apply XO.cutAnd 3 83 80 rfl
                · skip
                  intro g1 M1; have y1 := sp g1
                  refine oo 3 ?_
                  exact XO.fin M1 ⟨andT g1, subB⟩
                · skip
                  intro g1 M1; have y1 := sp g1
                  refine oo 3 ?_
                  exact XO.fin M1 ⟨andF g1, subB⟩
                · skip
                  refine oo 1 ?_
                  refine XO.sb [84, 11, 10, 8, 7, 0, 1, 2, 6] ?_
                  apply XO.cutOr 3 87 84 rfl
                  · skip
                    intro g1 M1; have y1 := sp g1
                    refine oo 3 ?_
                    exact XO.fin M1 ⟨orF g1, subB⟩
                  · skip
                    intro g1 M1; have y1 := sp g1
                    refine oo 3 ?_
                    exact XO.fin M1 ⟨orT g1, subB⟩
                  · skip
                    refine oo 1 ?_
                    refine XO.sb [88, 11, 10, 8, 7, 0, 1, 2, 6] ?_
                    apply XO.cutOr 3 91 88 rfl
                    · skip
                      intro g1 M1; have y1 := sp g1
                      refine oo 3 ?_
                      exact XO.fin M1 ⟨orF g1, subB⟩
                    · skip
                      intro g1 M1; have y1 := sp g1
                      refine oo 3 ?_
                      exact XO.fin M1 ⟨orT g1, subB⟩
                    · skip
                      refine ox 1 ?_
                      refine X.sb [91, 11, 10, 8, 7, 0, 1, 2, 6] ?_
                      refine X.know 91 (.bool false) rfl (congrArg Value.bool (by first | exact decide_eq_true (by omega) | exact decide_eq_false (by omega) | (rw [beq_iff_eq]; omega) | (rw [beq_eq_false_iff_ne]; omega) | (simp; omega))) ?_
                      refine xx 8 ?_
                      obtain ⟨B, hB⟩ : ∃ B, B = (pushS l ++ ([⟨1, 0, 0, u⟩, ⟨1, 0, 0, z⟩, ⟨(s : Int), 0, 0, 0⟩] : List Ins)).set (l.length + 2) ⟨(s : Int), ((pushS l ++ ([⟨1, 0, 0, u⟩, ⟨1, 0, 0, z⟩, ⟨(s : Int), 0, 0, 0⟩] : List Ins)).length : Int), 0, 0⟩ := ⟨_, rfl⟩
                      have hBl : B.length = l.length + 3 := by rw [hB]; rw [List.length_set, hbl]
                      refine X.know 8 (.slice (some ⟨g3, 0, none⟩) B.length c3) rfl (by rw [hB]; rw [List.length_set]) ?_
                      refine X.le (q' := rsH insC 4 52 (some ⟨g3, 0, none⟩) c3 (B) :: _) (by rw [hB]; exact fndA) ?_
                      refine X.know 10 (.int .i64 ((l.length + 2 : Nat) : Int)) rfl (congrArg (Value.int .i64) (by omega)) ?_
                      refine X.know 11 (.int .i64 ((l.length + 2 : Nat) : Int)) rfl (congrArg (Value.int .i64) (by omega)) ?_
                      clear hB
                      refine X.at (X.loop (fun (r : Nat × Option Addr × Nat) => r.1 ≤ l.length + 2) (fun r => [(8, .slice r.2.1 (B ++ List.replicate r.1 (⟨33, 0, 0, 0⟩ : Ins)).length r.2.2), (12, .int .i64 (r.1 : Int)), (11, .int .i64 ((l.length + 2 : Nat) : Int)), (10, .int .i64 ((l.length + 2 : Nat) : Int)), (7, .int .i64 (s : Int)), (0, .int .i64 u), (1, .int .i64 z), (2, .slice a l.length c), (6, .bool false)]) (fun r => rsH insC 4 52 r.2.1 r.2.2 (B ++ List.replicate r.1 (⟨33, 0, 0, 0⟩ : Ins)) :: (q ++ F)) (fun r => l.length + 2 - r.1) (fun r hi_ ihr => ?_) (0, (some ⟨g3, 0, none⟩), c3) (Nat.zero_le _)) subA (by simp only [List.replicate_zero, List.append_nil]; exact leA)
                      try dsimp only at hi_ ihr ⊢
                      obtain hr := hi_
                      obtain ⟨j, a4, c4⟩ := r; dsimp only at *
                      refine xx 7 ?_
                      refine X.part 96 rfl (fun h2 => ?_) (fun h2 => ?_)
                      · skip
                        replace h2 := sp h2
                        refine xo 7 ?_
                        refine XO.ef (Ef.buildSlice (us := ([⟨33, 0, 0, 0⟩] : List Ins).map fun x => .agg (insC x).toArray) (cells := ([⟨33, 0, 0, 0⟩] : List Ins).flatMap insC) Tryz.underlying44 Tryz.info52 rfl rfl rfl (by kernel_rfl) rfl) ?_
                        rintro _ _ ⟨gd, rfl, rfl⟩
                        refine XO.le (q' := rsH insC 4 52 (some ⟨gd, 0, none⟩) 1 ([⟨33, 0, 0, 0⟩]) :: _) (Le.trans fndA (Le.rs_of_sl insC 4 52 (some ⟨gd, 0, none⟩) 1 ([⟨33, 0, 0, 0⟩] : List Ins) _)) ?_
                        refine XO.ef (Ef.appRA (f := insC) (l := B ++ List.replicate j (⟨33, 0, 0, 0⟩ : Ins)) (m := [(⟨33, 0, 0, 0⟩ : Ins)]) Tryz.underlying44 Tryz.info52 rfl rfl (fun _ => rfl) rfl rfl fndA ((Sees.rsH _).le fndA) (fun _ => rfl) (by simp; omega) (by simp; omega)) ?_
                        rintro _ _ ⟨a5, c5, rfl, rfl⟩
                        have hpp : B ++ List.replicate j (⟨33, 0, 0, 0⟩ : Ins) ++ [(⟨33, 0, 0, 0⟩ : Ins)] = B ++ List.replicate (j + 1) (⟨33, 0, 0, 0⟩ : Ins) := by rw [List.replicate_succ', List.append_assoc]
                        rw [hpp]
                        refine ox 8 ?_
                        refine X.at (ihr (j + 1, a5, c5) (by dsimp only; omega) (by dsimp only; omega)) subA leA
                      · skip
                        replace h2 := sp h2; obtain rfl : j = l.length + 2 := by omega
                        clear ihr
                        refine xo 6 ?_
                        refine XO.ef (Ef.buildSlice (us := ([⟨34, 0, 0, 0⟩] : List Ins).map fun x => .agg (insC x).toArray) (cells := ([⟨34, 0, 0, 0⟩] : List Ins).flatMap insC) Tryz.underlying44 Tryz.info52 rfl rfl rfl (by kernel_rfl) rfl) ?_
                        rintro _ _ ⟨ge, rfl, rfl⟩
                        refine XO.le (q' := rsH insC 4 52 (some ⟨ge, 0, none⟩) 1 ([⟨34, 0, 0, 0⟩]) :: _) (Le.trans fndA (Le.rs_of_sl insC 4 52 (some ⟨ge, 0, none⟩) 1 ([⟨34, 0, 0, 0⟩] : List Ins) _)) ?_
                        refine XO.ef (Ef.appRA (f := insC) (l := B ++ List.replicate (l.length + 2) (⟨33, 0, 0, 0⟩ : Ins)) (m := [⟨34, 0, 0, 0⟩]) Tryz.underlying44 Tryz.info52 rfl rfl (fun _ => rfl) rfl rfl fndA ((Sees.rsH _).le fndA) (fun _ => rfl) (by simp; omega) (by simp; omega)) ?_
                        rintro _ _ ⟨a6, c6, rfl, rfl⟩
                        obtain ⟨XS, hXS⟩ : ∃ XS, XS = B ++ List.replicate (l.length + 2) (⟨33, 0, 0, 0⟩ : Ins) ++ [⟨34, 0, 0, 0⟩] := ⟨_, rfl⟩
                        rw [← hXS]
                        have hXl : XS.length ≤ 1000 := by rw [hXS]; simp; omega
                        clear hXS
                        refine XO.cF Tryz.call17 (code_ok (xs := XS) (a := a6) (c := c6) hXl) ?_
                        rintro _ _ ⟨ga, gb, rfl, rfl⟩ _ e_; simp only [ca, na] at e_; subst e_
                        refine XO.ef (Ef.alloc Tryz.zeroValue26) ?_
                        rintro _ _ ⟨n3, rfl, rfl⟩
                        refine XO.ef0 (Ef.stA Tryz.sizeOf26) ?_
                        rintro _ _ ⟨rfl, rfl⟩
                        refine oo 5 ?_
                        refine XO.le (q' := lsH I64 2 none 0 [] :: _) (Le.lsH_nil _ _ _) ?_
                        refine XO.ef (Ef.appA (f := I64) (l := []) (m := l) Tryz.underlying22 Tryz.info2 rfl rfl rfl fndA (hs.le leA) (fun _ => rfl) (by simp; omega) (by simp; omega)) ?_
                        rintro _ _ ⟨a7, c7, rfl, rfl⟩
                        rw [List.nil_append]
                        refine oo 2 ?_
                        refine XO.ef (Ef.litL I64 [u, z] Tryz.underlying22 Tryz.info2 rfl rfl rfl rfl rfl rfl (fun _ => rfl)) ?_
                        rintro _ _ ⟨gf, rfl, rfl⟩
                        refine XO.ef (Ef.appA (f := I64) (l := l) (m := [u, z]) Tryz.underlying22 Tryz.info2 rfl rfl rfl fndA ((Sees.lsH _).le fndA) (fun _ => rfl) (by simp; omega) (by simp; omega)) ?_
                        rintro _ _ ⟨a8, c8, rfl, rfl⟩
                        refine oo 1 ?_
                        refine XO.ef (Ef.alloc Tryz.zeroValue28) ?_
                        rintro _ _ ⟨n4, rfl, rfl⟩
                        refine XO.ef0 (Ef.stA Tryz.sizeOf28) ?_
                        rintro _ _ ⟨rfl, rfl⟩
                        refine oo 3 ?_
                        refine XO.ldA Tryz.isAgg26 Tryz.sizeOf26 ?_
                        refine XO.ldA Tryz.isAgg28 Tryz.sizeOf28 ?_
                        refine XO.lscap (fl := I64) (l := l ++ [u, z]) (fun hcap => ?_)
                        refine XO.cR Tryz.call11 (does_ok (m := (modk XS a6 c6 ga gb)) (f := ⟨0, ((l.length + 2 : Nat) : Int), [], l ++ [u, z], none, 0, a8, c8⟩) (cells := []) (cda := none) (cc := 0) (gc.le leA) (g.le leA) (modk_q (xs := XS) (a := a6) (c := c6) (g0 := ga) (g1 := gb) ((Sees.rsH _).le fndA) hXl fndA fndA) ⟨Sees.nil _ _, (Sees.lsH _).le fndA, Nat.zero_le _, (by simp; omega)⟩ (Sees.nil _ _) hcap ⟨Nat.zero_le _, (by simp; omega), Nat.zero_le _⟩) ?_
                        refine XO.pu (Pu.not rfl) ?_
                        refine ox 1 ?_
                        refine X.sb [119, 7, 0, 1, 2, 6] ?_
                        refine X.know 119 (.bool false) rfl knw ?_
                        refine xx 8 ?_
                        refine X.at (ihk (s + 1) ⟨by omega, by omega⟩ (by omega)) subA leA
          · skip
            refine xx 14 ?_
            refine X.at (X.loop (fun (r : Nat × Option Addr × Nat) => r.1 ≤ l.length) (fun r => [(8, .slice r.2.1 (pushS (l.take r.1)).length r.2.2), (9, .int .i64 (r.1 : Int)), (7, .int .i64 (s : Int)), (0, .int .i64 u), (1, .int .i64 z), (2, .slice a l.length c), (6, .bool false)]) (fun r => rsH insC 4 52 r.2.1 r.2.2 (pushS (l.take r.1)) :: (q ++ F)) (fun r => l.length - r.1) (fun r hi_ ihr => ?_) (0, none, 0) (Nat.zero_le _)) subA (Le.trans leA (Le.trans (Le.rsH_nil insC 4 52 _) leA))
            try dsimp only at hi_ ihr ⊢
            obtain hr := hi_
            obtain ⟨i, a1, c1⟩ := r; dsimp only at *
            refine xx 8 ?_
            refine X.part 38 rfl (fun h1 => ?_) (fun h1 => ?_)
            · skip
              replace h1 := sp h1; have hi1 : i < l.length := by omega
              refine X.adr (hs.le leA) (by simp; omega) (fun ba oa e1 => ?_)
              have hs1 := hs; rw [e1] at hs1
              refine xo 8 ?_
              refine XO.know 42 (.slice (some ⟨ba, oa, none⟩) l.length c) rfl (by rw [e1]) ?_
              refine oo 1 ?_
              refine XO.ld Tryz.isAgg2 ?_ (hc := (Cl.e1 hs1 leA hi1 rfl))
              refine oo 1 ?_
              refine XO.ef (Ef.buildSlice (us := ([⟨1, 0, 0, l[i]⟩] : List Ins).map fun x => .agg (insC x).toArray) (cells := ([⟨1, 0, 0, l[i]⟩] : List Ins).flatMap insC) Tryz.underlying44 Tryz.info52 rfl rfl rfl (by kernel_rfl) rfl) ?_
              rintro _ _ ⟨gb, rfl, rfl⟩
              refine XO.le (q' := rsH insC 4 52 (some ⟨gb, 0, none⟩) 1 ([⟨1, 0, 0, l[i]⟩]) :: _) (Le.trans fndA (Le.rs_of_sl insC 4 52 (some ⟨gb, 0, none⟩) 1 ([⟨1, 0, 0, l[i]⟩] : List Ins) _)) ?_
              refine XO.ef (Ef.appRA (f := insC) (l := pushS (l.take i)) (m := [⟨1, 0, 0, l[i]⟩]) Tryz.underlying44 Tryz.info52 rfl rfl (fun _ => rfl) rfl rfl fndA ((Sees.rsH _).le fndA) (fun _ => rfl) (by simp [pushS]; omega) (by simp [pushS]; omega)) ?_
              rintro _ _ ⟨a2, c2, rfl, rfl⟩
              have hpp : pushS (l.take i) ++ [⟨1, 0, 0, l[i]⟩] = pushS (l.take (i + 1)) := by unfold pushS; rw [List.take_succ_eq_append_getElem hi1, List.map_append]; rfl
              rw [hpp]
              refine ox 8 ?_
              refine X.sb [9, 8, 7, 0, 1, 2, 6] ?_
              refine X.at (ihr (i + 1, a2, c2) (by dsimp only; omega) (by dsimp only; omega)) subA leA
            · skip
              replace h1 := sp h1; obtain rfl : i = l.length := by omega
              rw [List.take_length] at *; clear ihr
              have hpl : (pushS l).length = l.length := by simp [pushS]
              refine xo 11 ?_
              refine XO.ef (Ef.buildSlice (us := ([⟨1, 0, 0, u⟩, ⟨1, 0, 0, z⟩, ⟨(s : Int), 0, 0, 0⟩] : List Ins).map fun x => .agg (insC x).toArray) (cells := ([⟨1, 0, 0, u⟩, ⟨1, 0, 0, z⟩, ⟨(s : Int), 0, 0, 0⟩] : List Ins).flatMap insC) Tryz.underlying44 Tryz.info52 rfl rfl rfl (by kernel_rfl) rfl) ?_
              rintro _ _ ⟨gc3, rfl, rfl⟩
              refine XO.le (q' := rsH insC 4 52 (some ⟨gc3, 0, none⟩) 3 ([⟨1, 0, 0, u⟩, ⟨1, 0, 0, z⟩, ⟨(s : Int), 0, 0, 0⟩]) :: _) (Le.trans fndA (Le.rs_of_sl insC 4 52 (some ⟨gc3, 0, none⟩) 3 ([⟨1, 0, 0, u⟩, ⟨1, 0, 0, z⟩, ⟨(s : Int), 0, 0, 0⟩] : List Ins) _)) ?_
              refine XO.ef (Ef.appRA (f := insC) (l := pushS l) (m := [⟨1, 0, 0, u⟩, ⟨1, 0, 0, z⟩, ⟨(s : Int), 0, 0, 0⟩]) Tryz.underlying44 Tryz.info52 rfl rfl (fun _ => rfl) rfl rfl fndA ((Sees.rsH _).le fndA) (fun _ => rfl) (by simp [pushS]; omega) (by simp [pushS]; omega)) ?_
              rintro _ _ ⟨a3, c3, rfl, rfl⟩
              have hbl : (pushS l ++ ([⟨1, 0, 0, u⟩, ⟨1, 0, 0, z⟩, ⟨(s : Int), 0, 0, 0⟩] : List Ins) : List Ins).length = l.length + 3 := by simp [pushS]
              refine oo 8 ?_
              refine XO.sb [60, 8, 7, 0, 1, 2, 6] ?_
              apply XO.cutAnd 3 63 60 rfl
              · skip
                intro g1 M1; have y1 := sp g1
                refine oo 3 ?_
                exact XO.fin M1 ⟨andT g1, subB⟩
              · skip
                intro g1 M1; have y1 := sp g1
                refine oo 3 ?_
                exact XO.fin M1 ⟨andF g1, subB⟩
              · skip
                refine ox 1 ?_
                refine X.sb [63, 8, 7, 0, 1, 2, 6] ?_
                refine X.know 63 (.bool true) rfl (congrArg Value.bool (by first | exact decide_eq_true (by omega) | exact decide_eq_false (by omega) | (rw [beq_iff_eq]; omega) | (rw [beq_eq_false_iff_ne]; omega) | (simp; omega))) ?_
                refine xo 8 ?_
                refine XO.rsadr (l := pushS l ++ ([⟨1, 0, 0, u⟩, ⟨1, 0, 0, z⟩, ⟨(s : Int), 0, 0, 0⟩] : List Ins)) (a := a3) (by omega) (fun g3 e_ => ?_); subst e_
                refine oo 2 ?_
                refine XO.ef0 (Ef.setR (f := insC) (l := pushS l ++ ([⟨1, 0, 0, u⟩, ⟨1, 0, 0, z⟩, ⟨(s : Int), 0, 0, 0⟩] : List Ins)) (u := ⟨(s : Int), ((pushS l ++ ([⟨1, 0, 0, u⟩, ⟨1, 0, 0, z⟩, ⟨(s : Int), 0, 0, 0⟩] : List Ins)).length : Int), 0, 0⟩) (n := l.length + 2) (k := 1) rfl rfl Tryz.sizeOf3 (fun _ => rfl) (by omega) (by omega) rfl (by rw [List.getElem_append_right (by omega)]; simp [hpl, insC]) rfl rfl fndA) ?_
                rintro _ _ ⟨rfl, rfl⟩
                refine oo 21 ?_
                refine XO.sb [80, 11, 10, 8, 7, 0, 1, 2, 6] ?_
                apply XO.cutAnd 3 83 80 rfl
                · skip
                  intro g1 M1; have y1 := sp g1
                  refine oo 3 ?_
                  exact XO.fin M1 ⟨andT g1, subB⟩
                · skip
                  intro g1 M1; have y1 := sp g1
                  refine oo 3 ?_
                  exact XO.fin M1 ⟨andF g1, subB⟩
                · skip
                  refine oo 1 ?_
                  refine XO.sb [84, 11, 10, 8, 7, 0, 1, 2, 6] ?_
                  apply XO.cutOr 3 87 84 rfl
                  · skip
                    intro g1 M1; have y1 := sp g1
                    refine oo 3 ?_
                    exact XO.fin M1 ⟨orF g1, subB⟩
                  · skip
                    intro g1 M1; have y1 := sp g1
                    refine oo 3 ?_
                    exact XO.fin M1 ⟨orT g1, subB⟩
                  · skip
                    refine oo 1 ?_
                    refine XO.sb [88, 11, 10, 8, 7, 0, 1, 2, 6] ?_
                    apply XO.cutOr 3 91 88 rfl
                    · skip
                      intro g1 M1; have y1 := sp g1
                      refine oo 3 ?_
                      exact XO.fin M1 ⟨orF g1, subB⟩
                    · skip
                      intro g1 M1; have y1 := sp g1
                      refine oo 3 ?_
                      exact XO.fin M1 ⟨orT g1, subB⟩
                    · skip
                      refine ox 1 ?_
                      refine X.sb [91, 11, 10, 8, 7, 0, 1, 2, 6] ?_
                      refine X.know 91 (.bool true) rfl (congrArg Value.bool (by first | exact decide_eq_true (by omega) | exact decide_eq_false (by omega) | (rw [beq_iff_eq]; omega) | (rw [beq_eq_false_iff_ne]; omega) | (simp; omega))) ?_
                      refine xx 12 ?_
                      obtain ⟨B, hB⟩ : ∃ B, B = (pushS l ++ ([⟨1, 0, 0, u⟩, ⟨1, 0, 0, z⟩, ⟨(s : Int), 0, 0, 0⟩] : List Ins)).set (l.length + 2) ⟨(s : Int), ((pushS l ++ ([⟨1, 0, 0, u⟩, ⟨1, 0, 0, z⟩, ⟨(s : Int), 0, 0, 0⟩] : List Ins)).length : Int), 0, 0⟩ := ⟨_, rfl⟩
                      have hBl : B.length = l.length + 3 := by rw [hB]; rw [List.length_set, hbl]
                      refine X.know 8 (.slice (some ⟨g3, 0, none⟩) B.length c3) rfl (by rw [hB]; rw [List.length_set]) ?_
                      refine X.le (q' := rsH insC 4 52 (some ⟨g3, 0, none⟩) c3 (B) :: _) (by rw [hB]; exact fndA) ?_
                      refine X.know 10 (.int .i64 ((l.length + 2 : Nat) : Int)) rfl (congrArg (Value.int .i64) (by omega)) ?_
                      refine X.know 11 (.int .i64 ((l.length + 1 : Nat) : Int)) rfl (congrArg (Value.int .i64) (by omega)) ?_
                      clear hB
                      refine X.at (X.loop (fun (r : Nat × Option Addr × Nat) => r.1 ≤ l.length + 1) (fun r => [(8, .slice r.2.1 (B ++ List.replicate r.1 (⟨33, 0, 0, 0⟩ : Ins)).length r.2.2), (12, .int .i64 (r.1 : Int)), (11, .int .i64 ((l.length + 1 : Nat) : Int)), (10, .int .i64 ((l.length + 2 : Nat) : Int)), (7, .int .i64 (s : Int)), (0, .int .i64 u), (1, .int .i64 z), (2, .slice a l.length c), (6, .bool false)]) (fun r => rsH insC 4 52 r.2.1 r.2.2 (B ++ List.replicate r.1 (⟨33, 0, 0, 0⟩ : Ins)) :: (q ++ F)) (fun r => l.length + 1 - r.1) (fun r hi_ ihr => ?_) (0, (some ⟨g3, 0, none⟩), c3) (Nat.zero_le _)) subA (by simp only [List.replicate_zero, List.append_nil]; exact leA)
                      try dsimp only at hi_ ihr ⊢
                      obtain hr := hi_
                      obtain ⟨j, a4, c4⟩ := r; dsimp only at *
                      refine xx 7 ?_
                      refine X.part 96 rfl (fun h2 => ?_) (fun h2 => ?_)
                      · skip
                        replace h2 := sp h2
                        refine xo 7 ?_
                        refine XO.ef (Ef.buildSlice (us := ([⟨33, 0, 0, 0⟩] : List Ins).map fun x => .agg (insC x).toArray) (cells := ([⟨33, 0, 0, 0⟩] : List Ins).flatMap insC) Tryz.underlying44 Tryz.info52 rfl rfl rfl (by kernel_rfl) rfl) ?_
                        rintro _ _ ⟨gd, rfl, rfl⟩
                        refine XO.le (q' := rsH insC 4 52 (some ⟨gd, 0, none⟩) 1 ([⟨33, 0, 0, 0⟩]) :: _) (Le.trans fndA (Le.rs_of_sl insC 4 52 (some ⟨gd, 0, none⟩) 1 ([⟨33, 0, 0, 0⟩] : List Ins) _)) ?_
                        refine XO.ef (Ef.appRA (f := insC) (l := B ++ List.replicate j (⟨33, 0, 0, 0⟩ : Ins)) (m := [(⟨33, 0, 0, 0⟩ : Ins)]) Tryz.underlying44 Tryz.info52 rfl rfl (fun _ => rfl) rfl rfl fndA ((Sees.rsH _).le fndA) (fun _ => rfl) (by simp; omega) (by simp; omega)) ?_
                        rintro _ _ ⟨a5, c5, rfl, rfl⟩
                        have hpp : B ++ List.replicate j (⟨33, 0, 0, 0⟩ : Ins) ++ [(⟨33, 0, 0, 0⟩ : Ins)] = B ++ List.replicate (j + 1) (⟨33, 0, 0, 0⟩ : Ins) := by rw [List.replicate_succ', List.append_assoc]
                        rw [hpp]
                        refine ox 8 ?_
                        refine X.at (ihr (j + 1, a5, c5) (by dsimp only; omega) (by dsimp only; omega)) subA leA
                      · skip
                        replace h2 := sp h2; obtain rfl : j = l.length + 1 := by omega
                        clear ihr
                        refine xo 6 ?_
                        refine XO.ef (Ef.buildSlice (us := ([⟨34, 0, 0, 0⟩] : List Ins).map fun x => .agg (insC x).toArray) (cells := ([⟨34, 0, 0, 0⟩] : List Ins).flatMap insC) Tryz.underlying44 Tryz.info52 rfl rfl rfl (by kernel_rfl) rfl) ?_
                        rintro _ _ ⟨ge, rfl, rfl⟩
                        refine XO.le (q' := rsH insC 4 52 (some ⟨ge, 0, none⟩) 1 ([⟨34, 0, 0, 0⟩]) :: _) (Le.trans fndA (Le.rs_of_sl insC 4 52 (some ⟨ge, 0, none⟩) 1 ([⟨34, 0, 0, 0⟩] : List Ins) _)) ?_
                        refine XO.ef (Ef.appRA (f := insC) (l := B ++ List.replicate (l.length + 1) (⟨33, 0, 0, 0⟩ : Ins)) (m := [⟨34, 0, 0, 0⟩]) Tryz.underlying44 Tryz.info52 rfl rfl (fun _ => rfl) rfl rfl fndA ((Sees.rsH _).le fndA) (fun _ => rfl) (by simp; omega) (by simp; omega)) ?_
                        rintro _ _ ⟨a6, c6, rfl, rfl⟩
                        obtain ⟨XS, hXS⟩ : ∃ XS, XS = B ++ List.replicate (l.length + 1) (⟨33, 0, 0, 0⟩ : Ins) ++ [⟨34, 0, 0, 0⟩] := ⟨_, rfl⟩
                        rw [← hXS]
                        have hXl : XS.length ≤ 1000 := by rw [hXS]; simp; omega
                        clear hXS
                        refine XO.cF Tryz.call17 (code_ok (xs := XS) (a := a6) (c := c6) hXl) ?_
                        rintro _ _ ⟨ga, gb, rfl, rfl⟩ _ e_; simp only [ca, na] at e_; subst e_
                        refine XO.ef (Ef.alloc Tryz.zeroValue26) ?_
                        rintro _ _ ⟨n5, rfl, rfl⟩
                        refine XO.ef0 (Ef.stA Tryz.sizeOf26) ?_
                        rintro _ _ ⟨rfl, rfl⟩
                        refine oo 5 ?_
                        refine XO.le (q' := lsH I64 2 none 0 [] :: _) (Le.lsH_nil _ _ _) ?_
                        refine XO.ef (Ef.appA (f := I64) (l := []) (m := l) Tryz.underlying22 Tryz.info2 rfl rfl rfl fndA (hs.le leA) (fun _ => rfl) (by simp; omega) (by simp; omega)) ?_
                        rintro _ _ ⟨a7, c7, rfl, rfl⟩
                        rw [List.nil_append]
                        refine oo 2 ?_
                        refine XO.ef (Ef.litL I64 [u, z] Tryz.underlying22 Tryz.info2 rfl rfl rfl rfl rfl rfl (fun _ => rfl)) ?_
                        rintro _ _ ⟨gf, rfl, rfl⟩
                        refine XO.ef (Ef.appA (f := I64) (l := l) (m := [u, z]) Tryz.underlying22 Tryz.info2 rfl rfl rfl fndA ((Sees.lsH _).le fndA) (fun _ => rfl) (by simp; omega) (by simp; omega)) ?_
                        rintro _ _ ⟨a8, c8, rfl, rfl⟩
                        refine oo 1 ?_
                        refine XO.ef (Ef.alloc Tryz.zeroValue28) ?_
                        rintro _ _ ⟨n6, rfl, rfl⟩
                        refine XO.ef0 (Ef.stA Tryz.sizeOf28) ?_
                        rintro _ _ ⟨rfl, rfl⟩
                        refine oo 3 ?_
                        refine XO.ldA Tryz.isAgg26 Tryz.sizeOf26 ?_
                        refine XO.ldA Tryz.isAgg28 Tryz.sizeOf28 ?_
                        refine XO.lscap (fl := I64) (l := l ++ [u, z]) (fun hcap => ?_)
                        refine XO.cR Tryz.call11 (does_ok (m := (modk XS a6 c6 ga gb)) (f := ⟨0, ((l.length + 2 : Nat) : Int), [], l ++ [u, z], none, 0, a8, c8⟩) (cells := []) (cda := none) (cc := 0) (gc.le leA) (g.le leA) (modk_q (xs := XS) (a := a6) (c := c6) (g0 := ga) (g1 := gb) ((Sees.rsH _).le fndA) hXl fndA fndA) ⟨Sees.nil _ _, (Sees.lsH _).le fndA, Nat.zero_le _, (by simp; omega)⟩ (Sees.nil _ _) hcap ⟨Nat.zero_le _, (by simp; omega), Nat.zero_le _⟩) ?_
                        refine XO.pu (Pu.not rfl) ?_
                        refine ox 1 ?_
                        refine X.sb [119, 7, 0, 1, 2, 6] ?_
                        refine X.know 119 (.bool false) rfl knw ?_
                        refine xx 8 ?_
                        refine X.at (ihk (s + 1) ⟨by omega, by omega⟩ (by omega)) subA leA
          · skip
            refine xx 14 ?_
            refine X.at (X.loop (fun (r : Nat × Option Addr × Nat) => r.1 ≤ l.length) (fun r => [(8, .slice r.2.1 (pushS (l.take r.1)).length r.2.2), (9, .int .i64 (r.1 : Int)), (7, .int .i64 (s : Int)), (0, .int .i64 u), (1, .int .i64 z), (2, .slice a l.length c), (6, .bool false)]) (fun r => rsH insC 4 52 r.2.1 r.2.2 (pushS (l.take r.1)) :: (q ++ F)) (fun r => l.length - r.1) (fun r hi_ ihr => ?_) (0, none, 0) (Nat.zero_le _)) subA (Le.trans leA (Le.trans (Le.rsH_nil insC 4 52 _) leA))
            try dsimp only at hi_ ihr ⊢
            obtain hr := hi_
            obtain ⟨i, a1, c1⟩ := r; dsimp only at *
            refine xx 8 ?_
            refine X.part 38 rfl (fun h1 => ?_) (fun h1 => ?_)
            · skip
              replace h1 := sp h1; have hi1 : i < l.length := by omega
              refine X.adr (hs.le leA) (by simp; omega) (fun ba oa e1 => ?_)
              have hs1 := hs; rw [e1] at hs1
              refine xo 8 ?_
              refine XO.know 42 (.slice (some ⟨ba, oa, none⟩) l.length c) rfl (by rw [e1]) ?_
              refine oo 1 ?_
              refine XO.ld Tryz.isAgg2 ?_ (hc := (Cl.e1 hs1 leA hi1 rfl))
              refine oo 1 ?_
              refine XO.ef (Ef.buildSlice (us := ([⟨1, 0, 0, l[i]⟩] : List Ins).map fun x => .agg (insC x).toArray) (cells := ([⟨1, 0, 0, l[i]⟩] : List Ins).flatMap insC) Tryz.underlying44 Tryz.info52 rfl rfl rfl (by kernel_rfl) rfl) ?_
              rintro _ _ ⟨gb, rfl, rfl⟩
              refine XO.le (q' := rsH insC 4 52 (some ⟨gb, 0, none⟩) 1 ([⟨1, 0, 0, l[i]⟩]) :: _) (Le.trans fndA (Le.rs_of_sl insC 4 52 (some ⟨gb, 0, none⟩) 1 ([⟨1, 0, 0, l[i]⟩] : List Ins) _)) ?_
              refine XO.ef (Ef.appRA (f := insC) (l := pushS (l.take i)) (m := [⟨1, 0, 0, l[i]⟩]) Tryz.underlying44 Tryz.info52 rfl rfl (fun _ => rfl) rfl rfl fndA ((Sees.rsH _).le fndA) (fun _ => rfl) (by simp [pushS]; omega) (by simp [pushS]; omega)) ?_
              rintro _ _ ⟨a2, c2, rfl, rfl⟩
              have hpp : pushS (l.take i) ++ [⟨1, 0, 0, l[i]⟩] = pushS (l.take (i + 1)) := by unfold pushS; rw [List.take_succ_eq_append_getElem hi1, List.map_append]; rfl
              rw [hpp]
              refine ox 8 ?_
              refine X.sb [9, 8, 7, 0, 1, 2, 6] ?_
              refine X.at (ihr (i + 1, a2, c2) (by dsimp only; omega) (by dsimp only; omega)) subA leA
            · skip
              replace h1 := sp h1; obtain rfl : i = l.length := by omega
              rw [List.take_length] at *; clear ihr
              have hpl : (pushS l).length = l.length := by simp [pushS]
              refine xo 11 ?_
              refine XO.ef (Ef.buildSlice (us := ([⟨1, 0, 0, u⟩, ⟨1, 0, 0, z⟩, ⟨(s : Int), 0, 0, 0⟩] : List Ins).map fun x => .agg (insC x).toArray) (cells := ([⟨1, 0, 0, u⟩, ⟨1, 0, 0, z⟩, ⟨(s : Int), 0, 0, 0⟩] : List Ins).flatMap insC) Tryz.underlying44 Tryz.info52 rfl rfl rfl (by kernel_rfl) rfl) ?_
              rintro _ _ ⟨gc3, rfl, rfl⟩
              refine XO.le (q' := rsH insC 4 52 (some ⟨gc3, 0, none⟩) 3 ([⟨1, 0, 0, u⟩, ⟨1, 0, 0, z⟩, ⟨(s : Int), 0, 0, 0⟩]) :: _) (Le.trans fndA (Le.rs_of_sl insC 4 52 (some ⟨gc3, 0, none⟩) 3 ([⟨1, 0, 0, u⟩, ⟨1, 0, 0, z⟩, ⟨(s : Int), 0, 0, 0⟩] : List Ins) _)) ?_
              refine XO.ef (Ef.appRA (f := insC) (l := pushS l) (m := [⟨1, 0, 0, u⟩, ⟨1, 0, 0, z⟩, ⟨(s : Int), 0, 0, 0⟩]) Tryz.underlying44 Tryz.info52 rfl rfl (fun _ => rfl) rfl rfl fndA ((Sees.rsH _).le fndA) (fun _ => rfl) (by simp [pushS]; omega) (by simp [pushS]; omega)) ?_
              rintro _ _ ⟨a3, c3, rfl, rfl⟩
              have hbl : (pushS l ++ ([⟨1, 0, 0, u⟩, ⟨1, 0, 0, z⟩, ⟨(s : Int), 0, 0, 0⟩] : List Ins) : List Ins).length = l.length + 3 := by simp [pushS]
              refine oo 8 ?_
              refine XO.sb [60, 8, 7, 0, 1, 2, 6] ?_
              apply XO.cutAnd 3 63 60 rfl
              · skip
                intro g1 M1; have y1 := sp g1
                refine oo 3 ?_
                exact XO.fin M1 ⟨andT g1, subB⟩
              · skip
                intro g1 M1; have y1 := sp g1
                refine oo 3 ?_
                exact XO.fin M1 ⟨andF g1, subB⟩
              · skip
                refine ox 1 ?_
                refine X.sb [63, 8, 7, 0, 1, 2, 6] ?_
                refine X.know 63 (.bool false) rfl (congrArg Value.bool (by first | exact decide_eq_true (by omega) | exact decide_eq_false (by omega) | (rw [beq_iff_eq]; omega) | (rw [beq_eq_false_iff_ne]; omega) | (simp; omega))) ?_
                refine xo 22 ?_
                refine XO.sb [80, 11, 10, 8, 7, 0, 1, 2, 6] ?_
                apply XO.cutAnd 3 83 80 rfl
                · skip
                  intro g1 M1; have y1 := sp g1
                  refine oo 3 ?_
                  exact XO.fin M1 ⟨andT g1, subB⟩
                · skip
                  intro g1 M1; have y1 := sp g1
                  refine oo 3 ?_
                  exact XO.fin M1 ⟨andF g1, subB⟩
                · skip
                  refine oo 1 ?_
                  refine XO.sb [84, 11, 10, 8, 7, 0, 1, 2, 6] ?_
                  apply XO.cutOr 3 87 84 rfl
                  · skip
                    intro g1 M1; have y1 := sp g1
                    refine oo 3 ?_
                    exact XO.fin M1 ⟨orF g1, subB⟩
                  · skip
                    intro g1 M1; have y1 := sp g1
                    refine oo 3 ?_
                    exact XO.fin M1 ⟨orT g1, subB⟩
                  · skip
                    refine oo 1 ?_
                    refine XO.sb [88, 11, 10, 8, 7, 0, 1, 2, 6] ?_
                    apply XO.cutOr 3 91 88 rfl
                    · skip
                      intro g1 M1; have y1 := sp g1
                      refine oo 3 ?_
                      exact XO.fin M1 ⟨orF g1, subB⟩
                    · skip
                      intro g1 M1; have y1 := sp g1
                      refine oo 3 ?_
                      exact XO.fin M1 ⟨orT g1, subB⟩
                    · skip
                      refine ox 1 ?_
                      refine X.know 91 (.bool false) rfl (congrArg Value.bool (by first | exact decide_eq_true (by omega) | exact decide_eq_false (by omega) | (rw [beq_iff_eq]; omega) | (rw [beq_eq_false_iff_ne]; omega) | (simp; omega))) ?_
                      refine xx 8 ?_
                      obtain ⟨B, hB⟩ : ∃ B, B = (pushS l ++ ([⟨1, 0, 0, u⟩, ⟨1, 0, 0, z⟩, ⟨(s : Int), 0, 0, 0⟩] : List Ins)) := ⟨_, rfl⟩
                      have hBl : B.length = l.length + 3 := by rw [hB]; exact hbl
                      refine X.know 8 (.slice a3 B.length c3) rfl (by rw [hB]) ?_
                      refine X.le (q' := rsH insC 4 52 a3 c3 (B) :: _) (by rw [hB]; exact fndA) ?_
                      refine X.know 10 (.int .i64 ((l.length + 2 : Nat) : Int)) rfl (congrArg (Value.int .i64) (by omega)) ?_
                      refine X.know 11 (.int .i64 ((l.length + 2 : Nat) : Int)) rfl (congrArg (Value.int .i64) (by omega)) ?_
                      clear hB
                      refine X.at (X.loop (fun (r : Nat × Option Addr × Nat) => r.1 ≤ l.length + 2) (fun r => [(8, .slice r.2.1 (B ++ List.replicate r.1 (⟨33, 0, 0, 0⟩ : Ins)).length r.2.2), (12, .int .i64 (r.1 : Int)), (11, .int .i64 ((l.length + 2 : Nat) : Int)), (10, .int .i64 ((l.length + 2 : Nat) : Int)), (7, .int .i64 (s : Int)), (0, .int .i64 u), (1, .int .i64 z), (2, .slice a l.length c), (6, .bool false)]) (fun r => rsH insC 4 52 r.2.1 r.2.2 (B ++ List.replicate r.1 (⟨33, 0, 0, 0⟩ : Ins)) :: (q ++ F)) (fun r => l.length + 2 - r.1) (fun r hi_ ihr => ?_) (0, a3, c3) (Nat.zero_le _)) subA (by simp only [List.replicate_zero, List.append_nil]; exact leA)
                      try dsimp only at hi_ ihr ⊢
                      obtain hr := hi_
                      obtain ⟨j, a4, c4⟩ := r; dsimp only at *
                      refine xx 7 ?_
                      refine X.part 96 rfl (fun h2 => ?_) (fun h2 => ?_)
                      · skip
                        replace h2 := sp h2
                        refine xo 7 ?_
                        refine XO.ef (Ef.buildSlice (us := ([⟨33, 0, 0, 0⟩] : List Ins).map fun x => .agg (insC x).toArray) (cells := ([⟨33, 0, 0, 0⟩] : List Ins).flatMap insC) Tryz.underlying44 Tryz.info52 rfl rfl rfl (by kernel_rfl) rfl) ?_
                        rintro _ _ ⟨gd, rfl, rfl⟩
                        refine XO.le (q' := rsH insC 4 52 (some ⟨gd, 0, none⟩) 1 ([⟨33, 0, 0, 0⟩]) :: _) (Le.trans fndA (Le.rs_of_sl insC 4 52 (some ⟨gd, 0, none⟩) 1 ([⟨33, 0, 0, 0⟩] : List Ins) _)) ?_
                        refine XO.ef (Ef.appRA (f := insC) (l := B ++ List.replicate j (⟨33, 0, 0, 0⟩ : Ins)) (m := [(⟨33, 0, 0, 0⟩ : Ins)]) Tryz.underlying44 Tryz.info52 rfl rfl (fun _ => rfl) rfl rfl fndA ((Sees.rsH _).le fndA) (fun _ => rfl) (by simp; omega) (by simp; omega)) ?_
                        rintro _ _ ⟨a5, c5, rfl, rfl⟩
                        have hpp : B ++ List.replicate j (⟨33, 0, 0, 0⟩ : Ins) ++ [(⟨33, 0, 0, 0⟩ : Ins)] = B ++ List.replicate (j + 1) (⟨33, 0, 0, 0⟩ : Ins) := by rw [List.replicate_succ', List.append_assoc]
                        rw [hpp]
                        refine ox 8 ?_
                        refine X.at (ihr (j + 1, a5, c5) (by dsimp only; omega) (by dsimp only; omega)) subA leA
                      · skip
                        replace h2 := sp h2; obtain rfl : j = l.length + 2 := by omega
                        clear ihr
                        refine xo 6 ?_
                        refine XO.ef (Ef.buildSlice (us := ([⟨34, 0, 0, 0⟩] : List Ins).map fun x => .agg (insC x).toArray) (cells := ([⟨34, 0, 0, 0⟩] : List Ins).flatMap insC) Tryz.underlying44 Tryz.info52 rfl rfl rfl (by kernel_rfl) rfl) ?_
                        rintro _ _ ⟨ge, rfl, rfl⟩
                        refine XO.le (q' := rsH insC 4 52 (some ⟨ge, 0, none⟩) 1 ([⟨34, 0, 0, 0⟩]) :: _) (Le.trans fndA (Le.rs_of_sl insC 4 52 (some ⟨ge, 0, none⟩) 1 ([⟨34, 0, 0, 0⟩] : List Ins) _)) ?_
                        refine XO.ef (Ef.appRA (f := insC) (l := B ++ List.replicate (l.length + 2) (⟨33, 0, 0, 0⟩ : Ins)) (m := [⟨34, 0, 0, 0⟩]) Tryz.underlying44 Tryz.info52 rfl rfl (fun _ => rfl) rfl rfl fndA ((Sees.rsH _).le fndA) (fun _ => rfl) (by simp; omega) (by simp; omega)) ?_
                        rintro _ _ ⟨a6, c6, rfl, rfl⟩
                        obtain ⟨XS, hXS⟩ : ∃ XS, XS = B ++ List.replicate (l.length + 2) (⟨33, 0, 0, 0⟩ : Ins) ++ [⟨34, 0, 0, 0⟩] := ⟨_, rfl⟩
                        rw [← hXS]
                        have hXl : XS.length ≤ 1000 := by rw [hXS]; simp; omega
                        clear hXS
                        refine XO.cF Tryz.call17 (code_ok (xs := XS) (a := a6) (c := c6) hXl) ?_
                        rintro _ _ ⟨ga, gb, rfl, rfl⟩ _ e_; simp only [ca, na] at e_; subst e_
                        refine XO.ef (Ef.alloc Tryz.zeroValue26) ?_
                        rintro _ _ ⟨n7, rfl, rfl⟩
                        refine XO.ef0 (Ef.stA Tryz.sizeOf26) ?_
                        rintro _ _ ⟨rfl, rfl⟩
                        refine oo 5 ?_
                        refine XO.le (q' := lsH I64 2 none 0 [] :: _) (Le.lsH_nil _ _ _) ?_
                        refine XO.ef (Ef.appA (f := I64) (l := []) (m := l) Tryz.underlying22 Tryz.info2 rfl rfl rfl fndA (hs.le leA) (fun _ => rfl) (by simp; omega) (by simp; omega)) ?_
                        rintro _ _ ⟨a7, c7, rfl, rfl⟩
                        rw [List.nil_append]
                        refine oo 2 ?_
                        refine XO.ef (Ef.litL I64 [u, z] Tryz.underlying22 Tryz.info2 rfl rfl rfl rfl rfl rfl (fun _ => rfl)) ?_
                        rintro _ _ ⟨gf, rfl, rfl⟩
                        refine XO.ef (Ef.appA (f := I64) (l := l) (m := [u, z]) Tryz.underlying22 Tryz.info2 rfl rfl rfl fndA ((Sees.lsH _).le fndA) (fun _ => rfl) (by simp; omega) (by simp; omega)) ?_
                        rintro _ _ ⟨a8, c8, rfl, rfl⟩
                        refine oo 1 ?_
                        refine XO.ef (Ef.alloc Tryz.zeroValue28) ?_
                        rintro _ _ ⟨n8, rfl, rfl⟩
                        refine XO.ef0 (Ef.stA Tryz.sizeOf28) ?_
                        rintro _ _ ⟨rfl, rfl⟩
                        refine oo 3 ?_
                        refine XO.ldA Tryz.isAgg26 Tryz.sizeOf26 ?_
                        refine XO.ldA Tryz.isAgg28 Tryz.sizeOf28 ?_
                        refine XO.lscap (fl := I64) (l := l ++ [u, z]) (fun hcap => ?_)
                        refine XO.cR Tryz.call11 (does_ok (m := (modk XS a6 c6 ga gb)) (f := ⟨0, ((l.length + 2 : Nat) : Int), [], l ++ [u, z], none, 0, a8, c8⟩) (cells := []) (cda := none) (cc := 0) (gc.le leA) (g.le leA) (modk_q (xs := XS) (a := a6) (c := c6) (g0 := ga) (g1 := gb) ((Sees.rsH _).le fndA) hXl fndA fndA) ⟨Sees.nil _ _, (Sees.lsH _).le fndA, Nat.zero_le _, (by simp; omega)⟩ (Sees.nil _ _) hcap ⟨Nat.zero_le _, (by simp; omega), Nat.zero_le _⟩) ?_
                        refine XO.pu (Pu.not rfl) ?_
                        refine ox 1 ?_
                        refine X.sb [119, 7, 0, 1, 2, 6] ?_
                        refine X.know 119 (.bool false) rfl knw ?_
                        refine xx 8 ?_
                        refine X.at (ihk (s + 1) ⟨by omega, by omega⟩ (by omega)) subA leA
        · skip
          refine xo 4 ?_
          refine XO.cR Tryz.call10 (known_ok (gc.le leA) (g.le leA)) ?_
          refine ox 2 ?_
          refine X.retL (q) Tryz.func5 (res1 Tryz.results5 rfl) ⟨_, rfl, rfl, rfl⟩
end
end Go.Proofs.YtcklgodcjnnllaaGreatDoor

