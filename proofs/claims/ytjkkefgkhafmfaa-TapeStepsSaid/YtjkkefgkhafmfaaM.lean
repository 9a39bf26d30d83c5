/- What functions of package tape, of its references and of its laws do: contracts of calls, proved by walking their code. -/
import Derived.Test.YtjkkefgkhafmfaaL
import Derived.KernelRfl
set_option maxRecDepth 100000
set_option linter.unusedVariables false
set_option linter.unusedSimpArgs false
namespace Go.Proofs.Ytjkkefgkhafmfaa
open Go Go.RowKit Wx
attribute [local irreducible] Wx.lsH Wx.rsH Wx.lsM Wx.rsM Wx.stars

section
variable {G : World} {q : List HP} {ls : List Pc} {a b A : Option Addr} {c d C : Nat}
set_option maxHeartbeats 1000000 in
theorem tapeJoins_ok (hs : Sees q A (ls.flatMap pcs)) (hp : ∀ x ∈ ls, Sees q x.a (x.t.turns.flatMap tcs)) : CallF Try.prog G 3 [.slice A ls.length C] (q) (Ret fun v q' => v = .bool true ∧ q' = q) := by
  refine CallF.of Try.func3 Try.ntmps3 rfl (fun F cs => ?_)
  have hlen := flatMap_len (f := pcs) (sz := 6) (fun _ => rfl) ls
  refine xx 11 ?_
  refine X.part 10 rfl (fun h0 => ?_) (fun h0 => ?_)
  · skip
    refine xo 3 ?_
    refine XO.cF Try.call5 (known_ok) ?_
    rintro _ _ ⟨rfl, rfl⟩ _ e_; simp only [ca, na] at e_; subst e_
    refine ox 2 ?_
    refine X.retL (q) Try.func3 (res1 Try.results3 rfl) ⟨_, rfl, rfl, rfl⟩
  · skip
    replace h0 := sp h0
    refine xx 8 ?_
    refine X.at (X.loop (fun (s : Nat × Option Addr) => s.1 ≤ ls.length ∧ s.2 = A ∧ ∀ i (h : i < ls.length), i < s.1 → ls[i].t.turns.length ≤ 40) (fun s => [(3, .int .i64 (s.1 : Int)), (0, .slice s.2 ls.length C)]) (fun s => q ++ F) (fun s => ls.length - s.1) (fun s hi_ ih => ?_) (0, A) ⟨by dsimp only; omega, rfl, fun i h k => by dsimp only at k; omega⟩) subA leA
    try dsimp only at hi_ ih ⊢
    obtain ⟨hi1, rfl, hi2⟩ := hi_
    obtain ⟨s, A⟩ := s; dsimp only at *
    refine xx 8 ?_
    refine X.part 15 rfl (fun h1 => ?_) (fun h1 => ?_)
    · skip
      replace h1 := sp h1; have hi0 : s < ls.length := by omega
      refine X.adr hs (by rw [hlen]; omega) (fun b1 o1 e_ => ?_); subst e_
      refine xo 9 ?_
      refine XO.ldS (n := s) Try.isAgg32 Try.sizeOf32 hs hi0 ?_
      refine XO.cF Try.call6 (few_ok (t := ls[s].t) (a := ls[s].a) (c := ls[s].c)) ?_
      rintro _ _ ⟨rfl, rfl⟩ _ e_; simp only [ca, na] at e_; subst e_
      refine XO.pu (Pu.not rfl) ?_
      refine ox 1 ?_
      refine X.part 23 rfl (fun h2 => ?_) (fun h2 => ?_)
      · skip
        refine xo 3 ?_
        refine XO.cF Try.call5 (known_ok) ?_
        rintro _ _ ⟨rfl, rfl⟩ _ e_; simp only [ca, na] at e_; subst e_
        refine ox 2 ?_
        refine X.retL (q) Try.func3 (res1 Try.results3 rfl) ⟨_, rfl, rfl, rfl⟩
      · skip
        replace h2 := sp h2
        refine xx 8 ?_
        refine X.at (ih (s + 1, some ⟨b1, o1, none⟩) ⟨by dsimp only; omega, rfl, fun i h k => by rcases Nat.lt_or_ge i s with e | e; exact hi2 i h e; obtain rfl : i = s := (by dsimp only at k; omega); first | exact h2 | (simpa using h2)⟩ (by dsimp only; omega)) subA leA
    · skip
      replace h1 := sp h1; have hf : Few ls := ⟨by omega, fun x hx => by obtain ⟨i, h, rfl⟩ := List.getElem_of_mem hx; exact hi2 i h (by omega)⟩
      refine xo 5 ?_
      refine XO.cX Try.call7 (Le.refl _) (Join_ok (C := C) (hs.le leA) (fun x hx => (hp x hx).le leA) hf) ?_
      rintro _ _ (⟨jo, ok, a5, c5, rfl, rfl⟩ | ⟨e, he, rfl, rfl⟩)
      · skip
        refine oo 3 ?_
        refine XO.ef (Ef.alloc Try.zeroValue32) ?_
        rintro _ _ ⟨n1, rfl, rfl⟩
        refine XO.ef0 (Ef.stA Try.sizeOf32) ?_
        rintro _ _ ⟨rfl, rfl⟩
        refine oo 5 ?_
        refine XO.cX Try.call8 (Le.refl _) (RJoin_ok (C := C) (hs.le leA) (fun x hx => (hp x hx).le leA) hf) ?_
        rintro _ _ (⟨jo2, ok2, a6, c6, rfl, rfl⟩ | ⟨e2, he2, rfl, rfl⟩)
        · skip
          refine oo 3 ?_
          refine XO.ef (Ef.alloc Try.zeroValue32) ?_
          rintro _ _ ⟨n2, rfl, rfl⟩
          refine XO.ef0 (Ef.stA Try.sizeOf32) ?_
          rintro _ _ ⟨rfl, rfl⟩
          refine oo 4 ?_
          refine XO.ldA Try.isAgg32 Try.sizeOf32 ?_
          refine XO.ldA Try.isAgg32 Try.sizeOf32 ?_
          have hlw : (whole ls).turns.length ≤ 1000000000 := by have := ok.1; omega
          refine XO.cR Try.call9 (RSame_ok (t := whole ls) (u := whole ls) (a := a5) (c := c5) (b := a6) (d := c6) ((Sees.rsH (sz := 2) (ty := 45) (c := c5) []).le leA) ((Sees.rsH (sz := 2) (ty := 45) (c := c6) []).le leA) hlw) ?_
          refine oo 1 ?_
          refine XO.know 38 (.bool true) rfl (congrArg Value.bool (by simp)) ?_
          refine oo 1 ?_
          refine XO.cF Try.call10 (num_ok _) ?_
          rintro _ _ ⟨rfl, rfl⟩ _ e_; simp only [ca, na] at e_; subst e_
          refine oo 4 ?_
          refine XO.know 44 (.bool true) rfl (congrArg Value.bool (by simp)) ?_
          refine XO.cF Try.call5 (known_ok) ?_
          rintro _ _ ⟨rfl, rfl⟩ _ e_; simp only [ca, na] at e_; subst e_
          refine ox 3 ?_
          refine X.sb [2] ?_
          refine X.retL (q) Try.func3 (res1 Try.results3 rfl) ⟨_, rfl, rfl, rfl⟩
        · skip
          rcases he2 with ⟨_, h⟩ | ⟨_, _, h⟩; exact absurd jo h; exact absurd ok h
      · skip
        refine oo 3 ?_
        refine XO.ef (Ef.alloc Try.zeroValue32) ?_
        rintro _ _ ⟨n3, rfl, rfl⟩
        refine XO.ef0 (Ef.stA Try.sizeOf32) ?_
        rintro _ _ ⟨rfl, rfl⟩
        refine oo 5 ?_
        refine XO.cX Try.call8 (Le.refl _) (RJoin_ok (C := C) (hs.le leA) (fun x hx => (hp x hx).le leA) hf) ?_
        rintro _ _ (⟨jo2, ok2, a6, c6, rfl, rfl⟩ | ⟨e2, he2, rfl, rfl⟩)
        · skip
          rcases he with ⟨_, h⟩ | ⟨_, _, h⟩; exact absurd jo2 h; exact absurd ok2 h
        · skip
          obtain rfl : e = e2 := by rcases he with ⟨rfl, h⟩ | ⟨rfl, h, _⟩ <;> rcases he2 with ⟨rfl, k⟩ | ⟨rfl, k, _⟩ <;> first | rfl | exact absurd k h | exact absurd h k
          refine oo 3 ?_
          refine XO.ef (Ef.alloc Try.zeroValue32) ?_
          rintro _ _ ⟨n4, rfl, rfl⟩
          refine XO.ef0 (Ef.stA Try.sizeOf32) ?_
          rintro _ _ ⟨rfl, rfl⟩
          refine oo 4 ?_
          refine XO.ldA Try.isAgg32 Try.sizeOf32 ?_
          refine XO.ldA Try.isAgg32 Try.sizeOf32 ?_
          refine XO.cR Try.call9 (RSame_ok (t := z0) (u := z0) (a := none) (c := 0) (b := none) (d := 0) (Sees.nil _ _) (Sees.nil _ _) (by decide)) ?_
          refine oo 1 ?_
          refine XO.know 38 (.bool true) rfl (congrArg Value.bool (by simp)) ?_
          refine oo 1 ?_
          refine XO.cF Try.call10 (num_ok _) ?_
          rintro _ _ ⟨rfl, rfl⟩ _ e_; simp only [ca, na] at e_; subst e_
          refine oo 4 ?_
          refine XO.know 44 (.bool true) rfl (congrArg Value.bool (by simp)) ?_
          refine XO.cF Try.call5 (known_ok) ?_
          rintro _ _ ⟨rfl, rfl⟩ _ e_; simp only [ca, na] at e_; subst e_
          refine ox 3 ?_
          refine X.sb [2] ?_
          refine X.retL (q) Try.func3 (res1 Try.results3 rfl) ⟨_, rfl, rfl, rfl⟩
end
/-! ### arguments -/
abbrev TurnS : Sh := .cons (.int .i64) (.cons (.int .i64) .nil)
abbrev OutcS : Sh := .cons (.int .i64) (.cons (.int .i64) (.cons (.int .i64) (.cons (.int .i64) .nil)))
abbrev TakenS : Sh := .cons (.int .u32) (.cons (.slice TurnS) (.cons OutcS .nil))
def mkTurn (x : Sh.T TurnS) : Turn := (x.1, x.2.1)
def mkOutc (x : Sh.T OutcS) : Outc := (x.1, x.2.1, x.2.2.1, x.2.2.2.1)
def mkTaken (x : Sh.T TakenS) : Tkn := ⟨x.1, x.2.1.l.map mkTurn, mkOutc x.2.2.1⟩
def mkPc (x : Sh.T TakenS) : Pc := ⟨mkTaken x, x.2.1.a, x.2.1.c⟩
theorem taken_v (x : Sh.T TakenS) : Value.agg (Sh.cells TakenS x).toArray = (mkTaken x).v x.2.1.a x.2.1.c := by
  simp [Sh.cells, Tkn.v, Tkn.cs, mkTaken, mkOutc]
theorem turns_sees {q : List HP} {x : SlV (Sh.T TurnS)} (h : (Sh.slice TurnS).okQ q x) : Sees q x.a ((x.l.map mkTurn).flatMap tcs) := by
  have e : (x.l.map mkTurn).flatMap tcs = x.l.flatMap (Sh.cells TurnS) := by
    rw [List.flatMap_map]
    congr 1
  rw [e]; exact h.2.2.2.1
theorem taken_sees {q : List HP} {x : Sh.T TakenS} (h : TakenS.okQ q x) : Sees q x.2.1.a ((mkTaken x).turns.flatMap tcs) := turns_sees h.2.1
theorem pcs_sees {q : List HP} {x : SlV (Sh.T TakenS)} (h : (Sh.slice TakenS).okQ q x) : Sees q x.a ((x.l.map mkPc).flatMap pcs) ∧ ∀ y ∈ x.l.map mkPc, Sees q y.a (y.t.turns.flatMap tcs) := by
  refine ⟨?_, fun y hy => ?_⟩
  · have e : (x.l.map mkPc).flatMap pcs = x.l.flatMap (Sh.cells TakenS) := by
      rw [List.flatMap_map]
      congr 1; funext z; simp [Sh.cells, pcs, mkPc, Tkn.cs, mkTaken, mkOutc]
    rw [e]; exact h.2.2.2.1
  · obtain ⟨z, hz, rfl⟩ := List.mem_map.1 hy
    exact taken_sees (h.2.2.2.2 z hz)

end Go.Proofs.Ytjkkefgkhafmfaa

