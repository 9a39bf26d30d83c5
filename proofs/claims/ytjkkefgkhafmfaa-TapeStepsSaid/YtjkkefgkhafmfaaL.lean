/- What functions of package tape, of its references and of its laws do: contracts of calls, proved by walking their code. -/
import Derived.Test.YtjkkefgkhafmfaaK
import Derived.KernelRfl
set_option maxRecDepth 100000
set_option linter.unusedVariables false
set_option linter.unusedSimpArgs false
namespace Go.Proofs.Ytjkkefgkhafmfaa
open Go Go.RowKit Wx
attribute [local irreducible] Wx.lsH Wx.rsH Wx.lsM Wx.rsM Wx.stars

/-! ### what is asked each time -/
def KT : Tkn := ⟨0, [(0, 2), (1, 1), (0, 1)], (2, 0, 0, 0)⟩
theorem KT_ok : okT KT := by decide
def kc : List Tkn := [⟨0, [(0, 1)], (1, 0, 0, 0)⟩, ⟨0, [(0, 1), (1, 1)], (1, 0, 0, 0)⟩, ⟨0, [(0, 1)], (2, 0, 0, 0)⟩]
theorem kc_ok : cutsT KT (sumT KT.turns) KT.turns 0 [1, 3] = kc := by rfl
theorem kcuts : cutsOk (sumT KT.turns) [1, 3] := fun i h => by
  have e : sumT KT.turns = 4 := by rfl
  rw [e]
  rcases i with _ | _ | i
  · exact ⟨show (0 : Int) ≤ 1 by decide, show (1 : Int) ≤ 4 by decide, .inl rfl⟩
  · exact ⟨show (0 : Int) ≤ 3 by decide, show (3 : Int) ≤ 4 by decide, .inr (show (1 : Int) < 3 by decide)⟩
  · simp at h; omega
theorem kbad : ¬ cutsOk (sumT KT.turns) [3, 1] := fun k => by
  have := (k 1 (by decide)).2.2
  rcases this with h | h
  · cases h
  · exact absurd h (by decide)
theorem map3 {l : List Pc} {x y z : Tkn} (h : l.map (·.t) = [x, y, z]) : ∃ a1 c1 a2 c2 a3 c3, l = [⟨x, a1, c1⟩, ⟨y, a2, c2⟩, ⟨z, a3, c3⟩] := by
  rcases l with _ | ⟨p, _ | ⟨q, _ | ⟨r, _ | ⟨s, l⟩⟩⟩⟩ <;> simp at h
  obtain ⟨rfl, rfl, rfl⟩ := h
  exact ⟨_, _, _, _, _, _, rfl⟩
theorem kok : okT (⟨0, [(0, 1)], (1, 0, 0, 0)⟩ : Tkn) ∧ okT (⟨0, [(0, 1), (1, 1)], (1, 0, 0, 0)⟩ : Tkn) ∧ okT (⟨0, [(0, 1)], (2, 0, 0, 0)⟩ : Tkn) := by decide
theorem kwhole {a1 a2 a3 : Option Addr} {c1 c2 c3 : Nat} {x y z : Tkn} (h : [x, y, z] = kc) : Few [⟨x, a1, c1⟩, ⟨y, a2, c2⟩, ⟨z, a3, c3⟩] ∧ joinsOk [⟨x, a1, c1⟩, ⟨y, a2, c2⟩, ⟨z, a3, c3⟩] ∧ whole [⟨x, a1, c1⟩, ⟨y, a2, c2⟩, ⟨z, a3, c3⟩] = KT := by
  simp only [kc, List.cons.injEq, and_true] at h
  obtain ⟨rfl, rfl, rfl⟩ := h
  refine ⟨⟨show 3 ≤ 5 by decide, by intro p hp; simp at hp; rcases hp with rfl | rfl | rfl <;> first | exact (show 1 ≤ 40 by decide) | exact (show 2 ≤ 40 by decide)⟩, ⟨by simp, fun i h => ?_⟩, by rfl⟩
  rcases i with _ | _ | _ | i
  · exact ⟨kok.1, rfl, .inr rfl⟩
  · exact ⟨kok.2.1, rfl, .inr rfl⟩
  · exact ⟨kok.2.2, rfl, .inl rfl⟩
  · simp at h; omega
section
variable {G : World} {q : List HP} {l m : List Turn} {ls : List Pc} {t u : Tkn} {a b A : Option Addr} {c d C p p0 p1 p2 p3 i : Nat} {v_ mn n st : Int}
theorem few_ok  : CallF Try.prog G 6 [t.v a c] ([]) (Ret fun v q' => v = .bool (decide (t.turns.length ≤ 40)) ∧ q' = []) := by
  refine CallF.of Try.func6 Try.ntmps6 rfl (fun F cs => ?_)
  unfold Tkn.v Tkn.cs
  refine xo 2 ?_
  refine XO.ef (Ef.box rfl) ?_
  rintro _ _ ⟨n1, rfl, rfl⟩
  refine oo 5 ?_
  refine XO.ld Try.isAgg26 ?_
  refine ox 4 ?_
  refine X.retL [] Try.func6 (res1 Try.results6 rfl) ⟨_, rfl, congrArg Value.bool (by rw [Bool.eq_iff_iff]; simp only [decide_eq_true_eq]; omega), rfl⟩
set_option maxHeartbeats 4000000 in
theorem known_ok  : CallF Try.prog G 5 [] ([]) (Ret fun v q' => v = .bool true ∧ q' = []) := by
  refine CallF.of Try.func5 Try.ntmps5 rfl (fun F cs => ?_)
  refine xo 9 ?_
  refine XO.ef (Ef.buildSlice (us := [.agg (tcs (0, 2)).toArray, .agg (tcs (1, 1)).toArray, .agg (tcs (0, 1)).toArray]) (cells := KT.turns.flatMap tcs) (ps := [(0, .tmp 15), (1, .tmp 16), (2, .tmp 17)]) Try.underlying26 Try.info45 rfl rfl rfl (by kernel_rfl) rfl) ?_
  rintro _ _ ⟨g1, rfl, rfl⟩
  refine XO.le (Le.rs_of_sl tcs 2 45 (some ⟨g1, 0, none⟩) 3 KT.turns _) ?_
  refine oo 2 ?_
  refine XO.ef (Ef.alloc Try.zeroValue32) ?_
  rintro _ _ ⟨n1, rfl, rfl⟩
  refine XO.ef0 (Ef.stA Try.sizeOf32) ?_
  rintro _ _ ⟨rfl, rfl⟩
  refine oo 3 ?_
  refine XO.ldA Try.isAgg32 Try.sizeOf32 ?_
  have hT : Sees [rsH tcs 2 45 (some ⟨g1, 0, none⟩) 3 KT.turns] (some ⟨g1, 0, none⟩) (KT.turns.flatMap tcs) := Sees.rsH []
  refine XO.cX Try.call17 (Le.refl _) (Len_ok (t := KT) (a := some ⟨g1, 0, none⟩) (c := 3) (hT.le leA)) ?_
  rintro _ _ ⟨rfl, rfl⟩
  rw [if_pos KT_ok]
  refine oo 8 ?_
  refine XO.ldA Try.isAgg32 Try.sizeOf32 ?_
  refine XO.ef (Ef.litL (Value.int .i64) [1, 3] (ps := [(0, .const (.int .i64 1)), (1, .const (.int .i64 3))]) Try.underlying76 Try.info3 rfl rfl rfl rfl rfl rfl (fun _ => rfl)) ?_
  rintro _ _ ⟨g2, rfl, rfl⟩
  refine XO.cX Try.call18 (Le.refl _) (Cut_ok (t := KT) (a := some ⟨g1, 0, none⟩) (c := 3) (ns := [1, 3]) (b := some ⟨g2, 0, none⟩) (d := 2) (hT.le leA) ((Sees.lsH _).le leA) (by decide)) ?_
  rintro _ _ (⟨_, _, outs, a2, c2, ho, rfl, rfl⟩ | ⟨hno, _⟩)
  · skip
    rw [kc_ok] at ho; obtain ⟨b1, d1, b2, d2, b3, d3, rfl⟩ := map3 ho; obtain ⟨hfew, hjo, hwh⟩ := kwhole (a1 := b1) (a2 := b2) (a3 := b3) (c1 := d1) (c2 := d2) (c3 := d3) rfl
    have hpp : ∀ x ∈ [(⟨kc[0], b1, d1⟩ : Pc), ⟨kc[1], b2, d2⟩, ⟨kc[2], b3, d3⟩], Sees [stars ([(⟨kc[0], b1, d1⟩ : Pc), ⟨kc[1], b2, d2⟩, ⟨kc[2], b3, d3⟩].map hF)] x.a (x.t.turns.flatMap tcs) := fun x hx => hF_sees hx []
    refine XO.rsadr (l := [(⟨⟨0, [(0, 1)], (1, 0, 0, 0)⟩, b1, d1⟩ : Pc), ⟨⟨0, [(0, 1), (1, 1)], (1, 0, 0, 0)⟩, b2, d2⟩, ⟨⟨0, [(0, 1)], (2, 0, 0, 0)⟩, b3, d3⟩]) (show 0 < 3 by decide) (fun g3 e_ => ?_); subst e_
    have hO : Sees [rsH pcs 6 32 (some ⟨g3, 0, none⟩) c2 [(⟨⟨0, [(0, 1)], (1, 0, 0, 0)⟩, b1, d1⟩ : Pc), ⟨⟨0, [(0, 1), (1, 1)], (1, 0, 0, 0)⟩, b2, d2⟩, ⟨⟨0, [(0, 1)], (2, 0, 0, 0)⟩, b3, d3⟩]] (some ⟨g3, 0, none⟩) (([(⟨⟨0, [(0, 1)], (1, 0, 0, 0)⟩, b1, d1⟩ : Pc), ⟨⟨0, [(0, 1), (1, 1)], (1, 0, 0, 0)⟩, b2, d2⟩, ⟨⟨0, [(0, 1)], (2, 0, 0, 0)⟩, b3, d3⟩]).flatMap pcs) := Sees.rsH []
    refine oo 10 ?_
    refine XO.cF Try.call10 (num_ok _) ?_
    rintro _ _ ⟨rfl, rfl⟩ _ e_; simp only [ca, na] at e_; subst e_
    refine oo 1 ?_
    refine XO.cF Try.call10 (num_ok _) ?_
    rintro _ _ ⟨rfl, rfl⟩ _ e_; simp only [ca, na] at e_; subst e_
    refine oo 3 ?_
    refine XO.know 38 (.bool false) rfl knw ?_
    refine ox 5 ?_
    refine X.sb [42, 4, 2, 1, 0] ?_
    refine X.know 42 (.bool false) rfl knw ?_
    refine xo 5 ?_
    refine XO.cX Try.call7 (Le.refl _) (Join_ok (ls := [(⟨⟨0, [(0, 1)], (1, 0, 0, 0)⟩, b1, d1⟩ : Pc), ⟨⟨0, [(0, 1), (1, 1)], (1, 0, 0, 0)⟩, b2, d2⟩, ⟨⟨0, [(0, 1)], (2, 0, 0, 0)⟩, b3, d3⟩]) (A := some ⟨g3, 0, none⟩) (C := c2) (hO.le leA) (fun x hx => (hpp x hx).le leA) hfew) ?_
    rintro _ _ (⟨_, _, a5, c5, rfl, rfl⟩ | ⟨e, (⟨_, h⟩ | ⟨_, _, h⟩), _⟩)
    rotate_left; exact absurd hjo h; exact absurd (by rw [hwh]; exact KT_ok) h
    rw [hwh]
    refine oo 3 ?_
    refine XO.ef (Ef.alloc Try.zeroValue32) ?_
    rintro _ _ ⟨n2, rfl, rfl⟩
    refine XO.ef0 (Ef.stA Try.sizeOf32) ?_
    rintro _ _ ⟨rfl, rfl⟩
    refine oo 4 ?_
    refine XO.ldA Try.isAgg32 Try.sizeOf32 ?_
    refine XO.cX Try.call11 (Le.refl _) (At_ok (t := KT) (st := 2) (a := some ⟨g1, 0, none⟩) (c := 3) (hT.le leA)) ?_
    rintro _ _ ⟨(⟨_, rfl⟩ | ⟨h, _⟩), rfl⟩
    rotate_left; exact absurd ⟨KT_ok, by decide, by decide⟩ h
    refine oo 10 ?_
    refine XO.ldA Try.isAgg32 Try.sizeOf32 ?_
    refine XO.ef (Ef.litL (Value.int .i64) [3, 1] (ps := [(0, .const (.int .i64 3)), (1, .const (.int .i64 1))]) Try.underlying76 Try.info3 rfl rfl rfl rfl rfl rfl (fun _ => rfl)) ?_
    rintro _ _ ⟨g4, rfl, rfl⟩
    refine XO.cX Try.call18 (Le.refl _) (Cut_ok (t := KT) (a := some ⟨g1, 0, none⟩) (c := 3) (ns := [3, 1]) (b := some ⟨g4, 0, none⟩) (d := 2) (hT.le leA) ((Sees.lsH _).le leA) (by decide)) ?_
    rintro _ _ (⟨_, h, _⟩ | ⟨_, rfl, rfl⟩)
    exact absurd h kbad
    refine oo 8 ?_
    refine XO.cX Try.call7 (Le.refl _) (Join_ok (ls := []) (A := none) (C := 0) (Sees.nil _ _) (fun x hx => by cases hx) ⟨by decide, fun x hx => by cases hx⟩) ?_
    rintro _ _ (⟨h, _⟩ | ⟨e, (⟨rfl, _⟩ | ⟨_, h, _⟩), rfl, rfl⟩)
    exact absurd h.1 (by decide)
    rotate_left; exact absurd h.1 (by decide)
    refine oo 3 ?_
    refine XO.ef (Ef.alloc Try.zeroValue32) ?_
    rintro _ _ ⟨n3, rfl, rfl⟩
    refine XO.ef0 (Ef.stA Try.sizeOf32) ?_
    rintro _ _ ⟨rfl, rfl⟩
    refine oo 7 ?_
    refine XO.know 66 (.bool true) rfl knw ?_
    refine oo 3 ?_
    refine XO.ld Try.isAgg26 ?_ (hc := (Cl.row (f := pcs) (sz := 6) (l := [(⟨⟨0, [(0, 1)], (1, 0, 0, 0)⟩, b1, d1⟩ : Pc), ⟨⟨0, [(0, 1), (1, 1)], (1, 0, 0, 0)⟩, b2, d2⟩, ⟨⟨0, [(0, 1)], (2, 0, 0, 0)⟩, b3, d3⟩]) (n := 0) hO leA (fun _ => rfl) (show 0 < 3 by decide) rfl 1 _ rfl))
    refine oo 4 ?_
    refine XO.know 74 (.bool true) rfl knw ?_
    refine oo 4 ?_
    refine XO.ld Try.isAgg27 ?_ (hc := (Cl.row (f := pcs) (sz := 6) (l := [(⟨⟨0, [(0, 1)], (1, 0, 0, 0)⟩, b1, d1⟩ : Pc), ⟨⟨0, [(0, 1), (1, 1)], (1, 0, 0, 0)⟩, b2, d2⟩, ⟨⟨0, [(0, 1)], (2, 0, 0, 0)⟩, b3, d3⟩]) (n := 0) hO leA (fun _ => rfl) (show 0 < 3 by decide) rfl 2 _ rfl))
    refine oo 3 ?_
    refine XO.know 82 (.bool true) rfl knw ?_
    refine oo 3 ?_
    refine XO.ld Try.isAgg26 ?_ (hc := (Cl.row (f := pcs) (sz := 6) (l := [(⟨⟨0, [(0, 1)], (1, 0, 0, 0)⟩, b1, d1⟩ : Pc), ⟨⟨0, [(0, 1), (1, 1)], (1, 0, 0, 0)⟩, b2, d2⟩, ⟨⟨0, [(0, 1)], (2, 0, 0, 0)⟩, b3, d3⟩]) (n := 1) hO leA (fun _ => rfl) (show 1 < 3 by decide) rfl 1 _ rfl))
    refine oo 4 ?_
    refine XO.know 90 (.bool true) rfl knw ?_
    refine oo 4 ?_
    refine XO.ld Try.isAgg27 ?_ (hc := (Cl.row (f := pcs) (sz := 6) (l := [(⟨⟨0, [(0, 1)], (1, 0, 0, 0)⟩, b1, d1⟩ : Pc), ⟨⟨0, [(0, 1), (1, 1)], (1, 0, 0, 0)⟩, b2, d2⟩, ⟨⟨0, [(0, 1)], (2, 0, 0, 0)⟩, b3, d3⟩]) (n := 2) hO leA (fun _ => rfl) (show 2 < 3 by decide) rfl 2 _ rfl))
    refine oo 3 ?_
    refine XO.know 98 (.bool true) rfl knw ?_
    refine oo 1 ?_
    refine XO.cF Try.call10 (num_ok _) ?_
    rintro _ _ ⟨rfl, rfl⟩ _ e_; simp only [ca, na] at e_; subst e_
    refine oo 3 ?_
    refine XO.know 103 (.bool true) rfl knw ?_
    refine XO.ldA Try.isAgg32 Try.sizeOf32 ?_
    refine XO.ldA Try.isAgg32 Try.sizeOf32 ?_
    refine XO.cR Try.call9 (RSame_ok (t := KT) (u := KT) (a := a5) (c := c5) (b := some ⟨g1, 0, none⟩) (d := 3) ((Sees.rsH (sz := 2) (ty := 45) (c := c5) []).le leA) (hT.le leA) (by decide)) ?_
    refine oo 2 ?_
    refine XO.know 108 (.bool true) rfl knw ?_
    refine oo 4 ?_
    refine XO.know 112 (.bool true) rfl knw ?_
    refine oo 4 ?_
    refine XO.know 116 (.bool true) rfl knw ?_
    refine oo 3 ?_
    refine XO.know 119 (.bool true) rfl knw ?_
    refine oo 1 ?_
    refine XO.cF Try.call10 (num_ok _) ?_
    rintro _ _ ⟨rfl, rfl⟩ _ e_; simp only [ca, na] at e_; subst e_
    refine oo 3 ?_
    refine XO.know 124 (.bool true) rfl knw ?_
    refine oo 1 ?_
    refine XO.cF Try.call10 (num_ok _) ?_
    rintro _ _ ⟨rfl, rfl⟩ _ e_; simp only [ca, na] at e_; subst e_
    refine ox 4 ?_
    refine X.sb [0] ?_
    refine X.retL [] Try.func5 (res1 Try.results5 rfl) ⟨_, rfl, rfl, rfl⟩
  · skip
    exact absurd ⟨KT_ok, kcuts⟩ hno
end
end Go.Proofs.Ytjkkefgkhafmfaa

