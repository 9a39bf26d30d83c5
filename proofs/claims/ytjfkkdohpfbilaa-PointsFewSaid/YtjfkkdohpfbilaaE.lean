/- What functions of package points, and of its laws, do: contracts of calls, proved by walking their code. -/
import Derived.Test.YtjfkkdohpfbilaaD
import Derived.KernelRfl
set_option maxRecDepth 100000
set_option linter.unusedVariables false
set_option linter.unusedSimpArgs false
namespace Go.Proofs.Ytjfkkdohpfbilaa
open Go Go.RowKit Wx

/-- What a point that comes does. -/
def Pt.come (p : Pt) (t : Int) : Pt × Bool × Int × Int :=
  if t < 0 ∨ 1099511627776 < t ∨ (p.came = true ∧ t ≤ p.last) then (p, false, 0, 2)
  else if t.tmod p.every ≠ 0 then ({ p with last := t, came := true }, false, -1, 0)
  else if ((p.kept ++ [t]).length : Int) ≤ p.most then ({ p with last := t, came := true, kept := p.kept ++ [t] }, true, -1, 0)
  else ({ p with last := t, came := true, kept := (p.kept ++ [t]).take (argm (p.kept ++ [t]) ((p.kept ++ [t]).length - 2)) ++ (p.kept ++ [t]).drop (argm (p.kept ++ [t]) ((p.kept ++ [t]).length - 2) + 1), gone := p.gone + 1 }, true, (p.kept ++ [t]).getD (argm (p.kept ++ [t]) ((p.kept ++ [t]).length - 2)) 0, 0)
def tup3 (c : Pt × Bool × Int × Int) : Value := .tuple [.bool c.2.1, .int .i64 c.2.2.1, .int .i64 c.2.2.2].toArray
theorem come_1 {p : Pt} {t : Int} (h : t < 0 ∨ 1099511627776 < t ∨ (p.came = true ∧ t ≤ p.last)) : p.come t = (p, false, 0, 2) := if_pos h
theorem come_2 {p : Pt} {t : Int} (h : ¬ (t < 0 ∨ 1099511627776 < t ∨ (p.came = true ∧ t ≤ p.last))) (h2 : t.tmod p.every ≠ 0) : p.come t = ({ p with last := t, came := true }, false, -1, 0) := by unfold Pt.come; rw [if_neg h, if_pos h2]
theorem come_3 {p : Pt} {t : Int} (h : ¬ (t < 0 ∨ 1099511627776 < t ∨ (p.came = true ∧ t ≤ p.last))) (h2 : ¬ t.tmod p.every ≠ 0) (h3 : ((p.kept ++ [t]).length : Int) ≤ p.most) : p.come t = ({ p with last := t, came := true, kept := p.kept ++ [t] }, true, -1, 0) := by unfold Pt.come; rw [if_neg h, if_neg h2, if_pos h3]
theorem come_4 {p : Pt} {t : Int} {k : List Int} (ek : p.kept ++ [t] = k) (h : ¬ (t < 0 ∨ 1099511627776 < t ∨ (p.came = true ∧ t ≤ p.last))) (h2 : ¬ t.tmod p.every ≠ 0) (h3 : ¬ (k.length : Int) ≤ p.most) : p.come t = ({ p with last := t, came := true, kept := k.take (argm k (k.length - 2)) ++ k.drop (argm k (k.length - 2) + 1), gone := p.gone + 1 }, true, k.getD (argm k (k.length - 2)) 0, 0) := by subst ek; unfold Pt.come; rw [if_neg h, if_neg h2, if_neg h3]
section
variable {G : World} {p : Pt} {b : Nat} {t : Int}
theorem Come_ok (ok : p.Ok) (hg : 0 ≤ p.gone ∧ p.gone ≤ 2199023255552) (ht : -9223372036854775808 ≤ t ∧ t ≤ 9223372036854775807) : CallF Try.prog G 17 [.pointer (some ⟨b, 0, none⟩), .int .i64 t] [PtH b p]
    (Ret fun v q => v = tup3 (p.come t) ∧ q = [PtH b (p.come t).1]) := by
  have oe1 := ok.e1; have oe2 := ok.e2; have om1 := ok.m1; have om2 := ok.m2; have ok1 := ok.k1; have ok2 := ok.k2
  refine CallF.of Try.func17 Try.ntmps17 rfl (fun F cs => ?_)
  refine X.sub (p' := [(0, _), (1, _)]) ⟨rfl, rfl, trivial⟩ ?_
  refine X.open (fun a c => ?_)
  obtain ⟨every, most, kept, gone, last, came⟩ := p
  dsimp only at *
  refine X.seq ?_
  refine X.region ?_
  refine XO.ef (Ef.box rfl) ?_
  rintro _ _ ⟨n1, rfl, rfl⟩
  refine XO.pu (Pu.assign rfl) ?_
  refine XO.pu (Pu.assign rfl) ?_
  refine XO.pu (Pu.assign rfl) ?_
  refine XO.nil ?_
  refine X.sub (p' := [(6, _), (5, _), (4, _), (2, _), (1, _)]) ⟨rfl, rfl, rfl, rfl, rfl, trivial⟩ ?_
  refine X.seq ?_
  refine X.seq ?_
  refine X.region ?_
  refine XO.rd (Rd.load rfl Try.isAgg25 (Cl.of (by repeat first | exact Has.pto _ _ _ | exact Has.im _ _ _ | refine Has.there ?_) (by rfl))) ?_
  refine XO.callF Try.call29 (there_some (every := every) (by omega)) rfl (by repeat (first | exact Le.refl _ | refine Le.pick (by repeat first | exact Le.here _ _ | apply Le.there) ?_ | refine Le.lose ?_)) ?_
  rintro _ _ ⟨rfl, rfl⟩ q_ hq_
  simp only [List.cons_append, List.nil_append] at hq_; subst hq_
  refine XO.pu (Pu.not rfl) ?_
  refine XO.nil ?_
  refine X.sub (p' := [(10, _), (6, _), (5, _), (4, _), (2, _), (1, _)]) ⟨rfl, rfl, rfl, rfl, rfl, rfl, trivial⟩ ?_
  refine X.condF rfl ?_
  refine X.skip ?_
  refine X.seq ?_
  refine X.seq ?_
  refine X.region ?_
  refine XO.pu (Pu.move rfl) ?_
  refine XO.pu (Pu.lss rfl rfl) ?_
  refine XO.pu (Pu.move rfl) ?_
  refine XO.part 13 rfl (fun h1 => ?_) (fun h1 => ?_)
  · skip
    have h1 := of_decide_eq_true h1
    refine XO.pass rfl ?_
    refine XO.pass rfl ?_
    refine XO.pu (Pu.pickT rfl rfl) ?_
    refine XO.pu (Pu.move rfl) ?_
    refine XO.pass rfl ?_
    refine XO.pass rfl ?_
    refine XO.pass rfl ?_
    refine XO.pass rfl ?_
    refine XO.pass rfl ?_
    refine XO.pass rfl ?_
    refine XO.pass rfl ?_
    refine XO.pass rfl ?_
    refine XO.pass rfl ?_
    refine XO.pass rfl ?_
    refine XO.pass rfl ?_
    refine XO.pass rfl ?_
    refine XO.pu (Pu.pickT rfl rfl) ?_
    refine XO.nil ?_
    refine X.sub (p' := [(30, _), (6, _), (5, _), (4, _), (2, _), (1, _)]) ⟨rfl, rfl, rfl, rfl, rfl, rfl, trivial⟩ ?_
    refine X.condT rfl ?_
    refine X.seq ?_
    refine X.region ?_
    refine XO.pu (Pu.assign rfl) ?_
    refine XO.pu (Pu.assign rfl) ?_
    refine XO.pu (Pu.assign rfl) ?_
    refine XO.nil ?_
    refine X.sub (p' := [(6, _), (5, _), (4, _), (2, _), (1, _)]) ⟨rfl, rfl, rfl, rfl, rfl, trivial⟩ ?_
    refine X.ret ⟨rfl, Lv.ret (q' := [PtH b ⟨every, most, kept, gone, last, came⟩]) Try.func17 (res3 Try.results17 rfl rfl rfl) ⟨_, rfl, by rw [come_1 (p := ⟨every, most, kept, gone, last, came⟩) (.inl h1)]; rfl, by rw [come_1 (p := ⟨every, most, kept, gone, last, came⟩) (.inl h1)]⟩ (PtH.close (p := ⟨every, most, kept, gone, last, came⟩) (a := a) (c := c) (by repeat (first | exact Le.refl _ | refine Le.pick (by repeat first | exact Le.here _ _ | apply Le.there) ?_ | refine Le.lose ?_)))⟩
  · skip
    have h1 := of_decide_eq_false h1
    refine XO.pu (Pu.move rfl) ?_
    refine XO.pu (Pu.gtr rfl rfl) ?_
    refine XO.pu (Pu.pickF rfl rfl) ?_
    refine XO.pu (Pu.move rfl) ?_
    refine XO.part 17 rfl (fun h2 => ?_) (fun h2 => ?_)
    · skip
      have h2 := of_decide_eq_true h2
      refine XO.pass rfl ?_
      refine XO.pass rfl ?_
      refine XO.pass rfl ?_
      refine XO.pass rfl ?_
      refine XO.pass rfl ?_
      refine XO.pass rfl ?_
      refine XO.pass rfl ?_
      refine XO.pass rfl ?_
      refine XO.pass rfl ?_
      refine XO.pass rfl ?_
      refine XO.pass rfl ?_
      refine XO.pass rfl ?_
      refine XO.pu (Pu.pickT rfl rfl) ?_
      refine XO.nil ?_
      refine X.sub (p' := [(30, _), (6, _), (5, _), (4, _), (2, _), (1, _)]) ⟨rfl, rfl, rfl, rfl, rfl, rfl, trivial⟩ ?_
      refine X.condT rfl ?_
      refine X.seq ?_
      refine X.region ?_
      refine XO.pu (Pu.assign rfl) ?_
      refine XO.pu (Pu.assign rfl) ?_
      refine XO.pu (Pu.assign rfl) ?_
      refine XO.nil ?_
      refine X.sub (p' := [(6, _), (5, _), (4, _), (2, _), (1, _)]) ⟨rfl, rfl, rfl, rfl, rfl, trivial⟩ ?_
      refine X.ret ⟨rfl, Lv.ret (q' := [PtH b ⟨every, most, kept, gone, last, came⟩]) Try.func17 (res3 Try.results17 rfl rfl rfl) ⟨_, rfl, by rw [come_1 (p := ⟨every, most, kept, gone, last, came⟩) (.inr (.inl h2))]; rfl, by rw [come_1 (p := ⟨every, most, kept, gone, last, came⟩) (.inr (.inl h2))]⟩ (PtH.close (p := ⟨every, most, kept, gone, last, came⟩) (a := a) (c := c) (by repeat (first | exact Le.refl _ | refine Le.pick (by repeat first | exact Le.here _ _ | apply Le.there) ?_ | refine Le.lose ?_)))⟩
    · skip
      have h2 := of_decide_eq_false h2
      refine XO.rd (Rd.load rfl Try.isAgg25 (Cl.of (by repeat first | exact Has.pto _ _ _ | exact Has.im _ _ _ | refine Has.there ?_) (by rfl))) ?_
      refine XO.pu (Pu.nilCheck rfl) ?_
      refine XO.pu (Pu.fieldAddr 4 5 0 rfl Try.underlying60 rfl Try.sizeOf4) ?_
      refine XO.rd (Rd.load rfl Try.isAgg4 (Cl.of (by repeat first | exact Has.pto _ _ _ | exact Has.im _ _ _ | refine Has.there ?_) (by rfl))) ?_
      refine XO.pu (Pu.move rfl) ?_
      refine XO.part 22 rfl (fun h3 => ?_) (fun h3 => ?_)
      · skip
        refine XO.pu (Pu.move rfl) ?_
        refine XO.rd (Rd.load rfl Try.isAgg25 (Cl.of (by repeat first | exact Has.pto _ _ _ | exact Has.im _ _ _ | refine Has.there ?_) (by rfl))) ?_
        refine XO.pu (Pu.nilCheck rfl) ?_
        refine XO.pu (Pu.fieldAddr 3 4 0 rfl Try.underlying60 rfl Try.sizeOf3) ?_
        refine XO.rd (Rd.load rfl Try.isAgg3 (Cl.of (by repeat first | exact Has.pto _ _ _ | exact Has.im _ _ _ | refine Has.there ?_) (by rfl))) ?_
        refine XO.pu (Pu.leq rfl rfl) ?_
        refine XO.pu (Pu.pickT rfl rfl) ?_
        refine XO.pu (Pu.pickF rfl rfl) ?_
        refine XO.nil ?_
        refine X.sub (p' := [(30, _), (6, _), (5, _), (4, _), (2, _), (1, _)]) ⟨rfl, rfl, rfl, rfl, rfl, rfl, trivial⟩ ?_
        refine X.cond rfl (fun h4 => ?_) (fun h4 => ?_)
        · skip
          have h4 := of_decide_eq_true h4
          refine X.seq ?_
          refine X.region ?_
          refine XO.pu (Pu.assign rfl) ?_
          refine XO.pu (Pu.assign rfl) ?_
          refine XO.pu (Pu.assign rfl) ?_
          refine XO.nil ?_
          refine X.sub (p' := [(6, _), (5, _), (4, _), (2, _), (1, _)]) ⟨rfl, rfl, rfl, rfl, rfl, trivial⟩ ?_
          refine X.ret ⟨rfl, Lv.ret (q' := [PtH b ⟨every, most, kept, gone, last, came⟩]) Try.func17 (res3 Try.results17 rfl rfl rfl) ⟨_, rfl, by rw [come_1 (p := ⟨every, most, kept, gone, last, came⟩) (.inr (.inr ⟨h3, h4⟩))]; rfl, by rw [come_1 (p := ⟨every, most, kept, gone, last, came⟩) (.inr (.inr ⟨h3, h4⟩))]⟩ (PtH.close (p := ⟨every, most, kept, gone, last, came⟩) (a := a) (c := c) (by repeat (first | exact Le.refl _ | refine Le.pick (by repeat first | exact Le.here _ _ | apply Le.there) ?_ | refine Le.lose ?_)))⟩
        · skip
          have h4 := of_decide_eq_false h4
          have hc : ¬ (t < 0 ∨ 1099511627776 < t ∨ (came = true ∧ t ≤ last)) := by rintro (x | x | ⟨_, x⟩) <;> omega
          refine X.skip ?_
          refine X.seq ?_
          refine X.draw [] Try.mixed (by kernel_rfl) (by kernel_rfl) rfl ?_
          refine XD.load 0 rfl rfl Try.isAgg25 (Cl.of (by repeat first | exact Has.pto _ _ _ | exact Has.im _ _ _ | refine Has.there ?_) (by rfl)) ?_
          refine XD.load 1 rfl rfl Try.isAgg25 (Cl.of (by repeat first | exact Has.pto _ _ _ | exact Has.im _ _ _ | refine Has.there ?_) (by rfl)) ?_
          refine XD.pu 2 rfl (Pu.move rfl) ?_
          refine XD.pu 3 rfl (Pu.nilCheck rfl) ?_
          refine XD.pu 4 rfl (Pu.fieldAddr 3 4 0 rfl Try.underlying60 rfl Try.sizeOf3) ?_
          refine XD.ef0 5 rfl (Ef.store rfl rfl Try.sizeOf3 rfl rfl (by repeat first | exact Le.here _ _ | apply Le.there) rfl) ?_
          rintro _ _ ⟨rfl, rfl⟩
          refine ⟨⟨(Cl.of (by repeat first | exact Has.pto _ _ _ | exact Has.im _ _ _ | refine Has.there ?_) (by rfl)), trivial⟩, ?_⟩
          refine XD.pu 6 rfl (Pu.nilCheck rfl) ?_
          refine XD.pu 7 rfl (Pu.fieldAddr 4 5 0 rfl Try.underlying60 rfl Try.sizeOf4) ?_
          refine XD.ef0 8 rfl (Ef.store rfl rfl Try.sizeOf4 rfl rfl (by repeat first | exact Le.here _ _ | apply Le.there) rfl) ?_
          rintro _ _ ⟨rfl, rfl⟩
          refine ⟨trivial, ?_⟩
          refine XD.nil ?_
          refine X.sub (p' := [(6, _), (5, _), (4, _), (2, _), (1, _)]) ⟨rfl, rfl, rfl, rfl, rfl, trivial⟩ ?_
          refine X.seq ?_
          refine X.region ?_
          refine XO.pu (Pu.assign rfl) ?_
          refine XO.nil ?_
          refine X.sub (p' := [(5, _), (6, _), (4, _), (2, _), (1, _)]) ⟨rfl, rfl, rfl, rfl, rfl, trivial⟩ ?_
          refine X.seq ?_
          refine X.seq ?_
          refine X.region ?_
          refine XO.pu (Pu.move rfl) ?_
          refine XO.rd (Rd.load rfl Try.isAgg25 (Cl.of (by repeat first | exact Has.pto _ _ _ | exact Has.im _ _ _ | refine Has.there ?_) (by rfl))) ?_
          refine XO.pu (Pu.nilCheck rfl) ?_
          refine XO.pu (Pu.fieldAddr 58 0 1 rfl Try.underlying60 rfl Try.sizeOf58) ?_
          refine XO.pu (Pu.fieldAddr 3 0 0 rfl Try.underlying58 rfl Try.sizeOf3) ?_
          refine XO.rd (Rd.load rfl Try.isAgg3 (Cl.of (by repeat first | exact Has.pto _ _ _ | exact Has.im _ _ _ | refine Has.there ?_) (by rfl))) ?_
          refine XO.pu (Pu.rem rfl rfl (by omega)) ?_
          refine XO.pu (Pu.neq rfl rfl) ?_
          refine XO.nil ?_
          refine X.sub (p' := [(45, _), (5, _), (6, _), (4, _), (2, _), (1, _)]) ⟨rfl, rfl, rfl, rfl, rfl, rfl, trivial⟩ ?_
          refine X.cond rfl (fun h5 => ?_) (fun h5 => ?_)
          · skip
            have h5 : t.tmod every ≠ 0 := by simpa using h5
            refine X.ret ⟨rfl, Lv.ret (q' := [PtH b ⟨every, most, kept, gone, t, true⟩]) Try.func17 (res3 Try.results17 rfl rfl rfl) ⟨_, rfl, by rw [come_2 (p := ⟨every, most, kept, gone, last, came⟩) hc h5]; rfl, by rw [come_2 (p := ⟨every, most, kept, gone, last, came⟩) hc h5]⟩ (PtH.close (p := ⟨every, most, kept, gone, t, true⟩) (a := a) (c := c) (by repeat (first | exact Le.refl _ | refine Le.pick (by repeat first | exact Le.here _ _ | apply Le.there) ?_ | refine Le.lose ?_)))⟩
          · skip
            have h5 : ¬ t.tmod every ≠ 0 := by simpa using h5
            refine X.skip ?_
            refine X.seq ?_
            refine X.region ?_
            refine XO.pu (Pu.assign rfl) ?_
            refine XO.nil ?_
            refine X.sub (p' := [(4, _), (5, _), (6, _), (2, _), (1, _)]) ⟨rfl, rfl, rfl, rfl, rfl, trivial⟩ ?_
            refine X.seq ?_
            refine X.draw [] Try.mixed (by kernel_rfl) (by kernel_rfl) rfl ?_
            refine XD.load 0 rfl rfl Try.isAgg25 (Cl.of (by repeat first | exact Has.pto _ _ _ | exact Has.im _ _ _ | refine Has.there ?_) (by rfl)) ?_
            refine XD.load 1 rfl rfl Try.isAgg25 (Cl.of (by repeat first | exact Has.pto _ _ _ | exact Has.im _ _ _ | refine Has.there ?_) (by rfl)) ?_
            refine XD.pu 2 rfl (Pu.nilCheck rfl) ?_
            refine XD.pu 3 rfl (Pu.fieldAddr 22 2 0 rfl Try.underlying60 rfl Try.sizeOf22) ?_
            refine XD.load 4 rfl rfl Try.isAgg22 (Cl.of (by repeat first | exact Has.pto _ _ _ | exact Has.im _ _ _ | refine Has.there ?_) (by rfl)) ?_
            refine XD.pu 5 rfl (Pu.move rfl) ?_
            refine XD.ef 6 rfl (Ef.lit1 I Try.underlying22 Try.info3 rfl rfl) ?_
            rintro _ _ ⟨g, rfl, rfl⟩
            refine ⟨⟨(Cl.of (by repeat first | exact Has.pto _ _ _ | exact Has.im _ _ _ | refine Has.there ?_) (by rfl)), (Cl.of (by repeat first | exact Has.pto _ _ _ | exact Has.im _ _ _ | refine Has.there ?_) (by rfl)), (Cl.of (by repeat first | exact Has.pto _ _ _ | exact Has.im _ _ _ | refine Has.there ?_) (by rfl)), trivial⟩, ?_⟩
            refine XD.ef 7 rfl (Ef.appA (f := I) (l := kept) (m := [t]) Try.underlying22 Try.info3 rfl rfl rfl (by repeat first | exact Le.here _ _ | apply Le.there) (Sees.lsH _) (fun _ => rfl) (by simp; omega) (by simp; omega)) ?_
            rintro _ _ ⟨a2, c2, rfl, rfl⟩
            refine ⟨⟨(Cl.of (by repeat first | exact Has.pto _ _ _ | exact Has.im _ _ _ | refine Has.there ?_) (by rfl)), (Cl.of (by repeat first | exact Has.pto _ _ _ | exact Has.im _ _ _ | refine Has.there ?_) (by rfl)), trivial⟩, ?_⟩
            refine XD.pu 8 rfl (Pu.nilCheck rfl) ?_
            refine XD.pu 9 rfl (Pu.fieldAddr 22 2 0 rfl Try.underlying60 rfl Try.sizeOf22) ?_
            refine XD.ef0 10 rfl (Ef.store rfl rfl Try.sizeOf22 rfl rfl (by repeat first | exact Le.here _ _ | apply Le.there) rfl) ?_
            rintro _ _ ⟨rfl, rfl⟩
            refine ⟨trivial, ?_⟩
            refine XD.nil ?_
            refine X.sub (p' := [(4, _), (5, _), (6, _), (2, _)]) ⟨rfl, rfl, rfl, rfl, trivial⟩ ?_
            refine X.seq ?_
            refine X.seq ?_
            refine X.draw [] Try.mixed (by kernel_rfl) (by kernel_rfl) rfl ?_
            refine XD.load 0 rfl rfl Try.isAgg25 (Cl.of (by repeat first | exact Has.pto _ _ _ | exact Has.im _ _ _ | refine Has.there ?_) (by rfl)) ?_
            refine XD.pu 1 rfl (Pu.nilCheck rfl) ?_
            refine XD.pu 2 rfl (Pu.fieldAddr 22 2 0 rfl Try.underlying60 rfl Try.sizeOf22) ?_
            refine XD.load 3 rfl rfl Try.isAgg22 (Cl.of (by repeat first | exact Has.pto _ _ _ | exact Has.im _ _ _ | refine Has.there ?_) (by rfl)) ?_
            refine XD.pu 4 rfl (Pu.len rfl Try.underlying22) ?_
            refine XD.load 5 rfl rfl Try.isAgg25 (Cl.of (by repeat first | exact Has.pto _ _ _ | exact Has.im _ _ _ | refine Has.there ?_) (by rfl)) ?_
            refine XD.pu 6 rfl (Pu.nilCheck rfl) ?_
            refine XD.pu 7 rfl (Pu.fieldAddr 58 0 1 rfl Try.underlying60 rfl Try.sizeOf58) ?_
            refine XD.pu 8 rfl (Pu.fieldAddr 3 1 0 rfl Try.underlying58 rfl Try.sizeOf3) ?_
            refine XD.load 9 rfl rfl Try.isAgg3 (Cl.of (by repeat first | exact Has.pto _ _ _ | exact Has.im _ _ _ | refine Has.there ?_) (by rfl)) ?_
            refine XD.pu 10 rfl (Pu.gtr rfl rfl) ?_
            refine XD.nil ?_
            refine X.sub (p' := [(66, _), (4, _), (5, _), (6, _), (2, _)]) ⟨rfl, rfl, rfl, rfl, rfl, trivial⟩ ?_
            refine X.cond rfl (fun h6 => ?_) (fun h6 => ?_)
            · skip
              have h6 := of_decide_eq_true h6
              have hkl : (kept ++ [t]).length = kept.length + 1 := by simp
              have hk2 : ∀ x ∈ kept ++ [t], 0 ≤ x ∧ x ≤ 1099511627776 := by intro x hx; rcases List.mem_append.1 hx with hx | hx; exact ok2 x hx; rw [List.mem_singleton.1 hx]; omega
              generalize ek : kept ++ [t] = k at h6 hkl hk2 ⊢
              refine X.seq ?_
              refine X.region ?_
              refine XO.rd (Rd.load rfl Try.isAgg25 (Cl.of (by repeat first | exact Has.pto _ _ _ | exact Has.im _ _ _ | refine Has.there ?_) (by rfl))) ?_
              refine XO.callF Try.call31 (inner_ok) rfl (by repeat (first | exact Le.refl _ | refine Le.pick (by repeat first | exact Le.here _ _ | apply Le.there) ?_ | refine Le.lose ?_)) ?_
              rintro _ _ ⟨b2, rfl, rfl⟩ q_ hq_
              simp only [List.cons_append, List.nil_append] at hq_; subst hq_
              refine XO.pu (Pu.makeFunc rfl rfl) ?_
              refine XO.callF Try.call30 (least_ok (b1 := n1) (b2 := b2) (b := b) (every := every) (most := most) (gone := gone) (last := t) (came := true) (a := a2) (c := c2) (k := k) (by omega) hk2 (by omega)) rfl (by repeat (first | exact Le.refl _ | refine Le.pick (by repeat first | exact Le.here _ _ | apply Le.there) ?_ | refine Le.lose ?_)) ?_
              rintro _ _ ⟨rfl, rfl⟩ q_ hq_
              simp only [List.cons_append, List.nil_append] at hq_; subst hq_
              have hm := argm_le k (k.length - 2)
              have hml : argm k (k.length - 2) < k.length := by omega
              refine XO.le (q' := lsH I 3 a2 c2 k :: pto n1 (bxO b) :: pto b (ptsO every most (.slice a2 k.length c2) gone t true) :: F) (by repeat (first | exact Le.refl _ | refine Le.pick (by repeat first | exact Le.here _ _ | apply Le.there) ?_ | refine Le.lose ?_)) ?_
              refine XO.fact (fun w s => s.lsLen) (fun hcap => ?_)
              have hs : Sees (lsH I 3 a2 c2 k :: pto n1 (bxO b) :: pto b (ptsO every most (.slice a2 k.length c2) gone t true) :: F) a2 (k.map I) := Sees.lsH _
              refine XO.addr hs (by simp; omega) (fun ba oa ea => ?_); subst ea
              refine XO.pu (Pu.assign rfl) ?_
              refine XO.nil ?_
              refine X.sub (p' := [(7, _), (4, _), (5, _), (6, _), (2, _)]) ⟨rfl, rfl, rfl, rfl, rfl, trivial⟩ ?_
              refine X.seq ?_
              refine X.region ?_
              refine XO.rd (Rd.load rfl Try.isAgg25 (by first | exact Cl.of (by repeat first | exact Has.pto _ _ _ | exact Has.im _ _ _ | refine Has.there ?_) (by rfl) | exact hs.at (n := argm k (k.length - 2)) (by omega) hml)) ?_
              refine XO.pu (Pu.nilCheck rfl) ?_
              refine XO.pu (Pu.fieldAddr 22 2 0 rfl Try.underlying60 rfl Try.sizeOf22) ?_
              refine XO.rd (Rd.load rfl Try.isAgg22 (by first | exact Cl.of (by repeat first | exact Has.pto _ _ _ | exact Has.im _ _ _ | refine Has.there ?_) (by rfl) | exact hs.at (n := argm k (k.length - 2)) (by omega) hml)) ?_
              refine XO.pu (Pu.move rfl) ?_
              refine XO.pu (Pu.indexAddr rfl rfl Try.underlying22 Try.sizeOf3 (by omega) (by omega)) ?_
              refine XO.rd (Rd.load rfl Try.isAgg3 (by first | exact Cl.of (by repeat first | exact Has.pto _ _ _ | exact Has.im _ _ _ | refine Has.there ?_) (by rfl) | exact hs.at (n := argm k (k.length - 2)) (by omega) hml)) ?_
              refine XO.pu (Pu.assign rfl) ?_
              refine XO.nil ?_
              refine X.sub (p' := [(5, _), (7, _), (4, _), (6, _), (2, _)]) ⟨rfl, rfl, rfl, rfl, rfl, trivial⟩ ?_
              refine X.seq ?_
              refine X.draw [] Try.mixed (by kernel_rfl) (by kernel_rfl) rfl ?_
              refine XD.load 0 rfl rfl Try.isAgg25 (by first | exact Cl.of (by repeat first | exact Has.pto _ _ _ | exact Has.im _ _ _ | refine Has.there ?_) (by rfl) | exact hs.at (n := argm k (k.length - 2)) (by omega) hml) ?_
              refine XD.load 1 rfl rfl Try.isAgg25 (by first | exact Cl.of (by repeat first | exact Has.pto _ _ _ | exact Has.im _ _ _ | refine Has.there ?_) (by rfl) | exact hs.at (n := argm k (k.length - 2)) (by omega) hml) ?_
              refine XD.pu 2 rfl (Pu.nilCheck rfl) ?_
              refine XD.pu 3 rfl (Pu.fieldAddr 22 2 0 rfl Try.underlying60 rfl Try.sizeOf22) ?_
              refine XD.load 4 rfl rfl Try.isAgg22 (by first | exact Cl.of (by repeat first | exact Has.pto _ _ _ | exact Has.im _ _ _ | refine Has.there ?_) (by rfl) | exact hs.at (n := argm k (k.length - 2)) (by omega) hml) ?_
              refine XD.pu 5 rfl (Pu.move rfl) ?_
              refine XD.pu 6 rfl (Pu.sliceHi rfl rfl Try.underlying22 Try.sizeOf3 (by omega) (by omega)) ?_
              refine XD.load 7 rfl rfl Try.isAgg25 (by first | exact Cl.of (by repeat first | exact Has.pto _ _ _ | exact Has.im _ _ _ | refine Has.there ?_) (by rfl) | exact hs.at (n := argm k (k.length - 2)) (by omega) hml) ?_
              refine XD.pu 8 rfl (Pu.nilCheck rfl) ?_
              refine XD.pu 9 rfl (Pu.fieldAddr 22 2 0 rfl Try.underlying60 rfl Try.sizeOf22) ?_
              refine XD.load 10 rfl rfl Try.isAgg22 (by first | exact Cl.of (by repeat first | exact Has.pto _ _ _ | exact Has.im _ _ _ | refine Has.there ?_) (by rfl) | exact hs.at (n := argm k (k.length - 2)) (by omega) hml) ?_
              refine XD.pu 11 rfl (Pu.move rfl) ?_
              refine XD.pu 12 rfl (Pu.add rfl rfl (by omega) (by omega)) ?_
              refine XD.pu 13 rfl (Pu.sliceLo rfl rfl Try.underlying22 Try.sizeOf3 (by omega) (by omega)) ?_
              have hdl : k.length - ((argm k (k.length - 2) : Int) + 1).toNat = (k.drop (argm k (k.length - 2) + 1)).length := by rw [List.length_drop]; omega
              have hsd := hs.suf (c := c2) (sz := 1) (l := ((argm k (k.length - 2) : Int) + 1).toNat) (by simp; omega)
              have htk : (k.take (argm k (k.length - 2))).length = argm k (k.length - 2) := by rw [List.length_take]; omega
              rw [Nat.mul_one, show ((argm k (k.length - 2) : Int) + 1).toNat = argm k (k.length - 2) + 1 from by omega, ← List.map_drop] at hsd
              refine XD.ef 14 rfl (Ef.appL (f := I) (l := k) (m := k.drop (argm k (k.length - 2) + 1)) (i := argm k (k.length - 2)) (b := sufA (some ⟨ba, oa, none⟩) c2 (argm k (k.length - 2) + 1) 1) (c' := c2 - (argm k (k.length - 2) + 1)) Try.underlying22 Try.info3 rfl (congrArg some (congrArg (fun n => Value.slice (some ⟨ba, oa, none⟩) n c2) (by omega))) (by rw [← hdl, show ((argm k (k.length - 2) : Int) + 1).toNat = argm k (k.length - 2) + 1 from by omega]; rfl) (by repeat first | exact Le.here _ _ | apply Le.there) (by omega) hsd (fun _ => rfl) (by simp; omega) (by simp; omega)) ?_
              rintro _ _ ⟨a3, c3, rfl, rfl⟩
              refine ⟨⟨(Cl.of (by repeat first | exact Has.pto _ _ _ | exact Has.im _ _ _ | refine Has.there ?_) (by rfl)), (Cl.of (by repeat first | exact Has.pto _ _ _ | exact Has.im _ _ _ | refine Has.there ?_) (by rfl)), (Cl.of (by repeat first | exact Has.pto _ _ _ | exact Has.im _ _ _ | refine Has.there ?_) (by rfl)), (Cl.of (by repeat first | exact Has.pto _ _ _ | exact Has.im _ _ _ | refine Has.there ?_) (by rfl)), (Cl.of (by repeat first | exact Has.pto _ _ _ | exact Has.im _ _ _ | refine Has.there ?_) (by rfl)), trivial⟩, ?_⟩
              refine XD.pu 15 rfl (Pu.nilCheck rfl) ?_
              refine XD.pu 16 rfl (Pu.fieldAddr 22 2 0 rfl Try.underlying60 rfl Try.sizeOf22) ?_
              refine XD.ef0 17 rfl (Ef.store rfl rfl Try.sizeOf22 rfl rfl (by repeat first | exact Le.here _ _ | apply Le.there) rfl) ?_
              rintro _ _ ⟨rfl, rfl⟩
              refine ⟨trivial, ?_⟩
              refine XD.nil ?_
              refine X.sub (p' := [(5, _), (4, _), (6, _), (2, _)]) ⟨rfl, rfl, rfl, rfl, trivial⟩ ?_
              refine X.region ?_
              refine XO.rd (Rd.load rfl Try.isAgg25 (Cl.of (by repeat first | exact Has.pto _ _ _ | exact Has.im _ _ _ | refine Has.there ?_) (by rfl))) ?_
              refine XO.pu (Pu.nilCheck rfl) ?_
              refine XO.pu (Pu.fieldAddr 3 3 0 rfl Try.underlying60 rfl Try.sizeOf3) ?_
              refine XO.rd (Rd.load rfl Try.isAgg3 (Cl.of (by repeat first | exact Has.pto _ _ _ | exact Has.im _ _ _ | refine Has.there ?_) (by rfl))) ?_
              refine XO.pu (Pu.add rfl rfl (by omega) (by omega)) ?_
              refine XO.pu (Pu.nilCheck rfl) ?_
              refine XO.pu (Pu.fieldAddr 3 3 0 rfl Try.underlying60 rfl Try.sizeOf3) ?_
              refine XO.ef0 (Ef.store rfl rfl Try.sizeOf3 rfl rfl (by repeat first | exact Le.here _ _ | apply Le.there) rfl) ?_
              rintro _ _ ⟨rfl, rfl⟩
              refine XO.nil ?_
              refine X.sub (p' := [(5, _), (4, _), (6, _)]) ⟨rfl, rfl, rfl, trivial⟩ ?_
              refine X.ret ⟨rfl, Lv.ret (q' := [PtH b ⟨every, most, k.take (argm k (k.length - 2)) ++ k.drop (argm k (k.length - 2) + 1), gone + 1, t, true⟩]) Try.func17 (res3 Try.results17 rfl rfl rfl) ⟨_, rfl, by rw [come_4 (p := ⟨every, most, kept, gone, last, came⟩) ek hc h5 (by dsimp only; omega), ← getD_at (k := k) hml]; rfl, by rw [come_4 (p := ⟨every, most, kept, gone, last, came⟩) ek hc h5 (by dsimp only; omega)]⟩ (PtH.close (p := ⟨every, most, k.take (argm k (k.length - 2)) ++ k.drop (argm k (k.length - 2) + 1), gone + 1, t, true⟩) (a := a3) (c := c3) (by repeat (first | exact Le.refl _ | refine Le.pick (by repeat first | exact Le.here _ _ | apply Le.there) ?_ | refine Le.lose ?_)))⟩
            · skip
              have h6 := of_decide_eq_false h6
              refine X.skip ?_
              refine X.ret ⟨rfl, Lv.ret (q' := [PtH b ⟨every, most, kept ++ [t], gone, t, true⟩]) Try.func17 (res3 Try.results17 rfl rfl rfl) ⟨_, rfl, by rw [come_3 (p := ⟨every, most, kept, gone, last, came⟩) hc h5 (by dsimp only; omega)]; rfl, by rw [come_3 (p := ⟨every, most, kept, gone, last, came⟩) hc h5 (by dsimp only; omega)]⟩ (PtH.close (p := ⟨every, most, kept ++ [t], gone, t, true⟩) (a := a2) (c := c2) (by repeat (first | exact Le.refl _ | refine Le.pick (by repeat first | exact Le.here _ _ | apply Le.there) ?_ | refine Le.lose ?_)))⟩
      · skip
        have hc : ¬ (t < 0 ∨ 1099511627776 < t ∨ (came = true ∧ t ≤ last)) := by rintro (x | x | ⟨x, _⟩) <;> first | omega | (rw [h3] at x; cases x)
        refine XO.pass rfl ?_
        refine XO.pass rfl ?_
        refine XO.pass rfl ?_
        refine XO.pass rfl ?_
        refine XO.pass rfl ?_
        refine XO.pass rfl ?_
        refine XO.pu (Pu.pickF rfl rfl) ?_
        refine XO.pu (Pu.pickF rfl rfl) ?_
        refine XO.nil ?_
        refine X.sub (p' := [(30, _), (6, _), (5, _), (4, _), (2, _), (1, _)]) ⟨rfl, rfl, rfl, rfl, rfl, rfl, trivial⟩ ?_
        refine X.condF rfl ?_
        refine X.skip ?_
        refine X.seq ?_
        refine X.draw [] Try.mixed (by kernel_rfl) (by kernel_rfl) rfl ?_
        refine XD.load 0 rfl rfl Try.isAgg25 (Cl.of (by repeat first | exact Has.pto _ _ _ | exact Has.im _ _ _ | refine Has.there ?_) (by rfl)) ?_
        refine XD.load 1 rfl rfl Try.isAgg25 (Cl.of (by repeat first | exact Has.pto _ _ _ | exact Has.im _ _ _ | refine Has.there ?_) (by rfl)) ?_
        refine XD.pu 2 rfl (Pu.move rfl) ?_
        refine XD.pu 3 rfl (Pu.nilCheck rfl) ?_
        refine XD.pu 4 rfl (Pu.fieldAddr 3 4 0 rfl Try.underlying60 rfl Try.sizeOf3) ?_
        refine XD.ef0 5 rfl (Ef.store rfl rfl Try.sizeOf3 rfl rfl (by repeat first | exact Le.here _ _ | apply Le.there) rfl) ?_
        rintro _ _ ⟨rfl, rfl⟩
        refine ⟨⟨(Cl.of (by repeat first | exact Has.pto _ _ _ | exact Has.im _ _ _ | refine Has.there ?_) (by rfl)), trivial⟩, ?_⟩
        refine XD.pu 6 rfl (Pu.nilCheck rfl) ?_
        refine XD.pu 7 rfl (Pu.fieldAddr 4 5 0 rfl Try.underlying60 rfl Try.sizeOf4) ?_
        refine XD.ef0 8 rfl (Ef.store rfl rfl Try.sizeOf4 rfl rfl (by repeat first | exact Le.here _ _ | apply Le.there) rfl) ?_
        rintro _ _ ⟨rfl, rfl⟩
        refine ⟨trivial, ?_⟩
        refine XD.nil ?_
        refine X.sub (p' := [(6, _), (5, _), (4, _), (2, _), (1, _)]) ⟨rfl, rfl, rfl, rfl, rfl, trivial⟩ ?_
        refine X.seq ?_
        refine X.region ?_
        refine XO.pu (Pu.assign rfl) ?_
        refine XO.nil ?_
        refine X.sub (p' := [(5, _), (6, _), (4, _), (2, _), (1, _)]) ⟨rfl, rfl, rfl, rfl, rfl, trivial⟩ ?_
        refine X.seq ?_
        refine X.seq ?_
        refine X.region ?_
        refine XO.pu (Pu.move rfl) ?_
        refine XO.rd (Rd.load rfl Try.isAgg25 (Cl.of (by repeat first | exact Has.pto _ _ _ | exact Has.im _ _ _ | refine Has.there ?_) (by rfl))) ?_
        refine XO.pu (Pu.nilCheck rfl) ?_
        refine XO.pu (Pu.fieldAddr 58 0 1 rfl Try.underlying60 rfl Try.sizeOf58) ?_
        refine XO.pu (Pu.fieldAddr 3 0 0 rfl Try.underlying58 rfl Try.sizeOf3) ?_
        refine XO.rd (Rd.load rfl Try.isAgg3 (Cl.of (by repeat first | exact Has.pto _ _ _ | exact Has.im _ _ _ | refine Has.there ?_) (by rfl))) ?_
        refine XO.pu (Pu.rem rfl rfl (by omega)) ?_
        refine XO.pu (Pu.neq rfl rfl) ?_
        refine XO.nil ?_
        refine X.sub (p' := [(45, _), (5, _), (6, _), (4, _), (2, _), (1, _)]) ⟨rfl, rfl, rfl, rfl, rfl, rfl, trivial⟩ ?_
        refine X.cond rfl (fun h5 => ?_) (fun h5 => ?_)
        · skip
          have h5 : t.tmod every ≠ 0 := by simpa using h5
          refine X.ret ⟨rfl, Lv.ret (q' := [PtH b ⟨every, most, kept, gone, t, true⟩]) Try.func17 (res3 Try.results17 rfl rfl rfl) ⟨_, rfl, by rw [come_2 (p := ⟨every, most, kept, gone, last, came⟩) hc h5]; rfl, by rw [come_2 (p := ⟨every, most, kept, gone, last, came⟩) hc h5]⟩ (PtH.close (p := ⟨every, most, kept, gone, t, true⟩) (a := a) (c := c) (by repeat (first | exact Le.refl _ | refine Le.pick (by repeat first | exact Le.here _ _ | apply Le.there) ?_ | refine Le.lose ?_)))⟩
        · skip
          have h5 : ¬ t.tmod every ≠ 0 := by simpa using h5
          refine X.skip ?_
          refine X.seq ?_
          refine X.region ?_
          refine XO.pu (Pu.assign rfl) ?_
          refine XO.nil ?_
          refine X.sub (p' := [(4, _), (5, _), (6, _), (2, _), (1, _)]) ⟨rfl, rfl, rfl, rfl, rfl, trivial⟩ ?_
          refine X.seq ?_
          refine X.draw [] Try.mixed (by kernel_rfl) (by kernel_rfl) rfl ?_
          refine XD.load 0 rfl rfl Try.isAgg25 (Cl.of (by repeat first | exact Has.pto _ _ _ | exact Has.im _ _ _ | refine Has.there ?_) (by rfl)) ?_
          refine XD.load 1 rfl rfl Try.isAgg25 (Cl.of (by repeat first | exact Has.pto _ _ _ | exact Has.im _ _ _ | refine Has.there ?_) (by rfl)) ?_
          refine XD.pu 2 rfl (Pu.nilCheck rfl) ?_
          refine XD.pu 3 rfl (Pu.fieldAddr 22 2 0 rfl Try.underlying60 rfl Try.sizeOf22) ?_
          refine XD.load 4 rfl rfl Try.isAgg22 (Cl.of (by repeat first | exact Has.pto _ _ _ | exact Has.im _ _ _ | refine Has.there ?_) (by rfl)) ?_
          refine XD.pu 5 rfl (Pu.move rfl) ?_
          refine XD.ef 6 rfl (Ef.lit1 I Try.underlying22 Try.info3 rfl rfl) ?_
          rintro _ _ ⟨g, rfl, rfl⟩
          refine ⟨⟨(Cl.of (by repeat first | exact Has.pto _ _ _ | exact Has.im _ _ _ | refine Has.there ?_) (by rfl)), (Cl.of (by repeat first | exact Has.pto _ _ _ | exact Has.im _ _ _ | refine Has.there ?_) (by rfl)), (Cl.of (by repeat first | exact Has.pto _ _ _ | exact Has.im _ _ _ | refine Has.there ?_) (by rfl)), trivial⟩, ?_⟩
          refine XD.ef 7 rfl (Ef.appA (f := I) (l := kept) (m := [t]) Try.underlying22 Try.info3 rfl rfl rfl (by repeat first | exact Le.here _ _ | apply Le.there) (Sees.lsH _) (fun _ => rfl) (by simp; omega) (by simp; omega)) ?_
          rintro _ _ ⟨a2, c2, rfl, rfl⟩
          refine ⟨⟨(Cl.of (by repeat first | exact Has.pto _ _ _ | exact Has.im _ _ _ | refine Has.there ?_) (by rfl)), (Cl.of (by repeat first | exact Has.pto _ _ _ | exact Has.im _ _ _ | refine Has.there ?_) (by rfl)), trivial⟩, ?_⟩
          refine XD.pu 8 rfl (Pu.nilCheck rfl) ?_
          refine XD.pu 9 rfl (Pu.fieldAddr 22 2 0 rfl Try.underlying60 rfl Try.sizeOf22) ?_
          refine XD.ef0 10 rfl (Ef.store rfl rfl Try.sizeOf22 rfl rfl (by repeat first | exact Le.here _ _ | apply Le.there) rfl) ?_
          rintro _ _ ⟨rfl, rfl⟩
          refine ⟨trivial, ?_⟩
          refine XD.nil ?_
          refine X.sub (p' := [(4, _), (5, _), (6, _), (2, _)]) ⟨rfl, rfl, rfl, rfl, trivial⟩ ?_
          refine X.seq ?_
          refine X.seq ?_
          refine X.draw [] Try.mixed (by kernel_rfl) (by kernel_rfl) rfl ?_
          refine XD.load 0 rfl rfl Try.isAgg25 (Cl.of (by repeat first | exact Has.pto _ _ _ | exact Has.im _ _ _ | refine Has.there ?_) (by rfl)) ?_
          refine XD.pu 1 rfl (Pu.nilCheck rfl) ?_
          refine XD.pu 2 rfl (Pu.fieldAddr 22 2 0 rfl Try.underlying60 rfl Try.sizeOf22) ?_
          refine XD.load 3 rfl rfl Try.isAgg22 (Cl.of (by repeat first | exact Has.pto _ _ _ | exact Has.im _ _ _ | refine Has.there ?_) (by rfl)) ?_
          refine XD.pu 4 rfl (Pu.len rfl Try.underlying22) ?_
          refine XD.load 5 rfl rfl Try.isAgg25 (Cl.of (by repeat first | exact Has.pto _ _ _ | exact Has.im _ _ _ | refine Has.there ?_) (by rfl)) ?_
          refine XD.pu 6 rfl (Pu.nilCheck rfl) ?_
          refine XD.pu 7 rfl (Pu.fieldAddr 58 0 1 rfl Try.underlying60 rfl Try.sizeOf58) ?_
          refine XD.pu 8 rfl (Pu.fieldAddr 3 1 0 rfl Try.underlying58 rfl Try.sizeOf3) ?_
          refine XD.load 9 rfl rfl Try.isAgg3 (Cl.of (by repeat first | exact Has.pto _ _ _ | exact Has.im _ _ _ | refine Has.there ?_) (by rfl)) ?_
          refine XD.pu 10 rfl (Pu.gtr rfl rfl) ?_
          refine XD.nil ?_
          refine X.sub (p' := [(66, _), (4, _), (5, _), (6, _), (2, _)]) ⟨rfl, rfl, rfl, rfl, rfl, trivial⟩ ?_
          refine X.cond rfl (fun h6 => ?_) (fun h6 => ?_)
          · skip
            have h6 := of_decide_eq_true h6
            have hkl : (kept ++ [t]).length = kept.length + 1 := by simp
            have hk2 : ∀ x ∈ kept ++ [t], 0 ≤ x ∧ x ≤ 1099511627776 := by intro x hx; rcases List.mem_append.1 hx with hx | hx; exact ok2 x hx; rw [List.mem_singleton.1 hx]; omega
            generalize ek : kept ++ [t] = k at h6 hkl hk2 ⊢
            refine X.seq ?_
            refine X.region ?_
            refine XO.rd (Rd.load rfl Try.isAgg25 (Cl.of (by repeat first | exact Has.pto _ _ _ | exact Has.im _ _ _ | refine Has.there ?_) (by rfl))) ?_
            refine XO.callF Try.call31 (inner_ok) rfl (by repeat (first | exact Le.refl _ | refine Le.pick (by repeat first | exact Le.here _ _ | apply Le.there) ?_ | refine Le.lose ?_)) ?_
            rintro _ _ ⟨b2, rfl, rfl⟩ q_ hq_
            simp only [List.cons_append, List.nil_append] at hq_; subst hq_
            refine XO.pu (Pu.makeFunc rfl rfl) ?_
            refine XO.callF Try.call30 (least_ok (b1 := n1) (b2 := b2) (b := b) (every := every) (most := most) (gone := gone) (last := t) (came := true) (a := a2) (c := c2) (k := k) (by omega) hk2 (by omega)) rfl (by repeat (first | exact Le.refl _ | refine Le.pick (by repeat first | exact Le.here _ _ | apply Le.there) ?_ | refine Le.lose ?_)) ?_
            rintro _ _ ⟨rfl, rfl⟩ q_ hq_
            simp only [List.cons_append, List.nil_append] at hq_; subst hq_
            have hm := argm_le k (k.length - 2)
            have hml : argm k (k.length - 2) < k.length := by omega
            refine XO.le (q' := lsH I 3 a2 c2 k :: pto n1 (bxO b) :: pto b (ptsO every most (.slice a2 k.length c2) gone t true) :: F) (by repeat (first | exact Le.refl _ | refine Le.pick (by repeat first | exact Le.here _ _ | apply Le.there) ?_ | refine Le.lose ?_)) ?_
            refine XO.fact (fun w s => s.lsLen) (fun hcap => ?_)
            have hs : Sees (lsH I 3 a2 c2 k :: pto n1 (bxO b) :: pto b (ptsO every most (.slice a2 k.length c2) gone t true) :: F) a2 (k.map I) := Sees.lsH _
            refine XO.addr hs (by simp; omega) (fun ba oa ea => ?_); subst ea
            refine XO.pu (Pu.assign rfl) ?_
            refine XO.nil ?_
            refine X.sub (p' := [(7, _), (4, _), (5, _), (6, _), (2, _)]) ⟨rfl, rfl, rfl, rfl, rfl, trivial⟩ ?_
            refine X.seq ?_
            refine X.region ?_
            refine XO.rd (Rd.load rfl Try.isAgg25 (by first | exact Cl.of (by repeat first | exact Has.pto _ _ _ | exact Has.im _ _ _ | refine Has.there ?_) (by rfl) | exact hs.at (n := argm k (k.length - 2)) (by omega) hml)) ?_
            refine XO.pu (Pu.nilCheck rfl) ?_
            refine XO.pu (Pu.fieldAddr 22 2 0 rfl Try.underlying60 rfl Try.sizeOf22) ?_
            refine XO.rd (Rd.load rfl Try.isAgg22 (by first | exact Cl.of (by repeat first | exact Has.pto _ _ _ | exact Has.im _ _ _ | refine Has.there ?_) (by rfl) | exact hs.at (n := argm k (k.length - 2)) (by omega) hml)) ?_
            refine XO.pu (Pu.move rfl) ?_
            refine XO.pu (Pu.indexAddr rfl rfl Try.underlying22 Try.sizeOf3 (by omega) (by omega)) ?_
            refine XO.rd (Rd.load rfl Try.isAgg3 (by first | exact Cl.of (by repeat first | exact Has.pto _ _ _ | exact Has.im _ _ _ | refine Has.there ?_) (by rfl) | exact hs.at (n := argm k (k.length - 2)) (by omega) hml)) ?_
            refine XO.pu (Pu.assign rfl) ?_
            refine XO.nil ?_
            refine X.sub (p' := [(5, _), (7, _), (4, _), (6, _), (2, _)]) ⟨rfl, rfl, rfl, rfl, rfl, trivial⟩ ?_
            refine X.seq ?_
            refine X.draw [] Try.mixed (by kernel_rfl) (by kernel_rfl) rfl ?_
            refine XD.load 0 rfl rfl Try.isAgg25 (by first | exact Cl.of (by repeat first | exact Has.pto _ _ _ | exact Has.im _ _ _ | refine Has.there ?_) (by rfl) | exact hs.at (n := argm k (k.length - 2)) (by omega) hml) ?_
            refine XD.load 1 rfl rfl Try.isAgg25 (by first | exact Cl.of (by repeat first | exact Has.pto _ _ _ | exact Has.im _ _ _ | refine Has.there ?_) (by rfl) | exact hs.at (n := argm k (k.length - 2)) (by omega) hml) ?_
            refine XD.pu 2 rfl (Pu.nilCheck rfl) ?_
            refine XD.pu 3 rfl (Pu.fieldAddr 22 2 0 rfl Try.underlying60 rfl Try.sizeOf22) ?_
            refine XD.load 4 rfl rfl Try.isAgg22 (by first | exact Cl.of (by repeat first | exact Has.pto _ _ _ | exact Has.im _ _ _ | refine Has.there ?_) (by rfl) | exact hs.at (n := argm k (k.length - 2)) (by omega) hml) ?_
            refine XD.pu 5 rfl (Pu.move rfl) ?_
            refine XD.pu 6 rfl (Pu.sliceHi rfl rfl Try.underlying22 Try.sizeOf3 (by omega) (by omega)) ?_
            refine XD.load 7 rfl rfl Try.isAgg25 (by first | exact Cl.of (by repeat first | exact Has.pto _ _ _ | exact Has.im _ _ _ | refine Has.there ?_) (by rfl) | exact hs.at (n := argm k (k.length - 2)) (by omega) hml) ?_
            refine XD.pu 8 rfl (Pu.nilCheck rfl) ?_
            refine XD.pu 9 rfl (Pu.fieldAddr 22 2 0 rfl Try.underlying60 rfl Try.sizeOf22) ?_
            refine XD.load 10 rfl rfl Try.isAgg22 (by first | exact Cl.of (by repeat first | exact Has.pto _ _ _ | exact Has.im _ _ _ | refine Has.there ?_) (by rfl) | exact hs.at (n := argm k (k.length - 2)) (by omega) hml) ?_
            refine XD.pu 11 rfl (Pu.move rfl) ?_
            refine XD.pu 12 rfl (Pu.add rfl rfl (by omega) (by omega)) ?_
            refine XD.pu 13 rfl (Pu.sliceLo rfl rfl Try.underlying22 Try.sizeOf3 (by omega) (by omega)) ?_
            have hdl : k.length - ((argm k (k.length - 2) : Int) + 1).toNat = (k.drop (argm k (k.length - 2) + 1)).length := by rw [List.length_drop]; omega
            have hsd := hs.suf (c := c2) (sz := 1) (l := ((argm k (k.length - 2) : Int) + 1).toNat) (by simp; omega)
            have htk : (k.take (argm k (k.length - 2))).length = argm k (k.length - 2) := by rw [List.length_take]; omega
            rw [Nat.mul_one, show ((argm k (k.length - 2) : Int) + 1).toNat = argm k (k.length - 2) + 1 from by omega, ← List.map_drop] at hsd
            refine XD.ef 14 rfl (Ef.appL (f := I) (l := k) (m := k.drop (argm k (k.length - 2) + 1)) (i := argm k (k.length - 2)) (b := sufA (some ⟨ba, oa, none⟩) c2 (argm k (k.length - 2) + 1) 1) (c' := c2 - (argm k (k.length - 2) + 1)) Try.underlying22 Try.info3 rfl (congrArg some (congrArg (fun n => Value.slice (some ⟨ba, oa, none⟩) n c2) (by omega))) (by rw [← hdl, show ((argm k (k.length - 2) : Int) + 1).toNat = argm k (k.length - 2) + 1 from by omega]; rfl) (by repeat first | exact Le.here _ _ | apply Le.there) (by omega) hsd (fun _ => rfl) (by simp; omega) (by simp; omega)) ?_
            rintro _ _ ⟨a3, c3, rfl, rfl⟩
            refine ⟨⟨(Cl.of (by repeat first | exact Has.pto _ _ _ | exact Has.im _ _ _ | refine Has.there ?_) (by rfl)), (Cl.of (by repeat first | exact Has.pto _ _ _ | exact Has.im _ _ _ | refine Has.there ?_) (by rfl)), (Cl.of (by repeat first | exact Has.pto _ _ _ | exact Has.im _ _ _ | refine Has.there ?_) (by rfl)), (Cl.of (by repeat first | exact Has.pto _ _ _ | exact Has.im _ _ _ | refine Has.there ?_) (by rfl)), (Cl.of (by repeat first | exact Has.pto _ _ _ | exact Has.im _ _ _ | refine Has.there ?_) (by rfl)), trivial⟩, ?_⟩
            refine XD.pu 15 rfl (Pu.nilCheck rfl) ?_
            refine XD.pu 16 rfl (Pu.fieldAddr 22 2 0 rfl Try.underlying60 rfl Try.sizeOf22) ?_
            refine XD.ef0 17 rfl (Ef.store rfl rfl Try.sizeOf22 rfl rfl (by repeat first | exact Le.here _ _ | apply Le.there) rfl) ?_
            rintro _ _ ⟨rfl, rfl⟩
            refine ⟨trivial, ?_⟩
            refine XD.nil ?_
            refine X.sub (p' := [(5, _), (4, _), (6, _), (2, _)]) ⟨rfl, rfl, rfl, rfl, trivial⟩ ?_
            refine X.region ?_
            refine XO.rd (Rd.load rfl Try.isAgg25 (Cl.of (by repeat first | exact Has.pto _ _ _ | exact Has.im _ _ _ | refine Has.there ?_) (by rfl))) ?_
            refine XO.pu (Pu.nilCheck rfl) ?_
            refine XO.pu (Pu.fieldAddr 3 3 0 rfl Try.underlying60 rfl Try.sizeOf3) ?_
            refine XO.rd (Rd.load rfl Try.isAgg3 (Cl.of (by repeat first | exact Has.pto _ _ _ | exact Has.im _ _ _ | refine Has.there ?_) (by rfl))) ?_
            refine XO.pu (Pu.add rfl rfl (by omega) (by omega)) ?_
            refine XO.pu (Pu.nilCheck rfl) ?_
            refine XO.pu (Pu.fieldAddr 3 3 0 rfl Try.underlying60 rfl Try.sizeOf3) ?_
            refine XO.ef0 (Ef.store rfl rfl Try.sizeOf3 rfl rfl (by repeat first | exact Le.here _ _ | apply Le.there) rfl) ?_
            rintro _ _ ⟨rfl, rfl⟩
            refine XO.nil ?_
            refine X.sub (p' := [(5, _), (4, _), (6, _)]) ⟨rfl, rfl, rfl, trivial⟩ ?_
            refine X.ret ⟨rfl, Lv.ret (q' := [PtH b ⟨every, most, k.take (argm k (k.length - 2)) ++ k.drop (argm k (k.length - 2) + 1), gone + 1, t, true⟩]) Try.func17 (res3 Try.results17 rfl rfl rfl) ⟨_, rfl, by rw [come_4 (p := ⟨every, most, kept, gone, last, came⟩) ek hc h5 (by dsimp only; omega), ← getD_at (k := k) hml]; rfl, by rw [come_4 (p := ⟨every, most, kept, gone, last, came⟩) ek hc h5 (by dsimp only; omega)]⟩ (PtH.close (p := ⟨every, most, k.take (argm k (k.length - 2)) ++ k.drop (argm k (k.length - 2) + 1), gone + 1, t, true⟩) (a := a3) (c := c3) (by repeat (first | exact Le.refl _ | refine Le.pick (by repeat first | exact Le.here _ _ | apply Le.there) ?_ | refine Le.lose ?_)))⟩
          · skip
            have h6 := of_decide_eq_false h6
            refine X.skip ?_
            refine X.ret ⟨rfl, Lv.ret (q' := [PtH b ⟨every, most, kept ++ [t], gone, t, true⟩]) Try.func17 (res3 Try.results17 rfl rfl rfl) ⟨_, rfl, by rw [come_3 (p := ⟨every, most, kept, gone, last, came⟩) hc h5 (by dsimp only; omega)]; rfl, by rw [come_3 (p := ⟨every, most, kept, gone, last, came⟩) hc h5 (by dsimp only; omega)]⟩ (PtH.close (p := ⟨every, most, kept ++ [t], gone, t, true⟩) (a := a2) (c := c2) (by repeat (first | exact Le.refl _ | refine Le.pick (by repeat first | exact Le.here _ _ | apply Le.there) ?_ | refine Le.lose ?_)))⟩
end
end Go.Proofs.Ytjfkkdohpfbilaa

