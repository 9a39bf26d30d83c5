/- What functions of package sync, of its references and of its laws do: contracts of calls, proved by walking their code. -/
import Derived.Test.YtlgnnhpbomfdiaaR
import Derived.KernelRfl
set_option maxRecDepth 100000
set_option linter.unusedVariables false
set_option linter.unusedSimpArgs false
namespace Go.Proofs.Ytlgnnhpbomfdiaa
open Go Go.RowKit Wx
attribute [local irreducible] Wx.lsH Wx.rsH Wx.lsM Wx.rsM Wx.stars

/-! ### the order of all -/
def oS (ow : Int) (w : List Int) (rm : Int) (inl : List Int) (out : Nat) : Sy := ⟨[ow], [w], [⟨rm, inl, out⟩]⟩
structure OG where
  i : Nat
  ow : Int
  inl : List Int
  cm : List Int
  out : Nat
  wk : Nat
  a7 : Option Addr
  c7 : Nat
  a8 : Option Addr
  c8 : Nat
  σ : SyC
section
variable {ow rm t v : Int} {w inl : List Int} {out : Nat}
theorem oS_owner : ownerS (oS ow w rm inl out) 0 = (ow, 0) := if_pos ⟨by decide, by simp [oS]⟩
theorem oS_waits : waitsS (oS ow w rm inl out) 0 = (w, 0) := if_pos ⟨by decide, by simp [oS]⟩
theorem oS_lock : lockS (oS ow w rm inl out) 0 t = if thr t then if ow = -1 then (oS t w rm inl out, true, 0) else (oS ow w rm inl out, false, 0) else (oS ow w rm inl out, false, 2) := if_pos ⟨by decide, by simp [oS]⟩
theorem oS_unlock : unlockS (oS ow w rm inl out) 0 t = if thr t then if ow = t then (oS (-1) w rm inl out, 0) else (oS ow w rm inl out, 140) else (oS ow w rm inl out, 2) := if_pos ⟨by decide, by simp [oS]⟩
theorem oS_wait : waitS (oS ow w rm inl out) 0 t = if thr t then if ∃ l ∈ [w], t ∈ l then (oS ow w rm inl out, 141) else (oS ow (w ++ [t]) rm inl out, 0) else (oS ow w rm inl out, 2) := if_pos ⟨by decide, by simp [oS]⟩
theorem oS_signal : signalS (oS ow w rm inl out) 0 = if w = [] then (oS ow w rm inl out, -1, 0) else (oS ow (w.drop 1) rm inl out, w.headD 0, 0) := if_pos ⟨by decide, by simp [oS]⟩
theorem oS_send : sendS (oS ow w rm inl out) 0 v = if val v then if ((inl.drop out).length : Int) < rm then (oS ow w rm (inl ++ [v]) out, (inl.length : Int), 0) else (oS ow w rm inl out, -1, 0) else (oS ow w rm inl out, -1, 2) := if_pos ⟨by decide, by simp [oS]⟩
theorem oS_recv : recvS (oS ow w rm inl out) 0 = if inl.drop out = [] then (oS ow w rm inl out, 0, -1, 0) else (oS ow w rm inl (out + 1), inl.getD out 0, (out : Int), 0) := if_pos ⟨by decide, by simp [oS]⟩
end
section
variable {G : World} {q : List HP} {a b : Option Addr} {c d g p i n : Nat} {σ : SyC} {r : RS} {s : Sy} {k t v mm cc room : Int} {rooms : List Int} {l : List ActT}
set_option maxHeartbeats 2000000 in
theorem order_ok (hs : Sees q a (l.flatMap acs)) : CallF Try.prog G 3 [.int .i64 room, .slice a l.length c] q (Ret fun v q' => v = .bool true ∧ ∃ A, q' = A) := by
  refine CallF.of Try.func3 Try.ntmps3 rfl (fun F cs => ?_)
  refine X.sub (p' := [(0, _), (1, _)]) ⟨rfl, rfl, trivial⟩ ?_
  have hlen := flatMap_len (f := acs) (sz := 4) (fun _ => rfl) l
  refine X.seq ?_
  refine X.region ?_
  refine XO.pu (Pu.assign rfl) ?_
  refine XO.nil ?_
  refine X.sub (p' := [(4, _), (0, _), (1, _)]) ⟨rfl, rfl, rfl, trivial⟩ ?_
  refine X.seq ?_
  refine X.seq ?_
  refine X.region ?_
  refine XO.pu (Pu.move rfl) ?_
  refine XO.pu (Pu.lss rfl rfl) ?_
  refine XO.pu (Pu.move rfl) ?_
  refine XO.sub (p' := [(33, _), (4, _), (0, _), (1, _)]) ⟨rfl, rfl, rfl, rfl, trivial⟩ ?_
  apply XO.cutOr 3 36 33 rfl
  · skip
    intro g1 M1; have h1 := g1; try simp only [decide_eq_true_eq, decide_eq_false_iff_not, bne_iff_ne, beq_iff_eq, ne_eq, bne_eq_false_iff_eq, beq_eq_false_iff_ne, Bool.not_eq_true', Bool.not_eq_false', Int.not_lt, Int.not_le, Bool.not_not, Bool.and_eq_true, Bool.and_eq_false_iff, Bool.true_and, Bool.and_true, beq_self_eq_true, Bool.or_eq_true, Bool.or_eq_false_iff] at h1
    refine XO.pu (Pu.move rfl) ?_
    refine XO.pu (Pu.gtr rfl rfl) ?_
    refine XO.pu (Pu.pickF rfl rfl) ?_
    exact XO.fin M1 ⟨orF g1, congrArg (fun x => some (Value.bool x)) g1.symm, rfl, rfl, rfl, trivial⟩
  · skip
    intro g1 M1; have h1 := g1; try simp only [decide_eq_true_eq, decide_eq_false_iff_not, bne_iff_ne, beq_iff_eq, ne_eq, bne_eq_false_iff_eq, beq_eq_false_iff_ne, Bool.not_eq_true', Bool.not_eq_false', Int.not_lt, Int.not_le, Bool.not_not, Bool.and_eq_true, Bool.and_eq_false_iff, Bool.true_and, Bool.and_true, beq_self_eq_true, Bool.or_eq_true, Bool.or_eq_false_iff] at h1
    refine XO.pass rfl ?_
    refine XO.pass rfl ?_
    refine XO.pu (Pu.pickT rfl rfl) ?_
    exact XO.fin M1 ⟨orT g1, congrArg (fun x => some (Value.bool x)) g1.symm, rfl, rfl, rfl, trivial⟩
  · skip
    refine XO.pu (Pu.move rfl) ?_
    refine XO.sub (p' := [(37, _), (4, _), (0, _), (1, _)]) ⟨rfl, rfl, rfl, rfl, trivial⟩ ?_
    apply XO.cutOr 4 41 37 rfl
    · skip
      intro g1 M1; have h1 := g1; try simp only [decide_eq_true_eq, decide_eq_false_iff_not, bne_iff_ne, beq_iff_eq, ne_eq, bne_eq_false_iff_eq, beq_eq_false_iff_ne, Bool.not_eq_true', Bool.not_eq_false', Int.not_lt, Int.not_le, Bool.not_not, Bool.and_eq_true, Bool.and_eq_false_iff, Bool.true_and, Bool.and_true, beq_self_eq_true, Bool.or_eq_true, Bool.or_eq_false_iff] at h1
      refine XO.pu (Pu.move rfl) ?_
      refine XO.pu (Pu.len rfl Try.underlying22) ?_
      refine XO.pu (Pu.gtr rfl rfl) ?_
      refine XO.pu (Pu.pickF rfl rfl) ?_
      exact XO.fin M1 ⟨orF g1, congrArg (fun x => some (Value.bool x)) g1.symm, rfl, rfl, rfl, trivial⟩
    · skip
      intro g1 M1; have h1 := g1; try simp only [decide_eq_true_eq, decide_eq_false_iff_not, bne_iff_ne, beq_iff_eq, ne_eq, bne_eq_false_iff_eq, beq_eq_false_iff_ne, Bool.not_eq_true', Bool.not_eq_false', Int.not_lt, Int.not_le, Bool.not_not, Bool.and_eq_true, Bool.and_eq_false_iff, Bool.true_and, Bool.and_true, beq_self_eq_true, Bool.or_eq_true, Bool.or_eq_false_iff] at h1
      refine XO.pass rfl ?_
      refine XO.pass rfl ?_
      refine XO.pass rfl ?_
      refine XO.pu (Pu.pickT rfl rfl) ?_
      exact XO.fin M1 ⟨orT g1, congrArg (fun x => some (Value.bool x)) g1.symm, rfl, rfl, rfl, trivial⟩
    · skip
      refine XO.nil ?_
      refine X.sub (p' := [(41, _), (4, _), (0, _), (1, _)]) ⟨rfl, rfl, rfl, rfl, trivial⟩ ?_
      rcases Decidable.em ((1 ≤ room ∧ room ≤ 16) ∧ l.length ≤ 100) with hf | hf
      · skip
        obtain ⟨⟨hr1, hr2⟩, hl⟩ := hf
        refine X.know 41 (.bool false) rfl (congrArg Value.bool (by simp; omega)) ?_
        have hok : formOk 1 1 [room] := ⟨by omega, by omega, by simp, fun r hr => by rw [List.mem_singleton.1 hr]; exact ⟨hr1, hr2⟩⟩
        refine X.condF rfl ?_
        refine X.skip ?_
        refine X.seq ?_
        refine X.region ?_
        refine XO.pu (Pu.move rfl) ?_
        refine XO.ef (Ef.lit1 (u := room) I64 Try.underlying29 Try.info3 rfl rfl) ?_
        rintro _ _ ⟨g2, rfl, rfl⟩
        refine XO.cX Try.call12 (Le.refl _) (New_ok (mm := 1) (cc := 1) (rooms := [room]) (Sees.lsH _) hok) ?_
        rintro _ _ ⟨p, σ0, hR0, rfl, rfl⟩
        refine XO.le (Le.syInQ p σ0 _) ?_
        have hk0 : (newS 1 1 [room]).ok 0 := newS_ok (m := 1) (c := 1) hok
        refine XO.pu (Pu.move rfl) ?_
        refine XO.pu (Pu.extract rfl rfl) ?_
        refine XO.pu (Pu.extract rfl rfl) ?_
        refine XO.pu (Pu.assign rfl) ?_
        refine XO.pu (Pu.assign rfl) ?_
        refine XO.nil ?_
        refine X.sub (p' := [(6, _), (5, _), (4, _), (0, _), (1, _)]) ⟨rfl, rfl, rfl, rfl, rfl, trivial⟩ ?_
        refine X.seq ?_
        refine X.region ?_
        refine XO.pu (Pu.assign rfl) ?_
        refine XO.nil ?_
        refine X.sub (p' := [(7, _), (6, _), (5, _), (4, _), (0, _), (1, _)]) ⟨rfl, rfl, rfl, rfl, rfl, rfl, trivial⟩ ?_
        refine X.seq ?_
        refine X.region ?_
        refine XO.pu (Pu.assign rfl) ?_
        refine XO.nil ?_
        refine X.sub (p' := [(8, _), (7, _), (6, _), (5, _), (4, _), (0, _), (1, _)]) ⟨rfl, rfl, rfl, rfl, rfl, rfl, rfl, trivial⟩ ?_
        refine X.seq ?_
        refine X.region ?_
        refine XO.pu (Pu.assign rfl) ?_
        refine XO.pu (Pu.assign rfl) ?_
        refine XO.pu (Pu.assign rfl) ?_
        refine XO.nil ?_
        refine X.sub (p' := [(11, _), (10, _), (9, _), (8, _), (7, _), (6, _), (5, _), (4, _), (0, _), (1, _)]) ⟨rfl, rfl, rfl, rfl, rfl, rfl, rfl, rfl, rfl, rfl, trivial⟩ ?_
        refine X.seq ?_
        refine X.seq ?_
        refine X.region ?_
        refine XO.pu (Pu.assign rfl) ?_
        refine XO.nil ?_
        refine X.sub (p' := [(12, _), (11, _), (10, _), (9, _), (8, _), (7, _), (6, _), (5, _), (4, _), (0, _), (1, _)]) ⟨rfl, rfl, rfl, rfl, rfl, rfl, rfl, rfl, rfl, rfl, rfl, trivial⟩ ?_
        refine X.block ?_
        refine X.at (X.loop (fun (g : OG) => g.i ≤ l.length ∧ Real g.σ (oS g.ow (g.cm.drop g.wk) room g.inl g.out) ∧ (oS g.ow (g.cm.drop g.wk) room g.inl g.out).ok g.i ∧ g.out ≤ g.inl.length ∧ g.wk ≤ g.cm.length ∧ g.inl.length ≤ g.i ∧ g.cm.length ≤ g.i) (fun g => [(0, .int .i64 room), (1, .slice a l.length c), (5, .pointer (some ⟨p, 0, none⟩)), (6, .int .i64 0), (7, .slice g.a7 g.inl.length g.c7), (8, .slice g.a8 g.cm.length g.c8), (9, .int .i64 (g.out : Int)), (10, .int .i64 (g.wk : Int)), (11, .int .i64 g.ow), (12, .int .i64 (g.i : Int))]) (fun g => lsH I64 2 g.a7 g.c7 g.inl :: lsH I64 3 g.a8 g.c8 g.cm :: syH p g.σ :: (q ++ F)) (fun g => l.length - g.i) (fun g hi_ ih => ?_) ⟨0, -1, [], [], 0, 0, none, 0, none, 0, σ0⟩ ⟨Nat.zero_le _, hR0, hk0, Nat.le_refl _, Nat.le_refl _, Nat.le_refl _, Nat.le_refl _⟩) ⟨(by first | rfl | exact congrArg some (congrArg (Value.int _) (by omega)) | (show some _ = some _; simp; done) | (show some _ = some _; simp; omega)), (by first | rfl | exact congrArg some (congrArg (Value.int _) (by omega)) | (show some _ = some _; simp; done) | (show some _ = some _; simp; omega)), (by first | rfl | exact congrArg some (congrArg (Value.int _) (by omega)) | (show some _ = some _; simp; done) | (show some _ = some _; simp; omega)), (by first | rfl | exact congrArg some (congrArg (Value.int _) (by omega)) | (show some _ = some _; simp; done) | (show some _ = some _; simp; omega)), (by first | rfl | exact congrArg some (congrArg (Value.int _) (by omega)) | (show some _ = some _; simp; done) | (show some _ = some _; simp; omega)), (by first | rfl | exact congrArg some (congrArg (Value.int _) (by omega)) | (show some _ = some _; simp; done) | (show some _ = some _; simp; omega)), (by first | rfl | exact congrArg some (congrArg (Value.int _) (by omega)) | (show some _ = some _; simp; done) | (show some _ = some _; simp; omega)), (by first | rfl | exact congrArg some (congrArg (Value.int _) (by omega)) | (show some _ = some _; simp; done) | (show some _ = some _; simp; omega)), (by first | rfl | exact congrArg some (congrArg (Value.int _) (by omega)) | (show some _ = some _; simp; done) | (show some _ = some _; simp; omega)), (by first | rfl | exact congrArg some (congrArg (Value.int _) (by omega)) | (show some _ = some _; simp; done) | (show some _ = some _; simp; omega)), trivial⟩ (Le.trans leA (Le.trans (Le.lsH_nil I64 2 _) (Le.trans (Le.lsH_nil I64 3 _) leA)))
        try dsimp only at hi_ ih ⊢
        obtain ⟨hi1, hR, hk, ho1, hw1, hl7, hl8⟩ := hi_
        obtain ⟨i, ow, inl, cm, out, wk, a7, c7, a8, c8, σ⟩ := g; dsimp only at *
        have how : -1 ≤ ow ∧ ow ≤ 7 := hk.o ow (by simp [oS])
        refine X.seq ?_
        refine X.seq ?_
        refine X.region ?_
        refine XO.pu (Pu.move rfl) ?_
        refine XO.pu (Pu.move rfl) ?_
        refine XO.pu (Pu.len rfl Try.underlying22) ?_
        refine XO.pu (Pu.lss rfl rfl) ?_
        refine XO.nil ?_
        refine X.sub (p' := [(52, _), (0, _), (1, _), (5, _), (6, _), (7, _), (8, _), (9, _), (10, _), (11, _), (12, _)]) ⟨rfl, rfl, rfl, rfl, rfl, rfl, rfl, rfl, rfl, rfl, rfl, trivial⟩ ?_
        refine X.part 52 rfl (fun h6 => ?_) (fun h6 => ?_)
        · skip
          have h6 : i < l.length := by simpa using h6
          refine X.adr (hs.le leA) (by rw [hlen]; omega) (fun b1 o1 e_ => ?_); subst e_
          have hdl : (cm.drop wk).length = cm.length - wk := List.length_drop; have hdl2 : (inl.drop out).length = inl.length - out := List.length_drop
          refine X.condT rfl ?_
          refine X.skip ?_
          refine X.seq ?_
          refine X.block ?_
          refine X.seq ?_
          refine X.region ?_
          refine XO.pu (Pu.move rfl) ?_
          refine XO.pu (Pu.move rfl) ?_
          refine XO.pu (Pu.indexAddr rfl rfl Try.underlying22 Try.sizeOf31 (by omega) (by omega)) ?_
          refine XO.ldS (n := i) Try.isAgg31 Try.sizeOf31 hs h6 ?_
          refine XO.ef (Ef.alloc Try.zeroValue31) ?_
          rintro _ _ ⟨n1, rfl, rfl⟩
          refine XO.ef0 (Ef.stA Try.sizeOf31) ?_
          rintro _ _ ⟨rfl, rfl⟩
          refine XO.nil ?_
          refine X.sub (p' := [(13, _), (0, _), (1, _), (5, _), (6, _), (7, _), (8, _), (9, _), (10, _), (11, _), (12, _)]) ⟨rfl, rfl, rfl, rfl, rfl, rfl, rfl, rfl, rfl, rfl, rfl, trivial⟩ ?_
          refine X.seq ?_
          refine X.region ?_
          refine XO.pu (Pu.fieldAddr 3 0 0 rfl Try.underlying31 rfl Try.sizeOf3) ?_
          refine XO.ld Try.isAgg3 ?_
          refine XO.nil ?_
          refine X.sub (p' := [(60, _), (13, _), (0, _), (1, _), (5, _), (6, _), (7, _), (8, _), (9, _), (10, _), (11, _), (12, _)]) ⟨rfl, rfl, rfl, rfl, rfl, rfl, rfl, rfl, rfl, rfl, rfl, rfl, trivial⟩ ?_
          refine X.block ?_
          refine X.seq ?_
          refine X.region ?_
          refine XO.pu (Pu.eql rfl rfl) ?_
          refine XO.pu (Pu.assign rfl) ?_
          refine XO.nil ?_
          refine X.sub (p' := [(93, _), (60, _), (13, _), (0, _), (1, _), (5, _), (6, _), (7, _), (8, _), (9, _), (10, _), (11, _), (12, _)]) ⟨rfl, rfl, rfl, rfl, rfl, rfl, rfl, rfl, rfl, rfl, rfl, rfl, rfl, trivial⟩ ?_
          rcases Decidable.em (l[i].1 = 0) with q0 | q0
          · skip
            refine X.know 93 (.bool true) rfl (congrArg Value.bool (by simp [q0])) ?_
            refine X.condT rfl ?_
            refine X.seq ?_
            refine X.region ?_
            refine XO.pu (Pu.move rfl) ?_
            refine XO.pu (Pu.fieldAddr 3 2 0 rfl Try.underlying31 rfl Try.sizeOf3) ?_
            refine XO.ld Try.isAgg3 ?_
            refine XO.cF Try.call13 (Lock_H (m := 0) (t := l[i].2.2.1) hR hk (by omega)) ?_
            rintro _ _ ⟨σ2, hR2, rfl, rfl⟩ _ e_; simp only [ca, na] at e_; subst e_
            have hk2 := lockS_ok (hk.mono (Nat.le_succ i)) 0 l[i].2.2.1; rw [oS_lock] at hR2 hk2 ⊢
            rcases Decidable.em (thr l[i].2.2.1) with k1 | k1
            · skip
              rw [if_pos k1] at hR2 hk2 ⊢
              rcases Decidable.em (ow = -1) with k2 | k2
              · skip
                rw [if_pos k2] at hR2 hk2 ⊢
                refine XO.pu (Pu.move rfl) ?_
                refine XO.pu (Pu.extract rfl rfl) ?_
                refine XO.pu (Pu.extract rfl rfl) ?_
                refine XO.pu (Pu.assign rfl) ?_
                refine XO.pu (Pu.assign rfl) ?_
                refine XO.nil ?_
                refine X.sub (p' := [(15, _), (14, _), (13, _), (0, _), (1, _), (5, _), (6, _), (7, _), (8, _), (9, _), (10, _), (11, _), (12, _)]) ⟨rfl, rfl, rfl, rfl, rfl, rfl, rfl, rfl, rfl, rfl, rfl, rfl, rfl, trivial⟩ ?_
                refine X.seq ?_
                refine X.seq ?_
                refine X.region ?_
                refine XO.pu (Pu.move rfl) ?_
                refine XO.pu (Pu.move rfl) ?_
                refine XO.cR Try.call14 (lnum_ok) ?_
                refine XO.pu (Pu.eql rfl rfl) ?_
                refine XO.pu (Pu.move rfl) ?_
                refine XO.know 106 (.bool true) rfl (congrArg Value.bool ((by first | rfl | (simp; done) | (simp; omega) | (dsimp only; simp; omega)))) ?_
                refine XO.pu (Pu.move rfl) ?_
                refine XO.pu (Pu.lss rfl rfl) ?_
                refine XO.pu (Pu.pickT rfl rfl) ?_
                refine XO.pu (Pu.neqB rfl rfl Try.underlying4) ?_
                refine XO.nil ?_
                refine X.sub (p' := [(110, _), (14, _), (13, _), (0, _), (1, _), (5, _), (6, _), (7, _), (8, _), (9, _), (10, _), (11, _), (12, _)]) ⟨rfl, rfl, rfl, rfl, rfl, rfl, rfl, rfl, rfl, rfl, rfl, rfl, rfl, trivial⟩ ?_
                refine X.know 110 (.bool false) rfl (congrArg Value.bool ((by first | rfl | (simp; done) | (simp; omega) | (dsimp only; simp; omega)))) ?_
                refine X.condF rfl ?_
                refine X.skip ?_
                refine X.seq ?_
                refine X.region ?_
                refine XO.pu (Pu.move rfl) ?_
                refine XO.nil ?_
                refine X.sub (p' := [(111, _), (13, _), (0, _), (1, _), (5, _), (6, _), (7, _), (8, _), (9, _), (10, _), (11, _), (12, _)]) ⟨rfl, rfl, rfl, rfl, rfl, rfl, rfl, rfl, rfl, rfl, rfl, rfl, trivial⟩ ?_
                refine X.know 111 (.bool true) rfl (congrArg Value.bool ((by first | rfl | (simp; done) | (simp; omega) | (dsimp only; simp; omega)))) ?_
                refine X.condT rfl ?_
                refine X.region ?_
                refine XO.pu (Pu.fieldAddr 3 2 0 rfl Try.underlying31 rfl Try.sizeOf3) ?_
                refine XO.ld Try.isAgg3 ?_
                refine XO.pu (Pu.assign rfl) ?_
                refine XO.nil ?_
                refine X.sub (p' := [(11, _), (0, _), (1, _), (5, _), (6, _), (7, _), (8, _), (9, _), (10, _), (12, _)]) ⟨rfl, rfl, rfl, rfl, rfl, rfl, rfl, rfl, rfl, rfl, trivial⟩ ?_
                refine X.inBlock ?_
                refine X.inBlock ?_
                refine X.region ?_
                refine XO.pu (Pu.move rfl) ?_
                refine XO.pu (Pu.add rfl rfl (by omega) (by omega)) ?_
                refine XO.pu (Pu.assign rfl) ?_
                refine XO.nil ?_
                refine X.sub (p' := [(12, _), (11, _), (0, _), (1, _), (5, _), (6, _), (7, _), (8, _), (9, _), (10, _)]) ⟨rfl, rfl, rfl, rfl, rfl, rfl, rfl, rfl, rfl, rfl, trivial⟩ ?_
                have hR3 : Real σ2 (oS (l[i].2.2.1) ((cm).drop (wk)) room (inl) (out)) := hR2
                have hk3 : (oS (l[i].2.2.1) ((cm).drop (wk)) room (inl) (out)).ok (i + 1) := hk2
                refine X.at (ih ⟨i + 1, l[i].2.2.1, inl, cm, out, wk, a7, c7, a8, c8, σ2⟩ ⟨by dsimp only; omega, hR3, hk3, by dsimp only; omega, by dsimp only; omega, by dsimp only; omega, by dsimp only; omega⟩ (by dsimp only; omega)) ⟨(by first | rfl | exact congrArg some (congrArg (Value.int _) (by omega)) | (show some _ = some _; simp; done) | (show some _ = some _; simp; omega)), (by first | rfl | exact congrArg some (congrArg (Value.int _) (by omega)) | (show some _ = some _; simp; done) | (show some _ = some _; simp; omega)), (by first | rfl | exact congrArg some (congrArg (Value.int _) (by omega)) | (show some _ = some _; simp; done) | (show some _ = some _; simp; omega)), (by first | rfl | exact congrArg some (congrArg (Value.int _) (by omega)) | (show some _ = some _; simp; done) | (show some _ = some _; simp; omega)), (by first | rfl | exact congrArg some (congrArg (Value.int _) (by omega)) | (show some _ = some _; simp; done) | (show some _ = some _; simp; omega)), (by first | rfl | exact congrArg some (congrArg (Value.int _) (by omega)) | (show some _ = some _; simp; done) | (show some _ = some _; simp; omega)), (by first | rfl | exact congrArg some (congrArg (Value.int _) (by omega)) | (show some _ = some _; simp; done) | (show some _ = some _; simp; omega)), (by first | rfl | exact congrArg some (congrArg (Value.int _) (by omega)) | (show some _ = some _; simp; done) | (show some _ = some _; simp; omega)), (by first | rfl | exact congrArg some (congrArg (Value.int _) (by omega)) | (show some _ = some _; simp; done) | (show some _ = some _; simp; omega)), (by first | rfl | exact congrArg some (congrArg (Value.int _) (by omega)) | (show some _ = some _; simp; done) | (show some _ = some _; simp; omega)), trivial⟩ leA
              · skip
                rw [if_neg k2] at hR2 hk2 ⊢
                refine XO.pu (Pu.move rfl) ?_
                refine XO.pu (Pu.extract rfl rfl) ?_
                refine XO.pu (Pu.extract rfl rfl) ?_
                refine XO.pu (Pu.assign rfl) ?_
                refine XO.pu (Pu.assign rfl) ?_
                refine XO.nil ?_
                refine X.sub (p' := [(15, _), (14, _), (13, _), (0, _), (1, _), (5, _), (6, _), (7, _), (8, _), (9, _), (10, _), (11, _), (12, _)]) ⟨rfl, rfl, rfl, rfl, rfl, rfl, rfl, rfl, rfl, rfl, rfl, rfl, rfl, trivial⟩ ?_
                refine X.seq ?_
                refine X.seq ?_
                refine X.region ?_
                refine XO.pu (Pu.move rfl) ?_
                refine XO.pu (Pu.move rfl) ?_
                refine XO.cR Try.call14 (lnum_ok) ?_
                refine XO.pu (Pu.eql rfl rfl) ?_
                refine XO.pu (Pu.move rfl) ?_
                refine XO.know 106 (.bool true) rfl (congrArg Value.bool ((by first | rfl | (simp; done) | (simp; omega) | (dsimp only; simp; omega)))) ?_
                refine XO.pu (Pu.move rfl) ?_
                refine XO.pu (Pu.lss rfl rfl) ?_
                refine XO.pu (Pu.pickT rfl rfl) ?_
                refine XO.pu (Pu.neqB rfl rfl Try.underlying4) ?_
                refine XO.nil ?_
                refine X.sub (p' := [(110, _), (14, _), (13, _), (0, _), (1, _), (5, _), (6, _), (7, _), (8, _), (9, _), (10, _), (11, _), (12, _)]) ⟨rfl, rfl, rfl, rfl, rfl, rfl, rfl, rfl, rfl, rfl, rfl, rfl, rfl, trivial⟩ ?_
                refine X.know 110 (.bool false) rfl (congrArg Value.bool ((by first | rfl | (simp; done) | (simp; omega) | (dsimp only; simp; omega)))) ?_
                refine X.condF rfl ?_
                refine X.skip ?_
                refine X.seq ?_
                refine X.region ?_
                refine XO.pu (Pu.move rfl) ?_
                refine XO.nil ?_
                refine X.sub (p' := [(111, _), (13, _), (0, _), (1, _), (5, _), (6, _), (7, _), (8, _), (9, _), (10, _), (11, _), (12, _)]) ⟨rfl, rfl, rfl, rfl, rfl, rfl, rfl, rfl, rfl, rfl, rfl, rfl, trivial⟩ ?_
                refine X.know 111 (.bool false) rfl (congrArg Value.bool ((by first | rfl | (simp; done) | (simp; omega) | (dsimp only; simp; omega)))) ?_
                refine X.condF rfl ?_
                refine X.skip ?_
                refine X.inBlock ?_
                refine X.inBlock ?_
                refine X.region ?_
                refine XO.pu (Pu.move rfl) ?_
                refine XO.pu (Pu.add rfl rfl (by omega) (by omega)) ?_
                refine XO.pu (Pu.assign rfl) ?_
                refine XO.nil ?_
                refine X.sub (p' := [(12, _), (0, _), (1, _), (5, _), (6, _), (7, _), (8, _), (9, _), (10, _), (11, _)]) ⟨rfl, rfl, rfl, rfl, rfl, rfl, rfl, rfl, rfl, rfl, trivial⟩ ?_
                have hR3 : Real σ2 (oS (ow) ((cm).drop (wk)) room (inl) (out)) := hR2
                have hk3 : (oS (ow) ((cm).drop (wk)) room (inl) (out)).ok (i + 1) := hk2
                refine X.at (ih ⟨i + 1, ow, inl, cm, out, wk, a7, c7, a8, c8, σ2⟩ ⟨by dsimp only; omega, hR3, hk3, by dsimp only; omega, by dsimp only; omega, by dsimp only; omega, by dsimp only; omega⟩ (by dsimp only; omega)) ⟨(by first | rfl | exact congrArg some (congrArg (Value.int _) (by omega)) | (show some _ = some _; simp; done) | (show some _ = some _; simp; omega)), (by first | rfl | exact congrArg some (congrArg (Value.int _) (by omega)) | (show some _ = some _; simp; done) | (show some _ = some _; simp; omega)), (by first | rfl | exact congrArg some (congrArg (Value.int _) (by omega)) | (show some _ = some _; simp; done) | (show some _ = some _; simp; omega)), (by first | rfl | exact congrArg some (congrArg (Value.int _) (by omega)) | (show some _ = some _; simp; done) | (show some _ = some _; simp; omega)), (by first | rfl | exact congrArg some (congrArg (Value.int _) (by omega)) | (show some _ = some _; simp; done) | (show some _ = some _; simp; omega)), (by first | rfl | exact congrArg some (congrArg (Value.int _) (by omega)) | (show some _ = some _; simp; done) | (show some _ = some _; simp; omega)), (by first | rfl | exact congrArg some (congrArg (Value.int _) (by omega)) | (show some _ = some _; simp; done) | (show some _ = some _; simp; omega)), (by first | rfl | exact congrArg some (congrArg (Value.int _) (by omega)) | (show some _ = some _; simp; done) | (show some _ = some _; simp; omega)), (by first | rfl | exact congrArg some (congrArg (Value.int _) (by omega)) | (show some _ = some _; simp; done) | (show some _ = some _; simp; omega)), (by first | rfl | exact congrArg some (congrArg (Value.int _) (by omega)) | (show some _ = some _; simp; done) | (show some _ = some _; simp; omega)), trivial⟩ leA
            · skip
              rw [if_neg k1] at hR2 hk2 ⊢
              refine XO.pu (Pu.move rfl) ?_
              refine XO.pu (Pu.extract rfl rfl) ?_
              refine XO.pu (Pu.extract rfl rfl) ?_
              refine XO.pu (Pu.assign rfl) ?_
              refine XO.pu (Pu.assign rfl) ?_
              refine XO.nil ?_
              refine X.sub (p' := [(15, _), (14, _), (13, _), (0, _), (1, _), (5, _), (6, _), (7, _), (8, _), (9, _), (10, _), (11, _), (12, _)]) ⟨rfl, rfl, rfl, rfl, rfl, rfl, rfl, rfl, rfl, rfl, rfl, rfl, rfl, trivial⟩ ?_
              refine X.seq ?_
              refine X.seq ?_
              refine X.region ?_
              refine XO.pu (Pu.move rfl) ?_
              refine XO.pu (Pu.move rfl) ?_
              refine XO.cR Try.call14 (lnum_ok) ?_
              refine XO.pu (Pu.eql rfl rfl) ?_
              refine XO.pu (Pu.move rfl) ?_
              refine XO.know 106 (.bool false) rfl (congrArg Value.bool ((by first | rfl | (simp; done) | (simp; omega) | (dsimp only; simp; omega)))) ?_
              refine XO.pass rfl ?_
              refine XO.pass rfl ?_
              refine XO.pu (Pu.pickF rfl rfl) ?_
              refine XO.pu (Pu.neqB rfl rfl Try.underlying4) ?_
              refine XO.nil ?_
              refine X.sub (p' := [(110, _), (14, _), (13, _), (0, _), (1, _), (5, _), (6, _), (7, _), (8, _), (9, _), (10, _), (11, _), (12, _)]) ⟨rfl, rfl, rfl, rfl, rfl, rfl, rfl, rfl, rfl, rfl, rfl, rfl, rfl, trivial⟩ ?_
              refine X.know 110 (.bool false) rfl (congrArg Value.bool ((by first | rfl | (simp; done) | (simp; omega) | (dsimp only; simp; omega)))) ?_
              refine X.condF rfl ?_
              refine X.skip ?_
              refine X.seq ?_
              refine X.region ?_
              refine XO.pu (Pu.move rfl) ?_
              refine XO.nil ?_
              refine X.sub (p' := [(111, _), (13, _), (0, _), (1, _), (5, _), (6, _), (7, _), (8, _), (9, _), (10, _), (11, _), (12, _)]) ⟨rfl, rfl, rfl, rfl, rfl, rfl, rfl, rfl, rfl, rfl, rfl, rfl, trivial⟩ ?_
              refine X.know 111 (.bool false) rfl (congrArg Value.bool ((by first | rfl | (simp; done) | (simp; omega) | (dsimp only; simp; omega)))) ?_
              refine X.condF rfl ?_
              refine X.skip ?_
              refine X.inBlock ?_
              refine X.inBlock ?_
              refine X.region ?_
              refine XO.pu (Pu.move rfl) ?_
              refine XO.pu (Pu.add rfl rfl (by omega) (by omega)) ?_
              refine XO.pu (Pu.assign rfl) ?_
              refine XO.nil ?_
              refine X.sub (p' := [(12, _), (0, _), (1, _), (5, _), (6, _), (7, _), (8, _), (9, _), (10, _), (11, _)]) ⟨rfl, rfl, rfl, rfl, rfl, rfl, rfl, rfl, rfl, rfl, trivial⟩ ?_
              have hR3 : Real σ2 (oS (ow) ((cm).drop (wk)) room (inl) (out)) := hR2
              have hk3 : (oS (ow) ((cm).drop (wk)) room (inl) (out)).ok (i + 1) := hk2
              refine X.at (ih ⟨i + 1, ow, inl, cm, out, wk, a7, c7, a8, c8, σ2⟩ ⟨by dsimp only; omega, hR3, hk3, by dsimp only; omega, by dsimp only; omega, by dsimp only; omega, by dsimp only; omega⟩ (by dsimp only; omega)) ⟨(by first | rfl | exact congrArg some (congrArg (Value.int _) (by omega)) | (show some _ = some _; simp; done) | (show some _ = some _; simp; omega)), (by first | rfl | exact congrArg some (congrArg (Value.int _) (by omega)) | (show some _ = some _; simp; done) | (show some _ = some _; simp; omega)), (by first | rfl | exact congrArg some (congrArg (Value.int _) (by omega)) | (show some _ = some _; simp; done) | (show some _ = some _; simp; omega)), (by first | rfl | exact congrArg some (congrArg (Value.int _) (by omega)) | (show some _ = some _; simp; done) | (show some _ = some _; simp; omega)), (by first | rfl | exact congrArg some (congrArg (Value.int _) (by omega)) | (show some _ = some _; simp; done) | (show some _ = some _; simp; omega)), (by first | rfl | exact congrArg some (congrArg (Value.int _) (by omega)) | (show some _ = some _; simp; done) | (show some _ = some _; simp; omega)), (by first | rfl | exact congrArg some (congrArg (Value.int _) (by omega)) | (show some _ = some _; simp; done) | (show some _ = some _; simp; omega)), (by first | rfl | exact congrArg some (congrArg (Value.int _) (by omega)) | (show some _ = some _; simp; done) | (show some _ = some _; simp; omega)), (by first | rfl | exact congrArg some (congrArg (Value.int _) (by omega)) | (show some _ = some _; simp; done) | (show some _ = some _; simp; omega)), (by first | rfl | exact congrArg some (congrArg (Value.int _) (by omega)) | (show some _ = some _; simp; done) | (show some _ = some _; simp; omega)), trivial⟩ leA
          · skip
            refine X.know 93 (.bool false) rfl (congrArg Value.bool (by simp [q0])) ?_
            refine X.condF rfl ?_
            refine X.seq ?_
            refine X.region ?_
            refine XO.pu (Pu.eql rfl rfl) ?_
            refine XO.pu (Pu.assign rfl) ?_
            refine XO.nil ?_
            refine X.sub (p' := [(114, _), (60, _), (13, _), (0, _), (1, _), (5, _), (6, _), (7, _), (8, _), (9, _), (10, _), (11, _), (12, _)]) ⟨rfl, rfl, rfl, rfl, rfl, rfl, rfl, rfl, rfl, rfl, rfl, rfl, rfl, trivial⟩ ?_
            rcases Decidable.em (l[i].1 = 1) with q1 | q1
            · skip
              refine X.know 114 (.bool true) rfl (congrArg Value.bool (by simp [q1])) ?_
              refine X.condT rfl ?_
              refine X.seq ?_
              refine X.region ?_
              refine XO.pu (Pu.move rfl) ?_
              refine XO.pu (Pu.fieldAddr 3 2 0 rfl Try.underlying31 rfl Try.sizeOf3) ?_
              refine XO.ld Try.isAgg3 ?_
              refine XO.cF Try.call15 (Unlock_H (m := 0) (t := l[i].2.2.1) hR hk (by omega)) ?_
              rintro _ _ ⟨σ2, hR2, rfl, rfl⟩ _ e_; simp only [ca, na] at e_; subst e_
              have hk2 := unlockS_ok (hk.mono (Nat.le_succ i)) 0 l[i].2.2.1; rw [oS_unlock] at hR2 hk2 ⊢
              rcases Decidable.em (thr l[i].2.2.1) with k1 | k1
              · skip
                rw [if_pos k1] at hR2 hk2 ⊢
                rcases Decidable.em (ow = l[i].2.2.1) with k2 | k2
                · skip
                  rw [if_pos k2] at hR2 hk2 ⊢
                  refine XO.pu (Pu.assign rfl) ?_
                  refine XO.nil ?_
                  refine X.sub (p' := [(16, _), (13, _), (0, _), (1, _), (5, _), (6, _), (7, _), (8, _), (9, _), (10, _), (11, _), (12, _)]) ⟨rfl, rfl, rfl, rfl, rfl, rfl, rfl, rfl, rfl, rfl, rfl, rfl, trivial⟩ ?_
                  refine X.seq ?_
                  refine X.seq ?_
                  refine X.region ?_
                  refine XO.pu (Pu.move rfl) ?_
                  refine XO.cR Try.call14 (lnum_ok) ?_
                  refine XO.pu (Pu.eql rfl rfl) ?_
                  refine XO.pu (Pu.move rfl) ?_
                  refine XO.pu (Pu.geq rfl rfl) ?_
                  refine XO.pu (Pu.move rfl) ?_
                  refine XO.sub (p' := [(125, _), (122, _), (16, _), (13, _), (0, _), (1, _), (5, _), (6, _), (7, _), (8, _), (9, _), (10, _), (11, _), (12, _)]) ⟨rfl, rfl, rfl, rfl, rfl, rfl, rfl, rfl, rfl, rfl, rfl, rfl, rfl, rfl, trivial⟩ ?_
                  apply XO.cutAnd 5 130 125 rfl
                  · skip
                    intro g1 M1; have h1 := g1; try simp only [decide_eq_true_eq, decide_eq_false_iff_not, bne_iff_ne, beq_iff_eq, ne_eq, bne_eq_false_iff_eq, beq_eq_false_iff_ne, Bool.not_eq_true', Bool.not_eq_false', Int.not_lt, Int.not_le, Bool.not_not, Bool.and_eq_true, Bool.and_eq_false_iff, Bool.true_and, Bool.and_true, beq_self_eq_true, Bool.or_eq_true, Bool.or_eq_false_iff] at h1
                    refine XO.pu (Pu.move rfl) ?_
                    refine XO.pu (Pu.fieldAddr 3 2 0 rfl Try.underlying31 rfl Try.sizeOf3) ?_
                    refine XO.ld Try.isAgg3 ?_
                    refine XO.pu (Pu.eql rfl rfl) ?_
                    refine XO.pu (Pu.pickT rfl rfl) ?_
                    exact XO.fin M1 ⟨andT g1, congrArg (fun x => some (Value.bool x)) g1.symm, rfl, rfl, rfl, rfl, rfl, rfl, rfl, rfl, rfl, rfl, rfl, rfl, rfl, trivial⟩
                  · skip
                    intro g1 M1; have h1 := g1; try simp only [decide_eq_true_eq, decide_eq_false_iff_not, bne_iff_ne, beq_iff_eq, ne_eq, bne_eq_false_iff_eq, beq_eq_false_iff_ne, Bool.not_eq_true', Bool.not_eq_false', Int.not_lt, Int.not_le, Bool.not_not, Bool.and_eq_true, Bool.and_eq_false_iff, Bool.true_and, Bool.and_true, beq_self_eq_true, Bool.or_eq_true, Bool.or_eq_false_iff] at h1
                    refine XO.pass rfl ?_
                    refine XO.pass rfl ?_
                    refine XO.pass rfl ?_
                    refine XO.pass rfl ?_
                    refine XO.pu (Pu.pickF rfl rfl) ?_
                    exact XO.fin M1 ⟨andF g1, congrArg (fun x => some (Value.bool x)) g1.symm, rfl, rfl, rfl, rfl, rfl, rfl, rfl, rfl, rfl, rfl, rfl, rfl, rfl, trivial⟩
                  · skip
                    refine XO.pu (Pu.neqB rfl rfl Try.underlying4) ?_
                    refine XO.nil ?_
                    refine X.sub (p' := [(131, _), (16, _), (0, _), (1, _), (5, _), (6, _), (7, _), (8, _), (9, _), (10, _), (11, _), (12, _)]) ⟨rfl, rfl, rfl, rfl, rfl, rfl, rfl, rfl, rfl, rfl, rfl, rfl, trivial⟩ ?_
                    refine X.know 131 (.bool false) rfl (congrArg Value.bool ((by first | rfl | (simp; done) | (simp; omega) | (dsimp only; simp; omega)))) ?_
                    refine X.condF rfl ?_
                    refine X.skip ?_
                    refine X.seq ?_
                    refine X.region ?_
                    refine XO.pu (Pu.move rfl) ?_
                    refine XO.cR Try.call14 (lnum_ok) ?_
                    refine XO.pu (Pu.eql rfl rfl) ?_
                    refine XO.nil ?_
                    refine X.sub (p' := [(134, _), (0, _), (1, _), (5, _), (6, _), (7, _), (8, _), (9, _), (10, _), (11, _), (12, _)]) ⟨rfl, rfl, rfl, rfl, rfl, rfl, rfl, rfl, rfl, rfl, rfl, trivial⟩ ?_
                    refine X.know 134 (.bool true) rfl (congrArg Value.bool ((by first | rfl | (simp; done) | (simp; omega) | (dsimp only; simp; omega)))) ?_
                    refine X.condT rfl ?_
                    refine X.region ?_
                    refine XO.pu (Pu.assign rfl) ?_
                    refine XO.nil ?_
                    refine X.sub (p' := [(11, _), (0, _), (1, _), (5, _), (6, _), (7, _), (8, _), (9, _), (10, _), (12, _)]) ⟨rfl, rfl, rfl, rfl, rfl, rfl, rfl, rfl, rfl, rfl, trivial⟩ ?_
                    refine X.inBlock ?_
                    refine X.inBlock ?_
                    refine X.region ?_
                    refine XO.pu (Pu.move rfl) ?_
                    refine XO.pu (Pu.add rfl rfl (by omega) (by omega)) ?_
                    refine XO.pu (Pu.assign rfl) ?_
                    refine XO.nil ?_
                    refine X.sub (p' := [(12, _), (11, _), (0, _), (1, _), (5, _), (6, _), (7, _), (8, _), (9, _), (10, _)]) ⟨rfl, rfl, rfl, rfl, rfl, rfl, rfl, rfl, rfl, rfl, trivial⟩ ?_
                    have hR3 : Real σ2 (oS (-1) ((cm).drop (wk)) room (inl) (out)) := hR2
                    have hk3 : (oS (-1) ((cm).drop (wk)) room (inl) (out)).ok (i + 1) := hk2
                    refine X.at (ih ⟨i + 1, -1, inl, cm, out, wk, a7, c7, a8, c8, σ2⟩ ⟨by dsimp only; omega, hR3, hk3, by dsimp only; omega, by dsimp only; omega, by dsimp only; omega, by dsimp only; omega⟩ (by dsimp only; omega)) ⟨(by first | rfl | exact congrArg some (congrArg (Value.int _) (by omega)) | (show some _ = some _; simp; done) | (show some _ = some _; simp; omega)), (by first | rfl | exact congrArg some (congrArg (Value.int _) (by omega)) | (show some _ = some _; simp; done) | (show some _ = some _; simp; omega)), (by first | rfl | exact congrArg some (congrArg (Value.int _) (by omega)) | (show some _ = some _; simp; done) | (show some _ = some _; simp; omega)), (by first | rfl | exact congrArg some (congrArg (Value.int _) (by omega)) | (show some _ = some _; simp; done) | (show some _ = some _; simp; omega)), (by first | rfl | exact congrArg some (congrArg (Value.int _) (by omega)) | (show some _ = some _; simp; done) | (show some _ = some _; simp; omega)), (by first | rfl | exact congrArg some (congrArg (Value.int _) (by omega)) | (show some _ = some _; simp; done) | (show some _ = some _; simp; omega)), (by first | rfl | exact congrArg some (congrArg (Value.int _) (by omega)) | (show some _ = some _; simp; done) | (show some _ = some _; simp; omega)), (by first | rfl | exact congrArg some (congrArg (Value.int _) (by omega)) | (show some _ = some _; simp; done) | (show some _ = some _; simp; omega)), (by first | rfl | exact congrArg some (congrArg (Value.int _) (by omega)) | (show some _ = some _; simp; done) | (show some _ = some _; simp; omega)), (by first | rfl | exact congrArg some (congrArg (Value.int _) (by omega)) | (show some _ = some _; simp; done) | (show some _ = some _; simp; omega)), trivial⟩ leA
                · skip
                  rw [if_neg k2] at hR2 hk2 ⊢
                  refine XO.pu (Pu.assign rfl) ?_
                  refine XO.nil ?_
                  refine X.sub (p' := [(16, _), (13, _), (0, _), (1, _), (5, _), (6, _), (7, _), (8, _), (9, _), (10, _), (11, _), (12, _)]) ⟨rfl, rfl, rfl, rfl, rfl, rfl, rfl, rfl, rfl, rfl, rfl, rfl, trivial⟩ ?_
                  refine X.seq ?_
                  refine X.seq ?_
                  refine X.region ?_
                  refine XO.pu (Pu.move rfl) ?_
                  refine XO.cR Try.call14 (lnum_ok) ?_
                  refine XO.pu (Pu.eql rfl rfl) ?_
                  refine XO.pu (Pu.move rfl) ?_
                  refine XO.pu (Pu.geq rfl rfl) ?_
                  refine XO.pu (Pu.move rfl) ?_
                  refine XO.sub (p' := [(125, _), (122, _), (16, _), (13, _), (0, _), (1, _), (5, _), (6, _), (7, _), (8, _), (9, _), (10, _), (11, _), (12, _)]) ⟨rfl, rfl, rfl, rfl, rfl, rfl, rfl, rfl, rfl, rfl, rfl, rfl, rfl, rfl, trivial⟩ ?_
                  apply XO.cutAnd 5 130 125 rfl
                  · skip
                    intro g1 M1; have h1 := g1; try simp only [decide_eq_true_eq, decide_eq_false_iff_not, bne_iff_ne, beq_iff_eq, ne_eq, bne_eq_false_iff_eq, beq_eq_false_iff_ne, Bool.not_eq_true', Bool.not_eq_false', Int.not_lt, Int.not_le, Bool.not_not, Bool.and_eq_true, Bool.and_eq_false_iff, Bool.true_and, Bool.and_true, beq_self_eq_true, Bool.or_eq_true, Bool.or_eq_false_iff] at h1
                    refine XO.pu (Pu.move rfl) ?_
                    refine XO.pu (Pu.fieldAddr 3 2 0 rfl Try.underlying31 rfl Try.sizeOf3) ?_
                    refine XO.ld Try.isAgg3 ?_
                    refine XO.pu (Pu.eql rfl rfl) ?_
                    refine XO.pu (Pu.pickT rfl rfl) ?_
                    exact XO.fin M1 ⟨andT g1, congrArg (fun x => some (Value.bool x)) g1.symm, rfl, rfl, rfl, rfl, rfl, rfl, rfl, rfl, rfl, rfl, rfl, rfl, rfl, trivial⟩
                  · skip
                    intro g1 M1; have h1 := g1; try simp only [decide_eq_true_eq, decide_eq_false_iff_not, bne_iff_ne, beq_iff_eq, ne_eq, bne_eq_false_iff_eq, beq_eq_false_iff_ne, Bool.not_eq_true', Bool.not_eq_false', Int.not_lt, Int.not_le, Bool.not_not, Bool.and_eq_true, Bool.and_eq_false_iff, Bool.true_and, Bool.and_true, beq_self_eq_true, Bool.or_eq_true, Bool.or_eq_false_iff] at h1
                    refine XO.pass rfl ?_
                    refine XO.pass rfl ?_
                    refine XO.pass rfl ?_
                    refine XO.pass rfl ?_
                    refine XO.pu (Pu.pickF rfl rfl) ?_
                    exact XO.fin M1 ⟨andF g1, congrArg (fun x => some (Value.bool x)) g1.symm, rfl, rfl, rfl, rfl, rfl, rfl, rfl, rfl, rfl, rfl, rfl, rfl, rfl, trivial⟩
                  · skip
                    refine XO.pu (Pu.neqB rfl rfl Try.underlying4) ?_
                    refine XO.nil ?_
                    refine X.sub (p' := [(131, _), (16, _), (0, _), (1, _), (5, _), (6, _), (7, _), (8, _), (9, _), (10, _), (11, _), (12, _)]) ⟨rfl, rfl, rfl, rfl, rfl, rfl, rfl, rfl, rfl, rfl, rfl, rfl, trivial⟩ ?_
                    refine X.know 131 (.bool false) rfl (congrArg Value.bool ((by first | rfl | (simp; done) | (simp; omega) | (dsimp only; simp; omega)))) ?_
                    refine X.condF rfl ?_
                    refine X.skip ?_
                    refine X.seq ?_
                    refine X.region ?_
                    refine XO.pu (Pu.move rfl) ?_
                    refine XO.cR Try.call14 (lnum_ok) ?_
                    refine XO.pu (Pu.eql rfl rfl) ?_
                    refine XO.nil ?_
                    refine X.sub (p' := [(134, _), (0, _), (1, _), (5, _), (6, _), (7, _), (8, _), (9, _), (10, _), (11, _), (12, _)]) ⟨rfl, rfl, rfl, rfl, rfl, rfl, rfl, rfl, rfl, rfl, rfl, trivial⟩ ?_
                    refine X.know 134 (.bool false) rfl (congrArg Value.bool ((by first | rfl | (simp; done) | (simp; omega) | (dsimp only; simp; omega)))) ?_
                    refine X.condF rfl ?_
                    refine X.skip ?_
                    refine X.inBlock ?_
                    refine X.inBlock ?_
                    refine X.region ?_
                    refine XO.pu (Pu.move rfl) ?_
                    refine XO.pu (Pu.add rfl rfl (by omega) (by omega)) ?_
                    refine XO.pu (Pu.assign rfl) ?_
                    refine XO.nil ?_
                    refine X.sub (p' := [(12, _), (0, _), (1, _), (5, _), (6, _), (7, _), (8, _), (9, _), (10, _), (11, _)]) ⟨rfl, rfl, rfl, rfl, rfl, rfl, rfl, rfl, rfl, rfl, trivial⟩ ?_
                    have hR3 : Real σ2 (oS (ow) ((cm).drop (wk)) room (inl) (out)) := hR2
                    have hk3 : (oS (ow) ((cm).drop (wk)) room (inl) (out)).ok (i + 1) := hk2
                    refine X.at (ih ⟨i + 1, ow, inl, cm, out, wk, a7, c7, a8, c8, σ2⟩ ⟨by dsimp only; omega, hR3, hk3, by dsimp only; omega, by dsimp only; omega, by dsimp only; omega, by dsimp only; omega⟩ (by dsimp only; omega)) ⟨(by first | rfl | exact congrArg some (congrArg (Value.int _) (by omega)) | (show some _ = some _; simp; done) | (show some _ = some _; simp; omega)), (by first | rfl | exact congrArg some (congrArg (Value.int _) (by omega)) | (show some _ = some _; simp; done) | (show some _ = some _; simp; omega)), (by first | rfl | exact congrArg some (congrArg (Value.int _) (by omega)) | (show some _ = some _; simp; done) | (show some _ = some _; simp; omega)), (by first | rfl | exact congrArg some (congrArg (Value.int _) (by omega)) | (show some _ = some _; simp; done) | (show some _ = some _; simp; omega)), (by first | rfl | exact congrArg some (congrArg (Value.int _) (by omega)) | (show some _ = some _; simp; done) | (show some _ = some _; simp; omega)), (by first | rfl | exact congrArg some (congrArg (Value.int _) (by omega)) | (show some _ = some _; simp; done) | (show some _ = some _; simp; omega)), (by first | rfl | exact congrArg some (congrArg (Value.int _) (by omega)) | (show some _ = some _; simp; done) | (show some _ = some _; simp; omega)), (by first | rfl | exact congrArg some (congrArg (Value.int _) (by omega)) | (show some _ = some _; simp; done) | (show some _ = some _; simp; omega)), (by first | rfl | exact congrArg some (congrArg (Value.int _) (by omega)) | (show some _ = some _; simp; done) | (show some _ = some _; simp; omega)), (by first | rfl | exact congrArg some (congrArg (Value.int _) (by omega)) | (show some _ = some _; simp; done) | (show some _ = some _; simp; omega)), trivial⟩ leA
              · skip
                rw [if_neg k1] at hR2 hk2 ⊢
                unfold thr at k1
                refine XO.pu (Pu.assign rfl) ?_
                refine XO.nil ?_
                refine X.sub (p' := [(16, _), (13, _), (0, _), (1, _), (5, _), (6, _), (7, _), (8, _), (9, _), (10, _), (11, _), (12, _)]) ⟨rfl, rfl, rfl, rfl, rfl, rfl, rfl, rfl, rfl, rfl, rfl, rfl, trivial⟩ ?_
                refine X.seq ?_
                refine X.seq ?_
                refine X.region ?_
                refine XO.pu (Pu.move rfl) ?_
                refine XO.cR Try.call14 (lnum_ok) ?_
                refine XO.pu (Pu.eql rfl rfl) ?_
                refine XO.pu (Pu.move rfl) ?_
                refine XO.pu (Pu.geq rfl rfl) ?_
                refine XO.pu (Pu.move rfl) ?_
                refine XO.sub (p' := [(125, _), (122, _), (16, _), (13, _), (0, _), (1, _), (5, _), (6, _), (7, _), (8, _), (9, _), (10, _), (11, _), (12, _)]) ⟨rfl, rfl, rfl, rfl, rfl, rfl, rfl, rfl, rfl, rfl, rfl, rfl, rfl, rfl, trivial⟩ ?_
                apply XO.cutAnd 5 130 125 rfl
                · skip
                  intro g1 M1; have h1 := g1; try simp only [decide_eq_true_eq, decide_eq_false_iff_not, bne_iff_ne, beq_iff_eq, ne_eq, bne_eq_false_iff_eq, beq_eq_false_iff_ne, Bool.not_eq_true', Bool.not_eq_false', Int.not_lt, Int.not_le, Bool.not_not, Bool.and_eq_true, Bool.and_eq_false_iff, Bool.true_and, Bool.and_true, beq_self_eq_true, Bool.or_eq_true, Bool.or_eq_false_iff] at h1
                  refine XO.pu (Pu.move rfl) ?_
                  refine XO.pu (Pu.fieldAddr 3 2 0 rfl Try.underlying31 rfl Try.sizeOf3) ?_
                  refine XO.ld Try.isAgg3 ?_
                  refine XO.pu (Pu.eql rfl rfl) ?_
                  refine XO.pu (Pu.pickT rfl rfl) ?_
                  exact XO.fin M1 ⟨andT g1, congrArg (fun x => some (Value.bool x)) g1.symm, rfl, rfl, rfl, rfl, rfl, rfl, rfl, rfl, rfl, rfl, rfl, rfl, rfl, trivial⟩
                · skip
                  intro g1 M1; have h1 := g1; try simp only [decide_eq_true_eq, decide_eq_false_iff_not, bne_iff_ne, beq_iff_eq, ne_eq, bne_eq_false_iff_eq, beq_eq_false_iff_ne, Bool.not_eq_true', Bool.not_eq_false', Int.not_lt, Int.not_le, Bool.not_not, Bool.and_eq_true, Bool.and_eq_false_iff, Bool.true_and, Bool.and_true, beq_self_eq_true, Bool.or_eq_true, Bool.or_eq_false_iff] at h1
                  refine XO.pass rfl ?_
                  refine XO.pass rfl ?_
                  refine XO.pass rfl ?_
                  refine XO.pass rfl ?_
                  refine XO.pu (Pu.pickF rfl rfl) ?_
                  exact XO.fin M1 ⟨andF g1, congrArg (fun x => some (Value.bool x)) g1.symm, rfl, rfl, rfl, rfl, rfl, rfl, rfl, rfl, rfl, rfl, rfl, rfl, rfl, trivial⟩
                · skip
                  refine XO.pu (Pu.neqB rfl rfl Try.underlying4) ?_
                  refine XO.nil ?_
                  refine X.sub (p' := [(131, _), (16, _), (0, _), (1, _), (5, _), (6, _), (7, _), (8, _), (9, _), (10, _), (11, _), (12, _)]) ⟨rfl, rfl, rfl, rfl, rfl, rfl, rfl, rfl, rfl, rfl, rfl, rfl, trivial⟩ ?_
                  refine X.know 131 (.bool false) rfl (congrArg Value.bool ((by first | rfl | (simp; done) | (simp; omega) | (dsimp only; simp; omega)))) ?_
                  refine X.condF rfl ?_
                  refine X.skip ?_
                  refine X.seq ?_
                  refine X.region ?_
                  refine XO.pu (Pu.move rfl) ?_
                  refine XO.cR Try.call14 (lnum_ok) ?_
                  refine XO.pu (Pu.eql rfl rfl) ?_
                  refine XO.nil ?_
                  refine X.sub (p' := [(134, _), (0, _), (1, _), (5, _), (6, _), (7, _), (8, _), (9, _), (10, _), (11, _), (12, _)]) ⟨rfl, rfl, rfl, rfl, rfl, rfl, rfl, rfl, rfl, rfl, rfl, trivial⟩ ?_
                  refine X.know 134 (.bool false) rfl (congrArg Value.bool ((by first | rfl | (simp; done) | (simp; omega) | (dsimp only; simp; omega)))) ?_
                  refine X.condF rfl ?_
                  refine X.skip ?_
                  refine X.inBlock ?_
                  refine X.inBlock ?_
                  refine X.region ?_
                  refine XO.pu (Pu.move rfl) ?_
                  refine XO.pu (Pu.add rfl rfl (by omega) (by omega)) ?_
                  refine XO.pu (Pu.assign rfl) ?_
                  refine XO.nil ?_
                  refine X.sub (p' := [(12, _), (0, _), (1, _), (5, _), (6, _), (7, _), (8, _), (9, _), (10, _), (11, _)]) ⟨rfl, rfl, rfl, rfl, rfl, rfl, rfl, rfl, rfl, rfl, trivial⟩ ?_
                  have hR3 : Real σ2 (oS (ow) ((cm).drop (wk)) room (inl) (out)) := hR2
                  have hk3 : (oS (ow) ((cm).drop (wk)) room (inl) (out)).ok (i + 1) := hk2
                  refine X.at (ih ⟨i + 1, ow, inl, cm, out, wk, a7, c7, a8, c8, σ2⟩ ⟨by dsimp only; omega, hR3, hk3, by dsimp only; omega, by dsimp only; omega, by dsimp only; omega, by dsimp only; omega⟩ (by dsimp only; omega)) ⟨(by first | rfl | exact congrArg some (congrArg (Value.int _) (by omega)) | (show some _ = some _; simp; done) | (show some _ = some _; simp; omega)), (by first | rfl | exact congrArg some (congrArg (Value.int _) (by omega)) | (show some _ = some _; simp; done) | (show some _ = some _; simp; omega)), (by first | rfl | exact congrArg some (congrArg (Value.int _) (by omega)) | (show some _ = some _; simp; done) | (show some _ = some _; simp; omega)), (by first | rfl | exact congrArg some (congrArg (Value.int _) (by omega)) | (show some _ = some _; simp; done) | (show some _ = some _; simp; omega)), (by first | rfl | exact congrArg some (congrArg (Value.int _) (by omega)) | (show some _ = some _; simp; done) | (show some _ = some _; simp; omega)), (by first | rfl | exact congrArg some (congrArg (Value.int _) (by omega)) | (show some _ = some _; simp; done) | (show some _ = some _; simp; omega)), (by first | rfl | exact congrArg some (congrArg (Value.int _) (by omega)) | (show some _ = some _; simp; done) | (show some _ = some _; simp; omega)), (by first | rfl | exact congrArg some (congrArg (Value.int _) (by omega)) | (show some _ = some _; simp; done) | (show some _ = some _; simp; omega)), (by first | rfl | exact congrArg some (congrArg (Value.int _) (by omega)) | (show some _ = some _; simp; done) | (show some _ = some _; simp; omega)), (by first | rfl | exact congrArg some (congrArg (Value.int _) (by omega)) | (show some _ = some _; simp; done) | (show some _ = some _; simp; omega)), trivial⟩ leA
            · skip
              refine X.know 114 (.bool false) rfl (congrArg Value.bool (by simp [q1])) ?_
              refine X.condF rfl ?_
              refine X.seq ?_
              refine X.region ?_
              refine XO.pu (Pu.eql rfl rfl) ?_
              refine XO.pu (Pu.assign rfl) ?_
              refine XO.nil ?_
              refine X.sub (p' := [(135, _), (60, _), (13, _), (0, _), (1, _), (5, _), (6, _), (7, _), (8, _), (9, _), (10, _), (11, _), (12, _)]) ⟨rfl, rfl, rfl, rfl, rfl, rfl, rfl, rfl, rfl, rfl, rfl, rfl, rfl, trivial⟩ ?_
              rcases Decidable.em (l[i].1 = 2) with q2 | q2
              · skip
                refine X.know 135 (.bool true) rfl (congrArg Value.bool (by simp [q2])) ?_
                refine X.condT rfl ?_
                refine X.seq ?_
                refine X.region ?_
                refine XO.pu (Pu.move rfl) ?_
                refine XO.pu (Pu.fieldAddr 3 2 0 rfl Try.underlying31 rfl Try.sizeOf3) ?_
                refine XO.ld Try.isAgg3 ?_
                refine XO.cF Try.call16 (Wait_H (k := 0) (t := l[i].2.2.1) hR hk (by omega)) ?_
                rintro _ _ ⟨σ2, hR2, rfl, rfl⟩ _ e_; simp only [ca, na] at e_; subst e_
                have hk2 := waitS_ok hk 0 l[i].2.2.1; rw [oS_wait] at hR2 hk2 ⊢
                rcases Decidable.em (thr l[i].2.2.1) with k1 | k1
                · skip
                  rw [if_pos k1] at hR2 hk2 ⊢
                  rcases Decidable.em (∃ l2 ∈ [cm.drop wk], l[i].2.2.1 ∈ l2) with k2 | k2
                  · skip
                    rw [if_pos k2] at hR2 hk2 ⊢
                    refine XO.cR Try.call14 (lnum_ok) ?_
                    refine XO.pu (Pu.eql rfl rfl) ?_
                    refine XO.nil ?_
                    refine X.sub (p' := [(142, _), (13, _), (0, _), (1, _), (5, _), (6, _), (7, _), (8, _), (9, _), (10, _), (11, _), (12, _)]) ⟨rfl, rfl, rfl, rfl, rfl, rfl, rfl, rfl, rfl, rfl, rfl, rfl, trivial⟩ ?_
                    refine X.know 142 (.bool false) rfl (congrArg Value.bool ((by first | rfl | (simp; done) | (simp; omega) | (dsimp only; simp; omega)))) ?_
                    refine X.condF rfl ?_
                    refine X.skip ?_
                    refine X.inBlock ?_
                    refine X.inBlock ?_
                    refine X.region ?_
                    refine XO.pu (Pu.move rfl) ?_
                    refine XO.pu (Pu.add rfl rfl (by omega) (by omega)) ?_
                    refine XO.pu (Pu.assign rfl) ?_
                    refine XO.nil ?_
                    refine X.sub (p' := [(12, _), (0, _), (1, _), (5, _), (6, _), (7, _), (8, _), (9, _), (10, _), (11, _)]) ⟨rfl, rfl, rfl, rfl, rfl, rfl, rfl, rfl, rfl, rfl, trivial⟩ ?_
                    have hR3 : Real σ2 (oS (ow) ((cm).drop (wk)) room (inl) (out)) := hR2
                    have hk3 : (oS (ow) ((cm).drop (wk)) room (inl) (out)).ok (i + 1) := hk2
                    refine X.at (ih ⟨i + 1, ow, inl, cm, out, wk, a7, c7, a8, c8, σ2⟩ ⟨by dsimp only; omega, hR3, hk3, by dsimp only; omega, by dsimp only; omega, by dsimp only; omega, by dsimp only; omega⟩ (by dsimp only; omega)) ⟨(by first | rfl | exact congrArg some (congrArg (Value.int _) (by omega)) | (show some _ = some _; simp; done) | (show some _ = some _; simp; omega)), (by first | rfl | exact congrArg some (congrArg (Value.int _) (by omega)) | (show some _ = some _; simp; done) | (show some _ = some _; simp; omega)), (by first | rfl | exact congrArg some (congrArg (Value.int _) (by omega)) | (show some _ = some _; simp; done) | (show some _ = some _; simp; omega)), (by first | rfl | exact congrArg some (congrArg (Value.int _) (by omega)) | (show some _ = some _; simp; done) | (show some _ = some _; simp; omega)), (by first | rfl | exact congrArg some (congrArg (Value.int _) (by omega)) | (show some _ = some _; simp; done) | (show some _ = some _; simp; omega)), (by first | rfl | exact congrArg some (congrArg (Value.int _) (by omega)) | (show some _ = some _; simp; done) | (show some _ = some _; simp; omega)), (by first | rfl | exact congrArg some (congrArg (Value.int _) (by omega)) | (show some _ = some _; simp; done) | (show some _ = some _; simp; omega)), (by first | rfl | exact congrArg some (congrArg (Value.int _) (by omega)) | (show some _ = some _; simp; done) | (show some _ = some _; simp; omega)), (by first | rfl | exact congrArg some (congrArg (Value.int _) (by omega)) | (show some _ = some _; simp; done) | (show some _ = some _; simp; omega)), (by first | rfl | exact congrArg some (congrArg (Value.int _) (by omega)) | (show some _ = some _; simp; done) | (show some _ = some _; simp; omega)), trivial⟩ leA
                  · skip
                    rw [if_neg k2] at hR2 hk2 ⊢
                    refine XO.cR Try.call14 (lnum_ok) ?_
                    refine XO.pu (Pu.eql rfl rfl) ?_
                    refine XO.nil ?_
                    refine X.sub (p' := [(142, _), (13, _), (0, _), (1, _), (5, _), (6, _), (7, _), (8, _), (9, _), (10, _), (11, _), (12, _)]) ⟨rfl, rfl, rfl, rfl, rfl, rfl, rfl, rfl, rfl, rfl, rfl, rfl, trivial⟩ ?_
                    refine X.know 142 (.bool true) rfl (congrArg Value.bool ((by first | rfl | (simp; done) | (simp; omega) | (dsimp only; simp; omega)))) ?_
                    refine X.condT rfl ?_
                    refine X.region ?_
                    refine XO.pu (Pu.move rfl) ?_
                    refine XO.pu (Pu.fieldAddr 3 2 0 rfl Try.underlying31 rfl Try.sizeOf3) ?_
                    refine XO.ld Try.isAgg3 ?_
                    refine XO.ef (Ef.lit1 (u := l[i].2.2.1) I64 Try.underlying29 Try.info3 rfl rfl) ?_
                    rintro _ _ ⟨g7, rfl, rfl⟩
                    refine XO.ef (Ef.appA (f := I64) (l := cm) (m := [l[i].2.2.1]) Try.underlying29 Try.info3 rfl rfl rfl fndA ((Sees.lsH _).le leA) (fun _ => rfl) (by simp; omega) (by simp; omega)) ?_
                    rintro _ _ ⟨a9, c9, rfl, rfl⟩
                    have hap : (cm ++ [l[i].2.2.1]).drop wk = cm.drop wk ++ [l[i].2.2.1] := List.drop_append_of_le_length hw1
                    refine XO.pu (Pu.assign rfl) ?_
                    refine XO.nil ?_
                    refine X.sub (p' := [(8, _), (0, _), (1, _), (5, _), (6, _), (7, _), (9, _), (10, _), (11, _), (12, _)]) ⟨rfl, rfl, rfl, rfl, rfl, rfl, rfl, rfl, rfl, rfl, trivial⟩ ?_
                    refine X.inBlock ?_
                    refine X.inBlock ?_
                    refine X.region ?_
                    refine XO.pu (Pu.move rfl) ?_
                    refine XO.pu (Pu.add rfl rfl (by omega) (by omega)) ?_
                    refine XO.pu (Pu.assign rfl) ?_
                    refine XO.nil ?_
                    refine X.sub (p' := [(12, _), (8, _), (0, _), (1, _), (5, _), (6, _), (7, _), (9, _), (10, _), (11, _)]) ⟨rfl, rfl, rfl, rfl, rfl, rfl, rfl, rfl, rfl, rfl, trivial⟩ ?_
                    have hR3 : Real σ2 (oS (ow) ((cm ++ [l[i].2.2.1]).drop (wk)) room (inl) (out)) := by rw [hap]; exact hR2
                    have hk3 : (oS (ow) ((cm ++ [l[i].2.2.1]).drop (wk)) room (inl) (out)).ok (i + 1) := by rw [hap]; exact hk2
                    refine X.at (ih ⟨i + 1, ow, inl, cm ++ [l[i].2.2.1], out, wk, a7, c7, a9, c9, σ2⟩ ⟨by dsimp only; omega, hR3, hk3, by dsimp only; (try simp only [List.length_append, List.length_singleton]); omega, by dsimp only; (try simp only [List.length_append, List.length_singleton]); omega, by dsimp only; (try simp only [List.length_append, List.length_singleton]); omega, by dsimp only; (try simp only [List.length_append, List.length_singleton]); omega⟩ (by dsimp only; omega)) ⟨(by first | rfl | exact congrArg some (congrArg (Value.int _) (by omega)) | (show some _ = some _; simp; done) | (show some _ = some _; simp; omega)), (by first | rfl | exact congrArg some (congrArg (Value.int _) (by omega)) | (show some _ = some _; simp; done) | (show some _ = some _; simp; omega)), (by first | rfl | exact congrArg some (congrArg (Value.int _) (by omega)) | (show some _ = some _; simp; done) | (show some _ = some _; simp; omega)), (by first | rfl | exact congrArg some (congrArg (Value.int _) (by omega)) | (show some _ = some _; simp; done) | (show some _ = some _; simp; omega)), (by first | rfl | exact congrArg some (congrArg (Value.int _) (by omega)) | (show some _ = some _; simp; done) | (show some _ = some _; simp; omega)), (by first | rfl | exact congrArg some (congrArg (Value.int _) (by omega)) | (show some _ = some _; simp; done) | (show some _ = some _; simp; omega)), (by first | rfl | exact congrArg some (congrArg (Value.int _) (by omega)) | (show some _ = some _; simp; done) | (show some _ = some _; simp; omega)), (by first | rfl | exact congrArg some (congrArg (Value.int _) (by omega)) | (show some _ = some _; simp; done) | (show some _ = some _; simp; omega)), (by first | rfl | exact congrArg some (congrArg (Value.int _) (by omega)) | (show some _ = some _; simp; done) | (show some _ = some _; simp; omega)), (by first | rfl | exact congrArg some (congrArg (Value.int _) (by omega)) | (show some _ = some _; simp; done) | (show some _ = some _; simp; omega)), trivial⟩ leA
                · skip
                  rw [if_neg k1] at hR2 hk2 ⊢
                  refine XO.cR Try.call14 (lnum_ok) ?_
                  refine XO.pu (Pu.eql rfl rfl) ?_
                  refine XO.nil ?_
                  refine X.sub (p' := [(142, _), (13, _), (0, _), (1, _), (5, _), (6, _), (7, _), (8, _), (9, _), (10, _), (11, _), (12, _)]) ⟨rfl, rfl, rfl, rfl, rfl, rfl, rfl, rfl, rfl, rfl, rfl, rfl, trivial⟩ ?_
                  refine X.know 142 (.bool false) rfl (congrArg Value.bool ((by first | rfl | (simp; done) | (simp; omega) | (dsimp only; simp; omega)))) ?_
                  refine X.condF rfl ?_
                  refine X.skip ?_
                  refine X.inBlock ?_
                  refine X.inBlock ?_
                  refine X.region ?_
                  refine XO.pu (Pu.move rfl) ?_
                  refine XO.pu (Pu.add rfl rfl (by omega) (by omega)) ?_
                  refine XO.pu (Pu.assign rfl) ?_
                  refine XO.nil ?_
                  refine X.sub (p' := [(12, _), (0, _), (1, _), (5, _), (6, _), (7, _), (8, _), (9, _), (10, _), (11, _)]) ⟨rfl, rfl, rfl, rfl, rfl, rfl, rfl, rfl, rfl, rfl, trivial⟩ ?_
                  have hR3 : Real σ2 (oS (ow) ((cm).drop (wk)) room (inl) (out)) := hR2
                  have hk3 : (oS (ow) ((cm).drop (wk)) room (inl) (out)).ok (i + 1) := hk2
                  refine X.at (ih ⟨i + 1, ow, inl, cm, out, wk, a7, c7, a8, c8, σ2⟩ ⟨by dsimp only; omega, hR3, hk3, by dsimp only; omega, by dsimp only; omega, by dsimp only; omega, by dsimp only; omega⟩ (by dsimp only; omega)) ⟨(by first | rfl | exact congrArg some (congrArg (Value.int _) (by omega)) | (show some _ = some _; simp; done) | (show some _ = some _; simp; omega)), (by first | rfl | exact congrArg some (congrArg (Value.int _) (by omega)) | (show some _ = some _; simp; done) | (show some _ = some _; simp; omega)), (by first | rfl | exact congrArg some (congrArg (Value.int _) (by omega)) | (show some _ = some _; simp; done) | (show some _ = some _; simp; omega)), (by first | rfl | exact congrArg some (congrArg (Value.int _) (by omega)) | (show some _ = some _; simp; done) | (show some _ = some _; simp; omega)), (by first | rfl | exact congrArg some (congrArg (Value.int _) (by omega)) | (show some _ = some _; simp; done) | (show some _ = some _; simp; omega)), (by first | rfl | exact congrArg some (congrArg (Value.int _) (by omega)) | (show some _ = some _; simp; done) | (show some _ = some _; simp; omega)), (by first | rfl | exact congrArg some (congrArg (Value.int _) (by omega)) | (show some _ = some _; simp; done) | (show some _ = some _; simp; omega)), (by first | rfl | exact congrArg some (congrArg (Value.int _) (by omega)) | (show some _ = some _; simp; done) | (show some _ = some _; simp; omega)), (by first | rfl | exact congrArg some (congrArg (Value.int _) (by omega)) | (show some _ = some _; simp; done) | (show some _ = some _; simp; omega)), (by first | rfl | exact congrArg some (congrArg (Value.int _) (by omega)) | (show some _ = some _; simp; done) | (show some _ = some _; simp; omega)), trivial⟩ leA
              · skip
                refine X.know 135 (.bool false) rfl (congrArg Value.bool (by simp [q2])) ?_
                refine X.condF rfl ?_
                refine X.seq ?_
                refine X.region ?_
                refine XO.pu (Pu.eql rfl rfl) ?_
                refine XO.pu (Pu.assign rfl) ?_
                refine XO.nil ?_
                refine X.sub (p' := [(148, _), (60, _), (13, _), (0, _), (1, _), (5, _), (6, _), (7, _), (8, _), (9, _), (10, _), (11, _), (12, _)]) ⟨rfl, rfl, rfl, rfl, rfl, rfl, rfl, rfl, rfl, rfl, rfl, rfl, rfl, trivial⟩ ?_
                rcases Decidable.em (l[i].1 = 3) with q3 | q3
                · skip
                  refine X.know 148 (.bool true) rfl (congrArg Value.bool (by simp [q3])) ?_
                  refine X.condT rfl ?_
                  refine X.seq ?_
                  refine X.region ?_
                  refine XO.pu (Pu.move rfl) ?_
                  refine XO.cF Try.call17 (Signal_H (k := 0) hR hk (by omega)) ?_
                  rintro _ _ ⟨σ2, hR2, rfl, rfl⟩ _ e_; simp only [ca, na] at e_; subst e_
                  have hk2 := signalS_ok (hk.mono (Nat.le_succ i)) 0; rw [oS_signal] at hR2 hk2 ⊢
                  rcases Decidable.em (cm.drop wk = []) with k1 | k1
                  · skip
                    rw [if_pos k1] at hR2 hk2 ⊢; have k2 := congrArg List.length k1; rw [hdl, List.length_nil] at k2
                    refine XO.pu (Pu.move rfl) ?_
                    refine XO.pu (Pu.extract rfl rfl) ?_
                    refine XO.pu (Pu.extract rfl rfl) ?_
                    refine XO.pu (Pu.extract rfl rfl) ?_
                    refine XO.pu (Pu.assign rfl) ?_
                    refine XO.pu (Pu.assign rfl) ?_
                    refine XO.pu (Pu.assign rfl) ?_
                    refine XO.nil ?_
                    refine X.sub (p' := [(18, _), (17, _), (0, _), (1, _), (5, _), (6, _), (7, _), (8, _), (9, _), (10, _), (11, _), (12, _)]) ⟨rfl, rfl, rfl, rfl, rfl, rfl, rfl, rfl, rfl, rfl, rfl, rfl, trivial⟩ ?_
                    refine X.seq ?_
                    refine X.seq ?_
                    refine X.region ?_
                    refine XO.pu (Pu.move rfl) ?_
                    refine XO.pu (Pu.move rfl) ?_
                    refine XO.pu (Pu.move rfl) ?_
                    refine XO.pu (Pu.len rfl Try.underlying29) ?_
                    refine XO.pu (Pu.lss rfl rfl) ?_
                    refine XO.pu (Pu.neqB rfl rfl Try.underlying4) ?_
                    refine XO.pu (Pu.move rfl) ?_
                    refine XO.know 162 (.bool false) rfl (congrArg Value.bool ((by first | rfl | (simp; done) | (simp; omega) | (dsimp only; simp; omega)))) ?_
                    refine XO.pu (Pu.move rfl) ?_
                    refine XO.pu (Pu.move rfl) ?_
                    refine XO.know 164 (.bool false) rfl (congrArg Value.bool ((by first | rfl | (simp; done) | (simp; omega) | (dsimp only; simp; omega)))) ?_
                    refine XO.pass rfl ?_
                    refine XO.pass rfl ?_
                    refine XO.pass rfl ?_
                    refine XO.pass rfl ?_
                    refine XO.pass rfl ?_
                    refine XO.pass rfl ?_
                    refine XO.pu (Pu.pickF rfl rfl) ?_
                    refine XO.pu (Pu.pickF rfl rfl) ?_
                    refine XO.nil ?_
                    refine X.sub (p' := [(172, _), (18, _), (0, _), (1, _), (5, _), (6, _), (7, _), (8, _), (9, _), (10, _), (11, _), (12, _)]) ⟨rfl, rfl, rfl, rfl, rfl, rfl, rfl, rfl, rfl, rfl, rfl, rfl, trivial⟩ ?_
                    refine X.condF rfl ?_
                    refine X.skip ?_
                    refine X.seq ?_
                    refine X.region ?_
                    refine XO.pu (Pu.move rfl) ?_
                    refine XO.nil ?_
                    refine X.sub (p' := [(173, _), (0, _), (1, _), (5, _), (6, _), (7, _), (8, _), (9, _), (10, _), (11, _), (12, _)]) ⟨rfl, rfl, rfl, rfl, rfl, rfl, rfl, rfl, rfl, rfl, rfl, trivial⟩ ?_
                    refine X.know 173 (.bool false) rfl (congrArg Value.bool ((by first | rfl | (simp; done) | (simp; omega) | (dsimp only; simp; omega)))) ?_
                    refine X.condF rfl ?_
                    refine X.skip ?_
                    refine X.inBlock ?_
                    refine X.inBlock ?_
                    refine X.region ?_
                    refine XO.pu (Pu.move rfl) ?_
                    refine XO.pu (Pu.add rfl rfl (by omega) (by omega)) ?_
                    refine XO.pu (Pu.assign rfl) ?_
                    refine XO.nil ?_
                    refine X.sub (p' := [(12, _), (0, _), (1, _), (5, _), (6, _), (7, _), (8, _), (9, _), (10, _), (11, _)]) ⟨rfl, rfl, rfl, rfl, rfl, rfl, rfl, rfl, rfl, rfl, trivial⟩ ?_
                    have hR3 : Real σ2 (oS (ow) ((cm).drop (wk)) room (inl) (out)) := hR2
                    have hk3 : (oS (ow) ((cm).drop (wk)) room (inl) (out)).ok (i + 1) := hk2
                    refine X.at (ih ⟨i + 1, ow, inl, cm, out, wk, a7, c7, a8, c8, σ2⟩ ⟨by dsimp only; omega, hR3, hk3, by dsimp only; omega, by dsimp only; omega, by dsimp only; omega, by dsimp only; omega⟩ (by dsimp only; omega)) ⟨(by first | rfl | exact congrArg some (congrArg (Value.int _) (by omega)) | (show some _ = some _; simp; done) | (show some _ = some _; simp; omega)), (by first | rfl | exact congrArg some (congrArg (Value.int _) (by omega)) | (show some _ = some _; simp; done) | (show some _ = some _; simp; omega)), (by first | rfl | exact congrArg some (congrArg (Value.int _) (by omega)) | (show some _ = some _; simp; done) | (show some _ = some _; simp; omega)), (by first | rfl | exact congrArg some (congrArg (Value.int _) (by omega)) | (show some _ = some _; simp; done) | (show some _ = some _; simp; omega)), (by first | rfl | exact congrArg some (congrArg (Value.int _) (by omega)) | (show some _ = some _; simp; done) | (show some _ = some _; simp; omega)), (by first | rfl | exact congrArg some (congrArg (Value.int _) (by omega)) | (show some _ = some _; simp; done) | (show some _ = some _; simp; omega)), (by first | rfl | exact congrArg some (congrArg (Value.int _) (by omega)) | (show some _ = some _; simp; done) | (show some _ = some _; simp; omega)), (by first | rfl | exact congrArg some (congrArg (Value.int _) (by omega)) | (show some _ = some _; simp; done) | (show some _ = some _; simp; omega)), (by first | rfl | exact congrArg some (congrArg (Value.int _) (by omega)) | (show some _ = some _; simp; done) | (show some _ = some _; simp; omega)), (by first | rfl | exact congrArg some (congrArg (Value.int _) (by omega)) | (show some _ = some _; simp; done) | (show some _ = some _; simp; omega)), trivial⟩ leA
                  · skip
                    rw [if_neg k1] at hR2 hk2 ⊢; have k2 := List.length_pos_iff.2 k1; rw [hdl] at k2; have hwk : wk < cm.length := (by omega)
                    have hhd : (cm.drop wk).headD 0 = cm[wk] := by rw [List.headD_eq_head?_getD, List.head?_drop, List.getElem?_eq_getElem hwk]; rfl
                    have h0 : 0 ≤ cm[wk] := (hk.c (cm.drop wk) (by simp [oS])).2 cm[wk] (by rw [List.mem_drop_iff_getElem]; exact ⟨0, by omega, by simp⟩) |>.1
                    rw [hhd] at hR2 hk2 ⊢; rw [Int.max_eq_left h0, decide_eq_true h0]
                    refine XO.lsadr (l := cm) (fl := I64) (ty := 3) (a := a8) (c := c8) (by omega) (fun g8 e8 => ?_); subst e8
                    have hs8 : Sees (lsH I64 3 (some ⟨g8, 0, none⟩) c8 cm :: []) (some ⟨g8, 0, none⟩) (cm.map I64) := Sees.lsH []
                    refine XO.pu (Pu.move rfl) ?_
                    refine XO.pu (Pu.extract rfl rfl) ?_
                    refine XO.pu (Pu.extract rfl rfl) ?_
                    refine XO.pu (Pu.extract rfl rfl) ?_
                    refine XO.pu (Pu.assign rfl) ?_
                    refine XO.pu (Pu.assign rfl) ?_
                    refine XO.pu (Pu.assign rfl) ?_
                    refine XO.nil ?_
                    refine X.sub (p' := [(18, _), (17, _), (0, _), (1, _), (5, _), (6, _), (7, _), (8, _), (9, _), (10, _), (11, _), (12, _)]) ⟨rfl, rfl, rfl, rfl, rfl, rfl, rfl, rfl, rfl, rfl, rfl, rfl, trivial⟩ ?_
                    refine X.seq ?_
                    refine X.seq ?_
                    refine X.region ?_
                    refine XO.pu (Pu.move rfl) ?_
                    refine XO.pu (Pu.move rfl) ?_
                    refine XO.pu (Pu.move rfl) ?_
                    refine XO.pu (Pu.len rfl Try.underlying29) ?_
                    refine XO.pu (Pu.lss rfl rfl) ?_
                    refine XO.pu (Pu.neqB rfl rfl Try.underlying4) ?_
                    refine XO.pu (Pu.move rfl) ?_
                    refine XO.know 162 (.bool false) rfl (congrArg Value.bool ((by first | rfl | (simp; done) | (simp; omega) | (dsimp only; simp; omega)))) ?_
                    refine XO.pu (Pu.move rfl) ?_
                    refine XO.pu (Pu.move rfl) ?_
                    refine XO.know 164 (.bool true) rfl (congrArg Value.bool ((by first | rfl | (simp; done) | (simp; omega) | (dsimp only; simp; omega)))) ?_
                    refine XO.pu (Pu.move rfl) ?_
                    refine XO.pu (Pu.move rfl) ?_
                    refine XO.pu (Pu.move rfl) ?_
                    refine XO.pu (Pu.indexAddr rfl rfl Try.underlying29 Try.sizeOf3 (by omega) (by omega)) ?_
                    refine XO.ld Try.isAgg3 ?_
                    refine XO.pu (Pu.neq rfl rfl) ?_
                    refine XO.pu (Pu.pickT rfl rfl) ?_
                    refine XO.pu (Pu.pickF rfl rfl) ?_
                    refine XO.nil ?_
                    refine X.sub (p' := [(172, _), (18, _), (0, _), (1, _), (5, _), (6, _), (7, _), (8, _), (9, _), (10, _), (11, _), (12, _)]) ⟨rfl, rfl, rfl, rfl, rfl, rfl, rfl, rfl, rfl, rfl, rfl, rfl, trivial⟩ ?_
                    refine X.know 172 (.bool false) rfl (congrArg Value.bool ((by first | rfl | (simp; done) | (simp; omega) | (dsimp only; simp; omega)))) ?_
                    refine X.condF rfl ?_
                    refine X.skip ?_
                    refine X.seq ?_
                    refine X.region ?_
                    refine XO.pu (Pu.move rfl) ?_
                    refine XO.nil ?_
                    refine X.sub (p' := [(173, _), (0, _), (1, _), (5, _), (6, _), (7, _), (8, _), (9, _), (10, _), (11, _), (12, _)]) ⟨rfl, rfl, rfl, rfl, rfl, rfl, rfl, rfl, rfl, rfl, rfl, trivial⟩ ?_
                    refine X.know 173 (.bool true) rfl (congrArg Value.bool ((by first | rfl | (simp; done) | (simp; omega) | (dsimp only; simp; omega)))) ?_
                    refine X.condT rfl ?_
                    refine X.region ?_
                    refine XO.pu (Pu.move rfl) ?_
                    refine XO.pu (Pu.add rfl rfl (by omega) (by omega)) ?_
                    refine XO.pu (Pu.assign rfl) ?_
                    refine XO.nil ?_
                    refine X.sub (p' := [(10, _), (0, _), (1, _), (5, _), (6, _), (7, _), (8, _), (9, _), (11, _), (12, _)]) ⟨rfl, rfl, rfl, rfl, rfl, rfl, rfl, rfl, rfl, rfl, trivial⟩ ?_
                    refine X.inBlock ?_
                    refine X.inBlock ?_
                    refine X.region ?_
                    refine XO.pu (Pu.move rfl) ?_
                    refine XO.pu (Pu.add rfl rfl (by omega) (by omega)) ?_
                    refine XO.pu (Pu.assign rfl) ?_
                    refine XO.nil ?_
                    refine X.sub (p' := [(12, _), (10, _), (0, _), (1, _), (5, _), (6, _), (7, _), (8, _), (9, _), (11, _)]) ⟨rfl, rfl, rfl, rfl, rfl, rfl, rfl, rfl, rfl, rfl, trivial⟩ ?_
                    have hdr : cm.drop (wk + 1) = (cm.drop wk).drop 1 := by rw [List.drop_drop]
                    have hR3 : Real σ2 (oS (ow) ((cm).drop (wk + 1)) room (inl) (out)) := by rw [hdr]; exact hR2
                    have hk3 : (oS (ow) ((cm).drop (wk + 1)) room (inl) (out)).ok (i + 1) := by rw [hdr]; exact hk2
                    refine X.at (ih ⟨i + 1, ow, inl, cm, out, wk + 1, a7, c7, some ⟨g8, 0, none⟩, c8, σ2⟩ ⟨by dsimp only; omega, hR3, hk3, by dsimp only; omega, by dsimp only; omega, by dsimp only; omega, by dsimp only; omega⟩ (by dsimp only; omega)) ⟨(by first | rfl | exact congrArg some (congrArg (Value.int _) (by omega)) | (show some _ = some _; simp; done) | (show some _ = some _; simp; omega)), (by first | rfl | exact congrArg some (congrArg (Value.int _) (by omega)) | (show some _ = some _; simp; done) | (show some _ = some _; simp; omega)), (by first | rfl | exact congrArg some (congrArg (Value.int _) (by omega)) | (show some _ = some _; simp; done) | (show some _ = some _; simp; omega)), (by first | rfl | exact congrArg some (congrArg (Value.int _) (by omega)) | (show some _ = some _; simp; done) | (show some _ = some _; simp; omega)), (by first | rfl | exact congrArg some (congrArg (Value.int _) (by omega)) | (show some _ = some _; simp; done) | (show some _ = some _; simp; omega)), (by first | rfl | exact congrArg some (congrArg (Value.int _) (by omega)) | (show some _ = some _; simp; done) | (show some _ = some _; simp; omega)), (by first | rfl | exact congrArg some (congrArg (Value.int _) (by omega)) | (show some _ = some _; simp; done) | (show some _ = some _; simp; omega)), (by first | rfl | exact congrArg some (congrArg (Value.int _) (by omega)) | (show some _ = some _; simp; done) | (show some _ = some _; simp; omega)), (by first | rfl | exact congrArg some (congrArg (Value.int _) (by omega)) | (show some _ = some _; simp; done) | (show some _ = some _; simp; omega)), (by first | rfl | exact congrArg some (congrArg (Value.int _) (by omega)) | (show some _ = some _; simp; done) | (show some _ = some _; simp; omega)), trivial⟩ leA
                · skip
                  refine X.know 148 (.bool false) rfl (congrArg Value.bool (by simp [q3])) ?_
                  refine X.condF rfl ?_
                  refine X.seq ?_
                  refine X.region ?_
                  refine XO.pu (Pu.eql rfl rfl) ?_
                  refine XO.pu (Pu.assign rfl) ?_
                  refine XO.nil ?_
                  refine X.sub (p' := [(176, _), (13, _), (0, _), (1, _), (5, _), (6, _), (7, _), (8, _), (9, _), (10, _), (11, _), (12, _)]) ⟨rfl, rfl, rfl, rfl, rfl, rfl, rfl, rfl, rfl, rfl, rfl, rfl, trivial⟩ ?_
                  rcases Decidable.em (l[i].1 = 5) with q5 | q5
                  · skip
                    refine X.know 176 (.bool true) rfl (congrArg Value.bool (by simp [q5])) ?_
                    refine X.condT rfl ?_
                    refine X.seq ?_
                    refine X.region ?_
                    refine XO.pu (Pu.move rfl) ?_
                    refine XO.pu (Pu.fieldAddr 2 3 0 rfl Try.underlying31 rfl Try.sizeOf2) ?_
                    refine XO.ld Try.isAgg2 ?_
                    refine XO.cF Try.call18 (Send_H (k := 0) (t := l[i].2.2.2) hR hk (by omega)) ?_
                    rintro _ _ ⟨σ2, hR2, rfl, rfl⟩ _ e_; simp only [ca, na] at e_; subst e_
                    have hk2 := sendS_ok hk 0 l[i].2.2.2; rw [oS_send] at hR2 hk2 ⊢
                    rcases Decidable.em (val l[i].2.2.2) with k1 | k1
                    · skip
                      rw [if_pos k1] at hR2 hk2 ⊢
                      rcases Decidable.em (((inl.drop out).length : Int) < room) with k2 | k2
                      · skip
                        rw [if_pos k2] at hR2 hk2 ⊢; rw [Int.max_eq_left (show (0 : Int) ≤ (inl.length : Int) by omega), decide_eq_true (show (0 : Int) ≤ (inl.length : Int) by omega)]
                        refine XO.pu (Pu.move rfl) ?_
                        refine XO.pu (Pu.extract rfl rfl) ?_
                        refine XO.pu (Pu.extract rfl rfl) ?_
                        refine XO.pu (Pu.extract rfl rfl) ?_
                        refine XO.pu (Pu.assign rfl) ?_
                        refine XO.pu (Pu.assign rfl) ?_
                        refine XO.pu (Pu.assign rfl) ?_
                        refine XO.nil ?_
                        refine X.sub (p' := [(22, _), (21, _), (20, _), (13, _), (0, _), (1, _), (5, _), (6, _), (7, _), (8, _), (9, _), (10, _), (11, _), (12, _)]) ⟨rfl, rfl, rfl, rfl, rfl, rfl, rfl, rfl, rfl, rfl, rfl, rfl, rfl, rfl, trivial⟩ ?_
                        refine X.seq ?_
                        refine X.seq ?_
                        refine X.region ?_
                        refine XO.pu (Pu.move rfl) ?_
                        refine XO.pu (Pu.move rfl) ?_
                        refine XO.cR Try.call14 (lnum_ok) ?_
                        refine XO.pu (Pu.eql rfl rfl) ?_
                        refine XO.pu (Pu.move rfl) ?_
                        refine XO.know 190 (.bool true) rfl (congrArg Value.bool ((by first | rfl | (simp; done) | (simp; omega) | (dsimp only; simp; omega)))) ?_
                        refine XO.pu (Pu.move rfl) ?_
                        refine XO.pu (Pu.len rfl Try.underlying28) ?_
                        refine XO.pu (Pu.move rfl) ?_
                        refine XO.pu (Pu.sub rfl rfl (by omega) (by omega)) ?_
                        refine XO.pu (Pu.move rfl) ?_
                        refine XO.pu (Pu.lss rfl rfl) ?_
                        refine XO.pu (Pu.pickT rfl rfl) ?_
                        refine XO.pu (Pu.neqB rfl rfl Try.underlying4) ?_
                        refine XO.pu (Pu.move rfl) ?_
                        refine XO.know 199 (.bool false) rfl (congrArg Value.bool ((by first | rfl | (simp; done) | (simp; omega) | (dsimp only; simp; omega)))) ?_
                        refine XO.pu (Pu.move rfl) ?_
                        refine XO.pu (Pu.move rfl) ?_
                        refine XO.know 201 (.bool true) rfl (congrArg Value.bool ((by first | rfl | (simp; done) | (simp; omega) | (dsimp only; simp; omega)))) ?_
                        refine XO.pu (Pu.move rfl) ?_
                        refine XO.pu (Pu.move rfl) ?_
                        refine XO.pu (Pu.len rfl Try.underlying28) ?_
                        refine XO.pu (Pu.neq rfl rfl) ?_
                        refine XO.pu (Pu.pickT rfl rfl) ?_
                        refine XO.pu (Pu.pickF rfl rfl) ?_
                        refine XO.nil ?_
                        refine X.sub (p' := [(207, _), (21, _), (13, _), (0, _), (1, _), (5, _), (6, _), (7, _), (8, _), (9, _), (10, _), (11, _), (12, _)]) ⟨rfl, rfl, rfl, rfl, rfl, rfl, rfl, rfl, rfl, rfl, rfl, rfl, rfl, trivial⟩ ?_
                        refine X.know 207 (.bool false) rfl (congrArg Value.bool ((by first | rfl | (simp; done) | (simp; omega) | (dsimp only; simp; omega)))) ?_
                        refine X.condF rfl ?_
                        refine X.skip ?_
                        refine X.seq ?_
                        refine X.region ?_
                        refine XO.pu (Pu.move rfl) ?_
                        refine XO.nil ?_
                        refine X.sub (p' := [(208, _), (13, _), (0, _), (1, _), (5, _), (6, _), (7, _), (8, _), (9, _), (10, _), (11, _), (12, _)]) ⟨rfl, rfl, rfl, rfl, rfl, rfl, rfl, rfl, rfl, rfl, rfl, rfl, trivial⟩ ?_
                        refine X.know 208 (.bool true) rfl (congrArg Value.bool ((by first | rfl | (simp; done) | (simp; omega) | (dsimp only; simp; omega)))) ?_
                        refine X.condT rfl ?_
                        refine X.region ?_
                        refine XO.pu (Pu.move rfl) ?_
                        refine XO.pu (Pu.fieldAddr 2 3 0 rfl Try.underlying31 rfl Try.sizeOf2) ?_
                        refine XO.ld Try.isAgg2 ?_
                        refine XO.ef (Ef.lit1 (u := l[i].2.2.2) I64 Try.underlying28 Try.info2 rfl rfl) ?_
                        rintro _ _ ⟨g7, rfl, rfl⟩
                        refine XO.ef (Ef.appA (f := I64) (l := inl) (m := [l[i].2.2.2]) Try.underlying28 Try.info2 rfl rfl rfl fndA ((Sees.lsH _).le leA) (fun _ => rfl) (by simp; omega) (by simp; omega)) ?_
                        rintro _ _ ⟨a9, c9, rfl, rfl⟩
                        refine XO.pu (Pu.assign rfl) ?_
                        refine XO.nil ?_
                        refine X.sub (p' := [(7, _), (0, _), (1, _), (5, _), (6, _), (8, _), (9, _), (10, _), (11, _), (12, _)]) ⟨rfl, rfl, rfl, rfl, rfl, rfl, rfl, rfl, rfl, rfl, trivial⟩ ?_
                        refine X.inBlock ?_
                        refine X.inBlock ?_
                        refine X.region ?_
                        refine XO.pu (Pu.move rfl) ?_
                        refine XO.pu (Pu.add rfl rfl (by omega) (by omega)) ?_
                        refine XO.pu (Pu.assign rfl) ?_
                        refine XO.nil ?_
                        refine X.sub (p' := [(12, _), (7, _), (0, _), (1, _), (5, _), (6, _), (8, _), (9, _), (10, _), (11, _)]) ⟨rfl, rfl, rfl, rfl, rfl, rfl, rfl, rfl, rfl, rfl, trivial⟩ ?_
                        have hR3 : Real σ2 (oS (ow) ((cm).drop (wk)) room (inl ++ [l[i].2.2.2]) (out)) := hR2
                        have hk3 : (oS (ow) ((cm).drop (wk)) room (inl ++ [l[i].2.2.2]) (out)).ok (i + 1) := hk2
                        refine X.at (ih ⟨i + 1, ow, inl ++ [l[i].2.2.2], cm, out, wk, a9, c9, a8, c8, σ2⟩ ⟨by dsimp only; omega, hR3, hk3, by dsimp only; (try simp only [List.length_append, List.length_singleton]); omega, by dsimp only; (try simp only [List.length_append, List.length_singleton]); omega, by dsimp only; (try simp only [List.length_append, List.length_singleton]); omega, by dsimp only; (try simp only [List.length_append, List.length_singleton]); omega⟩ (by dsimp only; omega)) ⟨(by first | rfl | exact congrArg some (congrArg (Value.int _) (by omega)) | (show some _ = some _; simp; done) | (show some _ = some _; simp; omega)), (by first | rfl | exact congrArg some (congrArg (Value.int _) (by omega)) | (show some _ = some _; simp; done) | (show some _ = some _; simp; omega)), (by first | rfl | exact congrArg some (congrArg (Value.int _) (by omega)) | (show some _ = some _; simp; done) | (show some _ = some _; simp; omega)), (by first | rfl | exact congrArg some (congrArg (Value.int _) (by omega)) | (show some _ = some _; simp; done) | (show some _ = some _; simp; omega)), (by first | rfl | exact congrArg some (congrArg (Value.int _) (by omega)) | (show some _ = some _; simp; done) | (show some _ = some _; simp; omega)), (by first | rfl | exact congrArg some (congrArg (Value.int _) (by omega)) | (show some _ = some _; simp; done) | (show some _ = some _; simp; omega)), (by first | rfl | exact congrArg some (congrArg (Value.int _) (by omega)) | (show some _ = some _; simp; done) | (show some _ = some _; simp; omega)), (by first | rfl | exact congrArg some (congrArg (Value.int _) (by omega)) | (show some _ = some _; simp; done) | (show some _ = some _; simp; omega)), (by first | rfl | exact congrArg some (congrArg (Value.int _) (by omega)) | (show some _ = some _; simp; done) | (show some _ = some _; simp; omega)), (by first | rfl | exact congrArg some (congrArg (Value.int _) (by omega)) | (show some _ = some _; simp; done) | (show some _ = some _; simp; omega)), trivial⟩ leA
                      · skip
                        rw [if_neg k2] at hR2 hk2 ⊢
                        refine XO.pu (Pu.move rfl) ?_
                        refine XO.pu (Pu.extract rfl rfl) ?_
                        refine XO.pu (Pu.extract rfl rfl) ?_
                        refine XO.pu (Pu.extract rfl rfl) ?_
                        refine XO.pu (Pu.assign rfl) ?_
                        refine XO.pu (Pu.assign rfl) ?_
                        refine XO.pu (Pu.assign rfl) ?_
                        refine XO.nil ?_
                        refine X.sub (p' := [(22, _), (21, _), (20, _), (13, _), (0, _), (1, _), (5, _), (6, _), (7, _), (8, _), (9, _), (10, _), (11, _), (12, _)]) ⟨rfl, rfl, rfl, rfl, rfl, rfl, rfl, rfl, rfl, rfl, rfl, rfl, rfl, rfl, trivial⟩ ?_
                        refine X.seq ?_
                        refine X.seq ?_
                        refine X.region ?_
                        refine XO.pu (Pu.move rfl) ?_
                        refine XO.pu (Pu.move rfl) ?_
                        refine XO.cR Try.call14 (lnum_ok) ?_
                        refine XO.pu (Pu.eql rfl rfl) ?_
                        refine XO.pu (Pu.move rfl) ?_
                        refine XO.know 190 (.bool true) rfl (congrArg Value.bool ((by first | rfl | (simp; done) | (simp; omega) | (dsimp only; simp; omega)))) ?_
                        refine XO.pu (Pu.move rfl) ?_
                        refine XO.pu (Pu.len rfl Try.underlying28) ?_
                        refine XO.pu (Pu.move rfl) ?_
                        refine XO.pu (Pu.sub rfl rfl (by omega) (by omega)) ?_
                        refine XO.pu (Pu.move rfl) ?_
                        refine XO.pu (Pu.lss rfl rfl) ?_
                        refine XO.pu (Pu.pickT rfl rfl) ?_
                        refine XO.pu (Pu.neqB rfl rfl Try.underlying4) ?_
                        refine XO.pu (Pu.move rfl) ?_
                        refine XO.know 199 (.bool false) rfl (congrArg Value.bool ((by first | rfl | (simp; done) | (simp; omega) | (dsimp only; simp; omega)))) ?_
                        refine XO.pu (Pu.move rfl) ?_
                        refine XO.pu (Pu.move rfl) ?_
                        refine XO.know 201 (.bool false) rfl (congrArg Value.bool ((by first | rfl | (simp; done) | (simp; omega) | (dsimp only; simp; omega)))) ?_
                        refine XO.pass rfl ?_
                        refine XO.pass rfl ?_
                        refine XO.pass rfl ?_
                        refine XO.pass rfl ?_
                        refine XO.pu (Pu.pickF rfl rfl) ?_
                        refine XO.pu (Pu.pickF rfl rfl) ?_
                        refine XO.nil ?_
                        refine X.sub (p' := [(207, _), (21, _), (13, _), (0, _), (1, _), (5, _), (6, _), (7, _), (8, _), (9, _), (10, _), (11, _), (12, _)]) ⟨rfl, rfl, rfl, rfl, rfl, rfl, rfl, rfl, rfl, rfl, rfl, rfl, rfl, trivial⟩ ?_
                        refine X.condF rfl ?_
                        refine X.skip ?_
                        refine X.seq ?_
                        refine X.region ?_
                        refine XO.pu (Pu.move rfl) ?_
                        refine XO.nil ?_
                        refine X.sub (p' := [(208, _), (13, _), (0, _), (1, _), (5, _), (6, _), (7, _), (8, _), (9, _), (10, _), (11, _), (12, _)]) ⟨rfl, rfl, rfl, rfl, rfl, rfl, rfl, rfl, rfl, rfl, rfl, rfl, trivial⟩ ?_
                        refine X.know 208 (.bool false) rfl (congrArg Value.bool ((by first | rfl | (simp; done) | (simp; omega) | (dsimp only; simp; omega)))) ?_
                        refine X.condF rfl ?_
                        refine X.skip ?_
                        refine X.inBlock ?_
                        refine X.inBlock ?_
                        refine X.region ?_
                        refine XO.pu (Pu.move rfl) ?_
                        refine XO.pu (Pu.add rfl rfl (by omega) (by omega)) ?_
                        refine XO.pu (Pu.assign rfl) ?_
                        refine XO.nil ?_
                        refine X.sub (p' := [(12, _), (0, _), (1, _), (5, _), (6, _), (7, _), (8, _), (9, _), (10, _), (11, _)]) ⟨rfl, rfl, rfl, rfl, rfl, rfl, rfl, rfl, rfl, rfl, trivial⟩ ?_
                        have hR3 : Real σ2 (oS (ow) ((cm).drop (wk)) room (inl) (out)) := hR2
                        have hk3 : (oS (ow) ((cm).drop (wk)) room (inl) (out)).ok (i + 1) := hk2
                        refine X.at (ih ⟨i + 1, ow, inl, cm, out, wk, a7, c7, a8, c8, σ2⟩ ⟨by dsimp only; omega, hR3, hk3, by dsimp only; omega, by dsimp only; omega, by dsimp only; omega, by dsimp only; omega⟩ (by dsimp only; omega)) ⟨(by first | rfl | exact congrArg some (congrArg (Value.int _) (by omega)) | (show some _ = some _; simp; done) | (show some _ = some _; simp; omega)), (by first | rfl | exact congrArg some (congrArg (Value.int _) (by omega)) | (show some _ = some _; simp; done) | (show some _ = some _; simp; omega)), (by first | rfl | exact congrArg some (congrArg (Value.int _) (by omega)) | (show some _ = some _; simp; done) | (show some _ = some _; simp; omega)), (by first | rfl | exact congrArg some (congrArg (Value.int _) (by omega)) | (show some _ = some _; simp; done) | (show some _ = some _; simp; omega)), (by first | rfl | exact congrArg some (congrArg (Value.int _) (by omega)) | (show some _ = some _; simp; done) | (show some _ = some _; simp; omega)), (by first | rfl | exact congrArg some (congrArg (Value.int _) (by omega)) | (show some _ = some _; simp; done) | (show some _ = some _; simp; omega)), (by first | rfl | exact congrArg some (congrArg (Value.int _) (by omega)) | (show some _ = some _; simp; done) | (show some _ = some _; simp; omega)), (by first | rfl | exact congrArg some (congrArg (Value.int _) (by omega)) | (show some _ = some _; simp; done) | (show some _ = some _; simp; omega)), (by first | rfl | exact congrArg some (congrArg (Value.int _) (by omega)) | (show some _ = some _; simp; done) | (show some _ = some _; simp; omega)), (by first | rfl | exact congrArg some (congrArg (Value.int _) (by omega)) | (show some _ = some _; simp; done) | (show some _ = some _; simp; omega)), trivial⟩ leA
                    · skip
                      rw [if_neg k1] at hR2 hk2 ⊢
                      refine XO.pu (Pu.move rfl) ?_
                      refine XO.pu (Pu.extract rfl rfl) ?_
                      refine XO.pu (Pu.extract rfl rfl) ?_
                      refine XO.pu (Pu.extract rfl rfl) ?_
                      refine XO.pu (Pu.assign rfl) ?_
                      refine XO.pu (Pu.assign rfl) ?_
                      refine XO.pu (Pu.assign rfl) ?_
                      refine XO.nil ?_
                      refine X.sub (p' := [(22, _), (21, _), (20, _), (13, _), (0, _), (1, _), (5, _), (6, _), (7, _), (8, _), (9, _), (10, _), (11, _), (12, _)]) ⟨rfl, rfl, rfl, rfl, rfl, rfl, rfl, rfl, rfl, rfl, rfl, rfl, rfl, rfl, trivial⟩ ?_
                      refine X.seq ?_
                      refine X.seq ?_
                      refine X.region ?_
                      refine XO.pu (Pu.move rfl) ?_
                      refine XO.pu (Pu.move rfl) ?_
                      refine XO.cR Try.call14 (lnum_ok) ?_
                      refine XO.pu (Pu.eql rfl rfl) ?_
                      refine XO.pu (Pu.move rfl) ?_
                      refine XO.know 190 (.bool false) rfl (congrArg Value.bool ((by first | rfl | (simp; done) | (simp; omega) | (dsimp only; simp; omega)))) ?_
                      refine XO.pass rfl ?_
                      refine XO.pass rfl ?_
                      refine XO.pass rfl ?_
                      refine XO.pass rfl ?_
                      refine XO.pass rfl ?_
                      refine XO.pass rfl ?_
                      refine XO.pu (Pu.pickF rfl rfl) ?_
                      refine XO.pu (Pu.neqB rfl rfl Try.underlying4) ?_
                      refine XO.pu (Pu.move rfl) ?_
                      refine XO.know 199 (.bool false) rfl (congrArg Value.bool ((by first | rfl | (simp; done) | (simp; omega) | (dsimp only; simp; omega)))) ?_
                      refine XO.pu (Pu.move rfl) ?_
                      refine XO.pu (Pu.move rfl) ?_
                      refine XO.know 201 (.bool false) rfl (congrArg Value.bool ((by first | rfl | (simp; done) | (simp; omega) | (dsimp only; simp; omega)))) ?_
                      refine XO.pass rfl ?_
                      refine XO.pass rfl ?_
                      refine XO.pass rfl ?_
                      refine XO.pass rfl ?_
                      refine XO.pu (Pu.pickF rfl rfl) ?_
                      refine XO.pu (Pu.pickF rfl rfl) ?_
                      refine XO.nil ?_
                      refine X.sub (p' := [(207, _), (21, _), (13, _), (0, _), (1, _), (5, _), (6, _), (7, _), (8, _), (9, _), (10, _), (11, _), (12, _)]) ⟨rfl, rfl, rfl, rfl, rfl, rfl, rfl, rfl, rfl, rfl, rfl, rfl, rfl, trivial⟩ ?_
                      refine X.condF rfl ?_
                      refine X.skip ?_
                      refine X.seq ?_
                      refine X.region ?_
                      refine XO.pu (Pu.move rfl) ?_
                      refine XO.nil ?_
                      refine X.sub (p' := [(208, _), (13, _), (0, _), (1, _), (5, _), (6, _), (7, _), (8, _), (9, _), (10, _), (11, _), (12, _)]) ⟨rfl, rfl, rfl, rfl, rfl, rfl, rfl, rfl, rfl, rfl, rfl, rfl, trivial⟩ ?_
                      refine X.know 208 (.bool false) rfl (congrArg Value.bool ((by first | rfl | (simp; done) | (simp; omega) | (dsimp only; simp; omega)))) ?_
                      refine X.condF rfl ?_
                      refine X.skip ?_
                      refine X.inBlock ?_
                      refine X.inBlock ?_
                      refine X.region ?_
                      refine XO.pu (Pu.move rfl) ?_
                      refine XO.pu (Pu.add rfl rfl (by omega) (by omega)) ?_
                      refine XO.pu (Pu.assign rfl) ?_
                      refine XO.nil ?_
                      refine X.sub (p' := [(12, _), (0, _), (1, _), (5, _), (6, _), (7, _), (8, _), (9, _), (10, _), (11, _)]) ⟨rfl, rfl, rfl, rfl, rfl, rfl, rfl, rfl, rfl, rfl, trivial⟩ ?_
                      have hR3 : Real σ2 (oS (ow) ((cm).drop (wk)) room (inl) (out)) := hR2
                      have hk3 : (oS (ow) ((cm).drop (wk)) room (inl) (out)).ok (i + 1) := hk2
                      refine X.at (ih ⟨i + 1, ow, inl, cm, out, wk, a7, c7, a8, c8, σ2⟩ ⟨by dsimp only; omega, hR3, hk3, by dsimp only; omega, by dsimp only; omega, by dsimp only; omega, by dsimp only; omega⟩ (by dsimp only; omega)) ⟨(by first | rfl | exact congrArg some (congrArg (Value.int _) (by omega)) | (show some _ = some _; simp; done) | (show some _ = some _; simp; omega)), (by first | rfl | exact congrArg some (congrArg (Value.int _) (by omega)) | (show some _ = some _; simp; done) | (show some _ = some _; simp; omega)), (by first | rfl | exact congrArg some (congrArg (Value.int _) (by omega)) | (show some _ = some _; simp; done) | (show some _ = some _; simp; omega)), (by first | rfl | exact congrArg some (congrArg (Value.int _) (by omega)) | (show some _ = some _; simp; done) | (show some _ = some _; simp; omega)), (by first | rfl | exact congrArg some (congrArg (Value.int _) (by omega)) | (show some _ = some _; simp; done) | (show some _ = some _; simp; omega)), (by first | rfl | exact congrArg some (congrArg (Value.int _) (by omega)) | (show some _ = some _; simp; done) | (show some _ = some _; simp; omega)), (by first | rfl | exact congrArg some (congrArg (Value.int _) (by omega)) | (show some _ = some _; simp; done) | (show some _ = some _; simp; omega)), (by first | rfl | exact congrArg some (congrArg (Value.int _) (by omega)) | (show some _ = some _; simp; done) | (show some _ = some _; simp; omega)), (by first | rfl | exact congrArg some (congrArg (Value.int _) (by omega)) | (show some _ = some _; simp; done) | (show some _ = some _; simp; omega)), (by first | rfl | exact congrArg some (congrArg (Value.int _) (by omega)) | (show some _ = some _; simp; done) | (show some _ = some _; simp; omega)), trivial⟩ leA
                  · skip
                    refine X.know 176 (.bool false) rfl (congrArg Value.bool (by simp [q5])) ?_
                    refine X.condF rfl ?_
                    refine X.seq ?_
                    refine X.region ?_
                    refine XO.pu (Pu.move rfl) ?_
                    refine XO.cF Try.call19 (Recv_H (k := 0) hR hk (by omega)) ?_
                    rintro _ _ ⟨σ2, hR2, rfl, rfl⟩ _ e_; simp only [ca, na] at e_; subst e_
                    have hk2 := recvS_ok (hk.mono (Nat.le_succ i)) 0; rw [oS_recv] at hR2 hk2 ⊢
                    rcases Decidable.em (inl.drop out = []) with k1 | k1
                    · skip
                      rw [if_pos k1] at hR2 hk2 ⊢; have k2 := congrArg List.length k1; rw [hdl2, List.length_nil] at k2
                      refine XO.pu (Pu.move rfl) ?_
                      refine XO.pu (Pu.extract rfl rfl) ?_
                      refine XO.pu (Pu.extract rfl rfl) ?_
                      refine XO.pu (Pu.extract rfl rfl) ?_
                      refine XO.pu (Pu.extract rfl rfl) ?_
                      refine XO.pu (Pu.assign rfl) ?_
                      refine XO.pu (Pu.assign rfl) ?_
                      refine XO.pu (Pu.assign rfl) ?_
                      refine XO.pu (Pu.assign rfl) ?_
                      refine XO.nil ?_
                      refine X.sub (p' := [(25, _), (24, _), (23, _), (0, _), (1, _), (5, _), (6, _), (7, _), (8, _), (9, _), (10, _), (11, _), (12, _)]) ⟨rfl, rfl, rfl, rfl, rfl, rfl, rfl, rfl, rfl, rfl, rfl, rfl, rfl, trivial⟩ ?_
                      refine X.seq ?_
                      refine X.seq ?_
                      refine X.region ?_
                      refine XO.pu (Pu.move rfl) ?_
                      refine XO.pu (Pu.move rfl) ?_
                      refine XO.pu (Pu.move rfl) ?_
                      refine XO.pu (Pu.len rfl Try.underlying28) ?_
                      refine XO.pu (Pu.lss rfl rfl) ?_
                      refine XO.pu (Pu.neqB rfl rfl Try.underlying4) ?_
                      refine XO.pu (Pu.move rfl) ?_
                      refine XO.know 74 (.bool false) rfl (congrArg Value.bool ((by first | rfl | (simp; done) | (simp; omega) | (dsimp only; simp; omega)))) ?_
                      refine XO.pu (Pu.move rfl) ?_
                      refine XO.pu (Pu.move rfl) ?_
                      refine XO.know 76 (.bool false) rfl (congrArg Value.bool ((by first | rfl | (simp; done) | (simp; omega) | (dsimp only; simp; omega)))) ?_
                      refine XO.pass rfl ?_
                      refine XO.pass rfl ?_
                      refine XO.pass rfl ?_
                      refine XO.pass rfl ?_
                      refine XO.pass rfl ?_
                      refine XO.pass rfl ?_
                      refine XO.pass rfl ?_
                      refine XO.pass rfl ?_
                      refine XO.pass rfl ?_
                      refine XO.pass rfl ?_
                      refine XO.pass rfl ?_
                      refine XO.pu (Pu.pickF rfl rfl) ?_
                      refine XO.pu (Pu.pickF rfl rfl) ?_
                      refine XO.nil ?_
                      refine X.sub (p' := [(89, _), (25, _), (0, _), (1, _), (5, _), (6, _), (7, _), (8, _), (9, _), (10, _), (11, _), (12, _)]) ⟨rfl, rfl, rfl, rfl, rfl, rfl, rfl, rfl, rfl, rfl, rfl, rfl, trivial⟩ ?_
                      refine X.condF rfl ?_
                      refine X.skip ?_
                      refine X.seq ?_
                      refine X.region ?_
                      refine XO.pu (Pu.move rfl) ?_
                      refine XO.nil ?_
                      refine X.sub (p' := [(90, _), (0, _), (1, _), (5, _), (6, _), (7, _), (8, _), (9, _), (10, _), (11, _), (12, _)]) ⟨rfl, rfl, rfl, rfl, rfl, rfl, rfl, rfl, rfl, rfl, rfl, trivial⟩ ?_
                      refine X.know 90 (.bool false) rfl (congrArg Value.bool ((by first | rfl | (simp; done) | (simp; omega) | (dsimp only; simp; omega)))) ?_
                      refine X.condF rfl ?_
                      refine X.skip ?_
                      refine X.inBlock ?_
                      refine X.inBlock ?_
                      refine X.region ?_
                      refine XO.pu (Pu.move rfl) ?_
                      refine XO.pu (Pu.add rfl rfl (by omega) (by omega)) ?_
                      refine XO.pu (Pu.assign rfl) ?_
                      refine XO.nil ?_
                      refine X.sub (p' := [(12, _), (0, _), (1, _), (5, _), (6, _), (7, _), (8, _), (9, _), (10, _), (11, _)]) ⟨rfl, rfl, rfl, rfl, rfl, rfl, rfl, rfl, rfl, rfl, trivial⟩ ?_
                      have hR3 : Real σ2 (oS (ow) ((cm).drop (wk)) room (inl) (out)) := hR2
                      have hk3 : (oS (ow) ((cm).drop (wk)) room (inl) (out)).ok (i + 1) := hk2
                      refine X.at (ih ⟨i + 1, ow, inl, cm, out, wk, a7, c7, a8, c8, σ2⟩ ⟨by dsimp only; omega, hR3, hk3, by dsimp only; omega, by dsimp only; omega, by dsimp only; omega, by dsimp only; omega⟩ (by dsimp only; omega)) ⟨(by first | rfl | exact congrArg some (congrArg (Value.int _) (by omega)) | (show some _ = some _; simp; done) | (show some _ = some _; simp; omega)), (by first | rfl | exact congrArg some (congrArg (Value.int _) (by omega)) | (show some _ = some _; simp; done) | (show some _ = some _; simp; omega)), (by first | rfl | exact congrArg some (congrArg (Value.int _) (by omega)) | (show some _ = some _; simp; done) | (show some _ = some _; simp; omega)), (by first | rfl | exact congrArg some (congrArg (Value.int _) (by omega)) | (show some _ = some _; simp; done) | (show some _ = some _; simp; omega)), (by first | rfl | exact congrArg some (congrArg (Value.int _) (by omega)) | (show some _ = some _; simp; done) | (show some _ = some _; simp; omega)), (by first | rfl | exact congrArg some (congrArg (Value.int _) (by omega)) | (show some _ = some _; simp; done) | (show some _ = some _; simp; omega)), (by first | rfl | exact congrArg some (congrArg (Value.int _) (by omega)) | (show some _ = some _; simp; done) | (show some _ = some _; simp; omega)), (by first | rfl | exact congrArg some (congrArg (Value.int _) (by omega)) | (show some _ = some _; simp; done) | (show some _ = some _; simp; omega)), (by first | rfl | exact congrArg some (congrArg (Value.int _) (by omega)) | (show some _ = some _; simp; done) | (show some _ = some _; simp; omega)), (by first | rfl | exact congrArg some (congrArg (Value.int _) (by omega)) | (show some _ = some _; simp; done) | (show some _ = some _; simp; omega)), trivial⟩ leA
                    · skip
                      rw [if_neg k1] at hR2 hk2 ⊢; have k2 := List.length_pos_iff.2 k1; rw [hdl2] at k2; have hout : out < inl.length := (by omega)
                      have hhd : inl.getD out 0 = inl[out] := by simp [List.getD, hout]
                      rw [hhd] at hR2 hk2 ⊢; rw [Int.max_eq_left (show (0 : Int) ≤ (out : Int) by omega), decide_eq_true (show (0 : Int) ≤ (out : Int) by omega)]
                      refine XO.lsadr (l := inl) (fl := I64) (ty := 2) (a := a7) (c := c7) (by omega) (fun g8 e8 => ?_); subst e8
                      have hs8 : Sees (lsH I64 2 (some ⟨g8, 0, none⟩) c7 inl :: []) (some ⟨g8, 0, none⟩) (inl.map I64) := Sees.lsH []
                      refine XO.pu (Pu.move rfl) ?_
                      refine XO.pu (Pu.extract rfl rfl) ?_
                      refine XO.pu (Pu.extract rfl rfl) ?_
                      refine XO.pu (Pu.extract rfl rfl) ?_
                      refine XO.pu (Pu.extract rfl rfl) ?_
                      refine XO.pu (Pu.assign rfl) ?_
                      refine XO.pu (Pu.assign rfl) ?_
                      refine XO.pu (Pu.assign rfl) ?_
                      refine XO.pu (Pu.assign rfl) ?_
                      refine XO.nil ?_
                      refine X.sub (p' := [(25, _), (24, _), (23, _), (0, _), (1, _), (5, _), (6, _), (7, _), (8, _), (9, _), (10, _), (11, _), (12, _)]) ⟨rfl, rfl, rfl, rfl, rfl, rfl, rfl, rfl, rfl, rfl, rfl, rfl, rfl, trivial⟩ ?_
                      refine X.seq ?_
                      refine X.seq ?_
                      refine X.region ?_
                      refine XO.pu (Pu.move rfl) ?_
                      refine XO.pu (Pu.move rfl) ?_
                      refine XO.pu (Pu.move rfl) ?_
                      refine XO.pu (Pu.len rfl Try.underlying28) ?_
                      refine XO.pu (Pu.lss rfl rfl) ?_
                      refine XO.pu (Pu.neqB rfl rfl Try.underlying4) ?_
                      refine XO.pu (Pu.move rfl) ?_
                      refine XO.know 74 (.bool false) rfl (congrArg Value.bool ((by first | rfl | (simp; done) | (simp; omega) | (dsimp only; simp; omega)))) ?_
                      refine XO.pu (Pu.move rfl) ?_
                      refine XO.pu (Pu.move rfl) ?_
                      refine XO.know 76 (.bool true) rfl (congrArg Value.bool ((by first | rfl | (simp; done) | (simp; omega) | (dsimp only; simp; omega)))) ?_
                      refine XO.pu (Pu.move rfl) ?_
                      refine XO.pu (Pu.move rfl) ?_
                      refine XO.pu (Pu.move rfl) ?_
                      refine XO.pu (Pu.indexAddr rfl rfl Try.underlying28 Try.sizeOf2 (by omega) (by omega)) ?_
                      refine XO.ld Try.isAgg2 ?_
                      refine XO.pu (Pu.neq rfl rfl) ?_
                      refine XO.pu (Pu.move rfl) ?_
                      refine XO.know 83 (.bool false) rfl (congrArg Value.bool ((by first | rfl | (simp; done) | (simp; omega) | (dsimp only; simp; omega)))) ?_
                      refine XO.pu (Pu.move rfl) ?_
                      refine XO.pu (Pu.move rfl) ?_
                      refine XO.pu (Pu.neq rfl rfl) ?_
                      refine XO.pu (Pu.pickF rfl rfl) ?_
                      refine XO.pu (Pu.pickT rfl rfl) ?_
                      refine XO.pu (Pu.pickF rfl rfl) ?_
                      refine XO.nil ?_
                      refine X.sub (p' := [(89, _), (25, _), (0, _), (1, _), (5, _), (6, _), (7, _), (8, _), (9, _), (10, _), (11, _), (12, _)]) ⟨rfl, rfl, rfl, rfl, rfl, rfl, rfl, rfl, rfl, rfl, rfl, rfl, trivial⟩ ?_
                      refine X.know 89 (.bool false) rfl (congrArg Value.bool ((by first | rfl | (simp; done) | (simp; omega) | (dsimp only; simp; omega)))) ?_
                      refine X.condF rfl ?_
                      refine X.skip ?_
                      refine X.seq ?_
                      refine X.region ?_
                      refine XO.pu (Pu.move rfl) ?_
                      refine XO.nil ?_
                      refine X.sub (p' := [(90, _), (0, _), (1, _), (5, _), (6, _), (7, _), (8, _), (9, _), (10, _), (11, _), (12, _)]) ⟨rfl, rfl, rfl, rfl, rfl, rfl, rfl, rfl, rfl, rfl, rfl, trivial⟩ ?_
                      refine X.know 90 (.bool true) rfl (congrArg Value.bool ((by first | rfl | (simp; done) | (simp; omega) | (dsimp only; simp; omega)))) ?_
                      refine X.condT rfl ?_
                      refine X.region ?_
                      refine XO.pu (Pu.move rfl) ?_
                      refine XO.pu (Pu.add rfl rfl (by omega) (by omega)) ?_
                      refine XO.pu (Pu.assign rfl) ?_
                      refine XO.nil ?_
                      refine X.sub (p' := [(9, _), (0, _), (1, _), (5, _), (6, _), (7, _), (8, _), (10, _), (11, _), (12, _)]) ⟨rfl, rfl, rfl, rfl, rfl, rfl, rfl, rfl, rfl, rfl, trivial⟩ ?_
                      refine X.inBlock ?_
                      refine X.inBlock ?_
                      refine X.region ?_
                      refine XO.pu (Pu.move rfl) ?_
                      refine XO.pu (Pu.add rfl rfl (by omega) (by omega)) ?_
                      refine XO.pu (Pu.assign rfl) ?_
                      refine XO.nil ?_
                      refine X.sub (p' := [(12, _), (9, _), (0, _), (1, _), (5, _), (6, _), (7, _), (8, _), (10, _), (11, _)]) ⟨rfl, rfl, rfl, rfl, rfl, rfl, rfl, rfl, rfl, rfl, trivial⟩ ?_
                      have hR3 : Real σ2 (oS (ow) ((cm).drop (wk)) room (inl) (out + 1)) := hR2
                      have hk3 : (oS (ow) ((cm).drop (wk)) room (inl) (out + 1)).ok (i + 1) := hk2
                      refine X.at (ih ⟨i + 1, ow, inl, cm, out + 1, wk, some ⟨g8, 0, none⟩, c7, a8, c8, σ2⟩ ⟨by dsimp only; omega, hR3, hk3, by dsimp only; omega, by dsimp only; omega, by dsimp only; omega, by dsimp only; omega⟩ (by dsimp only; omega)) ⟨(by first | rfl | exact congrArg some (congrArg (Value.int _) (by omega)) | (show some _ = some _; simp; done) | (show some _ = some _; simp; omega)), (by first | rfl | exact congrArg some (congrArg (Value.int _) (by omega)) | (show some _ = some _; simp; done) | (show some _ = some _; simp; omega)), (by first | rfl | exact congrArg some (congrArg (Value.int _) (by omega)) | (show some _ = some _; simp; done) | (show some _ = some _; simp; omega)), (by first | rfl | exact congrArg some (congrArg (Value.int _) (by omega)) | (show some _ = some _; simp; done) | (show some _ = some _; simp; omega)), (by first | rfl | exact congrArg some (congrArg (Value.int _) (by omega)) | (show some _ = some _; simp; done) | (show some _ = some _; simp; omega)), (by first | rfl | exact congrArg some (congrArg (Value.int _) (by omega)) | (show some _ = some _; simp; done) | (show some _ = some _; simp; omega)), (by first | rfl | exact congrArg some (congrArg (Value.int _) (by omega)) | (show some _ = some _; simp; done) | (show some _ = some _; simp; omega)), (by first | rfl | exact congrArg some (congrArg (Value.int _) (by omega)) | (show some _ = some _; simp; done) | (show some _ = some _; simp; omega)), (by first | rfl | exact congrArg some (congrArg (Value.int _) (by omega)) | (show some _ = some _; simp; done) | (show some _ = some _; simp; omega)), (by first | rfl | exact congrArg some (congrArg (Value.int _) (by omega)) | (show some _ = some _; simp; done) | (show some _ = some _; simp; omega)), trivial⟩ leA
        · skip
          have h6 : ¬ i < l.length := by simpa using h6
          refine X.condF rfl ?_
          refine X.exit rfl ?_
          refine X.seq ?_
          refine X.region ?_
          refine XO.pu (Pu.move rfl) ?_
          refine XO.cF Try.call20 (Owner_H (m := 0) hR hk (by omega)) ?_
          rintro _ _ ⟨rfl, rfl⟩ _ e_; simp only [ca, na] at e_; subst e_
          rw [oS_owner]
          refine XO.pu (Pu.move rfl) ?_
          refine XO.pu (Pu.extract rfl rfl) ?_
          refine XO.pu (Pu.extract rfl rfl) ?_
          refine XO.pu (Pu.assign rfl) ?_
          refine XO.pu (Pu.assign rfl) ?_
          refine XO.nil ?_
          refine X.sub (p' := [(28, _), (27, _), (5, _), (6, _), (8, _), (10, _), (11, _)]) ⟨rfl, rfl, rfl, rfl, rfl, rfl, rfl, trivial⟩ ?_
          refine X.seq ?_
          refine X.region ?_
          refine XO.pu (Pu.move rfl) ?_
          refine XO.cF Try.call21 (Waits_H (k := 0) hR hk (by omega)) ?_
          rintro _ _ ⟨a6, c6, rfl, rfl⟩ _ e_; simp only [ca, na] at e_; subst e_
          rw [oS_waits]
          refine XO.fact (fun w s0 => (s0.le (show Le _ (lsH I64 3 a8 c8 cm :: _) from fndA)).lsLen) (fun hcap => ?_)
          have hsc : Sees (lsH I64 3 a8 c8 cm :: []) (sufA a8 c8 wk 1) ((cm.drop wk).map I64) := by have := (Sees.lsH (f := I64) (ty := 3) (a := a8) (c := c8) (l := cm) []).suf (l := wk) (c := c8) (sz := 1) (by simp; omega); rw [List.map_drop]; simpa using this
          refine XO.pu (Pu.move rfl) ?_
          refine XO.pu (Pu.extract rfl rfl) ?_
          refine XO.pu (Pu.extract rfl rfl) ?_
          refine XO.pu (Pu.assign rfl) ?_
          refine XO.pu (Pu.assign rfl) ?_
          refine XO.nil ?_
          refine X.sub (p' := [(30, _), (29, _), (28, _), (27, _), (6, _), (8, _), (10, _), (11, _)]) ⟨rfl, rfl, rfl, rfl, rfl, rfl, rfl, rfl, trivial⟩ ?_
          refine X.seq ?_
          refine X.region ?_
          refine XO.pu (Pu.move rfl) ?_
          refine XO.cR Try.call14 (lnum_ok) ?_
          refine XO.pu (Pu.move rfl) ?_
          refine XO.cR Try.call14 (lnum_ok) ?_
          refine XO.pu (Pu.add rfl rfl (by omega) (by omega)) ?_
          refine XO.pu (Pu.move rfl) ?_
          refine XO.cR Try.call14 (lnum_ok) ?_
          refine XO.pu (Pu.add rfl rfl (by omega) (by omega)) ?_
          refine XO.pu (Pu.eql rfl rfl) ?_
          refine XO.pu (Pu.move rfl) ?_
          refine XO.know 233 (.bool true) rfl (congrArg Value.bool ((by first | rfl | (simp; done) | (simp; omega) | (dsimp only; simp; omega)))) ?_
          refine XO.pu (Pu.move rfl) ?_
          refine XO.pu (Pu.move rfl) ?_
          refine XO.pu (Pu.eql rfl rfl) ?_
          refine XO.pu (Pu.pickT rfl rfl) ?_
          refine XO.pu (Pu.move rfl) ?_
          refine XO.know 238 (.bool true) rfl (congrArg Value.bool ((by first | rfl | (simp; done) | (simp; omega) | (dsimp only; simp; omega)))) ?_
          refine XO.pu (Pu.move rfl) ?_
          refine XO.pu (Pu.move rfl) ?_
          refine XO.pu (Pu.move rfl) ?_
          refine XO.pu (Pu.sliceLo rfl rfl Try.underlying29 Try.sizeOf3 (by omega) (by omega)) ?_
          refine XO.know 242 (.slice (sufA a8 c8 wk 1) (cm.drop wk).length (c8 - wk)) rfl (by simp) ?_
          refine XO.cR Try.call22 (LInts_ok (l := cm.drop wk) (m := cm.drop wk) ((Sees.lsH _).le leA) (hsc.le leA) (by rw [List.length_drop]; omega)) ?_
          refine XO.pu (Pu.pickT rfl rfl) ?_
          refine XO.pu (Pu.move rfl) ?_
          refine XO.know 245 (.bool true) rfl (congrArg Value.bool ((by first | rfl | (simp; done) | (simp; omega) | (dsimp only; simp; omega)))) ?_
          refine XO.cR Try.call11 (works_ok) ?_
          refine XO.pu (Pu.pickT rfl rfl) ?_
          refine XO.pu (Pu.assign rfl) ?_
          refine XO.nil ?_
          refine X.sub (p' := [(4, _)]) ⟨rfl, trivial⟩ ?_
          refine X.retL (q) Try.func3 (res1 Try.results3 rfl) ⟨_, rfl, rfl, _, rfl⟩
      · skip
        refine X.know 41 (.bool true) rfl (congrArg Value.bool (by simp; omega)) ?_
        refine X.condT rfl ?_
        refine X.seq ?_
        refine X.region ?_
        refine XO.cR Try.call11 (works_ok) ?_
        refine XO.pu (Pu.assign rfl) ?_
        refine XO.nil ?_
        refine X.sub (p' := [(4, _), (0, _), (1, _)]) ⟨rfl, rfl, rfl, trivial⟩ ?_
        refine X.retL (q) Try.func3 (res1 Try.results3 rfl) ⟨_, rfl, rfl, _, rfl⟩
end
end Go.Proofs.Ytlgnnhpbomfdiaa

