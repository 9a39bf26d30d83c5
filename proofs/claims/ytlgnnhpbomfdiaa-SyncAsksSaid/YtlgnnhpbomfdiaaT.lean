/- What functions of package sync, of its references and of its laws do: contracts of calls, proved by walking their code. -/
import Derived.Test.YtlgnnhpbomfdiaaR
import Derived.KernelRfl
set_option maxRecDepth 100000
set_option linter.unusedVariables false
set_option linter.unusedSimpArgs false
namespace Go.Proofs.Ytlgnnhpbomfdiaa
open Go Go.RowKit Wx
attribute [local irreducible] Wx.lsH Wx.rsH Wx.lsM Wx.rsM Wx.stars

section
variable {G : World} {q : List HP} {a b : Option Addr} {c d g p i : Nat} {σ : SyC} {r : RS} {s : Sy} {k t v mm cc : Int} {rooms : List Int} {l : List ActT} {vl tk : List Int} {room n : Int} {S : Sy}
set_option maxHeartbeats 1000000 in
theorem channels_ok (hs : Sees q a (vl.map I64)) (ht : Sees q b (tk.map I64)) : CallF Try.prog G 6 [.int .i64 room, .slice a vl.length c, .slice b tk.length d] q (Ret fun v q' => v = .bool true ∧ ∃ A, q' = A) := by
  refine CallF.of Try.func6 Try.ntmps6 rfl (fun F cs => ?_)
  refine X.sub (p' := [(0, _), (1, _), (2, _)]) ⟨rfl, rfl, rfl, trivial⟩ ?_
  refine X.seq ?_
  refine X.region ?_
  refine XO.pu (Pu.assign rfl) ?_
  refine XO.nil ?_
  refine X.sub (p' := [(6, _), (0, _), (1, _), (2, _)]) ⟨rfl, rfl, rfl, rfl, trivial⟩ ?_
  refine X.seq ?_
  refine X.seq ?_
  refine X.region ?_
  refine XO.pu (Pu.move rfl) ?_
  refine XO.pu (Pu.lss rfl rfl) ?_
  refine XO.pu (Pu.move rfl) ?_
  refine XO.sub (p' := [(16, _), (6, _), (0, _), (1, _), (2, _)]) ⟨rfl, rfl, rfl, rfl, rfl, trivial⟩ ?_
  apply XO.cutOr 3 19 16 rfl
  · skip
    intro g1 M1; have h1 := g1; try simp only [decide_eq_true_eq, decide_eq_false_iff_not, bne_iff_ne, beq_iff_eq, ne_eq, bne_eq_false_iff_eq, beq_eq_false_iff_ne, Bool.not_eq_true', Bool.not_eq_false', Int.not_lt, Int.not_le, Bool.not_not, Bool.and_eq_true, Bool.and_eq_false_iff, Bool.true_and, Bool.and_true, beq_self_eq_true, Bool.or_eq_true, Bool.or_eq_false_iff] at h1
    refine XO.pu (Pu.move rfl) ?_
    refine XO.pu (Pu.gtr rfl rfl) ?_
    refine XO.pu (Pu.pickF rfl rfl) ?_
    exact XO.fin M1 ⟨orF g1, congrArg (fun x => some (Value.bool x)) g1.symm, rfl, rfl, rfl, rfl, trivial⟩
  · skip
    intro g1 M1; have h1 := g1; try simp only [decide_eq_true_eq, decide_eq_false_iff_not, bne_iff_ne, beq_iff_eq, ne_eq, bne_eq_false_iff_eq, beq_eq_false_iff_ne, Bool.not_eq_true', Bool.not_eq_false', Int.not_lt, Int.not_le, Bool.not_not, Bool.and_eq_true, Bool.and_eq_false_iff, Bool.true_and, Bool.and_true, beq_self_eq_true, Bool.or_eq_true, Bool.or_eq_false_iff] at h1
    refine XO.pass rfl ?_
    refine XO.pass rfl ?_
    refine XO.pu (Pu.pickT rfl rfl) ?_
    exact XO.fin M1 ⟨orT g1, congrArg (fun x => some (Value.bool x)) g1.symm, rfl, rfl, rfl, rfl, trivial⟩
  · skip
    refine XO.pu (Pu.move rfl) ?_
    refine XO.sub (p' := [(20, _), (6, _), (0, _), (1, _), (2, _)]) ⟨rfl, rfl, rfl, rfl, rfl, trivial⟩ ?_
    apply XO.cutOr 4 24 20 rfl
    · skip
      intro g1 M1; have h1 := g1; try simp only [decide_eq_true_eq, decide_eq_false_iff_not, bne_iff_ne, beq_iff_eq, ne_eq, bne_eq_false_iff_eq, beq_eq_false_iff_ne, Bool.not_eq_true', Bool.not_eq_false', Int.not_lt, Int.not_le, Bool.not_not, Bool.and_eq_true, Bool.and_eq_false_iff, Bool.true_and, Bool.and_true, beq_self_eq_true, Bool.or_eq_true, Bool.or_eq_false_iff] at h1
      refine XO.pu (Pu.move rfl) ?_
      refine XO.pu (Pu.len rfl Try.underlying28) ?_
      refine XO.pu (Pu.gtr rfl rfl) ?_
      refine XO.pu (Pu.pickF rfl rfl) ?_
      exact XO.fin M1 ⟨orF g1, congrArg (fun x => some (Value.bool x)) g1.symm, rfl, rfl, rfl, rfl, trivial⟩
    · skip
      intro g1 M1; have h1 := g1; try simp only [decide_eq_true_eq, decide_eq_false_iff_not, bne_iff_ne, beq_iff_eq, ne_eq, bne_eq_false_iff_eq, beq_eq_false_iff_ne, Bool.not_eq_true', Bool.not_eq_false', Int.not_lt, Int.not_le, Bool.not_not, Bool.and_eq_true, Bool.and_eq_false_iff, Bool.true_and, Bool.and_true, beq_self_eq_true, Bool.or_eq_true, Bool.or_eq_false_iff] at h1
      refine XO.pass rfl ?_
      refine XO.pass rfl ?_
      refine XO.pass rfl ?_
      refine XO.pu (Pu.pickT rfl rfl) ?_
      exact XO.fin M1 ⟨orT g1, congrArg (fun x => some (Value.bool x)) g1.symm, rfl, rfl, rfl, rfl, trivial⟩
    · skip
      refine XO.nil ?_
      refine X.sub (p' := [(24, _), (6, _), (0, _), (1, _), (2, _)]) ⟨rfl, rfl, rfl, rfl, rfl, trivial⟩ ?_
      rcases Decidable.em ((1 ≤ room ∧ room ≤ 16) ∧ vl.length ≤ 100) with hf | hf
      · skip
        obtain ⟨⟨hr1, hr2⟩, hl⟩ := hf
        refine X.know 24 (.bool false) rfl (congrArg Value.bool (by simp; omega)) ?_
        have hok : formOk 0 0 [room] := ⟨by omega, by omega, by simp, fun r hr => by rw [List.mem_singleton.1 hr]; exact ⟨hr1, hr2⟩⟩
        have hk0 : (newS 0 0 [room]).ok 0 := newS_ok (m := 0) (c := 0) hok
        refine X.condF rfl ?_
        refine X.skip ?_
        refine X.seq ?_
        refine X.region ?_
        refine XO.pu (Pu.move rfl) ?_
        refine XO.ef (Ef.lit1 (u := room) I64 Try.underlying29 Try.info3 rfl rfl) ?_
        rintro _ _ ⟨g2, rfl, rfl⟩
        refine XO.cX Try.call12 (Le.refl _) (New_ok (mm := 0) (cc := 0) (rooms := [room]) (Sees.lsH _) hok) ?_
        rintro _ _ ⟨p, σ0, hR0, rfl, rfl⟩
        refine XO.le (Le.syInQ p σ0 _) ?_
        refine XO.pu (Pu.move rfl) ?_
        refine XO.pu (Pu.extract rfl rfl) ?_
        refine XO.pu (Pu.extract rfl rfl) ?_
        refine XO.pu (Pu.assign rfl) ?_
        refine XO.pu (Pu.assign rfl) ?_
        refine XO.nil ?_
        refine X.sub (p' := [(8, _), (7, _), (6, _), (0, _), (1, _), (2, _)]) ⟨rfl, rfl, rfl, rfl, rfl, rfl, trivial⟩ ?_
        refine X.seq ?_
        refine X.region ?_
        refine XO.pu (Pu.move rfl) ?_
        refine XO.ef (Ef.lit1 (u := room) I64 Try.underlying29 Try.info3 rfl rfl) ?_
        rintro _ _ ⟨g3, rfl, rfl⟩
        refine XO.cX Try.call25 (Le.refl _) (RNew_ok (mm := 0) (cc := 0) (rooms := [room]) (Sees.lsH _) hok) ?_
        rintro _ _ ⟨r0, h0, rfl, rfl⟩
        refine XO.pu (Pu.move rfl) ?_
        refine XO.pu (Pu.extract rfl rfl) ?_
        refine XO.pu (Pu.extract rfl rfl) ?_
        refine XO.ef (Ef.alloc Try.zeroValue53) ?_
        rintro _ _ ⟨n1, rfl, rfl⟩
        refine XO.ef0 (Ef.stA Try.sizeOf53) ?_
        rintro _ _ ⟨rfl, rfl⟩
        refine XO.pu (Pu.assign rfl) ?_
        refine XO.nil ?_
        refine X.sub (p' := [(9, _), (8, _), (7, _), (6, _), (1, _), (2, _)]) ⟨rfl, rfl, rfl, rfl, rfl, rfl, trivial⟩ ?_
        refine X.seq ?_
        refine X.region ?_
        refine XO.pu (Pu.move rfl) ?_
        refine XO.cR Try.call14 (lnum_ok) ?_
        refine XO.pu (Pu.eql rfl rfl) ?_
        refine XO.pu (Pu.assign rfl) ?_
        refine XO.nil ?_
        refine X.sub (p' := [(11, _), (9, _), (7, _), (6, _), (1, _), (2, _)]) ⟨rfl, rfl, rfl, rfl, rfl, rfl, trivial⟩ ?_
        refine X.seq ?_
        refine X.seq ?_
        refine X.region ?_
        refine XO.pu (Pu.assign rfl) ?_
        refine XO.nil ?_
        refine X.sub (p' := [(12, _), (11, _), (9, _), (7, _), (6, _), (1, _), (2, _)]) ⟨rfl, rfl, rfl, rfl, rfl, rfl, rfl, trivial⟩ ?_
        refine X.block ?_
        refine X.know 11 (.bool true) rfl (rfl) ?_
        refine X.at (X.loop (fun (s : Nat × RS × SyC × Sy) => s.1 ≤ vl.length ∧ Ref s.2.1 s.2.2.2 ∧ Real s.2.2.1 s.2.2.2 ∧ s.2.2.2.ok s.1) (fun s => [(1, .slice a vl.length c), (2, .slice b tk.length d), (7, .pointer (some ⟨p, 0, none⟩)), (9, .pointer (some ⟨n1, 0, none⟩)), (11, .bool true), (12, .int .i64 (s.1 : Int))]) (fun s => pto n1 (.cells [.slice s.2.1.ow.a s.2.1.ow.l.length s.2.1.ow.c, .slice s.2.1.cs.a s.2.1.cs.l.length s.2.1.cs.c, .slice s.2.1.rm.a s.2.1.rm.l.length s.2.1.rm.c, .slice s.2.1.st.a s.2.1.st.l.length s.2.1.st.c, .slice s.2.1.tk.a s.2.1.tk.l.length s.2.1.tk.c].toArray 53 (0, 0)) :: refM s.2.1 :: syH p s.2.2.1 :: (q ++ F)) (fun s => vl.length - s.1) (fun s hi_ ih => ?_) (0, r0, σ0, newS 0 0 [room]) ⟨by dsimp only; omega, h0, hR0, hk0⟩) ⟨(by first | rfl | exact congrArg some (congrArg (Value.int _) (by omega)) | (show some _ = some _; simp; done) | (show some _ = some _; simp; omega)), (by first | rfl | exact congrArg some (congrArg (Value.int _) (by omega)) | (show some _ = some _; simp; done) | (show some _ = some _; simp; omega)), (by first | rfl | exact congrArg some (congrArg (Value.int _) (by omega)) | (show some _ = some _; simp; done) | (show some _ = some _; simp; omega)), (by first | rfl | exact congrArg some (congrArg (Value.int _) (by omega)) | (show some _ = some _; simp; done) | (show some _ = some _; simp; omega)), (by first | rfl | exact congrArg some (congrArg (Value.int _) (by omega)) | (show some _ = some _; simp; done) | (show some _ = some _; simp; omega)), (by first | rfl | exact congrArg some (congrArg (Value.int _) (by omega)) | (show some _ = some _; simp; done) | (show some _ = some _; simp; omega)), trivial⟩ leA
        try dsimp only at hi_ ih ⊢
        obtain ⟨hi1, h5, hR5, hk5⟩ := hi_
        obtain ⟨i, r, σ, S⟩ := s; dsimp only at *
        refine X.seq ?_
        refine X.seq ?_
        refine X.region ?_
        refine XO.pu (Pu.move rfl) ?_
        refine XO.pu (Pu.move rfl) ?_
        refine XO.pu (Pu.len rfl Try.underlying28) ?_
        refine XO.pu (Pu.lss rfl rfl) ?_
        refine XO.pu (Pu.move rfl) ?_
        refine XO.sub (p' := [(45, _), (1, _), (2, _), (7, _), (9, _), (11, _), (12, _)]) ⟨rfl, rfl, rfl, rfl, rfl, rfl, rfl, trivial⟩ ?_
        apply XO.cutAnd 2 47 45 rfl
        · skip
          intro g1 M1; have h1 := g1; try simp only [decide_eq_true_eq, decide_eq_false_iff_not, bne_iff_ne, beq_iff_eq, ne_eq, bne_eq_false_iff_eq, beq_eq_false_iff_ne, Bool.not_eq_true', Bool.not_eq_false', Int.not_lt, Int.not_le, Bool.not_not, Bool.and_eq_true, Bool.and_eq_false_iff, Bool.true_and, Bool.and_true, beq_self_eq_true, Bool.or_eq_true, Bool.or_eq_false_iff] at h1
          refine XO.pu (Pu.move rfl) ?_
          refine XO.pu (Pu.pickT rfl rfl) ?_
          exact XO.fin M1 ⟨andT g1, congrArg (fun x => some (Value.bool x)) g1.symm, rfl, rfl, rfl, rfl, rfl, rfl, trivial⟩
        · skip
          intro g1 M1; have h1 := g1; try simp only [decide_eq_true_eq, decide_eq_false_iff_not, bne_iff_ne, beq_iff_eq, ne_eq, bne_eq_false_iff_eq, beq_eq_false_iff_ne, Bool.not_eq_true', Bool.not_eq_false', Int.not_lt, Int.not_le, Bool.not_not, Bool.and_eq_true, Bool.and_eq_false_iff, Bool.true_and, Bool.and_true, beq_self_eq_true, Bool.or_eq_true, Bool.or_eq_false_iff] at h1
          refine XO.pass rfl ?_
          refine XO.pu (Pu.pickF rfl rfl) ?_
          exact XO.fin M1 ⟨andF g1, congrArg (fun x => some (Value.bool x)) g1.symm, rfl, rfl, rfl, rfl, rfl, rfl, trivial⟩
        · skip
          refine XO.nil ?_
          refine X.sub (p' := [(47, _), (1, _), (2, _), (7, _), (9, _), (11, _), (12, _)]) ⟨rfl, rfl, rfl, rfl, rfl, rfl, rfl, trivial⟩ ?_
          refine X.part 47 rfl (fun h6 => ?_) (fun h6 => ?_)
          · skip
            have h6 : i < vl.length := by simpa using h6
            refine X.adr (hs.le leA) (by simp; omega) (fun b1 o1 e_ => ?_); subst e_
            refine X.condT rfl ?_
            refine X.skip ?_
            refine X.seq ?_
            refine X.block ?_
            refine X.seq ?_
            refine X.draw [] Try.mixed (by kernel_rfl) (by kernel_rfl) rfl ?_
            refine XD.pu 0 rfl (Pu.move rfl) ?_
            refine XD.loadA 1 rfl rfl Try.isAgg53 Try.sizeOf53 hasA (by rfl) ?_
            refine XD.pu 2 rfl (Pu.move rfl) ?_
            refine XD.pu 3 rfl (Pu.move rfl) ?_
            refine XD.pu 4 rfl (Pu.indexAddr rfl rfl Try.underlying28 Try.sizeOf2 (by omega) (by omega)) ?_
            refine XD.ld 5 Try.isAgg2 ?_
            refine XD.pu 6 rfl (Pu.build (cells := [_, _, _, _]) [(0, 1), (1, 1), (2, 1), (3, 1)] Try.zeroValue31 Try.underlying31 (by kernel_rfl) rfl rfl) ?_
            refine XD.cF 7 Try.call26 (act_ok (wh := 5) (nn := 0) (th := 0) (vv := vl[i]) h5 hR5 hk5 (by omega)) ?_
            rintro _ _ ⟨r6, σ6, h7, hR7, rfl, rfl⟩ _ e_; simp only [ca, na] at e_; subst e_
            refine ⟨hlA, ?_⟩
            have hk7 : (actS S 5 0 0 vl[i]).ok (i + 1) := actS_ok hk5 _ _ _ _
            generalize actS S 5 0 0 vl[i] = S6 at h7 hR7 hk7
            refine XD.pu 8 rfl (Pu.move rfl) ?_
            refine XD.pu 9 rfl (Pu.extract rfl rfl) ?_
            refine XD.pu 10 rfl (Pu.extract rfl rfl) ?_
            refine XD.ef0 11 rfl (Ef.stA Try.sizeOf53) ?_
            rintro _ _ ⟨rfl, rfl⟩
            refine ⟨trivial, ?_⟩
            refine XD.pu 12 rfl (Pu.assign rfl) ?_
            refine XD.nil ?_
            refine X.sub (p' := [(11, _), (1, _), (2, _), (7, _), (9, _), (12, _)]) ⟨rfl, rfl, rfl, rfl, rfl, rfl, trivial⟩ ?_
            refine X.seq ?_
            refine X.seq ?_
            refine X.region ?_
            refine XO.pu (Pu.assign rfl) ?_
            refine XO.nil ?_
            refine X.sub (p' := [(13, _), (11, _), (1, _), (2, _), (7, _), (9, _), (12, _)]) ⟨rfl, rfl, rfl, rfl, rfl, rfl, rfl, trivial⟩ ?_
            refine X.block ?_
            refine X.at (X.loop (fun (z : Nat × RS × SyC × Sy) => z.1 ≤ 20 ∧ Ref z.2.1 z.2.2.2 ∧ Real z.2.2.1 z.2.2.2 ∧ z.2.2.2.ok (i + 1)) (fun z => [(1, .slice (some ⟨b1, o1, none⟩) vl.length c), (2, .slice b tk.length d), (7, .pointer (some ⟨p, 0, none⟩)), (9, .pointer (some ⟨n1, 0, none⟩)), (11, .bool true), (12, .int .i64 (i : Int)), (13, .int .i64 (z.1 : Int))]) (fun z => pto n1 (.cells [.slice z.2.1.ow.a z.2.1.ow.l.length z.2.1.ow.c, .slice z.2.1.cs.a z.2.1.cs.l.length z.2.1.cs.c, .slice z.2.1.rm.a z.2.1.rm.l.length z.2.1.rm.c, .slice z.2.1.st.a z.2.1.st.l.length z.2.1.st.c, .slice z.2.1.tk.a z.2.1.tk.l.length z.2.1.tk.c].toArray 53 (0, 0)) :: refM z.2.1 :: syH p z.2.2.1 :: (q ++ F)) (fun z => 20 - z.1) (fun z hi_ ih2 => ?_) (0, r6, σ6, S6) ⟨by dsimp only; omega, h7, hR7, hk7⟩) ⟨(by first | rfl | exact congrArg some (congrArg (Value.int _) (by omega)) | (show some _ = some _; simp; done) | (show some _ = some _; simp; omega)), (by first | rfl | exact congrArg some (congrArg (Value.int _) (by omega)) | (show some _ = some _; simp; done) | (show some _ = some _; simp; omega)), (by first | rfl | exact congrArg some (congrArg (Value.int _) (by omega)) | (show some _ = some _; simp; done) | (show some _ = some _; simp; omega)), (by first | rfl | exact congrArg some (congrArg (Value.int _) (by omega)) | (show some _ = some _; simp; done) | (show some _ = some _; simp; omega)), (by first | rfl | exact congrArg some (congrArg (Value.int _) (by omega)) | (show some _ = some _; simp; done) | (show some _ = some _; simp; omega)), (by first | rfl | exact congrArg some (congrArg (Value.int _) (by omega)) | (show some _ = some _; simp; done) | (show some _ = some _; simp; omega)), (by first | rfl | exact congrArg some (congrArg (Value.int _) (by omega)) | (show some _ = some _; simp; done) | (show some _ = some _; simp; omega)), trivial⟩ (by simp only [Wx.sub, splice]; exact leA)
            try dsimp only at hi_ ih2 ⊢
            obtain ⟨hj1, h8, hR8, hk8⟩ := hi_
            obtain ⟨k, r9, σ9, S9⟩ := z; dsimp only at *
            refine X.seq ?_
            refine X.seq ?_
            refine X.region ?_
            refine XO.pu (Pu.move rfl) ?_
            refine XO.pu (Pu.move rfl) ?_
            refine XO.pu (Pu.move rfl) ?_
            refine XO.pu (Pu.move rfl) ?_
            refine XO.pu (Pu.len rfl Try.underlying29) ?_
            refine XO.pu (Pu.lss rfl rfl) ?_
            refine XO.pu (Pu.pickT rfl rfl) ?_
            refine XO.pu (Pu.move rfl) ?_
            rcases Decidable.em (i < tk.length) with k1 | k1
            · skip
              refine XO.know 68 (.bool true) rfl (congrArg Value.bool ((by first | rfl | (simp; done) | (simp; omega)))) ?_
              refine XO.adr (ht.le leA) (by simp; omega) (fun b2 o2 e2 => ?_); subst e2
              refine XO.pu (Pu.move rfl) ?_
              refine XO.pu (Pu.move rfl) ?_
              refine XO.pu (Pu.move rfl) ?_
              refine XO.pu (Pu.indexAddr rfl rfl Try.underlying29 Try.sizeOf3 (by omega) (by omega)) ?_
              refine XO.ld Try.isAgg3 ?_
              refine XO.pu (Pu.lss rfl rfl) ?_
              refine XO.pu (Pu.pickT rfl rfl) ?_
              refine XO.pu (Pu.move rfl) ?_
              rcases Decidable.em ((k : Int) < tk[i]) with k2 | k2
              · skip
                refine XO.know 76 (.bool true) rfl (congrArg Value.bool ((by first | rfl | (simp; done) | (simp; omega)))) ?_
                refine XO.pu (Pu.move rfl) ?_
                refine XO.pu (Pu.lss rfl rfl) ?_
                refine XO.pu (Pu.pickT rfl rfl) ?_
                refine XO.nil ?_
                refine X.sub (p' := [(79, _), (1, _), (2, _), (7, _), (9, _), (11, _), (12, _), (13, _)]) ⟨rfl, rfl, rfl, rfl, rfl, rfl, rfl, rfl, trivial⟩ ?_
                rcases Decidable.em (k < 20) with k3 | k3
                · skip
                  refine X.know 79 (.bool true) rfl (congrArg Value.bool ((by first | rfl | (simp; done) | (simp; omega)))) ?_
                  refine X.condT rfl ?_
                  refine X.skip ?_
                  refine X.seq ?_
                  refine X.block ?_
                  refine X.region ?_
                  refine XO.pu (Pu.move rfl) ?_
                  refine XO.ldA Try.isAgg53 Try.sizeOf53 ?_
                  refine XO.pu (Pu.build (cells := [_, _, _, _]) [(0, 1), (1, 1), (2, 1), (3, 1)] Try.zeroValue31 Try.underlying31 (by kernel_rfl) rfl rfl) ?_
                  refine XO.cF Try.call26 (act_ok (wh := 6) (nn := 0) (th := 0) (vv := 0) h8 hR8 hk8 (by omega)) ?_
                  rintro _ _ ⟨r10, σ10, h10, hR10, rfl, rfl⟩ _ e_; simp only [ca, na] at e_; subst e_
                  have hk10 : (actS S9 6 0 0 0).ok (i + 1) := recvS_ok hk8 0
                  refine XO.pu (Pu.move rfl) ?_
                  refine XO.pu (Pu.extract rfl rfl) ?_
                  refine XO.pu (Pu.extract rfl rfl) ?_
                  refine XO.ef0 (Ef.stA Try.sizeOf53) ?_
                  rintro _ _ ⟨rfl, rfl⟩
                  refine XO.pu (Pu.assign rfl) ?_
                  refine XO.nil ?_
                  refine X.sub (p' := [(11, _), (1, _), (2, _), (7, _), (9, _), (12, _), (13, _)]) ⟨rfl, rfl, rfl, rfl, rfl, rfl, rfl, trivial⟩ ?_
                  refine X.inBlock ?_
                  refine X.region ?_
                  refine XO.pu (Pu.move rfl) ?_
                  refine XO.pu (Pu.add rfl rfl (by omega) (by omega)) ?_
                  refine XO.pu (Pu.assign rfl) ?_
                  refine XO.nil ?_
                  refine X.sub (p' := [(13, _), (11, _), (1, _), (2, _), (7, _), (9, _), (12, _)]) ⟨rfl, rfl, rfl, rfl, rfl, rfl, rfl, trivial⟩ ?_
                  refine X.at (ih2 (k + 1, r10, σ10, actS S9 6 0 0 0) ⟨by dsimp only; omega, h10, hR10, hk10⟩ (by dsimp only; omega)) ⟨(by first | rfl | exact congrArg some (congrArg (Value.int _) (by omega)) | (show some _ = some _; simp; done) | (show some _ = some _; simp; omega)), (by first | rfl | exact congrArg some (congrArg (Value.int _) (by omega)) | (show some _ = some _; simp; done) | (show some _ = some _; simp; omega)), (by first | rfl | exact congrArg some (congrArg (Value.int _) (by omega)) | (show some _ = some _; simp; done) | (show some _ = some _; simp; omega)), (by first | rfl | exact congrArg some (congrArg (Value.int _) (by omega)) | (show some _ = some _; simp; done) | (show some _ = some _; simp; omega)), (by first | rfl | exact congrArg some (congrArg (Value.int _) (by omega)) | (show some _ = some _; simp; done) | (show some _ = some _; simp; omega)), (by first | rfl | exact congrArg some (congrArg (Value.int _) (by omega)) | (show some _ = some _; simp; done) | (show some _ = some _; simp; omega)), (by first | rfl | exact congrArg some (congrArg (Value.int _) (by omega)) | (show some _ = some _; simp; done) | (show some _ = some _; simp; omega)), trivial⟩ (by simp only [Wx.sub, splice]; exact leA)
                · skip
                  refine X.know 79 (.bool false) rfl (congrArg Value.bool ((by first | rfl | (simp; done) | (simp; omega)))) ?_
                  refine X.condF rfl ?_
                  refine X.exit rfl ?_
                  refine X.region ?_
                  refine XO.pu (Pu.move rfl) ?_
                  refine XO.pu (Pu.move rfl) ?_
                  refine XO.pu (Pu.move rfl) ?_
                  refine XO.ldA Try.isAgg53 Try.sizeOf53 ?_
                  refine XO.cF Try.call27 (is_ok h8 hR8 hk8 (by omega)) ?_
                  rintro _ _ ⟨rfl, rfl⟩ _ e_; simp only [ca, na] at e_; subst e_
                  refine XO.pu (Pu.pickT rfl rfl) ?_
                  refine XO.pu (Pu.assign rfl) ?_
                  refine XO.nil ?_
                  refine X.sub (p' := [(11, _), (1, _), (2, _), (7, _), (9, _), (12, _)]) ⟨rfl, rfl, rfl, rfl, rfl, rfl, trivial⟩ ?_
                  refine X.inBlock ?_
                  refine X.region ?_
                  refine XO.pu (Pu.move rfl) ?_
                  refine XO.pu (Pu.add rfl rfl (by omega) (by omega)) ?_
                  refine XO.pu (Pu.assign rfl) ?_
                  refine XO.nil ?_
                  refine X.sub (p' := [(12, _), (11, _), (1, _), (2, _), (7, _), (9, _)]) ⟨rfl, rfl, rfl, rfl, rfl, rfl, trivial⟩ ?_
                  refine X.at (ih (i + 1, r9, σ9, S9) ⟨by dsimp only; omega, h8, hR8, hk8⟩ (by dsimp only; omega)) ⟨(by first | rfl | exact congrArg some (congrArg (Value.int _) (by omega)) | (show some _ = some _; simp; done) | (show some _ = some _; simp; omega)), (by first | rfl | exact congrArg some (congrArg (Value.int _) (by omega)) | (show some _ = some _; simp; done) | (show some _ = some _; simp; omega)), (by first | rfl | exact congrArg some (congrArg (Value.int _) (by omega)) | (show some _ = some _; simp; done) | (show some _ = some _; simp; omega)), (by first | rfl | exact congrArg some (congrArg (Value.int _) (by omega)) | (show some _ = some _; simp; done) | (show some _ = some _; simp; omega)), (by first | rfl | exact congrArg some (congrArg (Value.int _) (by omega)) | (show some _ = some _; simp; done) | (show some _ = some _; simp; omega)), (by first | rfl | exact congrArg some (congrArg (Value.int _) (by omega)) | (show some _ = some _; simp; done) | (show some _ = some _; simp; omega)), trivial⟩ (by simp only [Wx.sub, splice]; exact leA)
              · skip
                refine XO.know 76 (.bool false) rfl (congrArg Value.bool ((by first | rfl | (simp; done) | (simp; omega)))) ?_
                refine XO.pass rfl ?_
                refine XO.pass rfl ?_
                refine XO.pu (Pu.pickF rfl rfl) ?_
                refine XO.nil ?_
                refine X.sub (p' := [(79, _), (1, _), (2, _), (7, _), (9, _), (11, _), (12, _), (13, _)]) ⟨rfl, rfl, rfl, rfl, rfl, rfl, rfl, rfl, trivial⟩ ?_
                refine X.condF rfl ?_
                refine X.exit rfl ?_
                refine X.region ?_
                refine XO.pu (Pu.move rfl) ?_
                refine XO.pu (Pu.move rfl) ?_
                refine XO.pu (Pu.move rfl) ?_
                refine XO.ldA Try.isAgg53 Try.sizeOf53 ?_
                refine XO.cF Try.call27 (is_ok h8 hR8 hk8 (by omega)) ?_
                rintro _ _ ⟨rfl, rfl⟩ _ e_; simp only [ca, na] at e_; subst e_
                refine XO.pu (Pu.pickT rfl rfl) ?_
                refine XO.pu (Pu.assign rfl) ?_
                refine XO.nil ?_
                refine X.sub (p' := [(11, _), (1, _), (2, _), (7, _), (9, _), (12, _)]) ⟨rfl, rfl, rfl, rfl, rfl, rfl, trivial⟩ ?_
                refine X.inBlock ?_
                refine X.region ?_
                refine XO.pu (Pu.move rfl) ?_
                refine XO.pu (Pu.add rfl rfl (by omega) (by omega)) ?_
                refine XO.pu (Pu.assign rfl) ?_
                refine XO.nil ?_
                refine X.sub (p' := [(12, _), (11, _), (1, _), (2, _), (7, _), (9, _)]) ⟨rfl, rfl, rfl, rfl, rfl, rfl, trivial⟩ ?_
                refine X.at (ih (i + 1, r9, σ9, S9) ⟨by dsimp only; omega, h8, hR8, hk8⟩ (by dsimp only; omega)) ⟨(by first | rfl | exact congrArg some (congrArg (Value.int _) (by omega)) | (show some _ = some _; simp; done) | (show some _ = some _; simp; omega)), (by first | rfl | exact congrArg some (congrArg (Value.int _) (by omega)) | (show some _ = some _; simp; done) | (show some _ = some _; simp; omega)), (by first | rfl | exact congrArg some (congrArg (Value.int _) (by omega)) | (show some _ = some _; simp; done) | (show some _ = some _; simp; omega)), (by first | rfl | exact congrArg some (congrArg (Value.int _) (by omega)) | (show some _ = some _; simp; done) | (show some _ = some _; simp; omega)), (by first | rfl | exact congrArg some (congrArg (Value.int _) (by omega)) | (show some _ = some _; simp; done) | (show some _ = some _; simp; omega)), (by first | rfl | exact congrArg some (congrArg (Value.int _) (by omega)) | (show some _ = some _; simp; done) | (show some _ = some _; simp; omega)), trivial⟩ (by simp only [Wx.sub, splice]; exact leA)
            · skip
              refine XO.know 68 (.bool false) rfl (congrArg Value.bool ((by first | rfl | (simp; done) | (simp; omega)))) ?_
              refine XO.pass rfl ?_
              refine XO.pass rfl ?_
              refine XO.pass rfl ?_
              refine XO.pass rfl ?_
              refine XO.pass rfl ?_
              refine XO.pass rfl ?_
              refine XO.pu (Pu.pickF rfl rfl) ?_
              refine XO.pu (Pu.move rfl) ?_
              refine XO.pass rfl ?_
              refine XO.pass rfl ?_
              refine XO.pu (Pu.pickF rfl rfl) ?_
              refine XO.nil ?_
              refine X.sub (p' := [(79, _), (1, _), (2, _), (7, _), (9, _), (11, _), (12, _), (13, _)]) ⟨rfl, rfl, rfl, rfl, rfl, rfl, rfl, rfl, trivial⟩ ?_
              refine X.condF rfl ?_
              refine X.exit rfl ?_
              refine X.region ?_
              refine XO.pu (Pu.move rfl) ?_
              refine XO.pu (Pu.move rfl) ?_
              refine XO.pu (Pu.move rfl) ?_
              refine XO.ldA Try.isAgg53 Try.sizeOf53 ?_
              refine XO.cF Try.call27 (is_ok h8 hR8 hk8 (by omega)) ?_
              rintro _ _ ⟨rfl, rfl⟩ _ e_; simp only [ca, na] at e_; subst e_
              refine XO.pu (Pu.pickT rfl rfl) ?_
              refine XO.pu (Pu.assign rfl) ?_
              refine XO.nil ?_
              refine X.sub (p' := [(11, _), (1, _), (2, _), (7, _), (9, _), (12, _)]) ⟨rfl, rfl, rfl, rfl, rfl, rfl, trivial⟩ ?_
              refine X.inBlock ?_
              refine X.region ?_
              refine XO.pu (Pu.move rfl) ?_
              refine XO.pu (Pu.add rfl rfl (by omega) (by omega)) ?_
              refine XO.pu (Pu.assign rfl) ?_
              refine XO.nil ?_
              refine X.sub (p' := [(12, _), (11, _), (1, _), (2, _), (7, _), (9, _)]) ⟨rfl, rfl, rfl, rfl, rfl, rfl, trivial⟩ ?_
              refine X.at (ih (i + 1, r9, σ9, S9) ⟨by dsimp only; omega, h8, hR8, hk8⟩ (by dsimp only; omega)) ⟨(by first | rfl | exact congrArg some (congrArg (Value.int _) (by omega)) | (show some _ = some _; simp; done) | (show some _ = some _; simp; omega)), (by first | rfl | exact congrArg some (congrArg (Value.int _) (by omega)) | (show some _ = some _; simp; done) | (show some _ = some _; simp; omega)), (by first | rfl | exact congrArg some (congrArg (Value.int _) (by omega)) | (show some _ = some _; simp; done) | (show some _ = some _; simp; omega)), (by first | rfl | exact congrArg some (congrArg (Value.int _) (by omega)) | (show some _ = some _; simp; done) | (show some _ = some _; simp; omega)), (by first | rfl | exact congrArg some (congrArg (Value.int _) (by omega)) | (show some _ = some _; simp; done) | (show some _ = some _; simp; omega)), (by first | rfl | exact congrArg some (congrArg (Value.int _) (by omega)) | (show some _ = some _; simp; done) | (show some _ = some _; simp; omega)), trivial⟩ (by simp only [Wx.sub, splice]; exact leA)
          · skip
            have h6 : ¬ i < vl.length := by simpa using h6
            refine X.condF rfl ?_
            refine X.exit rfl ?_
            refine X.seq ?_
            refine X.region ?_
            refine XO.pu (Pu.move rfl) ?_
            refine XO.pu (Pu.move rfl) ?_
            refine XO.cR Try.call11 (works_ok) ?_
            refine XO.pu (Pu.pickT rfl rfl) ?_
            refine XO.pu (Pu.assign rfl) ?_
            refine XO.nil ?_
            refine X.sub (p' := [(6, _)]) ⟨rfl, trivial⟩ ?_
            refine X.retL (q) Try.func6 (res1 Try.results6 rfl) ⟨_, rfl, rfl, _, rfl⟩
      · skip
        refine X.know 24 (.bool true) rfl (congrArg Value.bool (by simp; omega)) ?_
        refine X.condT rfl ?_
        refine X.seq ?_
        refine X.region ?_
        refine XO.cR Try.call11 (works_ok) ?_
        refine XO.pu (Pu.assign rfl) ?_
        refine XO.nil ?_
        refine X.sub (p' := [(6, _), (0, _), (1, _), (2, _)]) ⟨rfl, rfl, rfl, rfl, trivial⟩ ?_
        refine X.retL (q) Try.func6 (res1 Try.results6 rfl) ⟨_, rfl, rfl, _, rfl⟩
set_option maxHeartbeats 1000000 in
theorem asks_ok (hrm : Sees q b (rooms.map I64)) (hs : Sees q a (l.flatMap acs)) (hn : -9223372036854775808 ≤ n ∧ n ≤ 9223372036854775807) : CallF Try.prog G 7 [.agg [.int .i64 mm, .int .i64 cc, .slice b rooms.length d].toArray, .slice a l.length c, .int .i64 n] q (Ret fun v q' => v = .bool true ∧ ∃ A, q' = A) := by
  refine CallF.of Try.func7 Try.ntmps7 rfl (fun F cs => ?_)
  refine X.sub (p' := [(0, _), (1, _), (2, _)]) ⟨rfl, rfl, rfl, trivial⟩ ?_
  refine X.seq ?_
  refine X.region ?_
  refine XO.ef (Ef.box rfl) ?_
  rintro _ _ ⟨n1, rfl, rfl⟩
  refine XO.pu (Pu.assign rfl) ?_
  refine XO.nil ?_
  refine X.sub (p' := [(6, _), (3, _), (1, _), (2, _)]) ⟨rfl, rfl, rfl, rfl, trivial⟩ ?_
  refine X.seq ?_
  refine X.seq ?_
  refine X.region ?_
  refine XO.ldA Try.isAgg48 Try.sizeOf48 ?_
  refine XO.pu (Pu.move rfl) ?_
  rcases Decidable.em (formOk mm cc rooms) with ok | ok
  · skip
    refine XO.cR Try.call23 (small_ok (hrm.le leA) (hs.le leA) ok) ?_
    refine XO.pu (Pu.not rfl) ?_
    refine XO.nil ?_
    refine X.sub (p' := [(21, _), (6, _), (3, _), (1, _), (2, _)]) ⟨rfl, rfl, rfl, rfl, rfl, trivial⟩ ?_
    rcases Decidable.em (l.length ≤ 100) with hl | hl
    · skip
      refine X.know 21 (.bool false) rfl (congrArg Value.bool (by simp [hl])) ?_
      refine X.condF rfl ?_
      refine X.skip ?_
      refine X.seq ?_
      refine X.region ?_
      refine XO.ldA Try.isAgg48 Try.sizeOf48 ?_
      refine XO.pu (Pu.move rfl) ?_
      refine XO.cX Try.call24 (Le.refl _) (played_ok (hrm.le leA) (hs.le leA) ok hl) ?_
      rintro _ _ ⟨p, σ, r, h5, hR5, rfl, rfl⟩
      have hk5 := playS_ok (l := l) (newS_ok (m := mm.toNat) (c := cc.toNat) (by rw [Int.toNat_of_nonneg ok.1.1, Int.toNat_of_nonneg ok.2.1.1]; exact ok))
      generalize playS (newS mm.toNat cc.toNat rooms) l = S at h5 hR5 hk5
      have eo := h5.lo; have ec := h5.lc; have em := h5.lm
      refine XO.pu (Pu.move rfl) ?_
      refine XO.pu (Pu.extract rfl rfl) ?_
      refine XO.pu (Pu.extract rfl rfl) ?_
      refine XO.pu (Pu.extract rfl rfl) ?_
      refine XO.ef (Ef.alloc Try.zeroValue53) ?_
      rintro _ _ ⟨n2, rfl, rfl⟩
      refine XO.pu (Pu.assign rfl) ?_
      refine XO.ef0 (Ef.stA Try.sizeOf53) ?_
      rintro _ _ ⟨rfl, rfl⟩
      refine XO.pu (Pu.assign rfl) ?_
      refine XO.nil ?_
      refine X.sub (p' := [(9, _), (7, _), (8, _), (6, _), (2, _)]) ⟨rfl, rfl, rfl, rfl, rfl, trivial⟩ ?_
      refine X.seq ?_
      refine X.region ?_
      refine XO.pu (Pu.move rfl) ?_
      refine XO.pu (Pu.move rfl) ?_
      refine XO.cF Try.call20 (Owner_H (m := n) hR5 hk5 (by omega)) ?_
      rintro _ _ ⟨rfl, rfl⟩ _ e_; simp only [ca, na] at e_; subst e_
      refine XO.pu (Pu.move rfl) ?_
      refine XO.pu (Pu.extract rfl rfl) ?_
      refine XO.pu (Pu.extract rfl rfl) ?_
      refine XO.pu (Pu.assign rfl) ?_
      refine XO.pu (Pu.assign rfl) ?_
      refine XO.nil ?_
      refine X.sub (p' := [(11, _), (10, _), (9, _), (7, _), (8, _), (6, _), (2, _)]) ⟨rfl, rfl, rfl, rfl, rfl, rfl, rfl, trivial⟩ ?_
      refine X.seq ?_
      refine X.region ?_
      refine XO.pu (Pu.move rfl) ?_
      refine XO.pu (Pu.move rfl) ?_
      refine XO.cF Try.call21 (Waits_H (k := n) hR5 hk5 (by omega)) ?_
      rintro _ _ ⟨a6, c6, rfl, rfl⟩ _ e_; simp only [ca, na] at e_; subst e_
      refine XO.pu (Pu.move rfl) ?_
      refine XO.pu (Pu.extract rfl rfl) ?_
      refine XO.pu (Pu.extract rfl rfl) ?_
      refine XO.pu (Pu.assign rfl) ?_
      refine XO.pu (Pu.assign rfl) ?_
      refine XO.nil ?_
      refine X.sub (p' := [(13, _), (12, _), (11, _), (10, _), (9, _), (7, _), (8, _), (6, _), (2, _)]) ⟨rfl, rfl, rfl, rfl, rfl, rfl, rfl, rfl, rfl, trivial⟩ ?_
      refine X.seq ?_
      refine X.region ?_
      refine XO.pu (Pu.move rfl) ?_
      refine XO.pu (Pu.move rfl) ?_
      refine XO.cF Try.call28 (Values_H (k := n) hR5 hk5 (by omega)) ?_
      rintro _ _ ⟨a7, c7, rfl, rfl⟩ _ e_; simp only [ca, na] at e_; subst e_
      refine XO.pu (Pu.move rfl) ?_
      refine XO.pu (Pu.extract rfl rfl) ?_
      refine XO.pu (Pu.extract rfl rfl) ?_
      refine XO.pu (Pu.assign rfl) ?_
      refine XO.pu (Pu.assign rfl) ?_
      refine XO.nil ?_
      refine X.sub (p' := [(15, _), (14, _), (13, _), (12, _), (11, _), (10, _), (9, _), (7, _), (8, _), (6, _), (2, _)]) ⟨rfl, rfl, rfl, rfl, rfl, rfl, rfl, rfl, rfl, rfl, rfl, trivial⟩ ?_
      refine X.seq ?_
      refine X.region ?_
      refine XO.pu (Pu.move rfl) ?_
      refine XO.pu (Pu.move rfl) ?_
      refine XO.cF Try.call29 (Room_H (k := n) hR5 hk5 (by omega)) ?_
      rintro _ _ ⟨rfl, rfl⟩ _ e_; simp only [ca, na] at e_; subst e_
      refine XO.pu (Pu.move rfl) ?_
      refine XO.pu (Pu.extract rfl rfl) ?_
      refine XO.pu (Pu.extract rfl rfl) ?_
      refine XO.pu (Pu.assign rfl) ?_
      refine XO.pu (Pu.assign rfl) ?_
      refine XO.nil ?_
      refine X.sub (p' := [(17, _), (16, _), (15, _), (14, _), (13, _), (12, _), (11, _), (10, _), (9, _), (8, _), (6, _), (2, _)]) ⟨rfl, rfl, rfl, rfl, rfl, rfl, rfl, rfl, rfl, rfl, rfl, rfl, trivial⟩ ?_
      refine X.seq ?_
      refine X.seq ?_
      refine X.region ?_
      refine XO.pu (Pu.move rfl) ?_
      rcases Decidable.em (inR n S.owners.length) with j0 | j0
      · skip
        have z0 : 0 ≤ n ∧ n < (S.owners.length : Int) := j0
        have fownerS : (ownerS S n).2 = 0 := congrArg Prod.snd (show ownerS S n = (_, 0) from if_pos j0)
        rcases Decidable.em (inR n S.conds.length) with j1 | j1
        · skip
          have z1 : 0 ≤ n ∧ n < (S.conds.length : Int) := j1
          have fwaitsS : (waitsS S n).2 = 0 := congrArg Prod.snd (show waitsS S n = (_, 0) from if_pos j1)
          rcases Decidable.em (inR n S.chans.length) with j2 | j2
          · skip
            have z2 : 0 ≤ n ∧ n < (S.chans.length : Int) := j2
            have fvaluesS : (valuesS S n).2 = 0 := congrArg Prod.snd (show valuesS S n = (_, 0) from if_pos j2)
            have froomS : (roomS S n).2 = 0 := congrArg Prod.snd (show roomS S n = (_, 0) from if_pos j2)
            refine XO.cR Try.call14 (lnum_ok) ?_
            refine XO.pu (Pu.eql rfl rfl) ?_
            refine XO.pu (Pu.move rfl) ?_
            refine XO.pu (Pu.lss rfl rfl) ?_
            refine XO.pu (Pu.move rfl) ?_
            refine XO.sub (p' := [(59, _), (56, _), (17, _), (16, _), (15, _), (14, _), (13, _), (12, _), (11, _), (10, _), (9, _), (8, _), (6, _), (2, _)]) ⟨rfl, rfl, rfl, rfl, rfl, rfl, rfl, rfl, rfl, rfl, rfl, rfl, rfl, rfl, trivial⟩ ?_
            apply XO.cutOr 6 65 59 rfl
            · skip
              intro g1 M1; have h1 := g1; try simp only [decide_eq_true_eq, decide_eq_false_iff_not, bne_iff_ne, beq_iff_eq, ne_eq, bne_eq_false_iff_eq, beq_eq_false_iff_ne, Bool.not_eq_true', Bool.not_eq_false', Int.not_lt, Int.not_le, Bool.not_not, Bool.and_eq_true, Bool.and_eq_false_iff, Bool.true_and, Bool.and_true, beq_self_eq_true, Bool.or_eq_true, Bool.or_eq_false_iff] at h1
              refine XO.pu (Pu.move rfl) ?_
              refine XO.pu (Pu.fieldAddr 29 0 0 rfl Try.underlying53 rfl Try.sizeOf29) ?_
              refine XO.ld Try.isAgg29 ?_
              refine XO.pu (Pu.len rfl Try.underlying29) ?_
              refine XO.pu (Pu.geq rfl rfl) ?_
              refine XO.pu (Pu.pickF rfl rfl) ?_
              exact XO.fin M1 ⟨orF g1, congrArg (fun x => some (Value.bool x)) g1.symm, rfl, rfl, rfl, rfl, rfl, rfl, rfl, rfl, rfl, rfl, rfl, rfl, rfl, trivial⟩
            · skip
              intro g1 M1; have h1 := g1; try simp only [decide_eq_true_eq, decide_eq_false_iff_not, bne_iff_ne, beq_iff_eq, ne_eq, bne_eq_false_iff_eq, beq_eq_false_iff_ne, Bool.not_eq_true', Bool.not_eq_false', Int.not_lt, Int.not_le, Bool.not_not, Bool.and_eq_true, Bool.and_eq_false_iff, Bool.true_and, Bool.and_true, beq_self_eq_true, Bool.or_eq_true, Bool.or_eq_false_iff] at h1
              refine XO.pass rfl ?_
              refine XO.pass rfl ?_
              refine XO.pass rfl ?_
              refine XO.pass rfl ?_
              refine XO.pass rfl ?_
              refine XO.pu (Pu.pickT rfl rfl) ?_
              exact XO.fin M1 ⟨orT g1, congrArg (fun x => some (Value.bool x)) g1.symm, rfl, rfl, rfl, rfl, rfl, rfl, rfl, rfl, rfl, rfl, rfl, rfl, rfl, trivial⟩
            · skip
              refine XO.pu (Pu.neqB rfl rfl Try.underlying4) ?_
              refine XO.pu (Pu.move rfl) ?_
              refine XO.know 67 (.bool false) rfl (congrArg Value.bool ((by first | rfl | (simp [fownerS, fwaitsS, fvaluesS, froomS]; done) | (simp [fownerS, fwaitsS, fvaluesS, froomS]; omega)))) ?_
              refine XO.pu (Pu.move rfl) ?_
              refine XO.cR Try.call14 (lnum_ok) ?_
              refine XO.pu (Pu.eql rfl rfl) ?_
              refine XO.pu (Pu.move rfl) ?_
              refine XO.pu (Pu.lss rfl rfl) ?_
              refine XO.pu (Pu.move rfl) ?_
              refine XO.sub (p' := [(73, _), (70, _), (67, _), (17, _), (16, _), (15, _), (14, _), (13, _), (12, _), (11, _), (10, _), (9, _), (8, _), (6, _), (2, _)]) ⟨rfl, rfl, rfl, rfl, rfl, rfl, rfl, rfl, rfl, rfl, rfl, rfl, rfl, rfl, rfl, trivial⟩ ?_
              apply XO.cutOr 6 79 73 rfl
              · skip
                intro g1 M1; have h1 := g1; try simp only [decide_eq_true_eq, decide_eq_false_iff_not, bne_iff_ne, beq_iff_eq, ne_eq, bne_eq_false_iff_eq, beq_eq_false_iff_ne, Bool.not_eq_true', Bool.not_eq_false', Int.not_lt, Int.not_le, Bool.not_not, Bool.and_eq_true, Bool.and_eq_false_iff, Bool.true_and, Bool.and_true, beq_self_eq_true, Bool.or_eq_true, Bool.or_eq_false_iff] at h1
                refine XO.pu (Pu.move rfl) ?_
                refine XO.pu (Pu.fieldAddr 50 1 0 rfl Try.underlying53 rfl Try.sizeOf50) ?_
                refine XO.ld Try.isAgg50 ?_
                refine XO.pu (Pu.len rfl Try.underlying50) ?_
                refine XO.pu (Pu.geq rfl rfl) ?_
                refine XO.pu (Pu.pickF rfl rfl) ?_
                exact XO.fin M1 ⟨orF g1, congrArg (fun x => some (Value.bool x)) g1.symm, rfl, rfl, rfl, rfl, rfl, rfl, rfl, rfl, rfl, rfl, rfl, rfl, rfl, rfl, trivial⟩
              · skip
                intro g1 M1; have h1 := g1; try simp only [decide_eq_true_eq, decide_eq_false_iff_not, bne_iff_ne, beq_iff_eq, ne_eq, bne_eq_false_iff_eq, beq_eq_false_iff_ne, Bool.not_eq_true', Bool.not_eq_false', Int.not_lt, Int.not_le, Bool.not_not, Bool.and_eq_true, Bool.and_eq_false_iff, Bool.true_and, Bool.and_true, beq_self_eq_true, Bool.or_eq_true, Bool.or_eq_false_iff] at h1
                refine XO.pass rfl ?_
                refine XO.pass rfl ?_
                refine XO.pass rfl ?_
                refine XO.pass rfl ?_
                refine XO.pass rfl ?_
                refine XO.pu (Pu.pickT rfl rfl) ?_
                exact XO.fin M1 ⟨orT g1, congrArg (fun x => some (Value.bool x)) g1.symm, rfl, rfl, rfl, rfl, rfl, rfl, rfl, rfl, rfl, rfl, rfl, rfl, rfl, rfl, trivial⟩
              · skip
                refine XO.pu (Pu.neqB rfl rfl Try.underlying4) ?_
                refine XO.pu (Pu.pickF rfl rfl) ?_
                refine XO.pu (Pu.move rfl) ?_
                refine XO.know 82 (.bool false) rfl (congrArg Value.bool ((by first | rfl | (simp [fownerS, fwaitsS, fvaluesS, froomS]; done) | (simp [fownerS, fwaitsS, fvaluesS, froomS]; omega)))) ?_
                refine XO.pu (Pu.move rfl) ?_
                refine XO.cR Try.call14 (lnum_ok) ?_
                refine XO.pu (Pu.eql rfl rfl) ?_
                refine XO.pu (Pu.move rfl) ?_
                refine XO.pu (Pu.lss rfl rfl) ?_
                refine XO.pu (Pu.move rfl) ?_
                refine XO.sub (p' := [(88, _), (85, _), (82, _), (17, _), (16, _), (15, _), (14, _), (13, _), (12, _), (11, _), (10, _), (9, _), (8, _), (6, _), (2, _)]) ⟨rfl, rfl, rfl, rfl, rfl, rfl, rfl, rfl, rfl, rfl, rfl, rfl, rfl, rfl, rfl, trivial⟩ ?_
                apply XO.cutOr 6 94 88 rfl
                · skip
                  intro g1 M1; have h1 := g1; try simp only [decide_eq_true_eq, decide_eq_false_iff_not, bne_iff_ne, beq_iff_eq, ne_eq, bne_eq_false_iff_eq, beq_eq_false_iff_ne, Bool.not_eq_true', Bool.not_eq_false', Int.not_lt, Int.not_le, Bool.not_not, Bool.and_eq_true, Bool.and_eq_false_iff, Bool.true_and, Bool.and_true, beq_self_eq_true, Bool.or_eq_true, Bool.or_eq_false_iff] at h1
                  refine XO.pu (Pu.move rfl) ?_
                  refine XO.pu (Pu.fieldAddr 29 2 0 rfl Try.underlying53 rfl Try.sizeOf29) ?_
                  refine XO.ld Try.isAgg29 ?_
                  refine XO.pu (Pu.len rfl Try.underlying29) ?_
                  refine XO.pu (Pu.geq rfl rfl) ?_
                  refine XO.pu (Pu.pickF rfl rfl) ?_
                  exact XO.fin M1 ⟨orF g1, congrArg (fun x => some (Value.bool x)) g1.symm, rfl, rfl, rfl, rfl, rfl, rfl, rfl, rfl, rfl, rfl, rfl, rfl, rfl, rfl, trivial⟩
                · skip
                  intro g1 M1; have h1 := g1; try simp only [decide_eq_true_eq, decide_eq_false_iff_not, bne_iff_ne, beq_iff_eq, ne_eq, bne_eq_false_iff_eq, beq_eq_false_iff_ne, Bool.not_eq_true', Bool.not_eq_false', Int.not_lt, Int.not_le, Bool.not_not, Bool.and_eq_true, Bool.and_eq_false_iff, Bool.true_and, Bool.and_true, beq_self_eq_true, Bool.or_eq_true, Bool.or_eq_false_iff] at h1
                  refine XO.pass rfl ?_
                  refine XO.pass rfl ?_
                  refine XO.pass rfl ?_
                  refine XO.pass rfl ?_
                  refine XO.pass rfl ?_
                  refine XO.pu (Pu.pickT rfl rfl) ?_
                  exact XO.fin M1 ⟨orT g1, congrArg (fun x => some (Value.bool x)) g1.symm, rfl, rfl, rfl, rfl, rfl, rfl, rfl, rfl, rfl, rfl, rfl, rfl, rfl, rfl, trivial⟩
                · skip
                  refine XO.pu (Pu.neqB rfl rfl Try.underlying4) ?_
                  refine XO.pu (Pu.pickF rfl rfl) ?_
                  refine XO.pu (Pu.move rfl) ?_
                  refine XO.know 97 (.bool false) rfl (congrArg Value.bool ((by first | rfl | (simp [fownerS, fwaitsS, fvaluesS, froomS]; done) | (simp [fownerS, fwaitsS, fvaluesS, froomS]; omega)))) ?_
                  refine XO.pu (Pu.move rfl) ?_
                  refine XO.cR Try.call14 (lnum_ok) ?_
                  refine XO.pu (Pu.move rfl) ?_
                  refine XO.cR Try.call14 (lnum_ok) ?_
                  refine XO.pu (Pu.neq rfl rfl) ?_
                  refine XO.pu (Pu.pickF rfl rfl) ?_
                  refine XO.nil ?_
                  refine X.sub (p' := [(103, _), (16, _), (15, _), (14, _), (13, _), (12, _), (11, _), (10, _), (9, _), (6, _)]) ⟨rfl, rfl, rfl, rfl, rfl, rfl, rfl, rfl, rfl, rfl, trivial⟩ ?_
                  refine X.know 103 (.bool false) rfl (congrArg Value.bool ((by first | rfl | (simp [fownerS, fwaitsS, fvaluesS, froomS]; done) | (simp [fownerS, fwaitsS, fvaluesS, froomS]; omega)))) ?_
                  refine X.condF rfl ?_
                  refine X.skip ?_
                  refine X.seq ?_
                  refine X.region ?_
                  refine XO.pu (Pu.move rfl) ?_
                  refine XO.pu (Pu.move rfl) ?_
                  refine XO.know 105 (.bool true) rfl (congrArg Value.bool ((by first | rfl | (simp [fownerS, fwaitsS, fvaluesS, froomS]; done) | (simp [fownerS, fwaitsS, fvaluesS, froomS]; omega)))) ?_
                  refine XO.pu (Pu.move rfl) ?_
                  refine XO.cR Try.call14 (lnum_ok) ?_
                  refine XO.pu (Pu.eql rfl rfl) ?_
                  refine XO.pu (Pu.move rfl) ?_
                  refine XO.know 109 (.bool true) rfl (congrArg Value.bool ((by first | rfl | (simp [fownerS, fwaitsS, fvaluesS, froomS]; done) | (simp [fownerS, fwaitsS, fvaluesS, froomS]; omega)))) ?_
                  refine XO.pass rfl ?_
                  refine XO.pass rfl ?_
                  refine XO.pu (Pu.pickT rfl rfl) ?_
                  refine XO.pu (Pu.pickT rfl rfl) ?_
                  refine XO.pu (Pu.move rfl) ?_
                  refine XO.pu (Pu.move rfl) ?_
                  refine XO.cR Try.call14 (lnum_ok) ?_
                  refine XO.pu (Pu.eql rfl rfl) ?_
                  refine XO.pu (Pu.move rfl) ?_
                  refine XO.know 118 (.bool true) rfl (congrArg Value.bool ((by first | rfl | (simp [fownerS, fwaitsS, fvaluesS, froomS]; done) | (simp [fownerS, fwaitsS, fvaluesS, froomS]; omega)))) ?_
                  refine XO.pass rfl ?_
                  refine XO.pass rfl ?_
                  refine XO.pass rfl ?_
                  refine XO.pu (Pu.pickT rfl rfl) ?_
                  refine XO.pu (Pu.pickT rfl rfl) ?_
                  refine XO.pu (Pu.move rfl) ?_
                  refine XO.pu (Pu.move rfl) ?_
                  refine XO.cR Try.call14 (lnum_ok) ?_
                  refine XO.pu (Pu.eql rfl rfl) ?_
                  refine XO.pu (Pu.move rfl) ?_
                  refine XO.know 128 (.bool true) rfl (congrArg Value.bool ((by first | rfl | (simp [fownerS, fwaitsS, fvaluesS, froomS]; done) | (simp [fownerS, fwaitsS, fvaluesS, froomS]; omega)))) ?_
                  refine XO.pass rfl ?_
                  refine XO.pass rfl ?_
                  refine XO.pass rfl ?_
                  refine XO.pass rfl ?_
                  refine XO.pass rfl ?_
                  refine XO.pass rfl ?_
                  refine XO.pass rfl ?_
                  refine XO.pu (Pu.pickT rfl rfl) ?_
                  refine XO.pu (Pu.pickT rfl rfl) ?_
                  refine XO.pu (Pu.move rfl) ?_
                  refine XO.cR Try.call11 (works_ok) ?_
                  refine XO.pu (Pu.pickT rfl rfl) ?_
                  refine XO.pu (Pu.assign rfl) ?_
                  refine XO.nil ?_
                  refine X.sub (p' := [(6, _)]) ⟨rfl, trivial⟩ ?_
                  refine X.retL (q) Try.func7 (res1 Try.results7 rfl) ⟨_, rfl, rfl, _, rfl⟩
          · skip
            have z2 : n < 0 ∨ (S.chans.length : Int) ≤ n := by unfold inR at j2; omega
            have fvaluesS : (valuesS S n).2 = 4 ∧ (valuesS S n).1 = [] := ⟨congrArg Prod.snd (show valuesS S n = ([], 4) from if_neg j2), congrArg Prod.fst (show valuesS S n = ([], 4) from if_neg j2)⟩
            have froomS : (roomS S n).2 = 4 ∧ (roomS S n).1 = 0 := ⟨congrArg Prod.snd (show roomS S n = (0, 4) from if_neg j2), congrArg Prod.fst (show roomS S n = (0, 4) from if_neg j2)⟩
            refine XO.cR Try.call14 (lnum_ok) ?_
            refine XO.pu (Pu.eql rfl rfl) ?_
            refine XO.pu (Pu.move rfl) ?_
            refine XO.pu (Pu.lss rfl rfl) ?_
            refine XO.pu (Pu.move rfl) ?_
            refine XO.sub (p' := [(59, _), (56, _), (17, _), (16, _), (15, _), (14, _), (13, _), (12, _), (11, _), (10, _), (9, _), (8, _), (6, _), (2, _)]) ⟨rfl, rfl, rfl, rfl, rfl, rfl, rfl, rfl, rfl, rfl, rfl, rfl, rfl, rfl, trivial⟩ ?_
            apply XO.cutOr 6 65 59 rfl
            · skip
              intro g1 M1; have h1 := g1; try simp only [decide_eq_true_eq, decide_eq_false_iff_not, bne_iff_ne, beq_iff_eq, ne_eq, bne_eq_false_iff_eq, beq_eq_false_iff_ne, Bool.not_eq_true', Bool.not_eq_false', Int.not_lt, Int.not_le, Bool.not_not, Bool.and_eq_true, Bool.and_eq_false_iff, Bool.true_and, Bool.and_true, beq_self_eq_true, Bool.or_eq_true, Bool.or_eq_false_iff] at h1
              refine XO.pu (Pu.move rfl) ?_
              refine XO.pu (Pu.fieldAddr 29 0 0 rfl Try.underlying53 rfl Try.sizeOf29) ?_
              refine XO.ld Try.isAgg29 ?_
              refine XO.pu (Pu.len rfl Try.underlying29) ?_
              refine XO.pu (Pu.geq rfl rfl) ?_
              refine XO.pu (Pu.pickF rfl rfl) ?_
              exact XO.fin M1 ⟨orF g1, congrArg (fun x => some (Value.bool x)) g1.symm, rfl, rfl, rfl, rfl, rfl, rfl, rfl, rfl, rfl, rfl, rfl, rfl, rfl, trivial⟩
            · skip
              intro g1 M1; have h1 := g1; try simp only [decide_eq_true_eq, decide_eq_false_iff_not, bne_iff_ne, beq_iff_eq, ne_eq, bne_eq_false_iff_eq, beq_eq_false_iff_ne, Bool.not_eq_true', Bool.not_eq_false', Int.not_lt, Int.not_le, Bool.not_not, Bool.and_eq_true, Bool.and_eq_false_iff, Bool.true_and, Bool.and_true, beq_self_eq_true, Bool.or_eq_true, Bool.or_eq_false_iff] at h1
              refine XO.pass rfl ?_
              refine XO.pass rfl ?_
              refine XO.pass rfl ?_
              refine XO.pass rfl ?_
              refine XO.pass rfl ?_
              refine XO.pu (Pu.pickT rfl rfl) ?_
              exact XO.fin M1 ⟨orT g1, congrArg (fun x => some (Value.bool x)) g1.symm, rfl, rfl, rfl, rfl, rfl, rfl, rfl, rfl, rfl, rfl, rfl, rfl, rfl, trivial⟩
            · skip
              refine XO.pu (Pu.neqB rfl rfl Try.underlying4) ?_
              refine XO.pu (Pu.move rfl) ?_
              refine XO.know 67 (.bool false) rfl (congrArg Value.bool ((by first | rfl | (simp [fownerS, fwaitsS, fvaluesS, froomS]; done) | (simp [fownerS, fwaitsS, fvaluesS, froomS]; omega)))) ?_
              refine XO.pu (Pu.move rfl) ?_
              refine XO.cR Try.call14 (lnum_ok) ?_
              refine XO.pu (Pu.eql rfl rfl) ?_
              refine XO.pu (Pu.move rfl) ?_
              refine XO.pu (Pu.lss rfl rfl) ?_
              refine XO.pu (Pu.move rfl) ?_
              refine XO.sub (p' := [(73, _), (70, _), (67, _), (17, _), (16, _), (15, _), (14, _), (13, _), (12, _), (11, _), (10, _), (9, _), (8, _), (6, _), (2, _)]) ⟨rfl, rfl, rfl, rfl, rfl, rfl, rfl, rfl, rfl, rfl, rfl, rfl, rfl, rfl, rfl, trivial⟩ ?_
              apply XO.cutOr 6 79 73 rfl
              · skip
                intro g1 M1; have h1 := g1; try simp only [decide_eq_true_eq, decide_eq_false_iff_not, bne_iff_ne, beq_iff_eq, ne_eq, bne_eq_false_iff_eq, beq_eq_false_iff_ne, Bool.not_eq_true', Bool.not_eq_false', Int.not_lt, Int.not_le, Bool.not_not, Bool.and_eq_true, Bool.and_eq_false_iff, Bool.true_and, Bool.and_true, beq_self_eq_true, Bool.or_eq_true, Bool.or_eq_false_iff] at h1
                refine XO.pu (Pu.move rfl) ?_
                refine XO.pu (Pu.fieldAddr 50 1 0 rfl Try.underlying53 rfl Try.sizeOf50) ?_
                refine XO.ld Try.isAgg50 ?_
                refine XO.pu (Pu.len rfl Try.underlying50) ?_
                refine XO.pu (Pu.geq rfl rfl) ?_
                refine XO.pu (Pu.pickF rfl rfl) ?_
                exact XO.fin M1 ⟨orF g1, congrArg (fun x => some (Value.bool x)) g1.symm, rfl, rfl, rfl, rfl, rfl, rfl, rfl, rfl, rfl, rfl, rfl, rfl, rfl, rfl, trivial⟩
              · skip
                intro g1 M1; have h1 := g1; try simp only [decide_eq_true_eq, decide_eq_false_iff_not, bne_iff_ne, beq_iff_eq, ne_eq, bne_eq_false_iff_eq, beq_eq_false_iff_ne, Bool.not_eq_true', Bool.not_eq_false', Int.not_lt, Int.not_le, Bool.not_not, Bool.and_eq_true, Bool.and_eq_false_iff, Bool.true_and, Bool.and_true, beq_self_eq_true, Bool.or_eq_true, Bool.or_eq_false_iff] at h1
                refine XO.pass rfl ?_
                refine XO.pass rfl ?_
                refine XO.pass rfl ?_
                refine XO.pass rfl ?_
                refine XO.pass rfl ?_
                refine XO.pu (Pu.pickT rfl rfl) ?_
                exact XO.fin M1 ⟨orT g1, congrArg (fun x => some (Value.bool x)) g1.symm, rfl, rfl, rfl, rfl, rfl, rfl, rfl, rfl, rfl, rfl, rfl, rfl, rfl, rfl, trivial⟩
              · skip
                refine XO.pu (Pu.neqB rfl rfl Try.underlying4) ?_
                refine XO.pu (Pu.pickF rfl rfl) ?_
                refine XO.pu (Pu.move rfl) ?_
                refine XO.know 82 (.bool false) rfl (congrArg Value.bool ((by first | rfl | (simp [fownerS, fwaitsS, fvaluesS, froomS]; done) | (simp [fownerS, fwaitsS, fvaluesS, froomS]; omega)))) ?_
                refine XO.pu (Pu.move rfl) ?_
                refine XO.cR Try.call14 (lnum_ok) ?_
                refine XO.pu (Pu.eql rfl rfl) ?_
                refine XO.pu (Pu.move rfl) ?_
                refine XO.pu (Pu.lss rfl rfl) ?_
                refine XO.pu (Pu.move rfl) ?_
                refine XO.sub (p' := [(88, _), (85, _), (82, _), (17, _), (16, _), (15, _), (14, _), (13, _), (12, _), (11, _), (10, _), (9, _), (8, _), (6, _), (2, _)]) ⟨rfl, rfl, rfl, rfl, rfl, rfl, rfl, rfl, rfl, rfl, rfl, rfl, rfl, rfl, rfl, trivial⟩ ?_
                apply XO.cutOr 6 94 88 rfl
                · skip
                  intro g1 M1; have h1 := g1; try simp only [decide_eq_true_eq, decide_eq_false_iff_not, bne_iff_ne, beq_iff_eq, ne_eq, bne_eq_false_iff_eq, beq_eq_false_iff_ne, Bool.not_eq_true', Bool.not_eq_false', Int.not_lt, Int.not_le, Bool.not_not, Bool.and_eq_true, Bool.and_eq_false_iff, Bool.true_and, Bool.and_true, beq_self_eq_true, Bool.or_eq_true, Bool.or_eq_false_iff] at h1
                  refine XO.pu (Pu.move rfl) ?_
                  refine XO.pu (Pu.fieldAddr 29 2 0 rfl Try.underlying53 rfl Try.sizeOf29) ?_
                  refine XO.ld Try.isAgg29 ?_
                  refine XO.pu (Pu.len rfl Try.underlying29) ?_
                  refine XO.pu (Pu.geq rfl rfl) ?_
                  refine XO.pu (Pu.pickF rfl rfl) ?_
                  exact XO.fin M1 ⟨orF g1, congrArg (fun x => some (Value.bool x)) g1.symm, rfl, rfl, rfl, rfl, rfl, rfl, rfl, rfl, rfl, rfl, rfl, rfl, rfl, rfl, trivial⟩
                · skip
                  intro g1 M1; have h1 := g1; try simp only [decide_eq_true_eq, decide_eq_false_iff_not, bne_iff_ne, beq_iff_eq, ne_eq, bne_eq_false_iff_eq, beq_eq_false_iff_ne, Bool.not_eq_true', Bool.not_eq_false', Int.not_lt, Int.not_le, Bool.not_not, Bool.and_eq_true, Bool.and_eq_false_iff, Bool.true_and, Bool.and_true, beq_self_eq_true, Bool.or_eq_true, Bool.or_eq_false_iff] at h1
                  refine XO.pass rfl ?_
                  refine XO.pass rfl ?_
                  refine XO.pass rfl ?_
                  refine XO.pass rfl ?_
                  refine XO.pass rfl ?_
                  refine XO.pu (Pu.pickT rfl rfl) ?_
                  exact XO.fin M1 ⟨orT g1, congrArg (fun x => some (Value.bool x)) g1.symm, rfl, rfl, rfl, rfl, rfl, rfl, rfl, rfl, rfl, rfl, rfl, rfl, rfl, rfl, trivial⟩
                · skip
                  refine XO.pu (Pu.neqB rfl rfl Try.underlying4) ?_
                  refine XO.pu (Pu.pickF rfl rfl) ?_
                  refine XO.pu (Pu.move rfl) ?_
                  refine XO.know 97 (.bool false) rfl (congrArg Value.bool ((by first | rfl | (simp [fownerS, fwaitsS, fvaluesS, froomS]; done) | (simp [fownerS, fwaitsS, fvaluesS, froomS]; omega)))) ?_
                  refine XO.pu (Pu.move rfl) ?_
                  refine XO.cR Try.call14 (lnum_ok) ?_
                  refine XO.pu (Pu.move rfl) ?_
                  refine XO.cR Try.call14 (lnum_ok) ?_
                  refine XO.pu (Pu.neq rfl rfl) ?_
                  refine XO.pu (Pu.pickF rfl rfl) ?_
                  refine XO.nil ?_
                  refine X.sub (p' := [(103, _), (16, _), (15, _), (14, _), (13, _), (12, _), (11, _), (10, _), (9, _), (6, _)]) ⟨rfl, rfl, rfl, rfl, rfl, rfl, rfl, rfl, rfl, rfl, trivial⟩ ?_
                  refine X.know 103 (.bool false) rfl (congrArg Value.bool ((by first | rfl | (simp [fownerS, fwaitsS, fvaluesS, froomS]; done) | (simp [fownerS, fwaitsS, fvaluesS, froomS]; omega)))) ?_
                  refine X.condF rfl ?_
                  refine X.skip ?_
                  refine X.seq ?_
                  refine X.region ?_
                  refine XO.pu (Pu.move rfl) ?_
                  refine XO.pu (Pu.move rfl) ?_
                  refine XO.know 105 (.bool true) rfl (congrArg Value.bool ((by first | rfl | (simp [fownerS, fwaitsS, fvaluesS, froomS]; done) | (simp [fownerS, fwaitsS, fvaluesS, froomS]; omega)))) ?_
                  refine XO.pu (Pu.move rfl) ?_
                  refine XO.cR Try.call14 (lnum_ok) ?_
                  refine XO.pu (Pu.eql rfl rfl) ?_
                  refine XO.pu (Pu.move rfl) ?_
                  refine XO.know 109 (.bool true) rfl (congrArg Value.bool ((by first | rfl | (simp [fownerS, fwaitsS, fvaluesS, froomS]; done) | (simp [fownerS, fwaitsS, fvaluesS, froomS]; omega)))) ?_
                  refine XO.pass rfl ?_
                  refine XO.pass rfl ?_
                  refine XO.pu (Pu.pickT rfl rfl) ?_
                  refine XO.pu (Pu.pickT rfl rfl) ?_
                  refine XO.pu (Pu.move rfl) ?_
                  refine XO.pu (Pu.move rfl) ?_
                  refine XO.cR Try.call14 (lnum_ok) ?_
                  refine XO.pu (Pu.eql rfl rfl) ?_
                  refine XO.pu (Pu.move rfl) ?_
                  refine XO.know 118 (.bool true) rfl (congrArg Value.bool ((by first | rfl | (simp [fownerS, fwaitsS, fvaluesS, froomS]; done) | (simp [fownerS, fwaitsS, fvaluesS, froomS]; omega)))) ?_
                  refine XO.pass rfl ?_
                  refine XO.pass rfl ?_
                  refine XO.pass rfl ?_
                  refine XO.pu (Pu.pickT rfl rfl) ?_
                  refine XO.pu (Pu.pickT rfl rfl) ?_
                  refine XO.pu (Pu.move rfl) ?_
                  refine XO.pu (Pu.move rfl) ?_
                  refine XO.cR Try.call14 (lnum_ok) ?_
                  refine XO.pu (Pu.eql rfl rfl) ?_
                  refine XO.pu (Pu.move rfl) ?_
                  refine XO.know 128 (.bool false) rfl (congrArg Value.bool ((by first | rfl | (simp [fownerS, fwaitsS, fvaluesS, froomS]; done) | (simp [fownerS, fwaitsS, fvaluesS, froomS]; omega)))) ?_
                  refine XO.pu (Pu.move rfl) ?_
                  refine XO.pu (Pu.len rfl Try.underlying28) ?_
                  refine XO.pu (Pu.eql rfl rfl) ?_
                  refine XO.pu (Pu.move rfl) ?_
                  refine XO.know 132 (.bool true) rfl (congrArg Value.bool ((by first | rfl | (simp [fownerS, fwaitsS, fvaluesS, froomS]; done) | (simp [fownerS, fwaitsS, fvaluesS, froomS]; omega)))) ?_
                  refine XO.pu (Pu.move rfl) ?_
                  refine XO.pu (Pu.eql rfl rfl) ?_
                  refine XO.pu (Pu.pickT rfl rfl) ?_
                  refine XO.pu (Pu.pickF rfl rfl) ?_
                  refine XO.pu (Pu.pickT rfl rfl) ?_
                  refine XO.pu (Pu.move rfl) ?_
                  refine XO.know 138 (.bool true) rfl (congrArg Value.bool ((by first | rfl | (simp [fownerS, fwaitsS, fvaluesS, froomS]; done) | (simp [fownerS, fwaitsS, fvaluesS, froomS]; omega)))) ?_
                  refine XO.cR Try.call11 (works_ok) ?_
                  refine XO.pu (Pu.pickT rfl rfl) ?_
                  refine XO.pu (Pu.assign rfl) ?_
                  refine XO.nil ?_
                  refine X.sub (p' := [(6, _)]) ⟨rfl, trivial⟩ ?_
                  refine X.retL (q) Try.func7 (res1 Try.results7 rfl) ⟨_, rfl, rfl, _, rfl⟩
        · skip
          have z1 : n < 0 ∨ (S.conds.length : Int) ≤ n := by unfold inR at j1; omega
          have fwaitsS : (waitsS S n).2 = 4 ∧ (waitsS S n).1 = [] := ⟨congrArg Prod.snd (show waitsS S n = ([], 4) from if_neg j1), congrArg Prod.fst (show waitsS S n = ([], 4) from if_neg j1)⟩
          rcases Decidable.em (inR n S.chans.length) with j2 | j2
          · skip
            have z2 : 0 ≤ n ∧ n < (S.chans.length : Int) := j2
            have fvaluesS : (valuesS S n).2 = 0 := congrArg Prod.snd (show valuesS S n = (_, 0) from if_pos j2)
            have froomS : (roomS S n).2 = 0 := congrArg Prod.snd (show roomS S n = (_, 0) from if_pos j2)
            refine XO.cR Try.call14 (lnum_ok) ?_
            refine XO.pu (Pu.eql rfl rfl) ?_
            refine XO.pu (Pu.move rfl) ?_
            refine XO.pu (Pu.lss rfl rfl) ?_
            refine XO.pu (Pu.move rfl) ?_
            refine XO.sub (p' := [(59, _), (56, _), (17, _), (16, _), (15, _), (14, _), (13, _), (12, _), (11, _), (10, _), (9, _), (8, _), (6, _), (2, _)]) ⟨rfl, rfl, rfl, rfl, rfl, rfl, rfl, rfl, rfl, rfl, rfl, rfl, rfl, rfl, trivial⟩ ?_
            apply XO.cutOr 6 65 59 rfl
            · skip
              intro g1 M1; have h1 := g1; try simp only [decide_eq_true_eq, decide_eq_false_iff_not, bne_iff_ne, beq_iff_eq, ne_eq, bne_eq_false_iff_eq, beq_eq_false_iff_ne, Bool.not_eq_true', Bool.not_eq_false', Int.not_lt, Int.not_le, Bool.not_not, Bool.and_eq_true, Bool.and_eq_false_iff, Bool.true_and, Bool.and_true, beq_self_eq_true, Bool.or_eq_true, Bool.or_eq_false_iff] at h1
              refine XO.pu (Pu.move rfl) ?_
              refine XO.pu (Pu.fieldAddr 29 0 0 rfl Try.underlying53 rfl Try.sizeOf29) ?_
              refine XO.ld Try.isAgg29 ?_
              refine XO.pu (Pu.len rfl Try.underlying29) ?_
              refine XO.pu (Pu.geq rfl rfl) ?_
              refine XO.pu (Pu.pickF rfl rfl) ?_
              exact XO.fin M1 ⟨orF g1, congrArg (fun x => some (Value.bool x)) g1.symm, rfl, rfl, rfl, rfl, rfl, rfl, rfl, rfl, rfl, rfl, rfl, rfl, rfl, trivial⟩
            · skip
              intro g1 M1; have h1 := g1; try simp only [decide_eq_true_eq, decide_eq_false_iff_not, bne_iff_ne, beq_iff_eq, ne_eq, bne_eq_false_iff_eq, beq_eq_false_iff_ne, Bool.not_eq_true', Bool.not_eq_false', Int.not_lt, Int.not_le, Bool.not_not, Bool.and_eq_true, Bool.and_eq_false_iff, Bool.true_and, Bool.and_true, beq_self_eq_true, Bool.or_eq_true, Bool.or_eq_false_iff] at h1
              refine XO.pass rfl ?_
              refine XO.pass rfl ?_
              refine XO.pass rfl ?_
              refine XO.pass rfl ?_
              refine XO.pass rfl ?_
              refine XO.pu (Pu.pickT rfl rfl) ?_
              exact XO.fin M1 ⟨orT g1, congrArg (fun x => some (Value.bool x)) g1.symm, rfl, rfl, rfl, rfl, rfl, rfl, rfl, rfl, rfl, rfl, rfl, rfl, rfl, trivial⟩
            · skip
              refine XO.pu (Pu.neqB rfl rfl Try.underlying4) ?_
              refine XO.pu (Pu.move rfl) ?_
              refine XO.know 67 (.bool false) rfl (congrArg Value.bool ((by first | rfl | (simp [fownerS, fwaitsS, fvaluesS, froomS]; done) | (simp [fownerS, fwaitsS, fvaluesS, froomS]; omega)))) ?_
              refine XO.pu (Pu.move rfl) ?_
              refine XO.cR Try.call14 (lnum_ok) ?_
              refine XO.pu (Pu.eql rfl rfl) ?_
              refine XO.pu (Pu.move rfl) ?_
              refine XO.pu (Pu.lss rfl rfl) ?_
              refine XO.pu (Pu.move rfl) ?_
              refine XO.sub (p' := [(73, _), (70, _), (67, _), (17, _), (16, _), (15, _), (14, _), (13, _), (12, _), (11, _), (10, _), (9, _), (8, _), (6, _), (2, _)]) ⟨rfl, rfl, rfl, rfl, rfl, rfl, rfl, rfl, rfl, rfl, rfl, rfl, rfl, rfl, rfl, trivial⟩ ?_
              apply XO.cutOr 6 79 73 rfl
              · skip
                intro g1 M1; have h1 := g1; try simp only [decide_eq_true_eq, decide_eq_false_iff_not, bne_iff_ne, beq_iff_eq, ne_eq, bne_eq_false_iff_eq, beq_eq_false_iff_ne, Bool.not_eq_true', Bool.not_eq_false', Int.not_lt, Int.not_le, Bool.not_not, Bool.and_eq_true, Bool.and_eq_false_iff, Bool.true_and, Bool.and_true, beq_self_eq_true, Bool.or_eq_true, Bool.or_eq_false_iff] at h1
                refine XO.pu (Pu.move rfl) ?_
                refine XO.pu (Pu.fieldAddr 50 1 0 rfl Try.underlying53 rfl Try.sizeOf50) ?_
                refine XO.ld Try.isAgg50 ?_
                refine XO.pu (Pu.len rfl Try.underlying50) ?_
                refine XO.pu (Pu.geq rfl rfl) ?_
                refine XO.pu (Pu.pickF rfl rfl) ?_
                exact XO.fin M1 ⟨orF g1, congrArg (fun x => some (Value.bool x)) g1.symm, rfl, rfl, rfl, rfl, rfl, rfl, rfl, rfl, rfl, rfl, rfl, rfl, rfl, rfl, trivial⟩
              · skip
                intro g1 M1; have h1 := g1; try simp only [decide_eq_true_eq, decide_eq_false_iff_not, bne_iff_ne, beq_iff_eq, ne_eq, bne_eq_false_iff_eq, beq_eq_false_iff_ne, Bool.not_eq_true', Bool.not_eq_false', Int.not_lt, Int.not_le, Bool.not_not, Bool.and_eq_true, Bool.and_eq_false_iff, Bool.true_and, Bool.and_true, beq_self_eq_true, Bool.or_eq_true, Bool.or_eq_false_iff] at h1
                refine XO.pass rfl ?_
                refine XO.pass rfl ?_
                refine XO.pass rfl ?_
                refine XO.pass rfl ?_
                refine XO.pass rfl ?_
                refine XO.pu (Pu.pickT rfl rfl) ?_
                exact XO.fin M1 ⟨orT g1, congrArg (fun x => some (Value.bool x)) g1.symm, rfl, rfl, rfl, rfl, rfl, rfl, rfl, rfl, rfl, rfl, rfl, rfl, rfl, rfl, trivial⟩
              · skip
                refine XO.pu (Pu.neqB rfl rfl Try.underlying4) ?_
                refine XO.pu (Pu.pickF rfl rfl) ?_
                refine XO.pu (Pu.move rfl) ?_
                refine XO.know 82 (.bool false) rfl (congrArg Value.bool ((by first | rfl | (simp [fownerS, fwaitsS, fvaluesS, froomS]; done) | (simp [fownerS, fwaitsS, fvaluesS, froomS]; omega)))) ?_
                refine XO.pu (Pu.move rfl) ?_
                refine XO.cR Try.call14 (lnum_ok) ?_
                refine XO.pu (Pu.eql rfl rfl) ?_
                refine XO.pu (Pu.move rfl) ?_
                refine XO.pu (Pu.lss rfl rfl) ?_
                refine XO.pu (Pu.move rfl) ?_
                refine XO.sub (p' := [(88, _), (85, _), (82, _), (17, _), (16, _), (15, _), (14, _), (13, _), (12, _), (11, _), (10, _), (9, _), (8, _), (6, _), (2, _)]) ⟨rfl, rfl, rfl, rfl, rfl, rfl, rfl, rfl, rfl, rfl, rfl, rfl, rfl, rfl, rfl, trivial⟩ ?_
                apply XO.cutOr 6 94 88 rfl
                · skip
                  intro g1 M1; have h1 := g1; try simp only [decide_eq_true_eq, decide_eq_false_iff_not, bne_iff_ne, beq_iff_eq, ne_eq, bne_eq_false_iff_eq, beq_eq_false_iff_ne, Bool.not_eq_true', Bool.not_eq_false', Int.not_lt, Int.not_le, Bool.not_not, Bool.and_eq_true, Bool.and_eq_false_iff, Bool.true_and, Bool.and_true, beq_self_eq_true, Bool.or_eq_true, Bool.or_eq_false_iff] at h1
                  refine XO.pu (Pu.move rfl) ?_
                  refine XO.pu (Pu.fieldAddr 29 2 0 rfl Try.underlying53 rfl Try.sizeOf29) ?_
                  refine XO.ld Try.isAgg29 ?_
                  refine XO.pu (Pu.len rfl Try.underlying29) ?_
                  refine XO.pu (Pu.geq rfl rfl) ?_
                  refine XO.pu (Pu.pickF rfl rfl) ?_
                  exact XO.fin M1 ⟨orF g1, congrArg (fun x => some (Value.bool x)) g1.symm, rfl, rfl, rfl, rfl, rfl, rfl, rfl, rfl, rfl, rfl, rfl, rfl, rfl, rfl, trivial⟩
                · skip
                  intro g1 M1; have h1 := g1; try simp only [decide_eq_true_eq, decide_eq_false_iff_not, bne_iff_ne, beq_iff_eq, ne_eq, bne_eq_false_iff_eq, beq_eq_false_iff_ne, Bool.not_eq_true', Bool.not_eq_false', Int.not_lt, Int.not_le, Bool.not_not, Bool.and_eq_true, Bool.and_eq_false_iff, Bool.true_and, Bool.and_true, beq_self_eq_true, Bool.or_eq_true, Bool.or_eq_false_iff] at h1
                  refine XO.pass rfl ?_
                  refine XO.pass rfl ?_
                  refine XO.pass rfl ?_
                  refine XO.pass rfl ?_
                  refine XO.pass rfl ?_
                  refine XO.pu (Pu.pickT rfl rfl) ?_
                  exact XO.fin M1 ⟨orT g1, congrArg (fun x => some (Value.bool x)) g1.symm, rfl, rfl, rfl, rfl, rfl, rfl, rfl, rfl, rfl, rfl, rfl, rfl, rfl, rfl, trivial⟩
                · skip
                  refine XO.pu (Pu.neqB rfl rfl Try.underlying4) ?_
                  refine XO.pu (Pu.pickF rfl rfl) ?_
                  refine XO.pu (Pu.move rfl) ?_
                  refine XO.know 97 (.bool false) rfl (congrArg Value.bool ((by first | rfl | (simp [fownerS, fwaitsS, fvaluesS, froomS]; done) | (simp [fownerS, fwaitsS, fvaluesS, froomS]; omega)))) ?_
                  refine XO.pu (Pu.move rfl) ?_
                  refine XO.cR Try.call14 (lnum_ok) ?_
                  refine XO.pu (Pu.move rfl) ?_
                  refine XO.cR Try.call14 (lnum_ok) ?_
                  refine XO.pu (Pu.neq rfl rfl) ?_
                  refine XO.pu (Pu.pickF rfl rfl) ?_
                  refine XO.nil ?_
                  refine X.sub (p' := [(103, _), (16, _), (15, _), (14, _), (13, _), (12, _), (11, _), (10, _), (9, _), (6, _)]) ⟨rfl, rfl, rfl, rfl, rfl, rfl, rfl, rfl, rfl, rfl, trivial⟩ ?_
                  refine X.know 103 (.bool false) rfl (congrArg Value.bool ((by first | rfl | (simp [fownerS, fwaitsS, fvaluesS, froomS]; done) | (simp [fownerS, fwaitsS, fvaluesS, froomS]; omega)))) ?_
                  refine X.condF rfl ?_
                  refine X.skip ?_
                  refine X.seq ?_
                  refine X.region ?_
                  refine XO.pu (Pu.move rfl) ?_
                  refine XO.pu (Pu.move rfl) ?_
                  refine XO.know 105 (.bool true) rfl (congrArg Value.bool ((by first | rfl | (simp [fownerS, fwaitsS, fvaluesS, froomS]; done) | (simp [fownerS, fwaitsS, fvaluesS, froomS]; omega)))) ?_
                  refine XO.pu (Pu.move rfl) ?_
                  refine XO.cR Try.call14 (lnum_ok) ?_
                  refine XO.pu (Pu.eql rfl rfl) ?_
                  refine XO.pu (Pu.move rfl) ?_
                  refine XO.know 109 (.bool true) rfl (congrArg Value.bool ((by first | rfl | (simp [fownerS, fwaitsS, fvaluesS, froomS]; done) | (simp [fownerS, fwaitsS, fvaluesS, froomS]; omega)))) ?_
                  refine XO.pass rfl ?_
                  refine XO.pass rfl ?_
                  refine XO.pu (Pu.pickT rfl rfl) ?_
                  refine XO.pu (Pu.pickT rfl rfl) ?_
                  refine XO.pu (Pu.move rfl) ?_
                  refine XO.pu (Pu.move rfl) ?_
                  refine XO.cR Try.call14 (lnum_ok) ?_
                  refine XO.pu (Pu.eql rfl rfl) ?_
                  refine XO.pu (Pu.move rfl) ?_
                  refine XO.know 118 (.bool false) rfl (congrArg Value.bool ((by first | rfl | (simp [fownerS, fwaitsS, fvaluesS, froomS]; done) | (simp [fownerS, fwaitsS, fvaluesS, froomS]; omega)))) ?_
                  refine XO.pu (Pu.move rfl) ?_
                  refine XO.pu (Pu.len rfl Try.underlying29) ?_
                  refine XO.pu (Pu.eql rfl rfl) ?_
                  refine XO.pu (Pu.pickF rfl rfl) ?_
                  refine XO.pu (Pu.pickT rfl rfl) ?_
                  refine XO.pu (Pu.move rfl) ?_
                  refine XO.know 124 (.bool true) rfl (congrArg Value.bool ((by first | rfl | (simp [fownerS, fwaitsS, fvaluesS, froomS]; done) | (simp [fownerS, fwaitsS, fvaluesS, froomS]; omega)))) ?_
                  refine XO.pu (Pu.move rfl) ?_
                  refine XO.cR Try.call14 (lnum_ok) ?_
                  refine XO.pu (Pu.eql rfl rfl) ?_
                  refine XO.pu (Pu.move rfl) ?_
                  refine XO.know 128 (.bool true) rfl (congrArg Value.bool ((by first | rfl | (simp [fownerS, fwaitsS, fvaluesS, froomS]; done) | (simp [fownerS, fwaitsS, fvaluesS, froomS]; omega)))) ?_
                  refine XO.pass rfl ?_
                  refine XO.pass rfl ?_
                  refine XO.pass rfl ?_
                  refine XO.pass rfl ?_
                  refine XO.pass rfl ?_
                  refine XO.pass rfl ?_
                  refine XO.pass rfl ?_
                  refine XO.pu (Pu.pickT rfl rfl) ?_
                  refine XO.pu (Pu.pickT rfl rfl) ?_
                  refine XO.pu (Pu.move rfl) ?_
                  refine XO.cR Try.call11 (works_ok) ?_
                  refine XO.pu (Pu.pickT rfl rfl) ?_
                  refine XO.pu (Pu.assign rfl) ?_
                  refine XO.nil ?_
                  refine X.sub (p' := [(6, _)]) ⟨rfl, trivial⟩ ?_
                  refine X.retL (q) Try.func7 (res1 Try.results7 rfl) ⟨_, rfl, rfl, _, rfl⟩
          · skip
            have z2 : n < 0 ∨ (S.chans.length : Int) ≤ n := by unfold inR at j2; omega
            have fvaluesS : (valuesS S n).2 = 4 ∧ (valuesS S n).1 = [] := ⟨congrArg Prod.snd (show valuesS S n = ([], 4) from if_neg j2), congrArg Prod.fst (show valuesS S n = ([], 4) from if_neg j2)⟩
            have froomS : (roomS S n).2 = 4 ∧ (roomS S n).1 = 0 := ⟨congrArg Prod.snd (show roomS S n = (0, 4) from if_neg j2), congrArg Prod.fst (show roomS S n = (0, 4) from if_neg j2)⟩
            refine XO.cR Try.call14 (lnum_ok) ?_
            refine XO.pu (Pu.eql rfl rfl) ?_
            refine XO.pu (Pu.move rfl) ?_
            refine XO.pu (Pu.lss rfl rfl) ?_
            refine XO.pu (Pu.move rfl) ?_
            refine XO.sub (p' := [(59, _), (56, _), (17, _), (16, _), (15, _), (14, _), (13, _), (12, _), (11, _), (10, _), (9, _), (8, _), (6, _), (2, _)]) ⟨rfl, rfl, rfl, rfl, rfl, rfl, rfl, rfl, rfl, rfl, rfl, rfl, rfl, rfl, trivial⟩ ?_
            apply XO.cutOr 6 65 59 rfl
            · skip
              intro g1 M1; have h1 := g1; try simp only [decide_eq_true_eq, decide_eq_false_iff_not, bne_iff_ne, beq_iff_eq, ne_eq, bne_eq_false_iff_eq, beq_eq_false_iff_ne, Bool.not_eq_true', Bool.not_eq_false', Int.not_lt, Int.not_le, Bool.not_not, Bool.and_eq_true, Bool.and_eq_false_iff, Bool.true_and, Bool.and_true, beq_self_eq_true, Bool.or_eq_true, Bool.or_eq_false_iff] at h1
              refine XO.pu (Pu.move rfl) ?_
              refine XO.pu (Pu.fieldAddr 29 0 0 rfl Try.underlying53 rfl Try.sizeOf29) ?_
              refine XO.ld Try.isAgg29 ?_
              refine XO.pu (Pu.len rfl Try.underlying29) ?_
              refine XO.pu (Pu.geq rfl rfl) ?_
              refine XO.pu (Pu.pickF rfl rfl) ?_
              exact XO.fin M1 ⟨orF g1, congrArg (fun x => some (Value.bool x)) g1.symm, rfl, rfl, rfl, rfl, rfl, rfl, rfl, rfl, rfl, rfl, rfl, rfl, rfl, trivial⟩
            · skip
              intro g1 M1; have h1 := g1; try simp only [decide_eq_true_eq, decide_eq_false_iff_not, bne_iff_ne, beq_iff_eq, ne_eq, bne_eq_false_iff_eq, beq_eq_false_iff_ne, Bool.not_eq_true', Bool.not_eq_false', Int.not_lt, Int.not_le, Bool.not_not, Bool.and_eq_true, Bool.and_eq_false_iff, Bool.true_and, Bool.and_true, beq_self_eq_true, Bool.or_eq_true, Bool.or_eq_false_iff] at h1
              refine XO.pass rfl ?_
              refine XO.pass rfl ?_
              refine XO.pass rfl ?_
              refine XO.pass rfl ?_
              refine XO.pass rfl ?_
              refine XO.pu (Pu.pickT rfl rfl) ?_
              exact XO.fin M1 ⟨orT g1, congrArg (fun x => some (Value.bool x)) g1.symm, rfl, rfl, rfl, rfl, rfl, rfl, rfl, rfl, rfl, rfl, rfl, rfl, rfl, trivial⟩
            · skip
              refine XO.pu (Pu.neqB rfl rfl Try.underlying4) ?_
              refine XO.pu (Pu.move rfl) ?_
              refine XO.know 67 (.bool false) rfl (congrArg Value.bool ((by first | rfl | (simp [fownerS, fwaitsS, fvaluesS, froomS]; done) | (simp [fownerS, fwaitsS, fvaluesS, froomS]; omega)))) ?_
              refine XO.pu (Pu.move rfl) ?_
              refine XO.cR Try.call14 (lnum_ok) ?_
              refine XO.pu (Pu.eql rfl rfl) ?_
              refine XO.pu (Pu.move rfl) ?_
              refine XO.pu (Pu.lss rfl rfl) ?_
              refine XO.pu (Pu.move rfl) ?_
              refine XO.sub (p' := [(73, _), (70, _), (67, _), (17, _), (16, _), (15, _), (14, _), (13, _), (12, _), (11, _), (10, _), (9, _), (8, _), (6, _), (2, _)]) ⟨rfl, rfl, rfl, rfl, rfl, rfl, rfl, rfl, rfl, rfl, rfl, rfl, rfl, rfl, rfl, trivial⟩ ?_
              apply XO.cutOr 6 79 73 rfl
              · skip
                intro g1 M1; have h1 := g1; try simp only [decide_eq_true_eq, decide_eq_false_iff_not, bne_iff_ne, beq_iff_eq, ne_eq, bne_eq_false_iff_eq, beq_eq_false_iff_ne, Bool.not_eq_true', Bool.not_eq_false', Int.not_lt, Int.not_le, Bool.not_not, Bool.and_eq_true, Bool.and_eq_false_iff, Bool.true_and, Bool.and_true, beq_self_eq_true, Bool.or_eq_true, Bool.or_eq_false_iff] at h1
                refine XO.pu (Pu.move rfl) ?_
                refine XO.pu (Pu.fieldAddr 50 1 0 rfl Try.underlying53 rfl Try.sizeOf50) ?_
                refine XO.ld Try.isAgg50 ?_
                refine XO.pu (Pu.len rfl Try.underlying50) ?_
                refine XO.pu (Pu.geq rfl rfl) ?_
                refine XO.pu (Pu.pickF rfl rfl) ?_
                exact XO.fin M1 ⟨orF g1, congrArg (fun x => some (Value.bool x)) g1.symm, rfl, rfl, rfl, rfl, rfl, rfl, rfl, rfl, rfl, rfl, rfl, rfl, rfl, rfl, trivial⟩
              · skip
                intro g1 M1; have h1 := g1; try simp only [decide_eq_true_eq, decide_eq_false_iff_not, bne_iff_ne, beq_iff_eq, ne_eq, bne_eq_false_iff_eq, beq_eq_false_iff_ne, Bool.not_eq_true', Bool.not_eq_false', Int.not_lt, Int.not_le, Bool.not_not, Bool.and_eq_true, Bool.and_eq_false_iff, Bool.true_and, Bool.and_true, beq_self_eq_true, Bool.or_eq_true, Bool.or_eq_false_iff] at h1
                refine XO.pass rfl ?_
                refine XO.pass rfl ?_
                refine XO.pass rfl ?_
                refine XO.pass rfl ?_
                refine XO.pass rfl ?_
                refine XO.pu (Pu.pickT rfl rfl) ?_
                exact XO.fin M1 ⟨orT g1, congrArg (fun x => some (Value.bool x)) g1.symm, rfl, rfl, rfl, rfl, rfl, rfl, rfl, rfl, rfl, rfl, rfl, rfl, rfl, rfl, trivial⟩
              · skip
                refine XO.pu (Pu.neqB rfl rfl Try.underlying4) ?_
                refine XO.pu (Pu.pickF rfl rfl) ?_
                refine XO.pu (Pu.move rfl) ?_
                refine XO.know 82 (.bool false) rfl (congrArg Value.bool ((by first | rfl | (simp [fownerS, fwaitsS, fvaluesS, froomS]; done) | (simp [fownerS, fwaitsS, fvaluesS, froomS]; omega)))) ?_
                refine XO.pu (Pu.move rfl) ?_
                refine XO.cR Try.call14 (lnum_ok) ?_
                refine XO.pu (Pu.eql rfl rfl) ?_
                refine XO.pu (Pu.move rfl) ?_
                refine XO.pu (Pu.lss rfl rfl) ?_
                refine XO.pu (Pu.move rfl) ?_
                refine XO.sub (p' := [(88, _), (85, _), (82, _), (17, _), (16, _), (15, _), (14, _), (13, _), (12, _), (11, _), (10, _), (9, _), (8, _), (6, _), (2, _)]) ⟨rfl, rfl, rfl, rfl, rfl, rfl, rfl, rfl, rfl, rfl, rfl, rfl, rfl, rfl, rfl, trivial⟩ ?_
                apply XO.cutOr 6 94 88 rfl
                · skip
                  intro g1 M1; have h1 := g1; try simp only [decide_eq_true_eq, decide_eq_false_iff_not, bne_iff_ne, beq_iff_eq, ne_eq, bne_eq_false_iff_eq, beq_eq_false_iff_ne, Bool.not_eq_true', Bool.not_eq_false', Int.not_lt, Int.not_le, Bool.not_not, Bool.and_eq_true, Bool.and_eq_false_iff, Bool.true_and, Bool.and_true, beq_self_eq_true, Bool.or_eq_true, Bool.or_eq_false_iff] at h1
                  refine XO.pu (Pu.move rfl) ?_
                  refine XO.pu (Pu.fieldAddr 29 2 0 rfl Try.underlying53 rfl Try.sizeOf29) ?_
                  refine XO.ld Try.isAgg29 ?_
                  refine XO.pu (Pu.len rfl Try.underlying29) ?_
                  refine XO.pu (Pu.geq rfl rfl) ?_
                  refine XO.pu (Pu.pickF rfl rfl) ?_
                  exact XO.fin M1 ⟨orF g1, congrArg (fun x => some (Value.bool x)) g1.symm, rfl, rfl, rfl, rfl, rfl, rfl, rfl, rfl, rfl, rfl, rfl, rfl, rfl, rfl, trivial⟩
                · skip
                  intro g1 M1; have h1 := g1; try simp only [decide_eq_true_eq, decide_eq_false_iff_not, bne_iff_ne, beq_iff_eq, ne_eq, bne_eq_false_iff_eq, beq_eq_false_iff_ne, Bool.not_eq_true', Bool.not_eq_false', Int.not_lt, Int.not_le, Bool.not_not, Bool.and_eq_true, Bool.and_eq_false_iff, Bool.true_and, Bool.and_true, beq_self_eq_true, Bool.or_eq_true, Bool.or_eq_false_iff] at h1
                  refine XO.pass rfl ?_
                  refine XO.pass rfl ?_
                  refine XO.pass rfl ?_
                  refine XO.pass rfl ?_
                  refine XO.pass rfl ?_
                  refine XO.pu (Pu.pickT rfl rfl) ?_
                  exact XO.fin M1 ⟨orT g1, congrArg (fun x => some (Value.bool x)) g1.symm, rfl, rfl, rfl, rfl, rfl, rfl, rfl, rfl, rfl, rfl, rfl, rfl, rfl, rfl, trivial⟩
                · skip
                  refine XO.pu (Pu.neqB rfl rfl Try.underlying4) ?_
                  refine XO.pu (Pu.pickF rfl rfl) ?_
                  refine XO.pu (Pu.move rfl) ?_
                  refine XO.know 97 (.bool false) rfl (congrArg Value.bool ((by first | rfl | (simp [fownerS, fwaitsS, fvaluesS, froomS]; done) | (simp [fownerS, fwaitsS, fvaluesS, froomS]; omega)))) ?_
                  refine XO.pu (Pu.move rfl) ?_
                  refine XO.cR Try.call14 (lnum_ok) ?_
                  refine XO.pu (Pu.move rfl) ?_
                  refine XO.cR Try.call14 (lnum_ok) ?_
                  refine XO.pu (Pu.neq rfl rfl) ?_
                  refine XO.pu (Pu.pickF rfl rfl) ?_
                  refine XO.nil ?_
                  refine X.sub (p' := [(103, _), (16, _), (15, _), (14, _), (13, _), (12, _), (11, _), (10, _), (9, _), (6, _)]) ⟨rfl, rfl, rfl, rfl, rfl, rfl, rfl, rfl, rfl, rfl, trivial⟩ ?_
                  refine X.know 103 (.bool false) rfl (congrArg Value.bool ((by first | rfl | (simp [fownerS, fwaitsS, fvaluesS, froomS]; done) | (simp [fownerS, fwaitsS, fvaluesS, froomS]; omega)))) ?_
                  refine X.condF rfl ?_
                  refine X.skip ?_
                  refine X.seq ?_
                  refine X.region ?_
                  refine XO.pu (Pu.move rfl) ?_
                  refine XO.pu (Pu.move rfl) ?_
                  refine XO.know 105 (.bool true) rfl (congrArg Value.bool ((by first | rfl | (simp [fownerS, fwaitsS, fvaluesS, froomS]; done) | (simp [fownerS, fwaitsS, fvaluesS, froomS]; omega)))) ?_
                  refine XO.pu (Pu.move rfl) ?_
                  refine XO.cR Try.call14 (lnum_ok) ?_
                  refine XO.pu (Pu.eql rfl rfl) ?_
                  refine XO.pu (Pu.move rfl) ?_
                  refine XO.know 109 (.bool true) rfl (congrArg Value.bool ((by first | rfl | (simp [fownerS, fwaitsS, fvaluesS, froomS]; done) | (simp [fownerS, fwaitsS, fvaluesS, froomS]; omega)))) ?_
                  refine XO.pass rfl ?_
                  refine XO.pass rfl ?_
                  refine XO.pu (Pu.pickT rfl rfl) ?_
                  refine XO.pu (Pu.pickT rfl rfl) ?_
                  refine XO.pu (Pu.move rfl) ?_
                  refine XO.pu (Pu.move rfl) ?_
                  refine XO.cR Try.call14 (lnum_ok) ?_
                  refine XO.pu (Pu.eql rfl rfl) ?_
                  refine XO.pu (Pu.move rfl) ?_
                  refine XO.know 118 (.bool false) rfl (congrArg Value.bool ((by first | rfl | (simp [fownerS, fwaitsS, fvaluesS, froomS]; done) | (simp [fownerS, fwaitsS, fvaluesS, froomS]; omega)))) ?_
                  refine XO.pu (Pu.move rfl) ?_
                  refine XO.pu (Pu.len rfl Try.underlying29) ?_
                  refine XO.pu (Pu.eql rfl rfl) ?_
                  refine XO.pu (Pu.pickF rfl rfl) ?_
                  refine XO.pu (Pu.pickT rfl rfl) ?_
                  refine XO.pu (Pu.move rfl) ?_
                  refine XO.know 124 (.bool true) rfl (congrArg Value.bool ((by first | rfl | (simp [fownerS, fwaitsS, fvaluesS, froomS]; done) | (simp [fownerS, fwaitsS, fvaluesS, froomS]; omega)))) ?_
                  refine XO.pu (Pu.move rfl) ?_
                  refine XO.cR Try.call14 (lnum_ok) ?_
                  refine XO.pu (Pu.eql rfl rfl) ?_
                  refine XO.pu (Pu.move rfl) ?_
                  refine XO.know 128 (.bool false) rfl (congrArg Value.bool ((by first | rfl | (simp [fownerS, fwaitsS, fvaluesS, froomS]; done) | (simp [fownerS, fwaitsS, fvaluesS, froomS]; omega)))) ?_
                  refine XO.pu (Pu.move rfl) ?_
                  refine XO.pu (Pu.len rfl Try.underlying28) ?_
                  refine XO.pu (Pu.eql rfl rfl) ?_
                  refine XO.pu (Pu.move rfl) ?_
                  refine XO.know 132 (.bool true) rfl (congrArg Value.bool ((by first | rfl | (simp [fownerS, fwaitsS, fvaluesS, froomS]; done) | (simp [fownerS, fwaitsS, fvaluesS, froomS]; omega)))) ?_
                  refine XO.pu (Pu.move rfl) ?_
                  refine XO.pu (Pu.eql rfl rfl) ?_
                  refine XO.pu (Pu.pickT rfl rfl) ?_
                  refine XO.pu (Pu.pickF rfl rfl) ?_
                  refine XO.pu (Pu.pickT rfl rfl) ?_
                  refine XO.pu (Pu.move rfl) ?_
                  refine XO.know 138 (.bool true) rfl (congrArg Value.bool ((by first | rfl | (simp [fownerS, fwaitsS, fvaluesS, froomS]; done) | (simp [fownerS, fwaitsS, fvaluesS, froomS]; omega)))) ?_
                  refine XO.cR Try.call11 (works_ok) ?_
                  refine XO.pu (Pu.pickT rfl rfl) ?_
                  refine XO.pu (Pu.assign rfl) ?_
                  refine XO.nil ?_
                  refine X.sub (p' := [(6, _)]) ⟨rfl, trivial⟩ ?_
                  refine X.retL (q) Try.func7 (res1 Try.results7 rfl) ⟨_, rfl, rfl, _, rfl⟩
      · skip
        have z0 : n < 0 ∨ (S.owners.length : Int) ≤ n := by unfold inR at j0; omega
        have fownerS : (ownerS S n).2 = 4 ∧ (ownerS S n).1 = 0 := ⟨congrArg Prod.snd (show ownerS S n = (0, 4) from if_neg j0), congrArg Prod.fst (show ownerS S n = (0, 4) from if_neg j0)⟩
        rcases Decidable.em (inR n S.conds.length) with j1 | j1
        · skip
          have z1 : 0 ≤ n ∧ n < (S.conds.length : Int) := j1
          have fwaitsS : (waitsS S n).2 = 0 := congrArg Prod.snd (show waitsS S n = (_, 0) from if_pos j1)
          rcases Decidable.em (inR n S.chans.length) with j2 | j2
          · skip
            have z2 : 0 ≤ n ∧ n < (S.chans.length : Int) := j2
            have fvaluesS : (valuesS S n).2 = 0 := congrArg Prod.snd (show valuesS S n = (_, 0) from if_pos j2)
            have froomS : (roomS S n).2 = 0 := congrArg Prod.snd (show roomS S n = (_, 0) from if_pos j2)
            refine XO.cR Try.call14 (lnum_ok) ?_
            refine XO.pu (Pu.eql rfl rfl) ?_
            refine XO.pu (Pu.move rfl) ?_
            refine XO.pu (Pu.lss rfl rfl) ?_
            refine XO.pu (Pu.move rfl) ?_
            refine XO.sub (p' := [(59, _), (56, _), (17, _), (16, _), (15, _), (14, _), (13, _), (12, _), (11, _), (10, _), (9, _), (8, _), (6, _), (2, _)]) ⟨rfl, rfl, rfl, rfl, rfl, rfl, rfl, rfl, rfl, rfl, rfl, rfl, rfl, rfl, trivial⟩ ?_
            apply XO.cutOr 6 65 59 rfl
            · skip
              intro g1 M1; have h1 := g1; try simp only [decide_eq_true_eq, decide_eq_false_iff_not, bne_iff_ne, beq_iff_eq, ne_eq, bne_eq_false_iff_eq, beq_eq_false_iff_ne, Bool.not_eq_true', Bool.not_eq_false', Int.not_lt, Int.not_le, Bool.not_not, Bool.and_eq_true, Bool.and_eq_false_iff, Bool.true_and, Bool.and_true, beq_self_eq_true, Bool.or_eq_true, Bool.or_eq_false_iff] at h1
              refine XO.pu (Pu.move rfl) ?_
              refine XO.pu (Pu.fieldAddr 29 0 0 rfl Try.underlying53 rfl Try.sizeOf29) ?_
              refine XO.ld Try.isAgg29 ?_
              refine XO.pu (Pu.len rfl Try.underlying29) ?_
              refine XO.pu (Pu.geq rfl rfl) ?_
              refine XO.pu (Pu.pickF rfl rfl) ?_
              exact XO.fin M1 ⟨orF g1, congrArg (fun x => some (Value.bool x)) g1.symm, rfl, rfl, rfl, rfl, rfl, rfl, rfl, rfl, rfl, rfl, rfl, rfl, rfl, trivial⟩
            · skip
              intro g1 M1; have h1 := g1; try simp only [decide_eq_true_eq, decide_eq_false_iff_not, bne_iff_ne, beq_iff_eq, ne_eq, bne_eq_false_iff_eq, beq_eq_false_iff_ne, Bool.not_eq_true', Bool.not_eq_false', Int.not_lt, Int.not_le, Bool.not_not, Bool.and_eq_true, Bool.and_eq_false_iff, Bool.true_and, Bool.and_true, beq_self_eq_true, Bool.or_eq_true, Bool.or_eq_false_iff] at h1
              refine XO.pass rfl ?_
              refine XO.pass rfl ?_
              refine XO.pass rfl ?_
              refine XO.pass rfl ?_
              refine XO.pass rfl ?_
              refine XO.pu (Pu.pickT rfl rfl) ?_
              exact XO.fin M1 ⟨orT g1, congrArg (fun x => some (Value.bool x)) g1.symm, rfl, rfl, rfl, rfl, rfl, rfl, rfl, rfl, rfl, rfl, rfl, rfl, rfl, trivial⟩
            · skip
              refine XO.pu (Pu.neqB rfl rfl Try.underlying4) ?_
              refine XO.pu (Pu.move rfl) ?_
              refine XO.know 67 (.bool false) rfl (congrArg Value.bool ((by first | rfl | (simp [fownerS, fwaitsS, fvaluesS, froomS]; done) | (simp [fownerS, fwaitsS, fvaluesS, froomS]; omega)))) ?_
              refine XO.pu (Pu.move rfl) ?_
              refine XO.cR Try.call14 (lnum_ok) ?_
              refine XO.pu (Pu.eql rfl rfl) ?_
              refine XO.pu (Pu.move rfl) ?_
              refine XO.pu (Pu.lss rfl rfl) ?_
              refine XO.pu (Pu.move rfl) ?_
              refine XO.sub (p' := [(73, _), (70, _), (67, _), (17, _), (16, _), (15, _), (14, _), (13, _), (12, _), (11, _), (10, _), (9, _), (8, _), (6, _), (2, _)]) ⟨rfl, rfl, rfl, rfl, rfl, rfl, rfl, rfl, rfl, rfl, rfl, rfl, rfl, rfl, rfl, trivial⟩ ?_
              apply XO.cutOr 6 79 73 rfl
              · skip
                intro g1 M1; have h1 := g1; try simp only [decide_eq_true_eq, decide_eq_false_iff_not, bne_iff_ne, beq_iff_eq, ne_eq, bne_eq_false_iff_eq, beq_eq_false_iff_ne, Bool.not_eq_true', Bool.not_eq_false', Int.not_lt, Int.not_le, Bool.not_not, Bool.and_eq_true, Bool.and_eq_false_iff, Bool.true_and, Bool.and_true, beq_self_eq_true, Bool.or_eq_true, Bool.or_eq_false_iff] at h1
                refine XO.pu (Pu.move rfl) ?_
                refine XO.pu (Pu.fieldAddr 50 1 0 rfl Try.underlying53 rfl Try.sizeOf50) ?_
                refine XO.ld Try.isAgg50 ?_
                refine XO.pu (Pu.len rfl Try.underlying50) ?_
                refine XO.pu (Pu.geq rfl rfl) ?_
                refine XO.pu (Pu.pickF rfl rfl) ?_
                exact XO.fin M1 ⟨orF g1, congrArg (fun x => some (Value.bool x)) g1.symm, rfl, rfl, rfl, rfl, rfl, rfl, rfl, rfl, rfl, rfl, rfl, rfl, rfl, rfl, trivial⟩
              · skip
                intro g1 M1; have h1 := g1; try simp only [decide_eq_true_eq, decide_eq_false_iff_not, bne_iff_ne, beq_iff_eq, ne_eq, bne_eq_false_iff_eq, beq_eq_false_iff_ne, Bool.not_eq_true', Bool.not_eq_false', Int.not_lt, Int.not_le, Bool.not_not, Bool.and_eq_true, Bool.and_eq_false_iff, Bool.true_and, Bool.and_true, beq_self_eq_true, Bool.or_eq_true, Bool.or_eq_false_iff] at h1
                refine XO.pass rfl ?_
                refine XO.pass rfl ?_
                refine XO.pass rfl ?_
                refine XO.pass rfl ?_
                refine XO.pass rfl ?_
                refine XO.pu (Pu.pickT rfl rfl) ?_
                exact XO.fin M1 ⟨orT g1, congrArg (fun x => some (Value.bool x)) g1.symm, rfl, rfl, rfl, rfl, rfl, rfl, rfl, rfl, rfl, rfl, rfl, rfl, rfl, rfl, trivial⟩
              · skip
                refine XO.pu (Pu.neqB rfl rfl Try.underlying4) ?_
                refine XO.pu (Pu.pickF rfl rfl) ?_
                refine XO.pu (Pu.move rfl) ?_
                refine XO.know 82 (.bool false) rfl (congrArg Value.bool ((by first | rfl | (simp [fownerS, fwaitsS, fvaluesS, froomS]; done) | (simp [fownerS, fwaitsS, fvaluesS, froomS]; omega)))) ?_
                refine XO.pu (Pu.move rfl) ?_
                refine XO.cR Try.call14 (lnum_ok) ?_
                refine XO.pu (Pu.eql rfl rfl) ?_
                refine XO.pu (Pu.move rfl) ?_
                refine XO.pu (Pu.lss rfl rfl) ?_
                refine XO.pu (Pu.move rfl) ?_
                refine XO.sub (p' := [(88, _), (85, _), (82, _), (17, _), (16, _), (15, _), (14, _), (13, _), (12, _), (11, _), (10, _), (9, _), (8, _), (6, _), (2, _)]) ⟨rfl, rfl, rfl, rfl, rfl, rfl, rfl, rfl, rfl, rfl, rfl, rfl, rfl, rfl, rfl, trivial⟩ ?_
                apply XO.cutOr 6 94 88 rfl
                · skip
                  intro g1 M1; have h1 := g1; try simp only [decide_eq_true_eq, decide_eq_false_iff_not, bne_iff_ne, beq_iff_eq, ne_eq, bne_eq_false_iff_eq, beq_eq_false_iff_ne, Bool.not_eq_true', Bool.not_eq_false', Int.not_lt, Int.not_le, Bool.not_not, Bool.and_eq_true, Bool.and_eq_false_iff, Bool.true_and, Bool.and_true, beq_self_eq_true, Bool.or_eq_true, Bool.or_eq_false_iff] at h1
                  refine XO.pu (Pu.move rfl) ?_
                  refine XO.pu (Pu.fieldAddr 29 2 0 rfl Try.underlying53 rfl Try.sizeOf29) ?_
                  refine XO.ld Try.isAgg29 ?_
                  refine XO.pu (Pu.len rfl Try.underlying29) ?_
                  refine XO.pu (Pu.geq rfl rfl) ?_
                  refine XO.pu (Pu.pickF rfl rfl) ?_
                  exact XO.fin M1 ⟨orF g1, congrArg (fun x => some (Value.bool x)) g1.symm, rfl, rfl, rfl, rfl, rfl, rfl, rfl, rfl, rfl, rfl, rfl, rfl, rfl, rfl, trivial⟩
                · skip
                  intro g1 M1; have h1 := g1; try simp only [decide_eq_true_eq, decide_eq_false_iff_not, bne_iff_ne, beq_iff_eq, ne_eq, bne_eq_false_iff_eq, beq_eq_false_iff_ne, Bool.not_eq_true', Bool.not_eq_false', Int.not_lt, Int.not_le, Bool.not_not, Bool.and_eq_true, Bool.and_eq_false_iff, Bool.true_and, Bool.and_true, beq_self_eq_true, Bool.or_eq_true, Bool.or_eq_false_iff] at h1
                  refine XO.pass rfl ?_
                  refine XO.pass rfl ?_
                  refine XO.pass rfl ?_
                  refine XO.pass rfl ?_
                  refine XO.pass rfl ?_
                  refine XO.pu (Pu.pickT rfl rfl) ?_
                  exact XO.fin M1 ⟨orT g1, congrArg (fun x => some (Value.bool x)) g1.symm, rfl, rfl, rfl, rfl, rfl, rfl, rfl, rfl, rfl, rfl, rfl, rfl, rfl, rfl, trivial⟩
                · skip
                  refine XO.pu (Pu.neqB rfl rfl Try.underlying4) ?_
                  refine XO.pu (Pu.pickF rfl rfl) ?_
                  refine XO.pu (Pu.move rfl) ?_
                  refine XO.know 97 (.bool false) rfl (congrArg Value.bool ((by first | rfl | (simp [fownerS, fwaitsS, fvaluesS, froomS]; done) | (simp [fownerS, fwaitsS, fvaluesS, froomS]; omega)))) ?_
                  refine XO.pu (Pu.move rfl) ?_
                  refine XO.cR Try.call14 (lnum_ok) ?_
                  refine XO.pu (Pu.move rfl) ?_
                  refine XO.cR Try.call14 (lnum_ok) ?_
                  refine XO.pu (Pu.neq rfl rfl) ?_
                  refine XO.pu (Pu.pickF rfl rfl) ?_
                  refine XO.nil ?_
                  refine X.sub (p' := [(103, _), (16, _), (15, _), (14, _), (13, _), (12, _), (11, _), (10, _), (9, _), (6, _)]) ⟨rfl, rfl, rfl, rfl, rfl, rfl, rfl, rfl, rfl, rfl, trivial⟩ ?_
                  refine X.know 103 (.bool false) rfl (congrArg Value.bool ((by first | rfl | (simp [fownerS, fwaitsS, fvaluesS, froomS]; done) | (simp [fownerS, fwaitsS, fvaluesS, froomS]; omega)))) ?_
                  refine X.condF rfl ?_
                  refine X.skip ?_
                  refine X.seq ?_
                  refine X.region ?_
                  refine XO.pu (Pu.move rfl) ?_
                  refine XO.pu (Pu.move rfl) ?_
                  refine XO.know 105 (.bool true) rfl (congrArg Value.bool ((by first | rfl | (simp [fownerS, fwaitsS, fvaluesS, froomS]; done) | (simp [fownerS, fwaitsS, fvaluesS, froomS]; omega)))) ?_
                  refine XO.pu (Pu.move rfl) ?_
                  refine XO.cR Try.call14 (lnum_ok) ?_
                  refine XO.pu (Pu.eql rfl rfl) ?_
                  refine XO.pu (Pu.move rfl) ?_
                  refine XO.know 109 (.bool false) rfl (congrArg Value.bool ((by first | rfl | (simp [fownerS, fwaitsS, fvaluesS, froomS]; done) | (simp [fownerS, fwaitsS, fvaluesS, froomS]; omega)))) ?_
                  refine XO.pu (Pu.move rfl) ?_
                  refine XO.pu (Pu.eql rfl rfl) ?_
                  refine XO.pu (Pu.pickF rfl rfl) ?_
                  refine XO.pu (Pu.pickT rfl rfl) ?_
                  refine XO.pu (Pu.move rfl) ?_
                  refine XO.know 114 (.bool true) rfl (congrArg Value.bool ((by first | rfl | (simp [fownerS, fwaitsS, fvaluesS, froomS]; done) | (simp [fownerS, fwaitsS, fvaluesS, froomS]; omega)))) ?_
                  refine XO.pu (Pu.move rfl) ?_
                  refine XO.cR Try.call14 (lnum_ok) ?_
                  refine XO.pu (Pu.eql rfl rfl) ?_
                  refine XO.pu (Pu.move rfl) ?_
                  refine XO.know 118 (.bool true) rfl (congrArg Value.bool ((by first | rfl | (simp [fownerS, fwaitsS, fvaluesS, froomS]; done) | (simp [fownerS, fwaitsS, fvaluesS, froomS]; omega)))) ?_
                  refine XO.pass rfl ?_
                  refine XO.pass rfl ?_
                  refine XO.pass rfl ?_
                  refine XO.pu (Pu.pickT rfl rfl) ?_
                  refine XO.pu (Pu.pickT rfl rfl) ?_
                  refine XO.pu (Pu.move rfl) ?_
                  refine XO.pu (Pu.move rfl) ?_
                  refine XO.cR Try.call14 (lnum_ok) ?_
                  refine XO.pu (Pu.eql rfl rfl) ?_
                  refine XO.pu (Pu.move rfl) ?_
                  refine XO.know 128 (.bool true) rfl (congrArg Value.bool ((by first | rfl | (simp [fownerS, fwaitsS, fvaluesS, froomS]; done) | (simp [fownerS, fwaitsS, fvaluesS, froomS]; omega)))) ?_
                  refine XO.pass rfl ?_
                  refine XO.pass rfl ?_
                  refine XO.pass rfl ?_
                  refine XO.pass rfl ?_
                  refine XO.pass rfl ?_
                  refine XO.pass rfl ?_
                  refine XO.pass rfl ?_
                  refine XO.pu (Pu.pickT rfl rfl) ?_
                  refine XO.pu (Pu.pickT rfl rfl) ?_
                  refine XO.pu (Pu.move rfl) ?_
                  refine XO.cR Try.call11 (works_ok) ?_
                  refine XO.pu (Pu.pickT rfl rfl) ?_
                  refine XO.pu (Pu.assign rfl) ?_
                  refine XO.nil ?_
                  refine X.sub (p' := [(6, _)]) ⟨rfl, trivial⟩ ?_
                  refine X.retL (q) Try.func7 (res1 Try.results7 rfl) ⟨_, rfl, rfl, _, rfl⟩
          · skip
            have z2 : n < 0 ∨ (S.chans.length : Int) ≤ n := by unfold inR at j2; omega
            have fvaluesS : (valuesS S n).2 = 4 ∧ (valuesS S n).1 = [] := ⟨congrArg Prod.snd (show valuesS S n = ([], 4) from if_neg j2), congrArg Prod.fst (show valuesS S n = ([], 4) from if_neg j2)⟩
            have froomS : (roomS S n).2 = 4 ∧ (roomS S n).1 = 0 := ⟨congrArg Prod.snd (show roomS S n = (0, 4) from if_neg j2), congrArg Prod.fst (show roomS S n = (0, 4) from if_neg j2)⟩
            refine XO.cR Try.call14 (lnum_ok) ?_
            refine XO.pu (Pu.eql rfl rfl) ?_
            refine XO.pu (Pu.move rfl) ?_
            refine XO.pu (Pu.lss rfl rfl) ?_
            refine XO.pu (Pu.move rfl) ?_
            refine XO.sub (p' := [(59, _), (56, _), (17, _), (16, _), (15, _), (14, _), (13, _), (12, _), (11, _), (10, _), (9, _), (8, _), (6, _), (2, _)]) ⟨rfl, rfl, rfl, rfl, rfl, rfl, rfl, rfl, rfl, rfl, rfl, rfl, rfl, rfl, trivial⟩ ?_
            apply XO.cutOr 6 65 59 rfl
            · skip
              intro g1 M1; have h1 := g1; try simp only [decide_eq_true_eq, decide_eq_false_iff_not, bne_iff_ne, beq_iff_eq, ne_eq, bne_eq_false_iff_eq, beq_eq_false_iff_ne, Bool.not_eq_true', Bool.not_eq_false', Int.not_lt, Int.not_le, Bool.not_not, Bool.and_eq_true, Bool.and_eq_false_iff, Bool.true_and, Bool.and_true, beq_self_eq_true, Bool.or_eq_true, Bool.or_eq_false_iff] at h1
              refine XO.pu (Pu.move rfl) ?_
              refine XO.pu (Pu.fieldAddr 29 0 0 rfl Try.underlying53 rfl Try.sizeOf29) ?_
              refine XO.ld Try.isAgg29 ?_
              refine XO.pu (Pu.len rfl Try.underlying29) ?_
              refine XO.pu (Pu.geq rfl rfl) ?_
              refine XO.pu (Pu.pickF rfl rfl) ?_
              exact XO.fin M1 ⟨orF g1, congrArg (fun x => some (Value.bool x)) g1.symm, rfl, rfl, rfl, rfl, rfl, rfl, rfl, rfl, rfl, rfl, rfl, rfl, rfl, trivial⟩
            · skip
              intro g1 M1; have h1 := g1; try simp only [decide_eq_true_eq, decide_eq_false_iff_not, bne_iff_ne, beq_iff_eq, ne_eq, bne_eq_false_iff_eq, beq_eq_false_iff_ne, Bool.not_eq_true', Bool.not_eq_false', Int.not_lt, Int.not_le, Bool.not_not, Bool.and_eq_true, Bool.and_eq_false_iff, Bool.true_and, Bool.and_true, beq_self_eq_true, Bool.or_eq_true, Bool.or_eq_false_iff] at h1
              refine XO.pass rfl ?_
              refine XO.pass rfl ?_
              refine XO.pass rfl ?_
              refine XO.pass rfl ?_
              refine XO.pass rfl ?_
              refine XO.pu (Pu.pickT rfl rfl) ?_
              exact XO.fin M1 ⟨orT g1, congrArg (fun x => some (Value.bool x)) g1.symm, rfl, rfl, rfl, rfl, rfl, rfl, rfl, rfl, rfl, rfl, rfl, rfl, rfl, trivial⟩
            · skip
              refine XO.pu (Pu.neqB rfl rfl Try.underlying4) ?_
              refine XO.pu (Pu.move rfl) ?_
              refine XO.know 67 (.bool false) rfl (congrArg Value.bool ((by first | rfl | (simp [fownerS, fwaitsS, fvaluesS, froomS]; done) | (simp [fownerS, fwaitsS, fvaluesS, froomS]; omega)))) ?_
              refine XO.pu (Pu.move rfl) ?_
              refine XO.cR Try.call14 (lnum_ok) ?_
              refine XO.pu (Pu.eql rfl rfl) ?_
              refine XO.pu (Pu.move rfl) ?_
              refine XO.pu (Pu.lss rfl rfl) ?_
              refine XO.pu (Pu.move rfl) ?_
              refine XO.sub (p' := [(73, _), (70, _), (67, _), (17, _), (16, _), (15, _), (14, _), (13, _), (12, _), (11, _), (10, _), (9, _), (8, _), (6, _), (2, _)]) ⟨rfl, rfl, rfl, rfl, rfl, rfl, rfl, rfl, rfl, rfl, rfl, rfl, rfl, rfl, rfl, trivial⟩ ?_
              apply XO.cutOr 6 79 73 rfl
              · skip
                intro g1 M1; have h1 := g1; try simp only [decide_eq_true_eq, decide_eq_false_iff_not, bne_iff_ne, beq_iff_eq, ne_eq, bne_eq_false_iff_eq, beq_eq_false_iff_ne, Bool.not_eq_true', Bool.not_eq_false', Int.not_lt, Int.not_le, Bool.not_not, Bool.and_eq_true, Bool.and_eq_false_iff, Bool.true_and, Bool.and_true, beq_self_eq_true, Bool.or_eq_true, Bool.or_eq_false_iff] at h1
                refine XO.pu (Pu.move rfl) ?_
                refine XO.pu (Pu.fieldAddr 50 1 0 rfl Try.underlying53 rfl Try.sizeOf50) ?_
                refine XO.ld Try.isAgg50 ?_
                refine XO.pu (Pu.len rfl Try.underlying50) ?_
                refine XO.pu (Pu.geq rfl rfl) ?_
                refine XO.pu (Pu.pickF rfl rfl) ?_
                exact XO.fin M1 ⟨orF g1, congrArg (fun x => some (Value.bool x)) g1.symm, rfl, rfl, rfl, rfl, rfl, rfl, rfl, rfl, rfl, rfl, rfl, rfl, rfl, rfl, trivial⟩
              · skip
                intro g1 M1; have h1 := g1; try simp only [decide_eq_true_eq, decide_eq_false_iff_not, bne_iff_ne, beq_iff_eq, ne_eq, bne_eq_false_iff_eq, beq_eq_false_iff_ne, Bool.not_eq_true', Bool.not_eq_false', Int.not_lt, Int.not_le, Bool.not_not, Bool.and_eq_true, Bool.and_eq_false_iff, Bool.true_and, Bool.and_true, beq_self_eq_true, Bool.or_eq_true, Bool.or_eq_false_iff] at h1
                refine XO.pass rfl ?_
                refine XO.pass rfl ?_
                refine XO.pass rfl ?_
                refine XO.pass rfl ?_
                refine XO.pass rfl ?_
                refine XO.pu (Pu.pickT rfl rfl) ?_
                exact XO.fin M1 ⟨orT g1, congrArg (fun x => some (Value.bool x)) g1.symm, rfl, rfl, rfl, rfl, rfl, rfl, rfl, rfl, rfl, rfl, rfl, rfl, rfl, rfl, trivial⟩
              · skip
                refine XO.pu (Pu.neqB rfl rfl Try.underlying4) ?_
                refine XO.pu (Pu.pickF rfl rfl) ?_
                refine XO.pu (Pu.move rfl) ?_
                refine XO.know 82 (.bool false) rfl (congrArg Value.bool ((by first | rfl | (simp [fownerS, fwaitsS, fvaluesS, froomS]; done) | (simp [fownerS, fwaitsS, fvaluesS, froomS]; omega)))) ?_
                refine XO.pu (Pu.move rfl) ?_
                refine XO.cR Try.call14 (lnum_ok) ?_
                refine XO.pu (Pu.eql rfl rfl) ?_
                refine XO.pu (Pu.move rfl) ?_
                refine XO.pu (Pu.lss rfl rfl) ?_
                refine XO.pu (Pu.move rfl) ?_
                refine XO.sub (p' := [(88, _), (85, _), (82, _), (17, _), (16, _), (15, _), (14, _), (13, _), (12, _), (11, _), (10, _), (9, _), (8, _), (6, _), (2, _)]) ⟨rfl, rfl, rfl, rfl, rfl, rfl, rfl, rfl, rfl, rfl, rfl, rfl, rfl, rfl, rfl, trivial⟩ ?_
                apply XO.cutOr 6 94 88 rfl
                · skip
                  intro g1 M1; have h1 := g1; try simp only [decide_eq_true_eq, decide_eq_false_iff_not, bne_iff_ne, beq_iff_eq, ne_eq, bne_eq_false_iff_eq, beq_eq_false_iff_ne, Bool.not_eq_true', Bool.not_eq_false', Int.not_lt, Int.not_le, Bool.not_not, Bool.and_eq_true, Bool.and_eq_false_iff, Bool.true_and, Bool.and_true, beq_self_eq_true, Bool.or_eq_true, Bool.or_eq_false_iff] at h1
                  refine XO.pu (Pu.move rfl) ?_
                  refine XO.pu (Pu.fieldAddr 29 2 0 rfl Try.underlying53 rfl Try.sizeOf29) ?_
                  refine XO.ld Try.isAgg29 ?_
                  refine XO.pu (Pu.len rfl Try.underlying29) ?_
                  refine XO.pu (Pu.geq rfl rfl) ?_
                  refine XO.pu (Pu.pickF rfl rfl) ?_
                  exact XO.fin M1 ⟨orF g1, congrArg (fun x => some (Value.bool x)) g1.symm, rfl, rfl, rfl, rfl, rfl, rfl, rfl, rfl, rfl, rfl, rfl, rfl, rfl, rfl, trivial⟩
                · skip
                  intro g1 M1; have h1 := g1; try simp only [decide_eq_true_eq, decide_eq_false_iff_not, bne_iff_ne, beq_iff_eq, ne_eq, bne_eq_false_iff_eq, beq_eq_false_iff_ne, Bool.not_eq_true', Bool.not_eq_false', Int.not_lt, Int.not_le, Bool.not_not, Bool.and_eq_true, Bool.and_eq_false_iff, Bool.true_and, Bool.and_true, beq_self_eq_true, Bool.or_eq_true, Bool.or_eq_false_iff] at h1
                  refine XO.pass rfl ?_
                  refine XO.pass rfl ?_
                  refine XO.pass rfl ?_
                  refine XO.pass rfl ?_
                  refine XO.pass rfl ?_
                  refine XO.pu (Pu.pickT rfl rfl) ?_
                  exact XO.fin M1 ⟨orT g1, congrArg (fun x => some (Value.bool x)) g1.symm, rfl, rfl, rfl, rfl, rfl, rfl, rfl, rfl, rfl, rfl, rfl, rfl, rfl, rfl, trivial⟩
                · skip
                  refine XO.pu (Pu.neqB rfl rfl Try.underlying4) ?_
                  refine XO.pu (Pu.pickF rfl rfl) ?_
                  refine XO.pu (Pu.move rfl) ?_
                  refine XO.know 97 (.bool false) rfl (congrArg Value.bool ((by first | rfl | (simp [fownerS, fwaitsS, fvaluesS, froomS]; done) | (simp [fownerS, fwaitsS, fvaluesS, froomS]; omega)))) ?_
                  refine XO.pu (Pu.move rfl) ?_
                  refine XO.cR Try.call14 (lnum_ok) ?_
                  refine XO.pu (Pu.move rfl) ?_
                  refine XO.cR Try.call14 (lnum_ok) ?_
                  refine XO.pu (Pu.neq rfl rfl) ?_
                  refine XO.pu (Pu.pickF rfl rfl) ?_
                  refine XO.nil ?_
                  refine X.sub (p' := [(103, _), (16, _), (15, _), (14, _), (13, _), (12, _), (11, _), (10, _), (9, _), (6, _)]) ⟨rfl, rfl, rfl, rfl, rfl, rfl, rfl, rfl, rfl, rfl, trivial⟩ ?_
                  refine X.know 103 (.bool false) rfl (congrArg Value.bool ((by first | rfl | (simp [fownerS, fwaitsS, fvaluesS, froomS]; done) | (simp [fownerS, fwaitsS, fvaluesS, froomS]; omega)))) ?_
                  refine X.condF rfl ?_
                  refine X.skip ?_
                  refine X.seq ?_
                  refine X.region ?_
                  refine XO.pu (Pu.move rfl) ?_
                  refine XO.pu (Pu.move rfl) ?_
                  refine XO.know 105 (.bool true) rfl (congrArg Value.bool ((by first | rfl | (simp [fownerS, fwaitsS, fvaluesS, froomS]; done) | (simp [fownerS, fwaitsS, fvaluesS, froomS]; omega)))) ?_
                  refine XO.pu (Pu.move rfl) ?_
                  refine XO.cR Try.call14 (lnum_ok) ?_
                  refine XO.pu (Pu.eql rfl rfl) ?_
                  refine XO.pu (Pu.move rfl) ?_
                  refine XO.know 109 (.bool false) rfl (congrArg Value.bool ((by first | rfl | (simp [fownerS, fwaitsS, fvaluesS, froomS]; done) | (simp [fownerS, fwaitsS, fvaluesS, froomS]; omega)))) ?_
                  refine XO.pu (Pu.move rfl) ?_
                  refine XO.pu (Pu.eql rfl rfl) ?_
                  refine XO.pu (Pu.pickF rfl rfl) ?_
                  refine XO.pu (Pu.pickT rfl rfl) ?_
                  refine XO.pu (Pu.move rfl) ?_
                  refine XO.know 114 (.bool true) rfl (congrArg Value.bool ((by first | rfl | (simp [fownerS, fwaitsS, fvaluesS, froomS]; done) | (simp [fownerS, fwaitsS, fvaluesS, froomS]; omega)))) ?_
                  refine XO.pu (Pu.move rfl) ?_
                  refine XO.cR Try.call14 (lnum_ok) ?_
                  refine XO.pu (Pu.eql rfl rfl) ?_
                  refine XO.pu (Pu.move rfl) ?_
                  refine XO.know 118 (.bool true) rfl (congrArg Value.bool ((by first | rfl | (simp [fownerS, fwaitsS, fvaluesS, froomS]; done) | (simp [fownerS, fwaitsS, fvaluesS, froomS]; omega)))) ?_
                  refine XO.pass rfl ?_
                  refine XO.pass rfl ?_
                  refine XO.pass rfl ?_
                  refine XO.pu (Pu.pickT rfl rfl) ?_
                  refine XO.pu (Pu.pickT rfl rfl) ?_
                  refine XO.pu (Pu.move rfl) ?_
                  refine XO.pu (Pu.move rfl) ?_
                  refine XO.cR Try.call14 (lnum_ok) ?_
                  refine XO.pu (Pu.eql rfl rfl) ?_
                  refine XO.pu (Pu.move rfl) ?_
                  refine XO.know 128 (.bool false) rfl (congrArg Value.bool ((by first | rfl | (simp [fownerS, fwaitsS, fvaluesS, froomS]; done) | (simp [fownerS, fwaitsS, fvaluesS, froomS]; omega)))) ?_
                  refine XO.pu (Pu.move rfl) ?_
                  refine XO.pu (Pu.len rfl Try.underlying28) ?_
                  refine XO.pu (Pu.eql rfl rfl) ?_
                  refine XO.pu (Pu.move rfl) ?_
                  refine XO.know 132 (.bool true) rfl (congrArg Value.bool ((by first | rfl | (simp [fownerS, fwaitsS, fvaluesS, froomS]; done) | (simp [fownerS, fwaitsS, fvaluesS, froomS]; omega)))) ?_
                  refine XO.pu (Pu.move rfl) ?_
                  refine XO.pu (Pu.eql rfl rfl) ?_
                  refine XO.pu (Pu.pickT rfl rfl) ?_
                  refine XO.pu (Pu.pickF rfl rfl) ?_
                  refine XO.pu (Pu.pickT rfl rfl) ?_
                  refine XO.pu (Pu.move rfl) ?_
                  refine XO.know 138 (.bool true) rfl (congrArg Value.bool ((by first | rfl | (simp [fownerS, fwaitsS, fvaluesS, froomS]; done) | (simp [fownerS, fwaitsS, fvaluesS, froomS]; omega)))) ?_
                  refine XO.cR Try.call11 (works_ok) ?_
                  refine XO.pu (Pu.pickT rfl rfl) ?_
                  refine XO.pu (Pu.assign rfl) ?_
                  refine XO.nil ?_
                  refine X.sub (p' := [(6, _)]) ⟨rfl, trivial⟩ ?_
                  refine X.retL (q) Try.func7 (res1 Try.results7 rfl) ⟨_, rfl, rfl, _, rfl⟩
        · skip
          have z1 : n < 0 ∨ (S.conds.length : Int) ≤ n := by unfold inR at j1; omega
          have fwaitsS : (waitsS S n).2 = 4 ∧ (waitsS S n).1 = [] := ⟨congrArg Prod.snd (show waitsS S n = ([], 4) from if_neg j1), congrArg Prod.fst (show waitsS S n = ([], 4) from if_neg j1)⟩
          rcases Decidable.em (inR n S.chans.length) with j2 | j2
          · skip
            have z2 : 0 ≤ n ∧ n < (S.chans.length : Int) := j2
            have fvaluesS : (valuesS S n).2 = 0 := congrArg Prod.snd (show valuesS S n = (_, 0) from if_pos j2)
            have froomS : (roomS S n).2 = 0 := congrArg Prod.snd (show roomS S n = (_, 0) from if_pos j2)
            refine XO.cR Try.call14 (lnum_ok) ?_
            refine XO.pu (Pu.eql rfl rfl) ?_
            refine XO.pu (Pu.move rfl) ?_
            refine XO.pu (Pu.lss rfl rfl) ?_
            refine XO.pu (Pu.move rfl) ?_
            refine XO.sub (p' := [(59, _), (56, _), (17, _), (16, _), (15, _), (14, _), (13, _), (12, _), (11, _), (10, _), (9, _), (8, _), (6, _), (2, _)]) ⟨rfl, rfl, rfl, rfl, rfl, rfl, rfl, rfl, rfl, rfl, rfl, rfl, rfl, rfl, trivial⟩ ?_
            apply XO.cutOr 6 65 59 rfl
            · skip
              intro g1 M1; have h1 := g1; try simp only [decide_eq_true_eq, decide_eq_false_iff_not, bne_iff_ne, beq_iff_eq, ne_eq, bne_eq_false_iff_eq, beq_eq_false_iff_ne, Bool.not_eq_true', Bool.not_eq_false', Int.not_lt, Int.not_le, Bool.not_not, Bool.and_eq_true, Bool.and_eq_false_iff, Bool.true_and, Bool.and_true, beq_self_eq_true, Bool.or_eq_true, Bool.or_eq_false_iff] at h1
              refine XO.pu (Pu.move rfl) ?_
              refine XO.pu (Pu.fieldAddr 29 0 0 rfl Try.underlying53 rfl Try.sizeOf29) ?_
              refine XO.ld Try.isAgg29 ?_
              refine XO.pu (Pu.len rfl Try.underlying29) ?_
              refine XO.pu (Pu.geq rfl rfl) ?_
              refine XO.pu (Pu.pickF rfl rfl) ?_
              exact XO.fin M1 ⟨orF g1, congrArg (fun x => some (Value.bool x)) g1.symm, rfl, rfl, rfl, rfl, rfl, rfl, rfl, rfl, rfl, rfl, rfl, rfl, rfl, trivial⟩
            · skip
              intro g1 M1; have h1 := g1; try simp only [decide_eq_true_eq, decide_eq_false_iff_not, bne_iff_ne, beq_iff_eq, ne_eq, bne_eq_false_iff_eq, beq_eq_false_iff_ne, Bool.not_eq_true', Bool.not_eq_false', Int.not_lt, Int.not_le, Bool.not_not, Bool.and_eq_true, Bool.and_eq_false_iff, Bool.true_and, Bool.and_true, beq_self_eq_true, Bool.or_eq_true, Bool.or_eq_false_iff] at h1
              refine XO.pass rfl ?_
              refine XO.pass rfl ?_
              refine XO.pass rfl ?_
              refine XO.pass rfl ?_
              refine XO.pass rfl ?_
              refine XO.pu (Pu.pickT rfl rfl) ?_
              exact XO.fin M1 ⟨orT g1, congrArg (fun x => some (Value.bool x)) g1.symm, rfl, rfl, rfl, rfl, rfl, rfl, rfl, rfl, rfl, rfl, rfl, rfl, rfl, trivial⟩
            · skip
              refine XO.pu (Pu.neqB rfl rfl Try.underlying4) ?_
              refine XO.pu (Pu.move rfl) ?_
              refine XO.know 67 (.bool false) rfl (congrArg Value.bool ((by first | rfl | (simp [fownerS, fwaitsS, fvaluesS, froomS]; done) | (simp [fownerS, fwaitsS, fvaluesS, froomS]; omega)))) ?_
              refine XO.pu (Pu.move rfl) ?_
              refine XO.cR Try.call14 (lnum_ok) ?_
              refine XO.pu (Pu.eql rfl rfl) ?_
              refine XO.pu (Pu.move rfl) ?_
              refine XO.pu (Pu.lss rfl rfl) ?_
              refine XO.pu (Pu.move rfl) ?_
              refine XO.sub (p' := [(73, _), (70, _), (67, _), (17, _), (16, _), (15, _), (14, _), (13, _), (12, _), (11, _), (10, _), (9, _), (8, _), (6, _), (2, _)]) ⟨rfl, rfl, rfl, rfl, rfl, rfl, rfl, rfl, rfl, rfl, rfl, rfl, rfl, rfl, rfl, trivial⟩ ?_
              apply XO.cutOr 6 79 73 rfl
              · skip
                intro g1 M1; have h1 := g1; try simp only [decide_eq_true_eq, decide_eq_false_iff_not, bne_iff_ne, beq_iff_eq, ne_eq, bne_eq_false_iff_eq, beq_eq_false_iff_ne, Bool.not_eq_true', Bool.not_eq_false', Int.not_lt, Int.not_le, Bool.not_not, Bool.and_eq_true, Bool.and_eq_false_iff, Bool.true_and, Bool.and_true, beq_self_eq_true, Bool.or_eq_true, Bool.or_eq_false_iff] at h1
                refine XO.pu (Pu.move rfl) ?_
                refine XO.pu (Pu.fieldAddr 50 1 0 rfl Try.underlying53 rfl Try.sizeOf50) ?_
                refine XO.ld Try.isAgg50 ?_
                refine XO.pu (Pu.len rfl Try.underlying50) ?_
                refine XO.pu (Pu.geq rfl rfl) ?_
                refine XO.pu (Pu.pickF rfl rfl) ?_
                exact XO.fin M1 ⟨orF g1, congrArg (fun x => some (Value.bool x)) g1.symm, rfl, rfl, rfl, rfl, rfl, rfl, rfl, rfl, rfl, rfl, rfl, rfl, rfl, rfl, trivial⟩
              · skip
                intro g1 M1; have h1 := g1; try simp only [decide_eq_true_eq, decide_eq_false_iff_not, bne_iff_ne, beq_iff_eq, ne_eq, bne_eq_false_iff_eq, beq_eq_false_iff_ne, Bool.not_eq_true', Bool.not_eq_false', Int.not_lt, Int.not_le, Bool.not_not, Bool.and_eq_true, Bool.and_eq_false_iff, Bool.true_and, Bool.and_true, beq_self_eq_true, Bool.or_eq_true, Bool.or_eq_false_iff] at h1
                refine XO.pass rfl ?_
                refine XO.pass rfl ?_
                refine XO.pass rfl ?_
                refine XO.pass rfl ?_
                refine XO.pass rfl ?_
                refine XO.pu (Pu.pickT rfl rfl) ?_
                exact XO.fin M1 ⟨orT g1, congrArg (fun x => some (Value.bool x)) g1.symm, rfl, rfl, rfl, rfl, rfl, rfl, rfl, rfl, rfl, rfl, rfl, rfl, rfl, rfl, trivial⟩
              · skip
                refine XO.pu (Pu.neqB rfl rfl Try.underlying4) ?_
                refine XO.pu (Pu.pickF rfl rfl) ?_
                refine XO.pu (Pu.move rfl) ?_
                refine XO.know 82 (.bool false) rfl (congrArg Value.bool ((by first | rfl | (simp [fownerS, fwaitsS, fvaluesS, froomS]; done) | (simp [fownerS, fwaitsS, fvaluesS, froomS]; omega)))) ?_
                refine XO.pu (Pu.move rfl) ?_
                refine XO.cR Try.call14 (lnum_ok) ?_
                refine XO.pu (Pu.eql rfl rfl) ?_
                refine XO.pu (Pu.move rfl) ?_
                refine XO.pu (Pu.lss rfl rfl) ?_
                refine XO.pu (Pu.move rfl) ?_
                refine XO.sub (p' := [(88, _), (85, _), (82, _), (17, _), (16, _), (15, _), (14, _), (13, _), (12, _), (11, _), (10, _), (9, _), (8, _), (6, _), (2, _)]) ⟨rfl, rfl, rfl, rfl, rfl, rfl, rfl, rfl, rfl, rfl, rfl, rfl, rfl, rfl, rfl, trivial⟩ ?_
                apply XO.cutOr 6 94 88 rfl
                · skip
                  intro g1 M1; have h1 := g1; try simp only [decide_eq_true_eq, decide_eq_false_iff_not, bne_iff_ne, beq_iff_eq, ne_eq, bne_eq_false_iff_eq, beq_eq_false_iff_ne, Bool.not_eq_true', Bool.not_eq_false', Int.not_lt, Int.not_le, Bool.not_not, Bool.and_eq_true, Bool.and_eq_false_iff, Bool.true_and, Bool.and_true, beq_self_eq_true, Bool.or_eq_true, Bool.or_eq_false_iff] at h1
                  refine XO.pu (Pu.move rfl) ?_
                  refine XO.pu (Pu.fieldAddr 29 2 0 rfl Try.underlying53 rfl Try.sizeOf29) ?_
                  refine XO.ld Try.isAgg29 ?_
                  refine XO.pu (Pu.len rfl Try.underlying29) ?_
                  refine XO.pu (Pu.geq rfl rfl) ?_
                  refine XO.pu (Pu.pickF rfl rfl) ?_
                  exact XO.fin M1 ⟨orF g1, congrArg (fun x => some (Value.bool x)) g1.symm, rfl, rfl, rfl, rfl, rfl, rfl, rfl, rfl, rfl, rfl, rfl, rfl, rfl, rfl, trivial⟩
                · skip
                  intro g1 M1; have h1 := g1; try simp only [decide_eq_true_eq, decide_eq_false_iff_not, bne_iff_ne, beq_iff_eq, ne_eq, bne_eq_false_iff_eq, beq_eq_false_iff_ne, Bool.not_eq_true', Bool.not_eq_false', Int.not_lt, Int.not_le, Bool.not_not, Bool.and_eq_true, Bool.and_eq_false_iff, Bool.true_and, Bool.and_true, beq_self_eq_true, Bool.or_eq_true, Bool.or_eq_false_iff] at h1
                  refine XO.pass rfl ?_
                  refine XO.pass rfl ?_
                  refine XO.pass rfl ?_
                  refine XO.pass rfl ?_
                  refine XO.pass rfl ?_
                  refine XO.pu (Pu.pickT rfl rfl) ?_
                  exact XO.fin M1 ⟨orT g1, congrArg (fun x => some (Value.bool x)) g1.symm, rfl, rfl, rfl, rfl, rfl, rfl, rfl, rfl, rfl, rfl, rfl, rfl, rfl, rfl, trivial⟩
                · skip
                  refine XO.pu (Pu.neqB rfl rfl Try.underlying4) ?_
                  refine XO.pu (Pu.pickF rfl rfl) ?_
                  refine XO.pu (Pu.move rfl) ?_
                  refine XO.know 97 (.bool false) rfl (congrArg Value.bool ((by first | rfl | (simp [fownerS, fwaitsS, fvaluesS, froomS]; done) | (simp [fownerS, fwaitsS, fvaluesS, froomS]; omega)))) ?_
                  refine XO.pu (Pu.move rfl) ?_
                  refine XO.cR Try.call14 (lnum_ok) ?_
                  refine XO.pu (Pu.move rfl) ?_
                  refine XO.cR Try.call14 (lnum_ok) ?_
                  refine XO.pu (Pu.neq rfl rfl) ?_
                  refine XO.pu (Pu.pickF rfl rfl) ?_
                  refine XO.nil ?_
                  refine X.sub (p' := [(103, _), (16, _), (15, _), (14, _), (13, _), (12, _), (11, _), (10, _), (9, _), (6, _)]) ⟨rfl, rfl, rfl, rfl, rfl, rfl, rfl, rfl, rfl, rfl, trivial⟩ ?_
                  refine X.know 103 (.bool false) rfl (congrArg Value.bool ((by first | rfl | (simp [fownerS, fwaitsS, fvaluesS, froomS]; done) | (simp [fownerS, fwaitsS, fvaluesS, froomS]; omega)))) ?_
                  refine X.condF rfl ?_
                  refine X.skip ?_
                  refine X.seq ?_
                  refine X.region ?_
                  refine XO.pu (Pu.move rfl) ?_
                  refine XO.pu (Pu.move rfl) ?_
                  refine XO.know 105 (.bool true) rfl (congrArg Value.bool ((by first | rfl | (simp [fownerS, fwaitsS, fvaluesS, froomS]; done) | (simp [fownerS, fwaitsS, fvaluesS, froomS]; omega)))) ?_
                  refine XO.pu (Pu.move rfl) ?_
                  refine XO.cR Try.call14 (lnum_ok) ?_
                  refine XO.pu (Pu.eql rfl rfl) ?_
                  refine XO.pu (Pu.move rfl) ?_
                  refine XO.know 109 (.bool false) rfl (congrArg Value.bool ((by first | rfl | (simp [fownerS, fwaitsS, fvaluesS, froomS]; done) | (simp [fownerS, fwaitsS, fvaluesS, froomS]; omega)))) ?_
                  refine XO.pu (Pu.move rfl) ?_
                  refine XO.pu (Pu.eql rfl rfl) ?_
                  refine XO.pu (Pu.pickF rfl rfl) ?_
                  refine XO.pu (Pu.pickT rfl rfl) ?_
                  refine XO.pu (Pu.move rfl) ?_
                  refine XO.know 114 (.bool true) rfl (congrArg Value.bool ((by first | rfl | (simp [fownerS, fwaitsS, fvaluesS, froomS]; done) | (simp [fownerS, fwaitsS, fvaluesS, froomS]; omega)))) ?_
                  refine XO.pu (Pu.move rfl) ?_
                  refine XO.cR Try.call14 (lnum_ok) ?_
                  refine XO.pu (Pu.eql rfl rfl) ?_
                  refine XO.pu (Pu.move rfl) ?_
                  refine XO.know 118 (.bool false) rfl (congrArg Value.bool ((by first | rfl | (simp [fownerS, fwaitsS, fvaluesS, froomS]; done) | (simp [fownerS, fwaitsS, fvaluesS, froomS]; omega)))) ?_
                  refine XO.pu (Pu.move rfl) ?_
                  refine XO.pu (Pu.len rfl Try.underlying29) ?_
                  refine XO.pu (Pu.eql rfl rfl) ?_
                  refine XO.pu (Pu.pickF rfl rfl) ?_
                  refine XO.pu (Pu.pickT rfl rfl) ?_
                  refine XO.pu (Pu.move rfl) ?_
                  refine XO.know 124 (.bool true) rfl (congrArg Value.bool ((by first | rfl | (simp [fownerS, fwaitsS, fvaluesS, froomS]; done) | (simp [fownerS, fwaitsS, fvaluesS, froomS]; omega)))) ?_
                  refine XO.pu (Pu.move rfl) ?_
                  refine XO.cR Try.call14 (lnum_ok) ?_
                  refine XO.pu (Pu.eql rfl rfl) ?_
                  refine XO.pu (Pu.move rfl) ?_
                  refine XO.know 128 (.bool true) rfl (congrArg Value.bool ((by first | rfl | (simp [fownerS, fwaitsS, fvaluesS, froomS]; done) | (simp [fownerS, fwaitsS, fvaluesS, froomS]; omega)))) ?_
                  refine XO.pass rfl ?_
                  refine XO.pass rfl ?_
                  refine XO.pass rfl ?_
                  refine XO.pass rfl ?_
                  refine XO.pass rfl ?_
                  refine XO.pass rfl ?_
                  refine XO.pass rfl ?_
                  refine XO.pu (Pu.pickT rfl rfl) ?_
                  refine XO.pu (Pu.pickT rfl rfl) ?_
                  refine XO.pu (Pu.move rfl) ?_
                  refine XO.cR Try.call11 (works_ok) ?_
                  refine XO.pu (Pu.pickT rfl rfl) ?_
                  refine XO.pu (Pu.assign rfl) ?_
                  refine XO.nil ?_
                  refine X.sub (p' := [(6, _)]) ⟨rfl, trivial⟩ ?_
                  refine X.retL (q) Try.func7 (res1 Try.results7 rfl) ⟨_, rfl, rfl, _, rfl⟩
          · skip
            have z2 : n < 0 ∨ (S.chans.length : Int) ≤ n := by unfold inR at j2; omega
            have fvaluesS : (valuesS S n).2 = 4 ∧ (valuesS S n).1 = [] := ⟨congrArg Prod.snd (show valuesS S n = ([], 4) from if_neg j2), congrArg Prod.fst (show valuesS S n = ([], 4) from if_neg j2)⟩
            have froomS : (roomS S n).2 = 4 ∧ (roomS S n).1 = 0 := ⟨congrArg Prod.snd (show roomS S n = (0, 4) from if_neg j2), congrArg Prod.fst (show roomS S n = (0, 4) from if_neg j2)⟩
            refine XO.cR Try.call14 (lnum_ok) ?_
            refine XO.pu (Pu.eql rfl rfl) ?_
            refine XO.pu (Pu.move rfl) ?_
            refine XO.pu (Pu.lss rfl rfl) ?_
            refine XO.pu (Pu.move rfl) ?_
            refine XO.sub (p' := [(59, _), (56, _), (17, _), (16, _), (15, _), (14, _), (13, _), (12, _), (11, _), (10, _), (9, _), (8, _), (6, _), (2, _)]) ⟨rfl, rfl, rfl, rfl, rfl, rfl, rfl, rfl, rfl, rfl, rfl, rfl, rfl, rfl, trivial⟩ ?_
            apply XO.cutOr 6 65 59 rfl
            · skip
              intro g1 M1; have h1 := g1; try simp only [decide_eq_true_eq, decide_eq_false_iff_not, bne_iff_ne, beq_iff_eq, ne_eq, bne_eq_false_iff_eq, beq_eq_false_iff_ne, Bool.not_eq_true', Bool.not_eq_false', Int.not_lt, Int.not_le, Bool.not_not, Bool.and_eq_true, Bool.and_eq_false_iff, Bool.true_and, Bool.and_true, beq_self_eq_true, Bool.or_eq_true, Bool.or_eq_false_iff] at h1
              refine XO.pu (Pu.move rfl) ?_
              refine XO.pu (Pu.fieldAddr 29 0 0 rfl Try.underlying53 rfl Try.sizeOf29) ?_
              refine XO.ld Try.isAgg29 ?_
              refine XO.pu (Pu.len rfl Try.underlying29) ?_
              refine XO.pu (Pu.geq rfl rfl) ?_
              refine XO.pu (Pu.pickF rfl rfl) ?_
              exact XO.fin M1 ⟨orF g1, congrArg (fun x => some (Value.bool x)) g1.symm, rfl, rfl, rfl, rfl, rfl, rfl, rfl, rfl, rfl, rfl, rfl, rfl, rfl, trivial⟩
            · skip
              intro g1 M1; have h1 := g1; try simp only [decide_eq_true_eq, decide_eq_false_iff_not, bne_iff_ne, beq_iff_eq, ne_eq, bne_eq_false_iff_eq, beq_eq_false_iff_ne, Bool.not_eq_true', Bool.not_eq_false', Int.not_lt, Int.not_le, Bool.not_not, Bool.and_eq_true, Bool.and_eq_false_iff, Bool.true_and, Bool.and_true, beq_self_eq_true, Bool.or_eq_true, Bool.or_eq_false_iff] at h1
              refine XO.pass rfl ?_
              refine XO.pass rfl ?_
              refine XO.pass rfl ?_
              refine XO.pass rfl ?_
              refine XO.pass rfl ?_
              refine XO.pu (Pu.pickT rfl rfl) ?_
              exact XO.fin M1 ⟨orT g1, congrArg (fun x => some (Value.bool x)) g1.symm, rfl, rfl, rfl, rfl, rfl, rfl, rfl, rfl, rfl, rfl, rfl, rfl, rfl, trivial⟩
            · skip
              refine XO.pu (Pu.neqB rfl rfl Try.underlying4) ?_
              refine XO.pu (Pu.move rfl) ?_
              refine XO.know 67 (.bool false) rfl (congrArg Value.bool ((by first | rfl | (simp [fownerS, fwaitsS, fvaluesS, froomS]; done) | (simp [fownerS, fwaitsS, fvaluesS, froomS]; omega)))) ?_
              refine XO.pu (Pu.move rfl) ?_
              refine XO.cR Try.call14 (lnum_ok) ?_
              refine XO.pu (Pu.eql rfl rfl) ?_
              refine XO.pu (Pu.move rfl) ?_
              refine XO.pu (Pu.lss rfl rfl) ?_
              refine XO.pu (Pu.move rfl) ?_
              refine XO.sub (p' := [(73, _), (70, _), (67, _), (17, _), (16, _), (15, _), (14, _), (13, _), (12, _), (11, _), (10, _), (9, _), (8, _), (6, _), (2, _)]) ⟨rfl, rfl, rfl, rfl, rfl, rfl, rfl, rfl, rfl, rfl, rfl, rfl, rfl, rfl, rfl, trivial⟩ ?_
              apply XO.cutOr 6 79 73 rfl
              · skip
                intro g1 M1; have h1 := g1; try simp only [decide_eq_true_eq, decide_eq_false_iff_not, bne_iff_ne, beq_iff_eq, ne_eq, bne_eq_false_iff_eq, beq_eq_false_iff_ne, Bool.not_eq_true', Bool.not_eq_false', Int.not_lt, Int.not_le, Bool.not_not, Bool.and_eq_true, Bool.and_eq_false_iff, Bool.true_and, Bool.and_true, beq_self_eq_true, Bool.or_eq_true, Bool.or_eq_false_iff] at h1
                refine XO.pu (Pu.move rfl) ?_
                refine XO.pu (Pu.fieldAddr 50 1 0 rfl Try.underlying53 rfl Try.sizeOf50) ?_
                refine XO.ld Try.isAgg50 ?_
                refine XO.pu (Pu.len rfl Try.underlying50) ?_
                refine XO.pu (Pu.geq rfl rfl) ?_
                refine XO.pu (Pu.pickF rfl rfl) ?_
                exact XO.fin M1 ⟨orF g1, congrArg (fun x => some (Value.bool x)) g1.symm, rfl, rfl, rfl, rfl, rfl, rfl, rfl, rfl, rfl, rfl, rfl, rfl, rfl, rfl, trivial⟩
              · skip
                intro g1 M1; have h1 := g1; try simp only [decide_eq_true_eq, decide_eq_false_iff_not, bne_iff_ne, beq_iff_eq, ne_eq, bne_eq_false_iff_eq, beq_eq_false_iff_ne, Bool.not_eq_true', Bool.not_eq_false', Int.not_lt, Int.not_le, Bool.not_not, Bool.and_eq_true, Bool.and_eq_false_iff, Bool.true_and, Bool.and_true, beq_self_eq_true, Bool.or_eq_true, Bool.or_eq_false_iff] at h1
                refine XO.pass rfl ?_
                refine XO.pass rfl ?_
                refine XO.pass rfl ?_
                refine XO.pass rfl ?_
                refine XO.pass rfl ?_
                refine XO.pu (Pu.pickT rfl rfl) ?_
                exact XO.fin M1 ⟨orT g1, congrArg (fun x => some (Value.bool x)) g1.symm, rfl, rfl, rfl, rfl, rfl, rfl, rfl, rfl, rfl, rfl, rfl, rfl, rfl, rfl, trivial⟩
              · skip
                refine XO.pu (Pu.neqB rfl rfl Try.underlying4) ?_
                refine XO.pu (Pu.pickF rfl rfl) ?_
                refine XO.pu (Pu.move rfl) ?_
                refine XO.know 82 (.bool false) rfl (congrArg Value.bool ((by first | rfl | (simp [fownerS, fwaitsS, fvaluesS, froomS]; done) | (simp [fownerS, fwaitsS, fvaluesS, froomS]; omega)))) ?_
                refine XO.pu (Pu.move rfl) ?_
                refine XO.cR Try.call14 (lnum_ok) ?_
                refine XO.pu (Pu.eql rfl rfl) ?_
                refine XO.pu (Pu.move rfl) ?_
                refine XO.pu (Pu.lss rfl rfl) ?_
                refine XO.pu (Pu.move rfl) ?_
                refine XO.sub (p' := [(88, _), (85, _), (82, _), (17, _), (16, _), (15, _), (14, _), (13, _), (12, _), (11, _), (10, _), (9, _), (8, _), (6, _), (2, _)]) ⟨rfl, rfl, rfl, rfl, rfl, rfl, rfl, rfl, rfl, rfl, rfl, rfl, rfl, rfl, rfl, trivial⟩ ?_
                apply XO.cutOr 6 94 88 rfl
                · skip
                  intro g1 M1; have h1 := g1; try simp only [decide_eq_true_eq, decide_eq_false_iff_not, bne_iff_ne, beq_iff_eq, ne_eq, bne_eq_false_iff_eq, beq_eq_false_iff_ne, Bool.not_eq_true', Bool.not_eq_false', Int.not_lt, Int.not_le, Bool.not_not, Bool.and_eq_true, Bool.and_eq_false_iff, Bool.true_and, Bool.and_true, beq_self_eq_true, Bool.or_eq_true, Bool.or_eq_false_iff] at h1
                  refine XO.pu (Pu.move rfl) ?_
                  refine XO.pu (Pu.fieldAddr 29 2 0 rfl Try.underlying53 rfl Try.sizeOf29) ?_
                  refine XO.ld Try.isAgg29 ?_
                  refine XO.pu (Pu.len rfl Try.underlying29) ?_
                  refine XO.pu (Pu.geq rfl rfl) ?_
                  refine XO.pu (Pu.pickF rfl rfl) ?_
                  exact XO.fin M1 ⟨orF g1, congrArg (fun x => some (Value.bool x)) g1.symm, rfl, rfl, rfl, rfl, rfl, rfl, rfl, rfl, rfl, rfl, rfl, rfl, rfl, rfl, trivial⟩
                · skip
                  intro g1 M1; have h1 := g1; try simp only [decide_eq_true_eq, decide_eq_false_iff_not, bne_iff_ne, beq_iff_eq, ne_eq, bne_eq_false_iff_eq, beq_eq_false_iff_ne, Bool.not_eq_true', Bool.not_eq_false', Int.not_lt, Int.not_le, Bool.not_not, Bool.and_eq_true, Bool.and_eq_false_iff, Bool.true_and, Bool.and_true, beq_self_eq_true, Bool.or_eq_true, Bool.or_eq_false_iff] at h1
                  refine XO.pass rfl ?_
                  refine XO.pass rfl ?_
                  refine XO.pass rfl ?_
                  refine XO.pass rfl ?_
                  refine XO.pass rfl ?_
                  refine XO.pu (Pu.pickT rfl rfl) ?_
                  exact XO.fin M1 ⟨orT g1, congrArg (fun x => some (Value.bool x)) g1.symm, rfl, rfl, rfl, rfl, rfl, rfl, rfl, rfl, rfl, rfl, rfl, rfl, rfl, rfl, trivial⟩
                · skip
                  refine XO.pu (Pu.neqB rfl rfl Try.underlying4) ?_
                  refine XO.pu (Pu.pickF rfl rfl) ?_
                  refine XO.pu (Pu.move rfl) ?_
                  refine XO.know 97 (.bool false) rfl (congrArg Value.bool ((by first | rfl | (simp [fownerS, fwaitsS, fvaluesS, froomS]; done) | (simp [fownerS, fwaitsS, fvaluesS, froomS]; omega)))) ?_
                  refine XO.pu (Pu.move rfl) ?_
                  refine XO.cR Try.call14 (lnum_ok) ?_
                  refine XO.pu (Pu.move rfl) ?_
                  refine XO.cR Try.call14 (lnum_ok) ?_
                  refine XO.pu (Pu.neq rfl rfl) ?_
                  refine XO.pu (Pu.pickF rfl rfl) ?_
                  refine XO.nil ?_
                  refine X.sub (p' := [(103, _), (16, _), (15, _), (14, _), (13, _), (12, _), (11, _), (10, _), (9, _), (6, _)]) ⟨rfl, rfl, rfl, rfl, rfl, rfl, rfl, rfl, rfl, rfl, trivial⟩ ?_
                  refine X.know 103 (.bool false) rfl (congrArg Value.bool ((by first | rfl | (simp [fownerS, fwaitsS, fvaluesS, froomS]; done) | (simp [fownerS, fwaitsS, fvaluesS, froomS]; omega)))) ?_
                  refine X.condF rfl ?_
                  refine X.skip ?_
                  refine X.seq ?_
                  refine X.region ?_
                  refine XO.pu (Pu.move rfl) ?_
                  refine XO.pu (Pu.move rfl) ?_
                  refine XO.know 105 (.bool true) rfl (congrArg Value.bool ((by first | rfl | (simp [fownerS, fwaitsS, fvaluesS, froomS]; done) | (simp [fownerS, fwaitsS, fvaluesS, froomS]; omega)))) ?_
                  refine XO.pu (Pu.move rfl) ?_
                  refine XO.cR Try.call14 (lnum_ok) ?_
                  refine XO.pu (Pu.eql rfl rfl) ?_
                  refine XO.pu (Pu.move rfl) ?_
                  refine XO.know 109 (.bool false) rfl (congrArg Value.bool ((by first | rfl | (simp [fownerS, fwaitsS, fvaluesS, froomS]; done) | (simp [fownerS, fwaitsS, fvaluesS, froomS]; omega)))) ?_
                  refine XO.pu (Pu.move rfl) ?_
                  refine XO.pu (Pu.eql rfl rfl) ?_
                  refine XO.pu (Pu.pickF rfl rfl) ?_
                  refine XO.pu (Pu.pickT rfl rfl) ?_
                  refine XO.pu (Pu.move rfl) ?_
                  refine XO.know 114 (.bool true) rfl (congrArg Value.bool ((by first | rfl | (simp [fownerS, fwaitsS, fvaluesS, froomS]; done) | (simp [fownerS, fwaitsS, fvaluesS, froomS]; omega)))) ?_
                  refine XO.pu (Pu.move rfl) ?_
                  refine XO.cR Try.call14 (lnum_ok) ?_
                  refine XO.pu (Pu.eql rfl rfl) ?_
                  refine XO.pu (Pu.move rfl) ?_
                  refine XO.know 118 (.bool false) rfl (congrArg Value.bool ((by first | rfl | (simp [fownerS, fwaitsS, fvaluesS, froomS]; done) | (simp [fownerS, fwaitsS, fvaluesS, froomS]; omega)))) ?_
                  refine XO.pu (Pu.move rfl) ?_
                  refine XO.pu (Pu.len rfl Try.underlying29) ?_
                  refine XO.pu (Pu.eql rfl rfl) ?_
                  refine XO.pu (Pu.pickF rfl rfl) ?_
                  refine XO.pu (Pu.pickT rfl rfl) ?_
                  refine XO.pu (Pu.move rfl) ?_
                  refine XO.know 124 (.bool true) rfl (congrArg Value.bool ((by first | rfl | (simp [fownerS, fwaitsS, fvaluesS, froomS]; done) | (simp [fownerS, fwaitsS, fvaluesS, froomS]; omega)))) ?_
                  refine XO.pu (Pu.move rfl) ?_
                  refine XO.cR Try.call14 (lnum_ok) ?_
                  refine XO.pu (Pu.eql rfl rfl) ?_
                  refine XO.pu (Pu.move rfl) ?_
                  refine XO.know 128 (.bool false) rfl (congrArg Value.bool ((by first | rfl | (simp [fownerS, fwaitsS, fvaluesS, froomS]; done) | (simp [fownerS, fwaitsS, fvaluesS, froomS]; omega)))) ?_
                  refine XO.pu (Pu.move rfl) ?_
                  refine XO.pu (Pu.len rfl Try.underlying28) ?_
                  refine XO.pu (Pu.eql rfl rfl) ?_
                  refine XO.pu (Pu.move rfl) ?_
                  refine XO.know 132 (.bool true) rfl (congrArg Value.bool ((by first | rfl | (simp [fownerS, fwaitsS, fvaluesS, froomS]; done) | (simp [fownerS, fwaitsS, fvaluesS, froomS]; omega)))) ?_
                  refine XO.pu (Pu.move rfl) ?_
                  refine XO.pu (Pu.eql rfl rfl) ?_
                  refine XO.pu (Pu.pickT rfl rfl) ?_
                  refine XO.pu (Pu.pickF rfl rfl) ?_
                  refine XO.pu (Pu.pickT rfl rfl) ?_
                  refine XO.pu (Pu.move rfl) ?_
                  refine XO.know 138 (.bool true) rfl (congrArg Value.bool ((by first | rfl | (simp [fownerS, fwaitsS, fvaluesS, froomS]; done) | (simp [fownerS, fwaitsS, fvaluesS, froomS]; omega)))) ?_
                  refine XO.cR Try.call11 (works_ok) ?_
                  refine XO.pu (Pu.pickT rfl rfl) ?_
                  refine XO.pu (Pu.assign rfl) ?_
                  refine XO.nil ?_
                  refine X.sub (p' := [(6, _)]) ⟨rfl, trivial⟩ ?_
                  refine X.retL (q) Try.func7 (res1 Try.results7 rfl) ⟨_, rfl, rfl, _, rfl⟩
    · skip
      refine X.know 21 (.bool true) rfl (congrArg Value.bool (by simp; omega)) ?_
      refine X.condT rfl ?_
      refine X.seq ?_
      refine X.region ?_
      refine XO.cR Try.call11 (works_ok) ?_
      refine XO.pu (Pu.assign rfl) ?_
      refine XO.nil ?_
      refine X.sub (p' := [(6, _), (3, _), (1, _), (2, _)]) ⟨rfl, rfl, rfl, rfl, trivial⟩ ?_
      refine X.retL (q) Try.func7 (res1 Try.results7 rfl) ⟨_, rfl, rfl, _, rfl⟩
  · skip
    refine XO.cR Try.call23 (small_no (hrm.le leA) (hs.le leA) ok) ?_
    refine XO.pu (Pu.not rfl) ?_
    refine XO.nil ?_
    refine X.sub (p' := [(21, _), (6, _), (3, _), (1, _), (2, _)]) ⟨rfl, rfl, rfl, rfl, rfl, trivial⟩ ?_
    refine X.know 21 (.bool true) rfl (congrArg Value.bool (rfl)) ?_
    refine X.condT rfl ?_
    refine X.seq ?_
    refine X.region ?_
    refine XO.cR Try.call11 (works_ok) ?_
    refine XO.pu (Pu.assign rfl) ?_
    refine XO.nil ?_
    refine X.sub (p' := [(6, _), (3, _), (1, _), (2, _)]) ⟨rfl, rfl, rfl, rfl, trivial⟩ ?_
    refine X.retL (q) Try.func7 (res1 Try.results7 rfl) ⟨_, rfl, rfl, _, rfl⟩
end
end Go.Proofs.Ytlgnnhpbomfdiaa

