/- What functions of package log, of its references and of its laws do: contracts of calls, proved by walking their code. -/
import Derived.Test.YtiehcgmbkjdagaaH
import Derived.KernelRfl
set_option maxRecDepth 100000
set_option linter.unusedVariables false
set_option linter.unusedSimpArgs false
namespace Go.Proofs.Ytiehcgmbkjdagaa
open Go Go.RowKit Wx

/-! ### the chapter's rows -/
def T0 : Tkn := ⟨258, [(0, 2), (1, 1), (0, 1)], 2, 0, 0, 0⟩
theorem ok0 : okT T0 := by decide
theorem turns0 : turnsOf [0, 0, 1, 0] = [(0, 2), (1, 1), (0, 1)] := by kernel_rfl
theorem len0 : (encB T0).length = 23 := by kernel_rfl
theorem dec0 : decP (encB T0) = (some T0, 0) := by kernel_rfl
theorem head0 : (encB T0).take 19 = [87, 76, 79, 71, 2, 1, 0, 0, 3, 0, 2, 1, 1, 0, 1, 2, 0, 0, 0] := by kernel_rfl
theorem nine0 : (encB T0).getD 9 0 = 0 := by kernel_rfl
def bad0 : List Int := (encB T0).set 9 1
theorem dec1 : decP bad0 = (none, 210) := by kernel_rfl
section
variable {G : World} {q : List HP} {a b : Option Addr} {c d p n2 n3 i0 : Nat} {l : List Int}
set_option maxHeartbeats 2000000 in
theorem works_ok  : CallF Try.prog G 12 [] [] (Ret fun v q' => v = .bool true ∧ q' = []) := by
  refine CallF.of Try.func12 Try.ntmps12 rfl (fun F cs => ?_)
  refine X.sub (p' := []) trivial ?_
  refine X.seq ?_
  refine X.region ?_
  refine XO.pu (Pu.assign rfl) ?_
  refine XO.nil ?_
  refine X.sub (p' := [(0, _)]) ⟨rfl, trivial⟩ ?_
  refine X.seq ?_
  refine X.region ?_
  refine XO.ef (Ef.litL (Value.int .i64) [0, 0, 1, 0] Try.underlying48 Try.info3 rfl rfl rfl rfl rfl rfl (fun _ => rfl)) ?_
  rintro _ _ ⟨g, rfl, rfl⟩
  refine XO.cX Try.call23 (Le.refl _) (Turns_ok (th := [0, 0, 1, 0]) ((Sees.lsH _).le leA) (by decide) (by decide)) ?_
  rintro _ _ ⟨a1, c1, rfl, rfl⟩
  rw [turns0]
  refine XO.pu (Pu.move rfl) ?_
  refine XO.pu (Pu.extract rfl rfl) ?_
  refine XO.pu (Pu.extract rfl rfl) ?_
  refine XO.pu (Pu.assign rfl) ?_
  refine XO.pu (Pu.assign rfl) ?_
  refine XO.nil ?_
  refine X.sub (p' := [(2, _), (1, _), (0, _)]) ⟨rfl, rfl, rfl, trivial⟩ ?_
  refine X.seq ?_
  refine X.region ?_
  refine XO.pu (Pu.move rfl) ?_
  refine XO.pu (Pu.build (cells := [_, _, _, _]) [(0, 1), (1, 1), (2, 1), (3, 1)] Try.zeroValue27 Try.underlying27 (by kernel_rfl) rfl rfl) ?_
  refine XO.pu (Pu.build (cells := [_, _, _, _, _, _]) [(0, 1), (1, 1), (2, 4)] Try.zeroValue29 Try.underlying29 (by kernel_rfl) rfl rfl) ?_
  refine XO.ef (Ef.alloc Try.zeroValue29) ?_
  rintro _ _ ⟨n1, rfl, rfl⟩
  refine XO.ef0 (Ef.stA Try.sizeOf29) ?_
  rintro _ _ ⟨rfl, rfl⟩
  refine XO.nil ?_
  refine X.sub (p' := [(3, _), (2, _), (0, _)]) ⟨rfl, rfl, rfl, trivial⟩ ?_
  refine X.seq ?_
  refine X.region ?_
  refine XO.ldA Try.isAgg29 Try.sizeOf29 ?_
  refine XO.cX Try.call13 (Le.refl _) (Encode_ok (t := T0) (a := a1) (c := c1) ((Sees.rsH _).le leA) ok0 (by decide)) ?_
  rintro _ _ ⟨a2, c2, rfl, rfl⟩
  refine XO.le (q' := lsH (Value.int .u8) 5 a2 c2 (encB T0) :: _) (Le.refl _) ?_
  refine XO.fact (fun w s => s.lsLen) (fun hcap => ?_)
  refine XO.pu (Pu.move rfl) ?_
  refine XO.pu (Pu.extract rfl rfl) ?_
  refine XO.pu (Pu.extract rfl rfl) ?_
  refine XO.pu (Pu.assign rfl) ?_
  refine XO.pu (Pu.assign rfl) ?_
  refine XO.nil ?_
  refine X.sub (p' := [(5, _), (4, _), (3, _), (2, _), (0, _)]) ⟨rfl, rfl, rfl, rfl, rfl, trivial⟩ ?_
  refine X.seq ?_
  refine X.region ?_
  refine XO.pu (Pu.move rfl) ?_
  refine XO.cX Try.call17 (Le.refl _) (Decode_ok (l := encB T0) (a := a2) (c := c2) ((Sees.lsH _).le leA) (encB_bs ok0) (by rw [len0]; omega) hcap.1) ?_
  rintro _ _ ⟨t1, a3, c3, ht, rfl, rfl⟩
  rw [dec0] at ht ⊢; obtain rfl : t1 = T0 := ht
  refine XO.pu (Pu.move rfl) ?_
  refine XO.pu (Pu.extract rfl rfl) ?_
  refine XO.pu (Pu.extract rfl rfl) ?_
  refine XO.ef (Ef.alloc Try.zeroValue29) ?_
  rintro _ _ ⟨n2, rfl, rfl⟩
  refine XO.ef0 (Ef.stA Try.sizeOf29) ?_
  rintro _ _ ⟨rfl, rfl⟩
  refine XO.pu (Pu.assign rfl) ?_
  refine XO.nil ?_
  refine X.sub (p' := [(7, _), (6, _), (5, _), (4, _), (3, _), (2, _), (0, _)]) ⟨rfl, rfl, rfl, rfl, rfl, rfl, rfl, trivial⟩ ?_
  refine X.seq ?_
  refine X.seq ?_
  refine X.region ?_
  refine XO.pu (Pu.move rfl) ?_
  refine XO.cF Try.call15 (num_ok _) ?_
  rintro _ _ ⟨rfl, rfl⟩ _ e_; simp only [ca, na] at e_; subst e_
  refine XO.pu (Pu.move rfl) ?_
  refine XO.cF Try.call15 (num_ok _) ?_
  rintro _ _ ⟨rfl, rfl⟩ _ e_; simp only [ca, na] at e_; subst e_
  refine XO.pu (Pu.add rfl rfl (by omega) (by omega)) ?_
  refine XO.pu (Pu.move rfl) ?_
  refine XO.cF Try.call15 (num_ok _) ?_
  rintro _ _ ⟨rfl, rfl⟩ _ e_; simp only [ca, na] at e_; subst e_
  refine XO.pu (Pu.add rfl rfl (by omega) (by omega)) ?_
  refine XO.pu (Pu.neq rfl rfl) ?_
  refine XO.pu (Pu.move rfl) ?_
  refine XO.know 37 (.bool false) rfl (congrArg Value.bool (rfl)) ?_
  refine XO.pu (Pu.move rfl) ?_
  refine XO.pu (Pu.len rfl Try.underlying31) ?_
  refine XO.pu (Pu.neq rfl rfl) ?_
  refine XO.pu (Pu.pickF rfl rfl) ?_
  refine XO.pu (Pu.move rfl) ?_
  refine XO.know 42 (.bool false) rfl (congrArg Value.bool (by rw [len0]; rfl)) ?_
  refine XO.pu (Pu.move rfl) ?_
  have hcap1 := hcap.1; have hl23 := len0
  refine XO.pu (Pu.sliceHi rfl rfl Try.underlying31 Try.sizeOf5 (by omega) (by omega)) ?_
  have hs19 : Sees (lsH (Value.int .u8) 5 a2 c2 (encB T0) :: F) a2 (By ((encB T0).take 19)) := by rw [By, List.map_take]; exact (Sees.lsH _).take 19
  refine XO.know 44 (.slice a2 ((encB T0).take 19).length c2) rfl (congrArg (fun n => Value.slice a2 n c2) (by rw [List.length_take, len0]; rfl)) ?_
  refine XO.toStr ((encB T0).take 19) Try.underlying31 Try.underlying5 Try.underlying9 hs19 ?_
  refine XO.pu (Pu.neqS rfl rfl) ?_
  refine XO.pu (Pu.pickF rfl rfl) ?_
  refine XO.pu (Pu.move rfl) ?_
  refine XO.know 48 (.bool false) rfl (congrArg Value.bool (by rw [head0, show (⟨[87, 76, 79, 71, 2, 1, 0, 0, 3, 0, 2, 1, 1, 0, 1, 2, 0, 0, 0].toArray⟩ : ByteArray) = bstr [87, 76, 79, 71, 2, 1, 0, 0, 3, 0, 2, 1, 1, 0, 1, 2, 0, 0, 0] from rfl]; simp)) ?_
  refine XO.ldA Try.isAgg29 Try.sizeOf29 ?_
  refine XO.ldA Try.isAgg29 Try.sizeOf29 ?_
  refine XO.lsadr (l := encB T0) (fl := Value.int .u8) (by rw [len0]; omega) (fun g5 e_ => ?_); subst e_
  refine XO.cR Try.call19 (RSame_ok (t := T0) (u := T0) (a := a1) (b := a3) ((Sees.rsH []).le leA) ((Sees.rsH []).le leA) (by decide)) ?_
  refine XO.pu (Pu.not rfl) ?_
  refine XO.pu (Pu.pickF rfl rfl) ?_
  refine XO.nil ?_
  refine X.sub (p' := [(53, _), (4, _), (0, _)]) ⟨rfl, rfl, rfl, trivial⟩ ?_
  refine X.know 53 (.bool false) rfl (congrArg Value.bool (by decide)) ?_
  refine X.condF rfl ?_
  refine X.skip ?_
  refine X.seq ?_
  refine X.region ?_
  refine XO.pu (Pu.move rfl) ?_
  refine XO.pu (Pu.indexAddr rfl rfl Try.underlying31 Try.sizeOf5 (by omega) (by omega)) ?_
  refine XO.ld Try.isAgg5 ?_ (hc := (by first | exact clA | exact Cl.e1 (n := 9) (Sees.lsH (f := Value.int .u8) (l := encB T0) (ty := 5) (a := some ⟨g5, 0, none⟩) (c := c2) []) leA (by rw [len0]; omega) rfl))
  refine XO.know 56 (.int .u8 0) rfl (congrArg (Value.int .u8) ((getD_lt _ _ _ _).symm.trans nine0)) ?_
  refine XO.pu (Pu.addW rfl rfl) ?_
  refine XO.pu (Pu.indexAddr rfl rfl Try.underlying31 Try.sizeOf5 (by omega) (by omega)) ?_
  refine XO.know 57 (.int .u8 1) rfl (rfl) ?_
  refine XO.ef0 (Ef.setL (f := Value.int .u8) (l := encB T0) (u := 1) (n := 9) rfl rfl Try.sizeOf5 rfl (by rw [len0]; omega) rfl rfl fndA) ?_
  rintro _ _ ⟨rfl, rfl⟩
  rw [show (encB T0).set 9 1 = bad0 from rfl]
  have hlb : bad0.length = 23 := by rw [bad0, List.length_set, len0]
  have hbb : Bs bad0 := by intro x hx; rcases List.mem_or_eq_of_mem_set hx with hx | rfl; exact encB_bs ok0 x hx; omega
  refine XO.nil ?_
  refine X.sub (p' := [(4, _), (0, _)]) ⟨rfl, rfl, trivial⟩ ?_
  refine X.seq ?_
  refine X.region ?_
  refine XO.pu (Pu.move rfl) ?_
  refine XO.know 60 (.slice (some ⟨g5, 0, none⟩) bad0.length c2) rfl (by rw [hlb, len0]) ?_
  refine XO.cX Try.call17 (Le.refl _) (Decode_ok (l := bad0) (a := some ⟨g5, 0, none⟩) (c := c2) ((Sees.lsH _).le leA) hbb (by rw [hlb]; omega) (by rw [hlb]; omega)) ?_
  rintro _ _ ⟨t2, a4, c4, ht, rfl, rfl⟩
  rw [dec1] at ht ⊢
  refine XO.pu (Pu.move rfl) ?_
  refine XO.pu (Pu.extract rfl rfl) ?_
  refine XO.pu (Pu.extract rfl rfl) ?_
  refine XO.ef (Ef.alloc Try.zeroValue29) ?_
  rintro _ _ ⟨n3, rfl, rfl⟩
  refine XO.ef0 (Ef.stA Try.sizeOf29) ?_
  rintro _ _ ⟨rfl, rfl⟩
  refine XO.pu (Pu.assign rfl) ?_
  refine XO.nil ?_
  refine X.sub (p' := [(9, _), (0, _)]) ⟨rfl, rfl, trivial⟩ ?_
  refine X.seq ?_
  refine X.region ?_
  refine XO.pu (Pu.move rfl) ?_
  refine XO.cF Try.call15 (num_ok _) ?_
  rintro _ _ ⟨rfl, rfl⟩ _ e_; simp only [ca, na] at e_; subst e_
  refine XO.pu (Pu.eql rfl rfl) ?_
  refine XO.pu (Pu.assign rfl) ?_
  refine XO.nil ?_
  refine X.sub (p' := [(0, _)]) ⟨rfl, trivial⟩ ?_
  refine X.retL [] Try.func12 (res1 Try.results12 rfl) ⟨_, rfl, rfl, rfl⟩
end
end Go.Proofs.Ytiehcgmbkjdagaa

