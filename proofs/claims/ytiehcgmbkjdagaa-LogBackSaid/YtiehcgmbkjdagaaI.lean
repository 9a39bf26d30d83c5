/- What functions of package log, of its references and of its laws do: contracts of calls, proved by walking their code. -/
import Derived.Test.YtiehcgmbkjdagaaH
import Derived.KernelRfl
set_option maxRecDepth 100000
set_option linter.unusedVariables false
set_option linter.unusedSimpArgs false
namespace Go.Proofs.Ytiehcgmbkjdagaa
open Go Go.RowKit Wx

theorem ar1 {n i k : Nat} (h : n - i = k + 1) : n - (i + 1) = k := by omega
theorem ar2 {i a b : Nat} (h : 2 * i ≤ a) (h2 : a + 1 < b) : 2 * (i + 1) ≤ b := by omega
theorem ar3 {n i : Nat} (h : i < n) : n - (i + 1) < n - i := by omega
theorem pMag_eq {m : List Int} (h : 4 ≤ m.length) : (m.take 4 = magicL → pMag magicL m = some (m.drop 4)) ∧ (m.take 4 ≠ magicL → pMag magicL m = none) := by
  match m, h with
  | x0 :: x1 :: x2 :: x3 :: r, _ =>
    simp only [List.take_succ_cons, List.take_zero, List.drop_succ_cons, List.drop_zero, magicL, List.cons.injEq, and_true, pMag]
    refine ⟨fun ⟨a, b, c, d⟩ => by simp [a, b, c, d], fun h => ?_⟩
    split <;> try rfl
    split <;> try rfl
    split <;> try rfl
    split <;> try rfl
    simp_all
theorem pWord_eq {m : List Int} (h : 4 ≤ m.length) : pWord m = some (m[0] + m[1] * 256 + m[2] * 65536 + m[3] * 16777216, m.drop 4) := by
  match m, h with
  | x0 :: x1 :: x2 :: x3 :: r, _ => simp [pWord, pwF]
theorem pHead_none {m : List Int} {x : Int} {r s : List Int} (h : pMag magicL m = some r) (h2 : pWord r = some (x, s)) (h3 : pNum s = none) : takenP m = none := by unfold takenP pHead; rw [h]; simp [h2, h3]
theorem pEnd_1 {h : Int} {ts : List Turn} {m : List Int} (hm : m.length < 4) : pEnd h ts m = none := by
  unfold pEnd
  match m, hm with
  | [], _ => rfl
  | [_], _ => rfl
  | [_, _], _ => rfl
  | [_, _, x], _ => simp [pByte, pNum, pnF]
theorem pEnd_2 {h : Int} {ts : List Turn} {l : List Int} {i : Nat} (hi : i + 3 < l.length) : pEnd h ts (l.drop i) = match pNum (l.drop (i + 3)) with | none => none | some (st, l4) => if l4 = [] ∧ okT ⟨h, ts, l[i]'(by omega), l[i + 1]'(by omega), l[i + 2]'(by omega), st⟩ then some ⟨h, ts, l[i]'(by omega), l[i + 1]'(by omega), l[i + 2]'(by omega), st⟩ else none := by
  rw [List.drop_eq_getElem_cons (show i < l.length by omega), List.drop_eq_getElem_cons (show i + 1 < l.length by omega), List.drop_eq_getElem_cons (show i + 1 + 1 < l.length by omega)]
  simp only [pEnd, pByte]
  rfl
section
variable {G : World} {q : List HP} {a b : Option Addr} {c d p n2 n3 i0 : Nat} {l : List Int}
set_option maxHeartbeats 2000000 in
theorem RDecode_ok (hs : Sees q a (By l)) (hb : Bs l) (hL : l.length ≤ 100000) (hc : l.length ≤ c) : CallF Try.prog G 18 [.slice a l.length c] q (Ret fun v q' => decS q l v q') := by
  refine CallF.of Try.func18 Try.ntmps18 rfl (fun F cs => ?_)
  refine X.sub (p' := [(0, _)]) ⟨rfl, trivial⟩ ?_
  rcases Nat.lt_or_ge l.length 12 with h12 | h12
  · skip
    refine X.seq ?_
    refine X.region ?_
    refine XO.ef (Ef.alloc Try.zeroValue29) ?_
    rintro _ _ ⟨n1, rfl, rfl⟩
    refine XO.pu (Pu.assign rfl) ?_
    refine XO.nil ?_
    refine X.sub (p' := [(3, _), (2, _), (0, _)]) ⟨rfl, rfl, rfl, trivial⟩ ?_
    refine X.seq ?_
    refine X.seq ?_
    refine X.draw [] Try.mixed (by kernel_rfl) (by kernel_rfl) rfl ?_
    refine XD.pu 0 rfl (Pu.move rfl) ?_
    refine XD.pu 1 rfl (Pu.len rfl Try.underlying31) ?_
    refine XD.pu 2 rfl (Pu.lss rfl rfl) ?_
    refine XD.pu 3 rfl (Pu.move rfl) ?_
    refine XD.know 16 (.bool true) rfl (congrArg Value.bool (by simp; omega)) ?_
    refine XD.pass 4 rfl ?_
    refine XD.pass 5 rfl ?_
    refine XD.pass 6 rfl ?_
    refine XD.pass 7 rfl ?_
    refine XD.pass 8 rfl ?_
    refine XD.pass 9 rfl ?_
    refine XD.pass 10 rfl ?_
    refine XD.pass 11 rfl ?_
    refine XD.pass 12 rfl ?_
    refine XD.pass 13 rfl ?_
    refine XD.pu 14 rfl (Pu.pickT rfl rfl) ?_
    refine XD.nil ?_
    refine X.sub (p' := [(27, _), (3, _), (2, _), (0, _)]) ⟨rfl, rfl, rfl, rfl, trivial⟩ ?_
    refine X.condT rfl ?_
    refine X.seq ?_
    refine X.region ?_
    refine XO.pu (Pu.build (cells := [_, _, _, _, _, _]) [(0, 1), (1, 1), (2, 4)] Try.zeroValue29 Try.underlying29 (by kernel_rfl) rfl rfl) ?_
    refine XO.ef0 (Ef.stA Try.sizeOf29) ?_
    rintro _ _ ⟨rfl, rfl⟩
    refine XO.pu (Pu.assign rfl) ?_
    refine XO.nil ?_
    refine X.sub (p' := [(3, _), (2, _), (0, _)]) ⟨rfl, rfl, rfl, trivial⟩ ?_
    have hd : decP l = (none, 210) := decP_1 (.inl (by omega))
    refine X.retL (rsH tcs 2 57 none 0 [] :: q) Try.func18 (resC Try.results18 (ResOk.cell rfl (LV.agg Try.isAgg29 Try.sizeOf29 hasA rfl) (ResOk.tmp rfl ResOk.nil))) ⟨_, rfl, noT, none, 0, by rw [hd]; rfl, by rw [hd]; rfl, rfl⟩ (Le.trans leA (Le.rsH_nil tcs 2 _ _))
  · skip
    have htk : (l.take (l.length - 4)).length = l.length - 4 := (by simp)
    have hsb : Sees q a (By (l.take (l.length - 4))) := by rw [By, List.map_take]; exact hs.take _
    have hbb : Bs (l.take (l.length - 4)) := fun x hx => hb x (List.mem_of_mem_take hx)
    refine X.adr hs (by simp; omega) (fun b1 o1 e_ => ?_); subst e_
    refine X.seq ?_
    refine X.region ?_
    refine XO.ef (Ef.alloc Try.zeroValue29) ?_
    rintro _ _ ⟨n2, rfl, rfl⟩
    refine XO.pu (Pu.assign rfl) ?_
    refine XO.nil ?_
    refine X.sub (p' := [(3, _), (2, _), (0, _)]) ⟨rfl, rfl, rfl, trivial⟩ ?_
    refine X.seq ?_
    refine X.seq ?_
    refine X.draw [] Try.mixed (by kernel_rfl) (by kernel_rfl) rfl ?_
    refine XD.pu 0 rfl (Pu.move rfl) ?_
    refine XD.pu 1 rfl (Pu.len rfl Try.underlying31) ?_
    refine XD.pu 2 rfl (Pu.lss rfl rfl) ?_
    refine XD.pu 3 rfl (Pu.move rfl) ?_
    refine XD.know 16 (.bool false) rfl (congrArg Value.bool (by simp; omega)) ?_
    refine XD.pu 4 rfl (Pu.move rfl) ?_
    refine XD.pu 5 rfl (Pu.move rfl) ?_
    refine XD.pu 6 rfl (Pu.len rfl Try.underlying31) ?_
    refine XD.pu 7 rfl (Pu.sub rfl rfl (by omega) (by omega)) ?_
    refine XD.pu 8 rfl (Pu.sliceHi rfl rfl Try.underlying31 Try.sizeOf5 (by omega) (by omega)) ?_
    refine XD.pu 11 rfl (Pu.move rfl) ?_
    refine XD.toStrN 12 l Try.underlying31 Try.underlying5 Try.underlying9 hs ?_
    refine XD.know 21 (.slice (some ⟨b1, o1, none⟩) (l.take (l.length - 4)).length c) rfl (congrArg (fun n => Value.slice (some ⟨b1, o1, none⟩) n c) (by rw [htk]; omega)) ?_
    refine XD.cX 9 Try.call20 (Le.refl _) (Sealed_ok (l := l.take (l.length - 4)) (hsb.le leA) hbb (by omega)) ?_
    rintro _ _ ⟨a1, c1, rfl, rfl⟩
    rw [cut_rdA rfl]
    refine ⟨HL.app (HL.bytes hs) trivial, ?_⟩
    refine XD.toStr 10 (sealB (l.take (l.length - 4))) Try.underlying31 Try.underlying5 Try.underlying9 ((Sees.lsH _).le leA) (fun L_ => ?_)
    refine XD.pu 13 rfl (Pu.neqS rfl rfl) ?_
    refine XD.pu 14 rfl (Pu.pickF rfl rfl) ?_
    refine XD.nil ?_
    refine X.sub (p' := [(27, _), (3, _), (2, _), (0, _)]) ⟨rfl, rfl, rfl, rfl, trivial⟩ ?_
    have hbq : Bs (sealB (l.take (l.length - 4))) := sealB_bs hbb
    rcases (Decidable.em (sealB (l.take (l.length - 4)) = l)).symm with hse | hse
    · skip
      refine X.know 27 (.bool true) rfl (congrArg Value.bool (by rw [bstr_beq hbq hb]; simp [hse])) ?_
      refine X.condT rfl ?_
      refine X.seq ?_
      refine X.region ?_
      refine XO.pu (Pu.build (cells := [_, _, _, _, _, _]) [(0, 1), (1, 1), (2, 4)] Try.zeroValue29 Try.underlying29 (by kernel_rfl) rfl rfl) ?_
      refine XO.ef0 (Ef.stA Try.sizeOf29) ?_
      rintro _ _ ⟨rfl, rfl⟩
      refine XO.pu (Pu.assign rfl) ?_
      refine XO.nil ?_
      refine X.sub (p' := [(3, _), (2, _), (0, _)]) ⟨rfl, rfl, rfl, trivial⟩ ?_
      have hd : decP l = (none, 210) := decP_1 (.inr hse)
      refine X.retL (rsH tcs 2 57 none 0 [] :: q) Try.func18 (resC Try.results18 (ResOk.cell rfl (LV.agg Try.isAgg29 Try.sizeOf29 hasA rfl) (ResOk.tmp rfl ResOk.nil))) ⟨_, rfl, noT, none, 0, by rw [hd]; rfl, by rw [hd]; rfl, rfl⟩ (Le.trans leA (Le.rsH_nil tcs 2 _ _))
    · skip
      refine X.know 27 (.bool false) rfl (congrArg Value.bool (by rw [bstr_beq hbq hb]; simp [hse])) ?_
      have hok : ¬ (l.length < 12 ∨ sealB (l.take (l.length - 4)) ≠ l) := by rintro (x | x); omega; exact x hse
      generalize hB : l.take (l.length - 4) = B at *
      refine X.condF rfl ?_
      refine X.skip ?_
      refine X.seq ?_
      refine X.region ?_
      refine XO.pu (Pu.move rfl) ?_
      refine XO.pu (Pu.move rfl) ?_
      refine XO.pu (Pu.len rfl Try.underlying31) ?_
      refine XO.pu (Pu.sub rfl rfl (by omega) (by omega)) ?_
      refine XO.pu (Pu.sliceHi rfl rfl Try.underlying31 Try.sizeOf5 (by omega) (by omega)) ?_
      refine XO.know 33 (.slice (some ⟨b1, o1, none⟩) B.length c) rfl (congrArg (fun n => Value.slice (some ⟨b1, o1, none⟩) n c) (by rw [htk]; omega)) ?_
      have hBl : 8 ≤ B.length := (by omega); have ht4 : (B.take 4).length = 4 := (by simp; omega); have hb4 : Bs (B.take 4) := fun x hx => hbb x (List.mem_of_mem_take hx)
      have hs4 : Sees q (some ⟨b1, o1, none⟩) (By (B.take 4)) := by rw [By, List.map_take]; exact hsb.take _
      refine XO.pu (Pu.assign rfl) ?_
      refine XO.nil ?_
      refine X.sub (p' := [(4, _), (3, _), (2, _)]) ⟨rfl, rfl, rfl, trivial⟩ ?_
      refine X.seq ?_
      refine X.seq ?_
      refine X.region ?_
      refine XO.pu (Pu.move rfl) ?_
      refine XO.pu (Pu.sliceHi rfl rfl Try.underlying31 Try.sizeOf5 (by omega) (by omega)) ?_
      refine XO.know 35 (.slice (some ⟨b1, o1, none⟩) (B.take 4).length c) rfl (congrArg (fun n => Value.slice (some ⟨b1, o1, none⟩) n c) (by rw [ht4]; rfl)) ?_
      refine XO.toStr (B.take 4) Try.underlying31 Try.underlying5 Try.underlying9 hs4 ?_
      refine XO.pu (Pu.neqS rfl rfl) ?_
      refine XO.nil ?_
      refine X.sub (p' := [(37, _), (4, _), (3, _), (2, _)]) ⟨rfl, rfl, rfl, rfl, trivial⟩ ?_
      have hmq : Bs magicL := magicL_rng
      have hM := pMag_eq (m := B) (by omega)
      rcases (Decidable.em (B.take 4 = magicL)).symm with hm | hm
      · skip
        refine X.know 37 (.bool true) rfl (congrArg Value.bool (by rw [show (⟨[87, 76, 79, 71].toArray⟩ : ByteArray) = bstr magicL from rfl, bstr_beq hb4 hmq]; simp [hm])) ?_
        refine X.condT rfl ?_
        refine X.seq ?_
        refine X.region ?_
        refine XO.pu (Pu.build (cells := [_, _, _, _, _, _]) [(0, 1), (1, 1), (2, 4)] Try.zeroValue29 Try.underlying29 (by kernel_rfl) rfl rfl) ?_
        refine XO.ef0 (Ef.stA Try.sizeOf29) ?_
        rintro _ _ ⟨rfl, rfl⟩
        refine XO.pu (Pu.assign rfl) ?_
        refine XO.nil ?_
        refine X.sub (p' := [(3, _), (4, _), (2, _)]) ⟨rfl, rfl, rfl, trivial⟩ ?_
        have hd : decP l = (none, 211) := decP_2 (by rw [hB]; exact hok) (by rw [hB]; exact takenP_1 (hM.2 hm))
        refine X.retL (rsH tcs 2 57 none 0 [] :: q) Try.func18 (resC Try.results18 (ResOk.cell rfl (LV.agg Try.isAgg29 Try.sizeOf29 hasA rfl) (ResOk.tmp rfl ResOk.nil))) ⟨_, rfl, noT, none, 0, by rw [hd]; rfl, by rw [hd]; rfl, rfl⟩ (Le.trans leA (Le.rsH_nil tcs 2 _ _))
      · skip
        refine X.know 37 (.bool false) rfl (congrArg Value.bool (by rw [show (⟨[87, 76, 79, 71].toArray⟩ : ByteArray) = bstr magicL from rfl, bstr_beq hb4 hmq]; simp [hm])) ?_
        have hM := hM.1 hm; have hW := pWord_eq (m := B.drop 4) (by simp; omega); rw [List.drop_drop] at hW
        have h4 : 4 < B.length := (by omega); have e4 := hbb _ (List.getElem_mem h4)
        have h5 : 5 < B.length := (by omega); have e5 := hbb _ (List.getElem_mem h5)
        have h6 : 6 < B.length := (by omega); have e6 := hbb _ (List.getElem_mem h6)
        have h7 : 7 < B.length := (by omega); have e7 := hbb _ (List.getElem_mem h7)
        simp only [List.getElem_drop] at hW
        refine X.condF rfl ?_
        refine X.skip ?_
        refine X.seq ?_
        refine X.draw [] Try.mixed (by kernel_rfl) (by kernel_rfl) rfl ?_
        refine XD.pu 0 rfl (Pu.move rfl) ?_
        refine XD.pu 1 rfl (Pu.indexAddr rfl rfl Try.underlying31 Try.sizeOf5 (by omega) (by omega)) ?_
        refine XD.ld 2 Try.isAgg5 ?_ (hc := (by first | exact clA | exact Cl.e1 (n := 4) hsb leA h4 rfl | exact Cl.e1 (n := 5) hsb leA h5 rfl | exact Cl.e1 (n := 6) hsb leA h6 rfl | exact Cl.e1 (n := 7) hsb leA h7 rfl))
        refine XD.pu 3 rfl (Pu.convW rfl Try.underlying5 Try.underlying22) ?_
        refine XD.pu 4 rfl (Pu.move rfl) ?_
        refine XD.pu 5 rfl (Pu.indexAddr rfl rfl Try.underlying31 Try.sizeOf5 (by omega) (by omega)) ?_
        refine XD.ld 6 Try.isAgg5 ?_ (hc := (by first | exact clA | exact Cl.e1 (n := 4) hsb leA h4 rfl | exact Cl.e1 (n := 5) hsb leA h5 rfl | exact Cl.e1 (n := 6) hsb leA h6 rfl | exact Cl.e1 (n := 7) hsb leA h7 rfl))
        refine XD.pu 7 rfl (Pu.convW rfl Try.underlying5 Try.underlying22) ?_
        refine XD.pu 8 rfl (Pu.mulW rfl rfl) ?_
        refine XD.pu 9 rfl (Pu.addW rfl rfl) ?_
        refine XD.pu 10 rfl (Pu.move rfl) ?_
        refine XD.pu 11 rfl (Pu.indexAddr rfl rfl Try.underlying31 Try.sizeOf5 (by omega) (by omega)) ?_
        refine XD.ld 12 Try.isAgg5 ?_ (hc := (by first | exact clA | exact Cl.e1 (n := 4) hsb leA h4 rfl | exact Cl.e1 (n := 5) hsb leA h5 rfl | exact Cl.e1 (n := 6) hsb leA h6 rfl | exact Cl.e1 (n := 7) hsb leA h7 rfl))
        refine XD.pu 13 rfl (Pu.convW rfl Try.underlying5 Try.underlying22) ?_
        refine XD.pu 14 rfl (Pu.mulW rfl rfl) ?_
        refine XD.pu 15 rfl (Pu.addW rfl rfl) ?_
        refine XD.pu 16 rfl (Pu.move rfl) ?_
        refine XD.pu 17 rfl (Pu.indexAddr rfl rfl Try.underlying31 Try.sizeOf5 (by omega) (by omega)) ?_
        refine XD.ld 18 Try.isAgg5 ?_ (hc := (by first | exact clA | exact Cl.e1 (n := 4) hsb leA h4 rfl | exact Cl.e1 (n := 5) hsb leA h5 rfl | exact Cl.e1 (n := 6) hsb leA h6 rfl | exact Cl.e1 (n := 7) hsb leA h7 rfl))
        refine XD.pu 19 rfl (Pu.convW rfl Try.underlying5 Try.underlying22) ?_
        refine XD.pu 20 rfl (Pu.mulW rfl rfl) ?_
        refine XD.pu 21 rfl (Pu.addW rfl rfl) ?_
        generalize hhv : B[4] + B[5] * 256 + B[6] * 65536 + B[7] * 16777216 = hv at *
        refine XD.know 60 (.int .u32 hv) rfl (congrArg (Value.int .u32) (by simp only [wu32]; omega)) ?_
        refine XD.pu 22 rfl (Pu.build (cells := [_, _, _, _, _, _]) [(0, 1), (1, 1), (2, 4)] Try.zeroValue29 Try.underlying29 (by kernel_rfl) rfl rfl) ?_
        refine XD.ef 23 rfl (Ef.alloc Try.zeroValue29) ?_
        rintro _ _ ⟨n3, rfl, rfl⟩
        refine ⟨hlA, ?_⟩
        refine XD.ef0 24 rfl (Ef.stA Try.sizeOf29) ?_
        rintro _ _ ⟨rfl, rfl⟩
        refine ⟨trivial, ?_⟩
        refine XD.nil ?_
        refine X.sub (p' := [(5, _), (4, _), (3, _), (2, _)]) ⟨rfl, rfl, rfl, rfl, trivial⟩ ?_
        refine X.seq ?_
        refine X.region ?_
        refine XO.pu (Pu.move rfl) ?_
        have hBm : B.length ≤ 100000 := (by omega)
        refine XO.cX Try.call35 (Le.refl _) (take_ok (l := B) (i0 := 8) (hsb.le leA) hbb (by omega) (by omega)) ?_
        rintro _ _ ⟨hN0, rfl⟩
        rcases hN0.symm with ⟨hN, rfl⟩ | ⟨cnt, at1, hN, hlt1, hle1, rfl⟩
        · skip
          refine XO.pu (Pu.move rfl) ?_
          refine XO.pu (Pu.extract rfl rfl) ?_
          refine XO.pu (Pu.extract rfl rfl) ?_
          refine XO.pu (Pu.assign rfl) ?_
          refine XO.pu (Pu.assign rfl) ?_
          refine XO.nil ?_
          refine X.sub (p' := [(7, _), (6, _), (5, _), (4, _), (3, _), (2, _)]) ⟨rfl, rfl, rfl, rfl, rfl, rfl, trivial⟩ ?_
          refine X.seq ?_
          refine X.seq ?_
          refine X.region ?_
          refine XO.pu (Pu.move rfl) ?_
          refine XO.pu (Pu.eql rfl rfl) ?_
          refine XO.nil ?_
          refine X.sub (p' := [(68, _), (7, _), (6, _), (5, _), (4, _), (3, _), (2, _)]) ⟨rfl, rfl, rfl, rfl, rfl, rfl, rfl, trivial⟩ ?_
          refine X.know 68 (.bool true) rfl (congrArg Value.bool (rfl)) ?_
          refine X.condT rfl ?_
          refine X.seq ?_
          refine X.region ?_
          refine XO.pu (Pu.build (cells := [_, _, _, _, _, _]) [(0, 1), (1, 1), (2, 4)] Try.zeroValue29 Try.underlying29 (by kernel_rfl) rfl rfl) ?_
          refine XO.ef0 (Ef.stA Try.sizeOf29) ?_
          rintro _ _ ⟨rfl, rfl⟩
          refine XO.pu (Pu.assign rfl) ?_
          refine XO.nil ?_
          refine X.sub (p' := [(3, _), (7, _), (6, _), (5, _), (4, _), (2, _)]) ⟨rfl, rfl, rfl, rfl, rfl, rfl, trivial⟩ ?_
          have hd : decP l = (none, 211) := decP_2 (by rw [hB]; exact hok) (by rw [hB]; exact pHead_none hM hW hN)
          refine X.retL (rsH tcs 2 57 none 0 [] :: q) Try.func18 (resC Try.results18 (ResOk.cell rfl (LV.agg Try.isAgg29 Try.sizeOf29 hasA rfl) (ResOk.tmp rfl ResOk.nil))) ⟨_, rfl, noT, none, 0, by rw [hd]; rfl, by rw [hd]; rfl, rfl⟩ (Le.trans leA (Le.rsH_nil tcs 2 _ _))
        · skip
          refine XO.pu (Pu.move rfl) ?_
          refine XO.pu (Pu.extract rfl rfl) ?_
          refine XO.pu (Pu.extract rfl rfl) ?_
          refine XO.pu (Pu.assign rfl) ?_
          refine XO.pu (Pu.assign rfl) ?_
          refine XO.nil ?_
          refine X.sub (p' := [(7, _), (6, _), (5, _), (4, _), (3, _), (2, _)]) ⟨rfl, rfl, rfl, rfl, rfl, rfl, trivial⟩ ?_
          refine X.seq ?_
          refine X.seq ?_
          refine X.region ?_
          refine XO.pu (Pu.move rfl) ?_
          refine XO.pu (Pu.eql rfl rfl) ?_
          refine XO.nil ?_
          refine X.sub (p' := [(68, _), (7, _), (6, _), (5, _), (4, _), (3, _), (2, _)]) ⟨rfl, rfl, rfl, rfl, rfl, rfl, rfl, trivial⟩ ?_
          refine X.know 68 (.bool false) rfl (congrArg Value.bool (by simp; omega)) ?_
          have hH := pHead_of hM hW hN
          refine X.condF rfl ?_
          refine X.skip ?_
          refine X.seq ?_
          refine X.seq ?_
          refine X.region ?_
          refine XO.pu (Pu.assign rfl) ?_
          refine XO.nil ?_
          refine X.sub (p' := [(8, _), (7, _), (6, _), (5, _), (4, _), (3, _), (2, _)]) ⟨rfl, rfl, rfl, rfl, rfl, rfl, rfl, trivial⟩ ?_
          refine X.block ?_
          refine X.at (X.loop (fun (s : (Nat × Nat) × List Turn × Option Addr × Nat) => s.1.1 ≤ cnt.toNat ∧ s.1.2 ≤ B.length ∧ 2 * s.1.1 ≤ s.1.2 ∧ s.2.1.length = s.1.1 ∧ pTurns cnt.toNat (B.drop at1) = (pTurns (cnt.toNat - s.1.1) (B.drop s.1.2)).map (consT s.2.1)) (fun s => [(2, .pointer (some ⟨n2, 0, none⟩)), (4, .slice (some ⟨b1, o1, none⟩) B.length c), (5, .pointer (some ⟨n3, 0, none⟩)), (6, .int .i64 cnt), (7, .int .i64 (s.1.2 : Int)), (8, .int .i64 (s.1.1 : Int))]) (fun s => pto n3 (.cells [.int .u32 hv, .slice s.2.2.1 s.2.1.length s.2.2.2, .int .i64 0, .int .i64 0, .int .i64 0, .int .i64 0].toArray 29 (0, 0)) :: pto n2 (.cells [.int .u32 0, .slice none 0 0, .int .i64 0, .int .i64 0, .int .i64 0, .int .i64 0].toArray 29 (0, 0)) :: rsH tcs 2 57 s.2.2.1 s.2.2.2 s.2.1 :: (q ++ F)) (fun s => cnt.toNat - s.1.1) (fun s hi_ ih => ?_) ((0, at1), [], none, 0) ⟨by dsimp only; omega, by dsimp only; omega, by dsimp only; omega, rfl, by dsimp only; rw [Nat.sub_zero, show consT [] = id from funext fun x => rfl]; simp⟩) ⟨(by first | rfl | exact congrArg some (congrArg (Value.int _) (by omega)) | (show some _ = some _; simp; done) | (show some _ = some _; simp; omega)), (by first | rfl | exact congrArg some (congrArg (Value.int _) (by omega)) | (show some _ = some _; simp; done) | (show some _ = some _; simp; omega)), (by first | rfl | exact congrArg some (congrArg (Value.int _) (by omega)) | (show some _ = some _; simp; done) | (show some _ = some _; simp; omega)), (by first | rfl | exact congrArg some (congrArg (Value.int _) (by omega)) | (show some _ = some _; simp; done) | (show some _ = some _; simp; omega)), (by first | rfl | exact congrArg some (congrArg (Value.int _) (by omega)) | (show some _ = some _; simp; done) | (show some _ = some _; simp; omega)), (by first | rfl | exact congrArg some (congrArg (Value.int _) (by omega)) | (show some _ = some _; simp; done) | (show some _ = some _; simp; omega)), trivial⟩ (Le.trans (Le.trans leA (Le.rsH_nil tcs 2 57 _)) leA)
          try dsimp only at hi_ ih ⊢
          obtain ⟨g1, g2, g3, g4, g5⟩ := hi_
          obtain ⟨⟨i, at2⟩, ts, ta, tc⟩ := s; dsimp only at *
          refine X.seq ?_
          refine X.seq ?_
          refine X.region ?_
          refine XO.pu (Pu.move rfl) ?_
          refine XO.pu (Pu.move rfl) ?_
          refine XO.pu (Pu.lss rfl rfl) ?_
          refine XO.nil ?_
          refine X.sub (p' := [(72, _), (2, _), (4, _), (5, _), (6, _), (7, _), (8, _)]) ⟨rfl, rfl, rfl, rfl, rfl, rfl, rfl, trivial⟩ ?_
          refine X.part 72 rfl (fun h0 => ?_) (fun h0 => ?_)
          · skip
            have h0 := of_decide_eq_true h0; have hi0 : i < cnt.toNat := (by omega)
            obtain ⟨k, hk⟩ : ∃ k, cnt.toNat - i = k + 1 := ⟨cnt.toNat - i - 1, by omega⟩
            rw [hk] at g5
            refine X.condT rfl ?_
            refine X.skip ?_
            refine X.seq ?_
            refine X.block ?_
            refine X.seq ?_
            refine X.seq ?_
            refine X.region ?_
            refine XO.pu (Pu.move rfl) ?_
            refine XO.pu (Pu.move rfl) ?_
            refine XO.pu (Pu.len rfl Try.underlying31) ?_
            refine XO.pu (Pu.geq rfl rfl) ?_
            refine XO.nil ?_
            refine X.sub (p' := [(78, _), (2, _), (4, _), (5, _), (6, _), (7, _), (8, _)]) ⟨rfl, rfl, rfl, rfl, rfl, rfl, rfl, trivial⟩ ?_
            refine X.part 78 rfl (fun h1 => ?_) (fun h1 => ?_)
            · skip
              have h1 := of_decide_eq_true h1
              refine X.condT rfl ?_
              refine X.seq ?_
              refine X.region ?_
              refine XO.pu (Pu.build (cells := [_, _, _, _, _, _]) [(0, 1), (1, 1), (2, 4)] Try.zeroValue29 Try.underlying29 (by kernel_rfl) rfl rfl) ?_
              refine XO.ef0 (Ef.stA Try.sizeOf29) ?_
              rintro _ _ ⟨rfl, rfl⟩
              refine XO.pu (Pu.assign rfl) ?_
              refine XO.nil ?_
              refine X.sub (p' := [(3, _), (2, _), (4, _), (5, _), (6, _), (7, _), (8, _)]) ⟨rfl, rfl, rfl, rfl, rfl, rfl, rfl, trivial⟩ ?_
              have hd : decP l = (none, 211) := decP_2 (by rw [hB]; exact hok) (by rw [hB]; by_cases hc9 : 65536 < cnt; exact takenP_4 hH hc9; exact takenP_5 hH (g5.trans (pTurns_no1 _ (by rw [List.drop_eq_nil_of_le (by omega)]; rfl))))
              refine X.retL (rsH tcs 2 57 none 0 [] :: q) Try.func18 (resC Try.results18 (ResOk.cell rfl (LV.agg Try.isAgg29 Try.sizeOf29 hasA rfl) (ResOk.tmp rfl ResOk.nil))) ⟨_, rfl, noT, none, 0, by rw [hd]; rfl, by rw [hd]; rfl, rfl⟩ (Le.trans leA (Le.rsH_nil tcs 2 _ _))
            · skip
              have h1 := of_decide_eq_false h1; have hat : at2 < B.length := (by omega); have hxb : pByte (B.drop at2) = some (B[at2], B.drop (at2 + 1)) := (by rw [List.drop_eq_getElem_cons hat]; rfl)
              have hxr := hbb _ (List.getElem_mem hat)
              refine X.condF rfl ?_
              refine X.skip ?_
              refine X.seq ?_
              refine X.region ?_
              refine XO.pu (Pu.move rfl) ?_
              refine XO.pu (Pu.move rfl) ?_
              refine XO.pu (Pu.add rfl rfl (by omega) (by omega)) ?_
              refine XO.know 83 (.int .i64 ((at2 + 1 : Nat) : Int)) rfl (congrArg (Value.int .i64) (by omega)) ?_
              refine XO.cX Try.call35 (Le.refl _) (take_ok (l := B) (i0 := at2 + 1) (hsb.le leA) hbb (by omega) (by omega)) ?_
              rintro _ _ ⟨hn0, rfl⟩
              rcases hn0.symm with ⟨hn, rfl⟩ | ⟨n, at3, hn, hlt, hle, rfl⟩
              · skip
                refine XO.pu (Pu.move rfl) ?_
                refine XO.pu (Pu.extract rfl rfl) ?_
                refine XO.pu (Pu.extract rfl rfl) ?_
                refine XO.pu (Pu.assign rfl) ?_
                refine XO.pu (Pu.assign rfl) ?_
                refine XO.nil ?_
                refine X.sub (p' := [(10, _), (9, _), (2, _), (4, _), (5, _), (6, _), (7, _), (8, _)]) ⟨rfl, rfl, rfl, rfl, rfl, rfl, rfl, rfl, trivial⟩ ?_
                refine X.seq ?_
                refine X.seq ?_
                refine X.region ?_
                refine XO.pu (Pu.move rfl) ?_
                refine XO.pu (Pu.eql rfl rfl) ?_
                refine XO.nil ?_
                refine X.sub (p' := [(88, _), (10, _), (9, _), (2, _), (4, _), (5, _), (6, _), (7, _), (8, _)]) ⟨rfl, rfl, rfl, rfl, rfl, rfl, rfl, rfl, rfl, trivial⟩ ?_
                refine X.know 88 (.bool true) rfl (congrArg Value.bool (rfl)) ?_
                refine X.condT rfl ?_
                refine X.seq ?_
                refine X.region ?_
                refine XO.pu (Pu.build (cells := [_, _, _, _, _, _]) [(0, 1), (1, 1), (2, 4)] Try.zeroValue29 Try.underlying29 (by kernel_rfl) rfl rfl) ?_
                refine XO.ef0 (Ef.stA Try.sizeOf29) ?_
                rintro _ _ ⟨rfl, rfl⟩
                refine XO.pu (Pu.assign rfl) ?_
                refine XO.nil ?_
                refine X.sub (p' := [(3, _), (10, _), (9, _), (2, _), (4, _), (5, _), (6, _), (7, _), (8, _)]) ⟨rfl, rfl, rfl, rfl, rfl, rfl, rfl, rfl, rfl, trivial⟩ ?_
                have hd : decP l = (none, 211) := decP_2 (by rw [hB]; exact hok) (by rw [hB]; by_cases hc9 : 65536 < cnt; exact takenP_4 hH hc9; exact takenP_5 hH (g5.trans (pTurns_no2 _ hxb hn)))
                refine X.retL (rsH tcs 2 57 none 0 [] :: q) Try.func18 (resC Try.results18 (ResOk.cell rfl (LV.agg Try.isAgg29 Try.sizeOf29 hasA rfl) (ResOk.tmp rfl ResOk.nil))) ⟨_, rfl, noT, none, 0, by rw [hd]; rfl, by rw [hd]; rfl, rfl⟩ (Le.trans leA (Le.rsH_nil tcs 2 _ _))
              · skip
                refine XO.pu (Pu.move rfl) ?_
                refine XO.pu (Pu.extract rfl rfl) ?_
                refine XO.pu (Pu.extract rfl rfl) ?_
                refine XO.pu (Pu.assign rfl) ?_
                refine XO.pu (Pu.assign rfl) ?_
                refine XO.nil ?_
                refine X.sub (p' := [(10, _), (9, _), (2, _), (4, _), (5, _), (6, _), (7, _), (8, _)]) ⟨rfl, rfl, rfl, rfl, rfl, rfl, rfl, rfl, trivial⟩ ?_
                refine X.seq ?_
                refine X.seq ?_
                refine X.region ?_
                refine XO.pu (Pu.move rfl) ?_
                refine XO.pu (Pu.eql rfl rfl) ?_
                refine XO.nil ?_
                refine X.sub (p' := [(88, _), (10, _), (9, _), (2, _), (4, _), (5, _), (6, _), (7, _), (8, _)]) ⟨rfl, rfl, rfl, rfl, rfl, rfl, rfl, rfl, rfl, trivial⟩ ?_
                refine X.know 88 (.bool false) rfl (congrArg Value.bool (by simp; omega)) ?_
                refine X.condF rfl ?_
                refine X.skip ?_
                refine X.seq ?_
                refine X.draw [] Try.mixed (by kernel_rfl) (by kernel_rfl) rfl ?_
                refine XD.pu 0 rfl (Pu.fieldAddr 23 1 0 rfl Try.underlying29 rfl Try.sizeOf23) ?_
                refine XD.ld 1 Try.isAgg23 ?_ (hc := (by first | exact clA | exact Cl.e1 (n := at2) hsb leA hat rfl))
                refine XD.pu 2 rfl (Pu.move rfl) ?_
                refine XD.pu 3 rfl (Pu.move rfl) ?_
                refine XD.pu 4 rfl (Pu.indexAddr rfl rfl Try.underlying31 Try.sizeOf5 (by omega) (by omega)) ?_
                refine XD.ld 5 Try.isAgg5 ?_ (hc := (by first | exact clA | exact Cl.e1 (n := at2) hsb leA hat rfl))
                refine XD.pu 6 rfl (Pu.conv rfl Try.underlying5 Try.underlying3 (wrap64_of (by omega) (by omega))) ?_
                refine XD.pu 7 rfl (Pu.move rfl) ?_
                refine XD.pu 8 rfl (Pu.build (cells := [_, _]) [(0, 1), (1, 1)] Try.zeroValue57 Try.underlying57 (by kernel_rfl) rfl rfl) ?_
                refine XD.ef 9 rfl (Ef.litR1 (u := (B[at2], n)) tcs Try.underlying23 Try.info57 rfl rfl (fun _ => rfl) rfl) ?_
                rintro _ _ ⟨g2_, rfl, rfl⟩
                refine ⟨hlA, ?_⟩
                refine XD.ef 10 rfl (Ef.appRA (l := ts) (m := [(B[at2], n)]) Try.underlying23 Try.info57 rfl rfl (fun _ => rfl) rfl rfl fndA ((Sees.rsH _).le leA) (fun _ => rfl) (by simp; omega) (by simp; omega)) ?_
                rintro _ _ ⟨ta2, tc2, rfl, rfl⟩
                refine ⟨hlA, ?_⟩
                refine XD.pu 11 rfl (Pu.fieldAddr 23 1 0 rfl Try.underlying29 rfl Try.sizeOf23) ?_
                refine XD.ef0 12 rfl (Ef.st Try.sizeOf23) ?_
                rintro _ _ ⟨rfl, rfl⟩
                refine ⟨trivial, ?_⟩
                refine XD.nil ?_
                refine X.sub (p' := [(10, _), (2, _), (4, _), (5, _), (6, _), (8, _)]) ⟨rfl, rfl, rfl, rfl, rfl, rfl, trivial⟩ ?_
                refine X.region ?_
                refine XO.pu (Pu.move rfl) ?_
                refine XO.pu (Pu.assign rfl) ?_
                refine XO.nil ?_
                refine X.sub (p' := [(7, _), (2, _), (4, _), (5, _), (6, _), (8, _)]) ⟨rfl, rfl, rfl, rfl, rfl, rfl, trivial⟩ ?_
                refine X.inBlock ?_
                refine X.region ?_
                refine XO.pu (Pu.move rfl) ?_
                refine XO.pu (Pu.add rfl rfl (by omega) (by omega)) ?_
                refine XO.pu (Pu.assign rfl) ?_
                refine XO.nil ?_
                refine X.sub (p' := [(8, _), (7, _), (2, _), (4, _), (5, _), (6, _)]) ⟨rfl, rfl, rfl, rfl, rfl, rfl, trivial⟩ ?_
                have hkk : cnt.toNat - (i + 1) = k := ar1 hk; have hC2 : 2 * (i + 1) ≤ at3 := ar2 g3 hlt; have hD2 : (ts ++ [(B[at2], n)]).length = i + 1 := (by rw [List.length_append, g4]; rfl)
                refine X.at (ih ((i + 1, at3), ts ++ [(B[at2], n)], ta2, tc2) ⟨hi0, hle, hC2, hD2, by dsimp only; rw [g5, hkk]; exact pTurns_step ts hxb hn⟩ (ar3 hi0)) ⟨(by first | rfl | exact congrArg some (congrArg (Value.int _) (by omega)) | (show some _ = some _; simp; done) | (show some _ = some _; simp; omega)), (by first | rfl | exact congrArg some (congrArg (Value.int _) (by omega)) | (show some _ = some _; simp; done) | (show some _ = some _; simp; omega)), (by first | rfl | exact congrArg some (congrArg (Value.int _) (by omega)) | (show some _ = some _; simp; done) | (show some _ = some _; simp; omega)), (by first | rfl | exact congrArg some (congrArg (Value.int _) (by omega)) | (show some _ = some _; simp; done) | (show some _ = some _; simp; omega)), (by first | rfl | exact congrArg some (congrArg (Value.int _) (by omega)) | (show some _ = some _; simp; done) | (show some _ = some _; simp; omega)), (by first | rfl | exact congrArg some (congrArg (Value.int _) (by omega)) | (show some _ = some _; simp; done) | (show some _ = some _; simp; omega)), trivial⟩ leA
          · skip
            have h0 := of_decide_eq_false h0
            have hT : pTurns cnt.toNat (B.drop at1) = some (ts, B.drop at2) := by rw [g5, show cnt.toNat - i = 0 by omega]; simp [pTurns, consT]
            have hcm : ¬ 65536 < cnt := by omega
            have hE := takenP_6 hH hcm hT
            refine X.condF rfl ?_
            refine X.exit rfl ?_
            refine X.seq ?_
            refine X.seq ?_
            refine X.region ?_
            refine XO.pu (Pu.move rfl) ?_
            refine XO.pu (Pu.add rfl rfl (by omega) (by omega)) ?_
            refine XO.pu (Pu.move rfl) ?_
            refine XO.pu (Pu.len rfl Try.underlying31) ?_
            refine XO.pu (Pu.gtr rfl rfl) ?_
            refine XO.nil ?_
            refine X.sub (p' := [(107, _), (2, _), (4, _), (5, _), (7, _)]) ⟨rfl, rfl, rfl, rfl, rfl, trivial⟩ ?_
            refine X.part 107 rfl (fun h1 => ?_) (fun h1 => ?_)
            · skip
              have h1 := of_decide_eq_true h1
              refine X.condT rfl ?_
              refine X.seq ?_
              refine X.region ?_
              refine XO.pu (Pu.build (cells := [_, _, _, _, _, _]) [(0, 1), (1, 1), (2, 4)] Try.zeroValue29 Try.underlying29 (by kernel_rfl) rfl rfl) ?_
              refine XO.ef0 (Ef.stA Try.sizeOf29) ?_
              rintro _ _ ⟨rfl, rfl⟩
              refine XO.pu (Pu.assign rfl) ?_
              refine XO.nil ?_
              refine X.sub (p' := [(3, _), (2, _), (4, _), (5, _), (7, _)]) ⟨rfl, rfl, rfl, rfl, rfl, trivial⟩ ?_
              have hd : decP l = (none, 211) := decP_2 (by rw [hB]; exact hok) (by rw [hB, hE]; exact pEnd_1 (by simp; omega))
              refine X.retL (rsH tcs 2 57 none 0 [] :: q) Try.func18 (resC Try.results18 (ResOk.cell rfl (LV.agg Try.isAgg29 Try.sizeOf29 hasA rfl) (ResOk.tmp rfl ResOk.nil))) ⟨_, rfl, noT, none, 0, by rw [hd]; rfl, by rw [hd]; rfl, rfl⟩ (Le.trans leA (Le.rsH_nil tcs 2 _ _))
            · skip
              have h1 := of_decide_eq_false h1; have ha3 : at2 + 3 < B.length := (by omega); have hE2 := pEnd_2 (h := hv) (ts := ts) ha3; have ha0 : at2 < B.length := (by omega); have ha1 : at2 + 1 < B.length := (by omega); have ha2 : at2 + 2 < B.length := (by omega)
              rw [hE2] at hE
              refine X.condF rfl ?_
              refine X.skip ?_
              refine X.seq ?_
              refine X.region ?_
              refine XO.pu (Pu.move rfl) ?_
              refine XO.pu (Pu.move rfl) ?_
              refine XO.pu (Pu.add rfl rfl (by omega) (by omega)) ?_
              refine XO.know 112 (.int .i64 ((at2 + 3 : Nat) : Int)) rfl (congrArg (Value.int .i64) (by omega)) ?_
              refine XO.cX Try.call35 (Le.refl _) (take_ok (l := B) (i0 := at2 + 3) (hsb.le leA) hbb (by omega) (by omega)) ?_
              rintro _ _ ⟨hn0, rfl⟩
              have hx0 := hbb _ (List.getElem_mem ha0); have hx1 := hbb _ (List.getElem_mem ha1); have hx2 := hbb _ (List.getElem_mem ha2)
              rcases hn0 with ⟨sv, at3, hn, hlt, hle, rfl⟩ | ⟨hn, rfl⟩
              · skip
                refine XO.pu (Pu.move rfl) ?_
                refine XO.pu (Pu.extract rfl rfl) ?_
                refine XO.pu (Pu.extract rfl rfl) ?_
                refine XO.pu (Pu.assign rfl) ?_
                refine XO.pu (Pu.assign rfl) ?_
                refine XO.nil ?_
                refine X.sub (p' := [(12, _), (11, _), (2, _), (4, _), (5, _), (7, _)]) ⟨rfl, rfl, rfl, rfl, rfl, rfl, trivial⟩ ?_
                refine X.seq ?_
                refine X.draw [] Try.mixed (by kernel_rfl) (by kernel_rfl) rfl ?_
                refine XD.pu 0 rfl (Pu.move rfl) ?_
                refine XD.pu 1 rfl (Pu.move rfl) ?_
                refine XD.pu 2 rfl (Pu.indexAddr rfl rfl Try.underlying31 Try.sizeOf5 (by omega) (by omega)) ?_
                refine XD.ld 3 Try.isAgg5 ?_ (hc := (by first | exact clA | exact Cl.e1 (n := at2) hsb leA ha0 rfl | exact Cl.e1 (n := at2 + 1) hsb leA ha1 (by omega) | exact Cl.e1 (n := at2 + 2) hsb leA ha2 (by omega)))
                refine XD.pu 4 rfl (Pu.conv rfl Try.underlying5 Try.underlying24 (wrap64_of (by omega) (by omega))) ?_
                refine XD.pu 5 rfl (Pu.move rfl) ?_
                refine XD.pu 6 rfl (Pu.move rfl) ?_
                refine XD.pu 7 rfl (Pu.add rfl rfl (by omega) (by omega)) ?_
                refine XD.pu 8 rfl (Pu.indexAddr rfl rfl Try.underlying31 Try.sizeOf5 (by omega) (by omega)) ?_
                refine XD.ld 9 Try.isAgg5 ?_ (hc := (by first | exact clA | exact Cl.e1 (n := at2) hsb leA ha0 rfl | exact Cl.e1 (n := at2 + 1) hsb leA ha1 (by omega) | exact Cl.e1 (n := at2 + 2) hsb leA ha2 (by omega)))
                refine XD.pu 10 rfl (Pu.conv rfl Try.underlying5 Try.underlying25 (wrap64_of (by omega) (by omega))) ?_
                refine XD.pu 11 rfl (Pu.move rfl) ?_
                refine XD.pu 12 rfl (Pu.move rfl) ?_
                refine XD.pu 13 rfl (Pu.add rfl rfl (by omega) (by omega)) ?_
                refine XD.pu 14 rfl (Pu.indexAddr rfl rfl Try.underlying31 Try.sizeOf5 (by omega) (by omega)) ?_
                refine XD.ld 15 Try.isAgg5 ?_ (hc := (by first | exact clA | exact Cl.e1 (n := at2) hsb leA ha0 rfl | exact Cl.e1 (n := at2 + 1) hsb leA ha1 (by omega) | exact Cl.e1 (n := at2 + 2) hsb leA ha2 (by omega)))
                refine XD.pu 16 rfl (Pu.conv rfl Try.underlying5 Try.underlying3 (wrap64_of (by omega) (by omega))) ?_
                refine XD.pu 17 rfl (Pu.move rfl) ?_
                refine XD.pu 18 rfl (Pu.build (cells := [_, _, _, _]) [(0, 1), (1, 1), (2, 1), (3, 1)] Try.zeroValue27 Try.underlying27 (by kernel_rfl) rfl rfl) ?_
                refine XD.pu 19 rfl (Pu.fieldAddr 27 2 3 rfl Try.underlying29 rfl Try.sizeOf27) ?_
                refine XD.ef0 20 rfl (Ef.stA Try.sizeOf27) ?_
                rintro _ _ ⟨rfl, rfl⟩
                refine ⟨trivial, ?_⟩
                refine XD.nil ?_
                refine X.sub (p' := [(12, _), (2, _), (4, _), (5, _)]) ⟨rfl, rfl, rfl, rfl, trivial⟩ ?_
                refine X.seq ?_
                refine X.seq ?_
                refine X.region ?_
                refine XO.pu (Pu.move rfl) ?_
                refine XO.pu (Pu.move rfl) ?_
                refine XO.pu (Pu.len rfl Try.underlying31) ?_
                refine XO.pu (Pu.neq rfl rfl) ?_
                refine XO.pu (Pu.move rfl) ?_
                refine XO.sub (p' := [(140, _), (2, _), (5, _)]) ⟨rfl, rfl, rfl, trivial⟩ ?_
                apply XO.cutOr 4 144 140 rfl
                · skip
                  intro g1 M1; have h1 := g1; try simp only [decide_eq_true_eq, decide_eq_false_iff_not, bne_iff_ne, beq_iff_eq, ne_eq, bne_eq_false_iff_eq, beq_eq_false_iff_ne, Bool.not_eq_true', Bool.not_eq_false', Int.not_lt, Int.not_le, Bool.not_not, Bool.and_eq_true, Bool.and_eq_false_iff, Bool.true_and, Bool.and_true, beq_self_eq_true, Bool.or_eq_true, Bool.or_eq_false_iff] at h1
                  refine XO.ldA Try.isAgg29 Try.sizeOf29 ?_
                  refine XO.cR Try.call14 (RCheck_ok (t := ⟨hv, ts, B[at2], B[at2 + 1], B[at2 + 2], sv⟩) (a := ta) (c := tc) ((Sees.rsH _).le leA)) ?_
                  refine XO.pu (Pu.neq rfl rfl) ?_
                  refine XO.pu (Pu.pickF rfl rfl) ?_
                  exact XO.fin M1 ⟨orF g1, congrArg (fun x => some (Value.bool x)) g1.symm, rfl, rfl, trivial⟩
                · skip
                  intro g1 M1; have h1 := g1; try simp only [decide_eq_true_eq, decide_eq_false_iff_not, bne_iff_ne, beq_iff_eq, ne_eq, bne_eq_false_iff_eq, beq_eq_false_iff_ne, Bool.not_eq_true', Bool.not_eq_false', Int.not_lt, Int.not_le, Bool.not_not, Bool.and_eq_true, Bool.and_eq_false_iff, Bool.true_and, Bool.and_true, beq_self_eq_true, Bool.or_eq_true, Bool.or_eq_false_iff] at h1
                  refine XO.pass rfl ?_
                  refine XO.pass rfl ?_
                  refine XO.pass rfl ?_
                  refine XO.pu (Pu.pickT rfl rfl) ?_
                  exact XO.fin M1 ⟨orT g1, congrArg (fun x => some (Value.bool x)) g1.symm, rfl, rfl, trivial⟩
                · skip
                  refine XO.nil ?_
                  refine X.sub (p' := [(144, _), (2, _), (5, _)]) ⟨rfl, rfl, rfl, trivial⟩ ?_
                  refine X.part 144 rfl (fun h1 => ?_) (fun h1 => ?_)
                  · skip
                    try simp only [decide_eq_true_eq, decide_eq_false_iff_not, bne_iff_ne, beq_iff_eq, ne_eq, bne_eq_false_iff_eq, beq_eq_false_iff_ne, Bool.not_eq_true', Bool.not_eq_false', Int.not_lt, Int.not_le, Bool.not_not, Bool.and_eq_true, Bool.and_eq_false_iff, Bool.true_and, Bool.and_true, beq_self_eq_true, Bool.or_eq_true, Bool.or_eq_false_iff] at h1
                    refine X.condT rfl ?_
                    refine X.seq ?_
                    refine X.region ?_
                    refine XO.pu (Pu.build (cells := [_, _, _, _, _, _]) [(0, 1), (1, 1), (2, 4)] Try.zeroValue29 Try.underlying29 (by kernel_rfl) rfl rfl) ?_
                    refine XO.ef0 (Ef.stA Try.sizeOf29) ?_
                    rintro _ _ ⟨rfl, rfl⟩
                    refine XO.pu (Pu.assign rfl) ?_
                    refine XO.nil ?_
                    refine X.sub (p' := [(3, _), (2, _), (5, _)]) ⟨rfl, rfl, rfl, trivial⟩ ?_
                    rw [hn] at hE; dsimp only at hE
                    have hz : ¬ (B.drop at3 = [] ∧ okT ⟨hv, ts, B[at2], B[at2 + 1], B[at2 + 2], sv⟩) := by rintro ⟨x, y⟩; rw [List.drop_eq_nil_iff] at x; rcases h1 with h1 | h1; omega; rw [chk, if_pos y] at h1; simp at h1
                    have hd : decP l = (none, 211) := decP_2 (by rw [hB]; exact hok) (by rw [hB, hE]; rw [if_neg hz])
                    refine X.retL (rsH tcs 2 57 none 0 [] :: q) Try.func18 (resC Try.results18 (ResOk.cell rfl (LV.agg Try.isAgg29 Try.sizeOf29 hasA rfl) (ResOk.tmp rfl ResOk.nil))) ⟨_, rfl, noT, none, 0, by rw [hd]; rfl, by rw [hd]; rfl, rfl⟩ (Le.trans leA (Le.rsH_nil tcs 2 _ _))
                  · skip
                    try simp only [decide_eq_true_eq, decide_eq_false_iff_not, bne_iff_ne, beq_iff_eq, ne_eq, bne_eq_false_iff_eq, beq_eq_false_iff_ne, Bool.not_eq_true', Bool.not_eq_false', Int.not_lt, Int.not_le, Bool.not_not, Bool.and_eq_true, Bool.and_eq_false_iff, Bool.true_and, Bool.and_true, beq_self_eq_true, Bool.or_eq_true, Bool.or_eq_false_iff] at h1
                    refine X.condF rfl ?_
                    refine X.skip ?_
                    refine X.seq ?_
                    refine X.region ?_
                    refine XO.ldA Try.isAgg29 Try.sizeOf29 ?_
                    refine XO.ef0 (Ef.stA Try.sizeOf29) ?_
                    rintro _ _ ⟨rfl, rfl⟩
                    refine XO.pu (Pu.assign rfl) ?_
                    refine XO.nil ?_
                    refine X.sub (p' := [(3, _), (2, _)]) ⟨rfl, rfl, trivial⟩ ?_
                    rw [hn] at hE; dsimp only at hE
                    have hz : B.drop at3 = [] ∧ okT ⟨hv, ts, B[at2], B[at2 + 1], B[at2 + 2], sv⟩ := by obtain ⟨x, y⟩ := h1; exact ⟨List.drop_eq_nil_of_le (by omega), by unfold chk at y; split at y <;> first | assumption | simp at y⟩
                    rw [if_pos hz] at hE
                    have hd := decP_3 (by rw [hB]; exact hok) (by rw [hB]; exact hE)
                    refine X.retL (rsH tcs 2 57 ta tc ts :: q) Try.func18 (resC Try.results18 (ResOk.cell rfl (LV.agg Try.isAgg29 Try.sizeOf29 hasA rfl) (ResOk.tmp rfl ResOk.nil))) ⟨_, rfl, ⟨hv, ts, B[at2], B[at2 + 1], B[at2 + 2], sv⟩, ta, tc, by rw [hd]; rfl, by rw [hd]; rfl, rfl⟩
              · skip
                refine XO.pu (Pu.move rfl) ?_
                refine XO.pu (Pu.extract rfl rfl) ?_
                refine XO.pu (Pu.extract rfl rfl) ?_
                refine XO.pu (Pu.assign rfl) ?_
                refine XO.pu (Pu.assign rfl) ?_
                refine XO.nil ?_
                refine X.sub (p' := [(12, _), (11, _), (2, _), (4, _), (5, _), (7, _)]) ⟨rfl, rfl, rfl, rfl, rfl, rfl, trivial⟩ ?_
                refine X.seq ?_
                refine X.draw [] Try.mixed (by kernel_rfl) (by kernel_rfl) rfl ?_
                refine XD.pu 0 rfl (Pu.move rfl) ?_
                refine XD.pu 1 rfl (Pu.move rfl) ?_
                refine XD.pu 2 rfl (Pu.indexAddr rfl rfl Try.underlying31 Try.sizeOf5 (by omega) (by omega)) ?_
                refine XD.ld 3 Try.isAgg5 ?_ (hc := (by first | exact clA | exact Cl.e1 (n := at2) hsb leA ha0 rfl | exact Cl.e1 (n := at2 + 1) hsb leA ha1 (by omega) | exact Cl.e1 (n := at2 + 2) hsb leA ha2 (by omega)))
                refine XD.pu 4 rfl (Pu.conv rfl Try.underlying5 Try.underlying24 (wrap64_of (by omega) (by omega))) ?_
                refine XD.pu 5 rfl (Pu.move rfl) ?_
                refine XD.pu 6 rfl (Pu.move rfl) ?_
                refine XD.pu 7 rfl (Pu.add rfl rfl (by omega) (by omega)) ?_
                refine XD.pu 8 rfl (Pu.indexAddr rfl rfl Try.underlying31 Try.sizeOf5 (by omega) (by omega)) ?_
                refine XD.ld 9 Try.isAgg5 ?_ (hc := (by first | exact clA | exact Cl.e1 (n := at2) hsb leA ha0 rfl | exact Cl.e1 (n := at2 + 1) hsb leA ha1 (by omega) | exact Cl.e1 (n := at2 + 2) hsb leA ha2 (by omega)))
                refine XD.pu 10 rfl (Pu.conv rfl Try.underlying5 Try.underlying25 (wrap64_of (by omega) (by omega))) ?_
                refine XD.pu 11 rfl (Pu.move rfl) ?_
                refine XD.pu 12 rfl (Pu.move rfl) ?_
                refine XD.pu 13 rfl (Pu.add rfl rfl (by omega) (by omega)) ?_
                refine XD.pu 14 rfl (Pu.indexAddr rfl rfl Try.underlying31 Try.sizeOf5 (by omega) (by omega)) ?_
                refine XD.ld 15 Try.isAgg5 ?_ (hc := (by first | exact clA | exact Cl.e1 (n := at2) hsb leA ha0 rfl | exact Cl.e1 (n := at2 + 1) hsb leA ha1 (by omega) | exact Cl.e1 (n := at2 + 2) hsb leA ha2 (by omega)))
                refine XD.pu 16 rfl (Pu.conv rfl Try.underlying5 Try.underlying3 (wrap64_of (by omega) (by omega))) ?_
                refine XD.pu 17 rfl (Pu.move rfl) ?_
                refine XD.pu 18 rfl (Pu.build (cells := [_, _, _, _]) [(0, 1), (1, 1), (2, 1), (3, 1)] Try.zeroValue27 Try.underlying27 (by kernel_rfl) rfl rfl) ?_
                refine XD.pu 19 rfl (Pu.fieldAddr 27 2 3 rfl Try.underlying29 rfl Try.sizeOf27) ?_
                refine XD.ef0 20 rfl (Ef.stA Try.sizeOf27) ?_
                rintro _ _ ⟨rfl, rfl⟩
                refine ⟨trivial, ?_⟩
                refine XD.nil ?_
                refine X.sub (p' := [(12, _), (2, _), (4, _), (5, _)]) ⟨rfl, rfl, rfl, rfl, trivial⟩ ?_
                refine X.seq ?_
                refine X.seq ?_
                refine X.region ?_
                refine XO.pu (Pu.move rfl) ?_
                refine XO.pu (Pu.move rfl) ?_
                refine XO.pu (Pu.len rfl Try.underlying31) ?_
                refine XO.pu (Pu.neq rfl rfl) ?_
                refine XO.pu (Pu.move rfl) ?_
                refine XO.know 140 (.bool true) rfl (congrArg Value.bool (by simp; omega)) ?_
                refine XO.pass rfl ?_
                refine XO.pass rfl ?_
                refine XO.pass rfl ?_
                refine XO.pu (Pu.pickT rfl rfl) ?_
                refine XO.nil ?_
                refine X.sub (p' := [(144, _), (2, _), (5, _)]) ⟨rfl, rfl, rfl, trivial⟩ ?_
                refine X.condT rfl ?_
                refine X.seq ?_
                refine X.region ?_
                refine XO.pu (Pu.build (cells := [_, _, _, _, _, _]) [(0, 1), (1, 1), (2, 4)] Try.zeroValue29 Try.underlying29 (by kernel_rfl) rfl rfl) ?_
                refine XO.ef0 (Ef.stA Try.sizeOf29) ?_
                rintro _ _ ⟨rfl, rfl⟩
                refine XO.pu (Pu.assign rfl) ?_
                refine XO.nil ?_
                refine X.sub (p' := [(3, _), (2, _), (5, _)]) ⟨rfl, rfl, rfl, trivial⟩ ?_
                rw [hn] at hE; dsimp only at hE
                have hd : decP l = (none, 211) := decP_2 (by rw [hB]; exact hok) (by rw [hB, hE])
                refine X.retL (rsH tcs 2 57 none 0 [] :: q) Try.func18 (resC Try.results18 (ResOk.cell rfl (LV.agg Try.isAgg29 Try.sizeOf29 hasA rfl) (ResOk.tmp rfl ResOk.nil))) ⟨_, rfl, noT, none, 0, by rw [hd]; rfl, by rw [hd]; rfl, rfl⟩ (Le.trans leA (Le.rsH_nil tcs 2 _ _))
end
end Go.Proofs.Ytiehcgmbkjdagaa

