/- What functions of package sync, of its references and of its laws do: contracts of calls, proved by walking their code. -/
import Derived.Test.YtlgnnhpbomfdiaaM
import Derived.Test.YtlgnnhpbomfdiaaK
import Derived.Test.YtlgnnhpbomfdiaaL
import Derived.KernelRfl
set_option maxRecDepth 100000
set_option linter.unusedVariables false
set_option linter.unusedSimpArgs false
namespace Go.Proofs.Ytlgnnhpbomfdiaa
open Go Go.RowKit Wx
attribute [local irreducible] Wx.lsH Wx.rsH Wx.lsM Wx.rsM Wx.stars

/-! ### a Sync as one chunk -/
def syH (p : Nat) (σ : SyC) : HP := stars (syL p σ)
theorem Le.syOut (p : Nat) (σ : SyC) : Le [syH p σ] (syL p σ) := by have := Le.stars_out (syL p σ) []; rwa [List.append_nil] at this
theorem Le.syIn (p : Nat) (σ : SyC) : Le (syL p σ) [syH p σ] := by have := Le.stars_in (syL p σ) []; rwa [List.append_nil] at this
theorem Le.syInQ (p : Nat) (σ : SyC) (q : List HP) : Le (syL p σ ++ q) (syH p σ :: q) := Le.stars_in _ _
theorem Le.syOutQ (p : Nat) (σ : SyC) (q : List HP) : Le (syH p σ :: q) (syL p σ ++ q) := Le.stars_out _ _
section
variable {G : World} {q : List HP} {a b : Option Addr} {c d g p i n : Nat} {σ : SyC} {r : RS} {s : Sy} {k t v m wh nn th vv : Int}
theorem Owner_H (hR : Real σ s) {N : Nat} (hs : s.ok N) (hN : N ≤ 1000) : CallF Try.prog G 20 [.pointer (some ⟨p, 0, none⟩), .int .i64 m] [syH p σ] (Ret fun v q' => v = .tuple [.int .i64 (ownerS s m).1, .int .i64 (ownerS s m).2].toArray ∧ q' = [syH p σ]) :=
  CallF.conv (Le.syOut p σ) (Owner_ok hR hs hN) (by rintro _ _ ⟨_, rfl, h2, rfl⟩; exact ⟨_, ⟨_, rfl, h2, rfl⟩, (Le.syIn p σ)⟩)
theorem Lock_H (hR : Real σ s) {N : Nat} (hs : s.ok N) (hN : N ≤ 1000) : CallF Try.prog G 13 [.pointer (some ⟨p, 0, none⟩), .int .i64 m, .int .i64 t] [syH p σ] (Ret fun v q' => ∃ σ' , Real σ' (lockS s m t).1 ∧ v = .tuple [.bool (lockS s m t).2.1, .int .i64 (lockS s m t).2.2].toArray ∧ q' = [syH p σ']) :=
  CallF.conv (Le.syOut p σ) (Lock_ok hR hs hN) (by rintro _ _ ⟨_, rfl, σ', h1, h2, rfl⟩; exact ⟨_, ⟨_, rfl, σ', h1, h2, rfl⟩, (Le.syIn p σ')⟩)
theorem Unlock_H (hR : Real σ s) {N : Nat} (hs : s.ok N) (hN : N ≤ 1000) : CallF Try.prog G 15 [.pointer (some ⟨p, 0, none⟩), .int .i64 m, .int .i64 t] [syH p σ] (Ret fun v q' => ∃ σ' , Real σ' (unlockS s m t).1 ∧ v = .int .i64 (unlockS s m t).2 ∧ q' = [syH p σ']) :=
  CallF.conv (Le.syOut p σ) (Unlock_ok hR hs hN) (by rintro _ _ ⟨_, rfl, σ', h1, h2, rfl⟩; exact ⟨_, ⟨_, rfl, σ', h1, h2, rfl⟩, (Le.syIn p σ')⟩)
theorem Wait_H (hR : Real σ s) {N : Nat} (hs : s.ok N) (hN : N ≤ 1000) : CallF Try.prog G 16 [.pointer (some ⟨p, 0, none⟩), .int .i64 k, .int .i64 t] [syH p σ] (Ret fun v q' => ∃ σ' , Real σ' (waitS s k t).1 ∧ v = .int .i64 (waitS s k t).2 ∧ q' = [syH p σ']) :=
  CallF.conv (Le.syOut p σ) (Wait_ok hR hs hN) (by rintro _ _ ⟨_, rfl, σ', h1, h2, rfl⟩; exact ⟨_, ⟨_, rfl, σ', h1, h2, rfl⟩, (Le.syIn p σ')⟩)
theorem Signal_H (hR : Real σ s) {N : Nat} (hs : s.ok N) (hN : N ≤ 1000) : CallF Try.prog G 17 [.pointer (some ⟨p, 0, none⟩), .int .i64 k] [syH p σ] (Ret fun v q' => ∃ σ' , Real σ' (signalS s k).1 ∧ v = .tuple [.int .i64 (max (signalS s k).2.1 0), .bool (decide (0 ≤ (signalS s k).2.1)), .int .i64 (signalS s k).2.2].toArray ∧ q' = [syH p σ']) :=
  CallF.conv (Le.syOut p σ) (Signal_ok hR hs hN) (by rintro _ _ ⟨_, rfl, σ', h1, h2, rfl⟩; exact ⟨_, ⟨_, rfl, σ', h1, h2, rfl⟩, (Le.syIn p σ')⟩)
theorem All_H (hR : Real σ s) {N : Nat} (hs : s.ok N) (hN : N ≤ 1000) : CallF Try.prog G 30 [.pointer (some ⟨p, 0, none⟩), .int .i64 k] [syH p σ] (Ret fun v q' => ∃ σ' a' c', Real σ' (allS s k).1 ∧ v = .tuple [.slice a' (allS s k).2.1.length c', .int .i64 (allS s k).2.2].toArray ∧ q' = [lsH I64 3 a' c' (allS s k).2.1, syH p σ']) :=
  CallF.conv (Le.syOut p σ) (All_ok hR hs hN) (by rintro _ _ ⟨_, rfl, σ', a', c', h1, h2, rfl⟩; exact ⟨_, ⟨_, rfl, σ', a', c', h1, h2, rfl⟩, (Le.cons _ (Le.syIn p σ'))⟩)
theorem Send_H (hR : Real σ s) {N : Nat} (hs : s.ok N) (hN : N ≤ 1000) : CallF Try.prog G 18 [.pointer (some ⟨p, 0, none⟩), .int .i64 k, .int .i64 t] [syH p σ] (Ret fun v q' => ∃ σ' , Real σ' (sendS s k t).1 ∧ v = .tuple [.int .i64 (max (sendS s k t).2.1 0), .bool (decide (0 ≤ (sendS s k t).2.1)), .int .i64 (sendS s k t).2.2].toArray ∧ q' = [syH p σ']) :=
  CallF.conv (Le.syOut p σ) (Send_ok hR hs hN) (by rintro _ _ ⟨_, rfl, σ', h1, h2, rfl⟩; exact ⟨_, ⟨_, rfl, σ', h1, h2, rfl⟩, (Le.syIn p σ')⟩)
theorem Recv_H (hR : Real σ s) {N : Nat} (hs : s.ok N) (hN : N ≤ 1000) : CallF Try.prog G 19 [.pointer (some ⟨p, 0, none⟩), .int .i64 k] [syH p σ] (Ret fun v q' => ∃ σ' , Real σ' (recvS s k).1 ∧ v = .tuple [.int .i64 (recvS s k).2.1, .int .i64 (max (recvS s k).2.2.1 0), .bool (decide (0 ≤ (recvS s k).2.2.1)), .int .i64 (recvS s k).2.2.2].toArray ∧ q' = [syH p σ']) :=
  CallF.conv (Le.syOut p σ) (Recv_ok hR hs hN) (by rintro _ _ ⟨_, rfl, σ', h1, h2, rfl⟩; exact ⟨_, ⟨_, rfl, σ', h1, h2, rfl⟩, (Le.syIn p σ')⟩)
theorem Waits_H (hR : Real σ s) {N : Nat} (hs : s.ok N) (hN : N ≤ 1000) : CallF Try.prog G 21 [.pointer (some ⟨p, 0, none⟩), .int .i64 k] [syH p σ] (Ret fun v q' => ∃ a' c', v = .tuple [.slice a' (waitsS s k).1.length c', .int .i64 (waitsS s k).2].toArray ∧ q' = [lsH I64 3 a' c' (waitsS s k).1, syH p σ]) :=
  CallF.conv (Le.syOut p σ) (Waits_ok hR hs hN) (by rintro _ _ ⟨_, rfl, a', c', h2, rfl⟩; exact ⟨_, ⟨_, rfl, a', c', h2, rfl⟩, (Le.cons _ (Le.syIn p σ))⟩)
theorem Values_H (hR : Real σ s) {N : Nat} (hs : s.ok N) (hN : N ≤ 1000) : CallF Try.prog G 28 [.pointer (some ⟨p, 0, none⟩), .int .i64 k] [syH p σ] (Ret fun v q' => ∃ a' c', v = .tuple [.slice a' (valuesS s k).1.length c', .int .i64 (valuesS s k).2].toArray ∧ q' = [lsH I64 2 a' c' (valuesS s k).1, syH p σ]) :=
  CallF.conv (Le.syOut p σ) (Values_ok hR hs hN) (by rintro _ _ ⟨_, rfl, a', c', h2, rfl⟩; exact ⟨_, ⟨_, rfl, a', c', h2, rfl⟩, (Le.cons _ (Le.syIn p σ))⟩)
theorem Room_H (hR : Real σ s) {N : Nat} (hs : s.ok N) (hN : N ≤ 1000) : CallF Try.prog G 29 [.pointer (some ⟨p, 0, none⟩), .int .i64 k] [syH p σ] (Ret fun v q' => v = .tuple [.int .i64 (roomS s k).1, .int .i64 (roomS s k).2].toArray ∧ q' = [syH p σ]) :=
  CallF.conv (Le.syOut p σ) (Room_ok hR hs hN) (by rintro _ _ ⟨_, rfl, h2, rfl⟩; exact ⟨_, ⟨_, rfl, h2, rfl⟩, (Le.syIn p σ)⟩)
theorem lnum_ok  : CallF Try.prog G 14 [.int .i64 t] q (Ret fun v q' => v = .int .i64 t ∧ q' = q) := by
  refine CallF.of Try.func14 Try.ntmps14 rfl (fun F cs => ?_)
  refine X.sub (p' := [(0, _)]) ⟨rfl, trivial⟩ ?_
  refine X.seq ?_
  refine X.region ?_
  refine XO.pu (Pu.assign rfl) ?_
  refine XO.nil ?_
  refine X.sub (p' := [(2, _), (0, _)]) ⟨rfl, rfl, trivial⟩ ?_
  refine X.seq ?_
  refine X.region ?_
  refine XO.pu (Pu.move rfl) ?_
  refine XO.pu (Pu.assign rfl) ?_
  refine XO.nil ?_
  refine X.sub (p' := [(2, _)]) ⟨rfl, trivial⟩ ?_
  refine X.retL (q) Try.func14 (res1 Try.results14 rfl) ⟨_, rfl, rfl, rfl⟩
def actS (s : Sy) (wh n t v : Int) : Sy := if wh = 0 then (lockS s n t).1 else if wh = 1 then (unlockS s n t).1 else if wh = 2 then (waitS s n t).1 else if wh = 3 then (signalS s n).1 else if wh = 4 then (allS s n).1 else if wh = 5 then (sendS s n v).1 else (recvS s n).1
theorem actS_ok {n : Nat} {s : Sy} (h : s.ok n) (wh k t v : Int) : (actS s wh k t v).ok (n + 1) := by
  have h' := h.mono (Nat.le_succ n)
  unfold actS
  split
  · exact lockS_ok h' _ _
  split
  · exact unlockS_ok h' _ _
  split
  · exact waitS_ok h _ _
  split
  · exact signalS_ok h' _
  split
  · exact allS_ok h' _
  split
  · exact sendS_ok h _ _
  · exact recvS_ok h' _
theorem shM_sees {G w : World} {q r : List HP} {x : SlV Int} (hq : Le q (shM (.slice IS) x :: r)) (st : St G w q) : Sees q x.a (x.l.map I64) := by
  have h := (okQ_shM (st.le hq)).2.2.2.1
  rw [ints_cells] at h
  exact h.le hq
theorem lens1 {s : Sy} {N : Nat} (hs : s.ok N) (hN : N ≤ 900) (k : Int) : (allS s k).2.1.length ≤ 1000 := by
  unfold allS
  split
  · rename_i hk
    have := (hs.c _ (getD_mem (d := []) (inR_lt hk))).1
    dsimp only; omega
  · simp
set_option maxHeartbeats 1000000 in
theorem act_ok (h : Ref r s) (hR : Real σ s) {N : Nat} (hs : s.ok N) (hN : N ≤ 900) : CallF Try.prog G 26 [.pointer (some ⟨p, 0, none⟩), .agg [.slice r.ow.a r.ow.l.length r.ow.c, .slice r.cs.a r.cs.l.length r.cs.c, .slice r.rm.a r.rm.l.length r.rm.c, .slice r.st.a r.st.l.length r.st.c, .slice r.tk.a r.tk.l.length r.tk.c].toArray, .agg [.int .i64 wh, .int .i64 nn, .int .i64 th, .int .i64 vv].toArray] [refM r, syH p σ] (Ret fun v q' => ∃ r' σ', Ref r' (actS s wh nn th vv) ∧ Real σ' (actS s wh nn th vv) ∧ v = .tuple [.agg [.slice r'.ow.a r'.ow.l.length r'.ow.c, .slice r'.cs.a r'.cs.l.length r'.cs.c, .slice r'.rm.a r'.rm.l.length r'.rm.c, .slice r'.st.a r'.st.l.length r'.st.c, .slice r'.tk.a r'.tk.l.length r'.tk.c].toArray, .bool true].toArray ∧ q' = [refM r', syH p σ']) := by
  refine CallF.of Try.func26 Try.ntmps26 rfl (fun F cs => ?_)
  refine X.sub (p' := [(0, _), (1, _), (2, _)]) ⟨rfl, rfl, rfl, trivial⟩ ?_
  refine X.seq ?_
  refine X.region ?_
  refine XO.ef (Ef.box rfl) ?_
  rintro _ _ ⟨n1, rfl, rfl⟩
  refine XO.ef (Ef.box rfl) ?_
  rintro _ _ ⟨n2, rfl, rfl⟩
  refine XO.ef (Ef.alloc Try.zeroValue53) ?_
  rintro _ _ ⟨n3, rfl, rfl⟩
  refine XO.pu (Pu.assign rfl) ?_
  refine XO.nil ?_
  refine X.sub (p' := [(7, _), (6, _), (5, _), (4, _), (0, _)]) ⟨rfl, rfl, rfl, rfl, rfl, trivial⟩ ?_
  refine X.seq ?_
  refine X.seq ?_
  refine X.region ?_
  refine XO.pu (Pu.fieldAddr 3 0 0 rfl Try.underlying31 rfl Try.sizeOf3) ?_
  refine XO.ld Try.isAgg3 ?_
  refine XO.nil ?_
  refine X.sub (p' := [(43, _), (7, _), (6, _), (5, _), (4, _), (0, _)]) ⟨rfl, rfl, rfl, rfl, rfl, rfl, trivial⟩ ?_
  refine X.block ?_
  refine X.seq ?_
  refine X.region ?_
  refine XO.pu (Pu.eql rfl rfl) ?_
  refine XO.pu (Pu.assign rfl) ?_
  refine XO.nil ?_
  refine X.sub (p' := [(44, _), (43, _), (7, _), (6, _), (5, _), (4, _), (0, _)]) ⟨rfl, rfl, rfl, rfl, rfl, rfl, rfl, trivial⟩ ?_
  rcases Decidable.em (wh = 0) with hw0 | hw0
  · skip
    have ea : actS s wh nn th vv = (lockS s nn th).1 := by unfold actS; rw [if_pos hw0]
    rw [ea]
    refine X.know 44 (.bool true) rfl (congrArg Value.bool (by simp [hw0])) ?_
    refine X.condT rfl ?_
    refine X.seq ?_
    refine X.region ?_
    refine XO.ldA Try.isAgg53 Try.sizeOf53 ?_
    refine XO.pu (Pu.fieldAddr 3 1 0 rfl Try.underlying31 rfl Try.sizeOf3) ?_
    refine XO.ld Try.isAgg3 ?_
    refine XO.pu (Pu.fieldAddr 3 2 0 rfl Try.underlying31 rfl Try.sizeOf3) ?_
    refine XO.ld Try.isAgg3 ?_
    refine XO.cF Try.call46 (RLock_ok h hs hN) ?_
    rintro _ _ ⟨r2, h2, rfl, rfl⟩ _ e_; simp only [ca, na] at e_; subst e_
    refine XO.pu (Pu.move rfl) ?_
    refine XO.pu (Pu.extract rfl rfl) ?_
    refine XO.pu (Pu.extract rfl rfl) ?_
    refine XO.pu (Pu.extract rfl rfl) ?_
    refine XO.ef (Ef.alloc Try.zeroValue53) ?_
    rintro _ _ ⟨n4, rfl, rfl⟩
    refine XO.ef0 (Ef.stA Try.sizeOf53) ?_
    rintro _ _ ⟨rfl, rfl⟩
    refine XO.pu (Pu.assign rfl) ?_
    refine XO.pu (Pu.assign rfl) ?_
    refine XO.nil ?_
    refine X.sub (p' := [(10, _), (9, _), (8, _), (7, _), (6, _), (5, _), (4, _), (0, _)]) ⟨rfl, rfl, rfl, rfl, rfl, rfl, rfl, rfl, trivial⟩ ?_
    refine X.seq ?_
    refine X.region ?_
    refine XO.pu (Pu.move rfl) ?_
    refine XO.pu (Pu.fieldAddr 3 1 0 rfl Try.underlying31 rfl Try.sizeOf3) ?_
    refine XO.ld Try.isAgg3 ?_
    refine XO.pu (Pu.fieldAddr 3 2 0 rfl Try.underlying31 rfl Try.sizeOf3) ?_
    refine XO.ld Try.isAgg3 ?_
    refine XO.cF Try.call13 (Lock_H hR hs (by omega)) ?_
    rintro _ _ ⟨σ2, hR2, rfl, rfl⟩ _ e_; simp only [ca, na] at e_; subst e_
    refine XO.pu (Pu.move rfl) ?_
    refine XO.pu (Pu.extract rfl rfl) ?_
    refine XO.pu (Pu.extract rfl rfl) ?_
    refine XO.pu (Pu.assign rfl) ?_
    refine XO.pu (Pu.assign rfl) ?_
    refine XO.nil ?_
    refine X.sub (p' := [(12, _), (11, _), (10, _), (9, _), (8, _), (7, _), (6, _), (5, _), (4, _), (0, _)]) ⟨rfl, rfl, rfl, rfl, rfl, rfl, rfl, rfl, rfl, rfl, trivial⟩ ?_
    refine X.seq ?_
    refine X.draw [] Try.mixed (by kernel_rfl) (by kernel_rfl) rfl ?_
    refine XD.loadA 0 rfl rfl Try.isAgg53 Try.sizeOf53 hasA (by rfl) ?_
    refine XD.pu 1 rfl (Pu.move rfl) ?_
    refine XD.pu 2 rfl (Pu.move rfl) ?_
    refine XD.pu 3 rfl (Pu.eqlB rfl rfl Try.underlying4) ?_
    refine XD.pu 4 rfl (Pu.move rfl) ?_
    refine XD.know 69 (.bool true) rfl (congrArg Value.bool ((by first | rfl | (simp; done) | (simp; omega)))) ?_
    refine XD.pu 5 rfl (Pu.move rfl) ?_
    refine XD.pu 7 rfl (Pu.move rfl) ?_
    refine XD.cRL 6 Try.call14 (lnum_ok) ?_
    refine XD.pu 8 rfl (Pu.eql rfl rfl) ?_
    refine XD.pu 9 rfl (Pu.pickT rfl rfl) ?_
    refine XD.ef0 10 rfl (Ef.stA Try.sizeOf53) ?_
    rintro _ _ ⟨rfl, rfl⟩
    refine ⟨trivial, ?_⟩
    refine XD.pu 11 rfl (Pu.assign rfl) ?_
    refine XD.nil ?_
    refine X.sub (p' := [(7, _), (6, _), (5, _), (4, _), (0, _)]) ⟨rfl, rfl, rfl, rfl, rfl, trivial⟩ ?_
    refine X.retL [refM r2, syH p σ2] Try.func26 (resC Try.results26 (ResOk.cell rfl (LV.agg Try.isAgg53 Try.sizeOf53 hasA rfl) (ResOk.tmp rfl ResOk.nil))) ⟨_, rfl, r2, σ2, h2, hR2, by simp [Wx.sub, splice], rfl⟩
  · skip
    refine X.know 44 (.bool false) rfl (congrArg Value.bool (by simp [hw0])) ?_
    refine X.condF rfl ?_
    refine X.seq ?_
    refine X.region ?_
    refine XO.pu (Pu.eql rfl rfl) ?_
    refine XO.pu (Pu.assign rfl) ?_
    refine XO.nil ?_
    refine X.sub (p' := [(75, _), (43, _), (7, _), (6, _), (5, _), (4, _), (0, _)]) ⟨rfl, rfl, rfl, rfl, rfl, rfl, rfl, trivial⟩ ?_
    rcases Decidable.em (wh = 1) with hw1 | hw1
    · skip
      have ea : actS s wh nn th vv = (unlockS s nn th).1 := by unfold actS; rw [if_neg hw0, if_pos hw1]
      rw [ea]
      refine X.know 75 (.bool true) rfl (congrArg Value.bool (by simp [hw1])) ?_
      refine X.condT rfl ?_
      refine X.seq ?_
      refine X.region ?_
      refine XO.ldA Try.isAgg53 Try.sizeOf53 ?_
      refine XO.pu (Pu.fieldAddr 3 1 0 rfl Try.underlying31 rfl Try.sizeOf3) ?_
      refine XO.ld Try.isAgg3 ?_
      refine XO.pu (Pu.fieldAddr 3 2 0 rfl Try.underlying31 rfl Try.sizeOf3) ?_
      refine XO.ld Try.isAgg3 ?_
      refine XO.cF Try.call47 (RUnlock_ok h hs hN) ?_
      rintro _ _ ⟨r2, h2, rfl, rfl⟩ _ e_; simp only [ca, na] at e_; subst e_
      refine XO.pu (Pu.move rfl) ?_
      refine XO.pu (Pu.extract rfl rfl) ?_
      refine XO.pu (Pu.extract rfl rfl) ?_
      refine XO.ef (Ef.alloc Try.zeroValue53) ?_
      rintro _ _ ⟨n5, rfl, rfl⟩
      refine XO.ef0 (Ef.stA Try.sizeOf53) ?_
      rintro _ _ ⟨rfl, rfl⟩
      refine XO.pu (Pu.assign rfl) ?_
      refine XO.nil ?_
      refine X.sub (p' := [(14, _), (13, _), (7, _), (6, _), (5, _), (4, _), (0, _)]) ⟨rfl, rfl, rfl, rfl, rfl, rfl, rfl, trivial⟩ ?_
      refine X.seq ?_
      refine X.draw [] Try.mixed (by kernel_rfl) (by kernel_rfl) rfl ?_
      refine XD.loadA 0 rfl rfl Try.isAgg53 Try.sizeOf53 hasA (by rfl) ?_
      refine XD.pu 1 rfl (Pu.move rfl) ?_
      refine XD.pu 2 rfl (Pu.fieldAddr 3 1 0 rfl Try.underlying31 rfl Try.sizeOf3) ?_
      refine XD.ld 3 Try.isAgg3 ?_
      refine XD.pu 4 rfl (Pu.fieldAddr 3 2 0 rfl Try.underlying31 rfl Try.sizeOf3) ?_
      refine XD.ld 5 Try.isAgg3 ?_
      refine XD.pu 8 rfl (Pu.move rfl) ?_
      refine XD.cF 6 Try.call15 (Unlock_H hR hs (by omega)) ?_
      rintro _ _ ⟨σ2, hR2, rfl, rfl⟩ _ e_; simp only [ca, na] at e_; subst e_
      refine ⟨hlA, ?_⟩
      refine XD.cRL 7 Try.call14 (lnum_ok) ?_
      refine XD.pu 9 rfl (Pu.eql rfl rfl) ?_
      refine XD.ef0 10 rfl (Ef.stA Try.sizeOf53) ?_
      rintro _ _ ⟨rfl, rfl⟩
      refine ⟨trivial, ?_⟩
      refine XD.pu 11 rfl (Pu.assign rfl) ?_
      refine XD.nil ?_
      refine X.sub (p' := [(7, _), (6, _), (5, _), (4, _), (0, _)]) ⟨rfl, rfl, rfl, rfl, rfl, trivial⟩ ?_
      refine X.retL [refM r2, syH p σ2] Try.func26 (resC Try.results26 (ResOk.cell rfl (LV.agg Try.isAgg53 Try.sizeOf53 hasA rfl) (ResOk.tmp rfl ResOk.nil))) ⟨_, rfl, r2, σ2, h2, hR2, by simp [Wx.sub, splice], rfl⟩
    · skip
      refine X.know 75 (.bool false) rfl (congrArg Value.bool (by simp [hw1])) ?_
      refine X.condF rfl ?_
      refine X.seq ?_
      refine X.region ?_
      refine XO.pu (Pu.eql rfl rfl) ?_
      refine XO.pu (Pu.assign rfl) ?_
      refine XO.nil ?_
      refine X.sub (p' := [(96, _), (43, _), (7, _), (6, _), (5, _), (4, _), (0, _)]) ⟨rfl, rfl, rfl, rfl, rfl, rfl, rfl, trivial⟩ ?_
      rcases Decidable.em (wh = 2) with hw2 | hw2
      · skip
        have ea : actS s wh nn th vv = (waitS s nn th).1 := by unfold actS; rw [if_neg hw0, if_neg hw1, if_pos hw2]
        rw [ea]
        refine X.know 96 (.bool true) rfl (congrArg Value.bool (by simp [hw2])) ?_
        refine X.condT rfl ?_
        refine X.seq ?_
        refine X.region ?_
        refine XO.ldA Try.isAgg53 Try.sizeOf53 ?_
        refine XO.pu (Pu.fieldAddr 3 1 0 rfl Try.underlying31 rfl Try.sizeOf3) ?_
        refine XO.ld Try.isAgg3 ?_
        refine XO.pu (Pu.fieldAddr 3 2 0 rfl Try.underlying31 rfl Try.sizeOf3) ?_
        refine XO.ld Try.isAgg3 ?_
        refine XO.cF Try.call48 (RWait_ok h hs hN) ?_
        rintro _ _ ⟨r2, h2, rfl, rfl⟩ _ e_; simp only [ca, na] at e_; subst e_
        refine XO.pu (Pu.move rfl) ?_
        refine XO.pu (Pu.extract rfl rfl) ?_
        refine XO.pu (Pu.extract rfl rfl) ?_
        refine XO.ef (Ef.alloc Try.zeroValue53) ?_
        rintro _ _ ⟨n6, rfl, rfl⟩
        refine XO.ef0 (Ef.stA Try.sizeOf53) ?_
        rintro _ _ ⟨rfl, rfl⟩
        refine XO.pu (Pu.assign rfl) ?_
        refine XO.nil ?_
        refine X.sub (p' := [(16, _), (15, _), (7, _), (6, _), (5, _), (4, _), (0, _)]) ⟨rfl, rfl, rfl, rfl, rfl, rfl, rfl, trivial⟩ ?_
        refine X.seq ?_
        refine X.draw [] Try.mixed (by kernel_rfl) (by kernel_rfl) rfl ?_
        refine XD.loadA 0 rfl rfl Try.isAgg53 Try.sizeOf53 hasA (by rfl) ?_
        refine XD.pu 1 rfl (Pu.move rfl) ?_
        refine XD.pu 2 rfl (Pu.fieldAddr 3 1 0 rfl Try.underlying31 rfl Try.sizeOf3) ?_
        refine XD.ld 3 Try.isAgg3 ?_
        refine XD.pu 4 rfl (Pu.fieldAddr 3 2 0 rfl Try.underlying31 rfl Try.sizeOf3) ?_
        refine XD.ld 5 Try.isAgg3 ?_
        refine XD.pu 8 rfl (Pu.move rfl) ?_
        refine XD.cF 6 Try.call16 (Wait_H hR hs (by omega)) ?_
        rintro _ _ ⟨σ2, hR2, rfl, rfl⟩ _ e_; simp only [ca, na] at e_; subst e_
        refine ⟨hlA, ?_⟩
        refine XD.cRL 7 Try.call14 (lnum_ok) ?_
        refine XD.pu 9 rfl (Pu.eql rfl rfl) ?_
        refine XD.ef0 10 rfl (Ef.stA Try.sizeOf53) ?_
        rintro _ _ ⟨rfl, rfl⟩
        refine ⟨trivial, ?_⟩
        refine XD.pu 11 rfl (Pu.assign rfl) ?_
        refine XD.nil ?_
        refine X.sub (p' := [(7, _), (6, _), (5, _), (4, _), (0, _)]) ⟨rfl, rfl, rfl, rfl, rfl, trivial⟩ ?_
        refine X.retL [refM r2, syH p σ2] Try.func26 (resC Try.results26 (ResOk.cell rfl (LV.agg Try.isAgg53 Try.sizeOf53 hasA rfl) (ResOk.tmp rfl ResOk.nil))) ⟨_, rfl, r2, σ2, h2, hR2, by simp [Wx.sub, splice], rfl⟩
      · skip
        refine X.know 96 (.bool false) rfl (congrArg Value.bool (by simp [hw2])) ?_
        refine X.condF rfl ?_
        refine X.seq ?_
        refine X.region ?_
        refine XO.pu (Pu.eql rfl rfl) ?_
        refine XO.pu (Pu.assign rfl) ?_
        refine XO.nil ?_
        refine X.sub (p' := [(117, _), (43, _), (7, _), (6, _), (5, _), (4, _), (0, _)]) ⟨rfl, rfl, rfl, rfl, rfl, rfl, rfl, trivial⟩ ?_
        rcases Decidable.em (wh = 3) with hw3 | hw3
        · skip
          have ea : actS s wh nn th vv = (signalS s nn).1 := by unfold actS; rw [if_neg hw0, if_neg hw1, if_neg hw2, if_pos hw3]
          rw [ea]
          refine X.know 117 (.bool true) rfl (congrArg Value.bool (by simp [hw3])) ?_
          refine X.condT rfl ?_
          refine X.seq ?_
          refine X.region ?_
          refine XO.ldA Try.isAgg53 Try.sizeOf53 ?_
          refine XO.pu (Pu.fieldAddr 3 1 0 rfl Try.underlying31 rfl Try.sizeOf3) ?_
          refine XO.ld Try.isAgg3 ?_
          refine XO.cF Try.call49 (RSignal_ok h hs hN) ?_
          rintro _ _ ⟨r2, h2, rfl, rfl⟩ _ e_; simp only [ca, na] at e_; subst e_
          refine XO.pu (Pu.move rfl) ?_
          refine XO.pu (Pu.extract rfl rfl) ?_
          refine XO.pu (Pu.extract rfl rfl) ?_
          refine XO.pu (Pu.extract rfl rfl) ?_
          refine XO.ef (Ef.alloc Try.zeroValue53) ?_
          rintro _ _ ⟨n7, rfl, rfl⟩
          refine XO.ef0 (Ef.stA Try.sizeOf53) ?_
          rintro _ _ ⟨rfl, rfl⟩
          refine XO.pu (Pu.assign rfl) ?_
          refine XO.pu (Pu.assign rfl) ?_
          refine XO.nil ?_
          refine X.sub (p' := [(19, _), (18, _), (17, _), (7, _), (6, _), (5, _), (4, _), (0, _)]) ⟨rfl, rfl, rfl, rfl, rfl, rfl, rfl, rfl, trivial⟩ ?_
          refine X.seq ?_
          refine X.region ?_
          refine XO.pu (Pu.move rfl) ?_
          refine XO.pu (Pu.fieldAddr 3 1 0 rfl Try.underlying31 rfl Try.sizeOf3) ?_
          refine XO.ld Try.isAgg3 ?_
          refine XO.cF Try.call17 (Signal_H hR hs (by omega)) ?_
          rintro _ _ ⟨σ2, hR2, rfl, rfl⟩ _ e_; simp only [ca, na] at e_; subst e_
          refine XO.pu (Pu.move rfl) ?_
          refine XO.pu (Pu.extract rfl rfl) ?_
          refine XO.pu (Pu.extract rfl rfl) ?_
          refine XO.pu (Pu.extract rfl rfl) ?_
          refine XO.pu (Pu.assign rfl) ?_
          refine XO.pu (Pu.assign rfl) ?_
          refine XO.pu (Pu.assign rfl) ?_
          refine XO.nil ?_
          refine X.sub (p' := [(22, _), (21, _), (20, _), (19, _), (18, _), (17, _), (7, _), (6, _), (5, _), (4, _), (0, _)]) ⟨rfl, rfl, rfl, rfl, rfl, rfl, rfl, rfl, rfl, rfl, rfl, trivial⟩ ?_
          refine X.seq ?_
          refine X.draw [] Try.mixed (by kernel_rfl) (by kernel_rfl) rfl ?_
          refine XD.loadA 0 rfl rfl Try.isAgg53 Try.sizeOf53 hasA (by rfl) ?_
          refine XD.pu 1 rfl (Pu.move rfl) ?_
          refine XD.pu 2 rfl (Pu.move rfl) ?_
          refine XD.pu 3 rfl (Pu.geq rfl rfl) ?_
          refine XD.pu 4 rfl (Pu.eqlB rfl rfl Try.underlying4) ?_
          refine XD.pu 5 rfl (Pu.move rfl) ?_
          refine XD.know 140 (.bool true) rfl (congrArg Value.bool ((by first | rfl | (simp; done) | (simp; omega)))) ?_
          refine XD.pu 6 rfl (Pu.move rfl) ?_
          refine XD.pu 7 rfl (Pu.move rfl) ?_
          refine XD.pu 8 rfl (Pu.max2 rfl rfl) ?_
          refine XD.pu 9 rfl (Pu.eql rfl rfl) ?_
          refine XD.pu 10 rfl (Pu.pickT rfl rfl) ?_
          refine XD.pu 11 rfl (Pu.move rfl) ?_
          refine XD.know 146 (.bool true) rfl (congrArg Value.bool ((by first | rfl | (simp; done) | (simp; omega)))) ?_
          refine XD.pu 12 rfl (Pu.move rfl) ?_
          refine XD.pu 14 rfl (Pu.move rfl) ?_
          refine XD.cRL 13 Try.call14 (lnum_ok) ?_
          refine XD.pu 15 rfl (Pu.eql rfl rfl) ?_
          refine XD.pu 16 rfl (Pu.pickT rfl rfl) ?_
          refine XD.ef0 17 rfl (Ef.stA Try.sizeOf53) ?_
          rintro _ _ ⟨rfl, rfl⟩
          refine ⟨trivial, ?_⟩
          refine XD.pu 18 rfl (Pu.assign rfl) ?_
          refine XD.nil ?_
          refine X.sub (p' := [(7, _), (6, _), (5, _), (4, _), (0, _)]) ⟨rfl, rfl, rfl, rfl, rfl, trivial⟩ ?_
          refine X.retL [refM r2, syH p σ2] Try.func26 (resC Try.results26 (ResOk.cell rfl (LV.agg Try.isAgg53 Try.sizeOf53 hasA rfl) (ResOk.tmp rfl ResOk.nil))) ⟨_, rfl, r2, σ2, h2, hR2, by simp [Wx.sub, splice], rfl⟩
        · skip
          refine X.know 117 (.bool false) rfl (congrArg Value.bool (by simp [hw3])) ?_
          refine X.condF rfl ?_
          refine X.seq ?_
          refine X.region ?_
          refine XO.pu (Pu.eql rfl rfl) ?_
          refine XO.pu (Pu.assign rfl) ?_
          refine XO.nil ?_
          refine X.sub (p' := [(152, _), (43, _), (7, _), (6, _), (5, _), (4, _), (0, _)]) ⟨rfl, rfl, rfl, rfl, rfl, rfl, rfl, trivial⟩ ?_
          rcases Decidable.em (wh = 4) with hw4 | hw4
          · skip
            have ea : actS s wh nn th vv = (allS s nn).1 := by unfold actS; rw [if_neg hw0, if_neg hw1, if_neg hw2, if_neg hw3, if_pos hw4]
            rw [ea]
            refine X.know 152 (.bool true) rfl (congrArg Value.bool (by simp [hw4])) ?_
            refine X.condT rfl ?_
            refine X.seq ?_
            refine X.region ?_
            refine XO.ldA Try.isAgg53 Try.sizeOf53 ?_
            refine XO.pu (Pu.fieldAddr 3 1 0 rfl Try.underlying31 rfl Try.sizeOf3) ?_
            refine XO.ld Try.isAgg3 ?_
            refine XO.cF Try.call50 (RAll_ok h hs hN) ?_
            rintro _ _ ⟨r2, h2, a7, c7, rfl, rfl⟩ _ e_; simp only [ca, na] at e_; subst e_
            refine XO.pu (Pu.move rfl) ?_
            refine XO.pu (Pu.extract rfl rfl) ?_
            refine XO.pu (Pu.extract rfl rfl) ?_
            refine XO.pu (Pu.extract rfl rfl) ?_
            refine XO.ef (Ef.alloc Try.zeroValue53) ?_
            rintro _ _ ⟨n8, rfl, rfl⟩
            refine XO.ef0 (Ef.stA Try.sizeOf53) ?_
            rintro _ _ ⟨rfl, rfl⟩
            refine XO.pu (Pu.assign rfl) ?_
            refine XO.pu (Pu.assign rfl) ?_
            refine XO.nil ?_
            refine X.sub (p' := [(25, _), (24, _), (23, _), (7, _), (6, _), (5, _), (4, _), (0, _)]) ⟨rfl, rfl, rfl, rfl, rfl, rfl, rfl, rfl, trivial⟩ ?_
            refine X.seq ?_
            refine X.region ?_
            refine XO.pu (Pu.move rfl) ?_
            refine XO.pu (Pu.fieldAddr 3 1 0 rfl Try.underlying31 rfl Try.sizeOf3) ?_
            refine XO.ld Try.isAgg3 ?_
            refine XO.cF Try.call30 (All_H hR hs (by omega)) ?_
            rintro _ _ ⟨σ2, a8, c8, hR2, rfl, rfl⟩ _ e_; simp only [ca, na] at e_; subst e_
            refine XO.pu (Pu.move rfl) ?_
            refine XO.pu (Pu.extract rfl rfl) ?_
            refine XO.pu (Pu.extract rfl rfl) ?_
            refine XO.pu (Pu.assign rfl) ?_
            refine XO.pu (Pu.assign rfl) ?_
            refine XO.nil ?_
            refine X.sub (p' := [(27, _), (26, _), (25, _), (24, _), (23, _), (7, _), (6, _), (5, _), (4, _), (0, _)]) ⟨rfl, rfl, rfl, rfl, rfl, rfl, rfl, rfl, rfl, rfl, trivial⟩ ?_
            refine X.seq ?_
            refine X.draw [] Try.mixed (by kernel_rfl) (by kernel_rfl) rfl ?_
            refine XD.loadA 0 rfl rfl Try.isAgg53 Try.sizeOf53 hasA (by rfl) ?_
            refine XD.pu 1 rfl (Pu.move rfl) ?_
            refine XD.pu 2 rfl (Pu.move rfl) ?_
            refine XD.fact (fun w s0 => shM_sees (x := ⟨a7, c7, (allS s nn).2.1⟩) fndA s0) (fun hsa => ?_)
            refine XD.cRL 3 Try.call22 (LInts_ok (l := (allS s nn).2.1) (m := (allS s nn).2.1) ((Sees.lsH _).le leA) hsa (by have := lens1 hs hN nn; omega)) ?_
            refine XD.pu 4 rfl (Pu.move rfl) ?_
            refine XD.know 173 (.bool true) rfl (congrArg Value.bool ((by first | rfl | (simp; done) | (simp; omega)))) ?_
            refine XD.pu 5 rfl (Pu.move rfl) ?_
            refine XD.pu 7 rfl (Pu.move rfl) ?_
            refine XD.cRL 6 Try.call14 (lnum_ok) ?_
            refine XD.pu 8 rfl (Pu.eql rfl rfl) ?_
            refine XD.pu 9 rfl (Pu.pickT rfl rfl) ?_
            refine XD.ef0 10 rfl (Ef.stA Try.sizeOf53) ?_
            rintro _ _ ⟨rfl, rfl⟩
            refine ⟨trivial, ?_⟩
            refine XD.pu 11 rfl (Pu.assign rfl) ?_
            refine XD.nil ?_
            refine X.sub (p' := [(7, _), (6, _), (5, _), (4, _), (0, _)]) ⟨rfl, rfl, rfl, rfl, rfl, trivial⟩ ?_
            refine X.retL [refM r2, syH p σ2] Try.func26 (resC Try.results26 (ResOk.cell rfl (LV.agg Try.isAgg53 Try.sizeOf53 hasA rfl) (ResOk.tmp rfl ResOk.nil))) ⟨_, rfl, r2, σ2, h2, hR2, by simp [Wx.sub, splice], rfl⟩
          · skip
            refine X.know 152 (.bool false) rfl (congrArg Value.bool (by simp [hw4])) ?_
            refine X.condF rfl ?_
            refine X.seq ?_
            refine X.region ?_
            refine XO.pu (Pu.eql rfl rfl) ?_
            refine XO.pu (Pu.assign rfl) ?_
            refine XO.nil ?_
            refine X.sub (p' := [(179, _), (7, _), (6, _), (5, _), (4, _), (0, _)]) ⟨rfl, rfl, rfl, rfl, rfl, rfl, trivial⟩ ?_
            rcases Decidable.em (wh = 5) with hw5 | hw5
            · skip
              have ea : actS s wh nn th vv = (sendS s nn vv).1 := by unfold actS; rw [if_neg hw0, if_neg hw1, if_neg hw2, if_neg hw3, if_neg hw4, if_pos hw5]
              rw [ea]
              refine X.know 179 (.bool true) rfl (congrArg Value.bool (by simp [hw5])) ?_
              refine X.condT rfl ?_
              refine X.seq ?_
              refine X.region ?_
              refine XO.ldA Try.isAgg53 Try.sizeOf53 ?_
              refine XO.pu (Pu.fieldAddr 3 1 0 rfl Try.underlying31 rfl Try.sizeOf3) ?_
              refine XO.ld Try.isAgg3 ?_
              refine XO.pu (Pu.fieldAddr 2 3 0 rfl Try.underlying31 rfl Try.sizeOf2) ?_
              refine XO.ld Try.isAgg2 ?_
              refine XO.cF Try.call51 (RSend_ok h hs hN) ?_
              rintro _ _ ⟨r2, h2, rfl, rfl⟩ _ e_; simp only [ca, na] at e_; subst e_
              refine XO.pu (Pu.move rfl) ?_
              refine XO.pu (Pu.extract rfl rfl) ?_
              refine XO.pu (Pu.extract rfl rfl) ?_
              refine XO.pu (Pu.extract rfl rfl) ?_
              refine XO.ef (Ef.alloc Try.zeroValue53) ?_
              rintro _ _ ⟨n9, rfl, rfl⟩
              refine XO.ef0 (Ef.stA Try.sizeOf53) ?_
              rintro _ _ ⟨rfl, rfl⟩
              refine XO.pu (Pu.assign rfl) ?_
              refine XO.pu (Pu.assign rfl) ?_
              refine XO.nil ?_
              refine X.sub (p' := [(30, _), (29, _), (28, _), (7, _), (6, _), (5, _), (4, _), (0, _)]) ⟨rfl, rfl, rfl, rfl, rfl, rfl, rfl, rfl, trivial⟩ ?_
              refine X.seq ?_
              refine X.region ?_
              refine XO.pu (Pu.move rfl) ?_
              refine XO.pu (Pu.fieldAddr 3 1 0 rfl Try.underlying31 rfl Try.sizeOf3) ?_
              refine XO.ld Try.isAgg3 ?_
              refine XO.pu (Pu.fieldAddr 2 3 0 rfl Try.underlying31 rfl Try.sizeOf2) ?_
              refine XO.ld Try.isAgg2 ?_
              refine XO.cF Try.call18 (Send_H hR hs (by omega)) ?_
              rintro _ _ ⟨σ2, hR2, rfl, rfl⟩ _ e_; simp only [ca, na] at e_; subst e_
              refine XO.pu (Pu.move rfl) ?_
              refine XO.pu (Pu.extract rfl rfl) ?_
              refine XO.pu (Pu.extract rfl rfl) ?_
              refine XO.pu (Pu.extract rfl rfl) ?_
              refine XO.pu (Pu.assign rfl) ?_
              refine XO.pu (Pu.assign rfl) ?_
              refine XO.pu (Pu.assign rfl) ?_
              refine XO.nil ?_
              refine X.sub (p' := [(33, _), (32, _), (31, _), (30, _), (29, _), (28, _), (7, _), (6, _), (5, _), (4, _), (0, _)]) ⟨rfl, rfl, rfl, rfl, rfl, rfl, rfl, rfl, rfl, rfl, rfl, trivial⟩ ?_
              refine X.seq ?_
              refine X.draw [] Try.mixed (by kernel_rfl) (by kernel_rfl) rfl ?_
              refine XD.loadA 0 rfl rfl Try.isAgg53 Try.sizeOf53 hasA (by rfl) ?_
              refine XD.pu 1 rfl (Pu.move rfl) ?_
              refine XD.pu 2 rfl (Pu.move rfl) ?_
              refine XD.pu 3 rfl (Pu.geq rfl rfl) ?_
              refine XD.pu 4 rfl (Pu.eqlB rfl rfl Try.underlying4) ?_
              refine XD.pu 5 rfl (Pu.move rfl) ?_
              refine XD.know 206 (.bool true) rfl (congrArg Value.bool ((by first | rfl | (simp; done) | (simp; omega)))) ?_
              refine XD.pu 6 rfl (Pu.move rfl) ?_
              refine XD.pu 7 rfl (Pu.move rfl) ?_
              refine XD.pu 8 rfl (Pu.max2 rfl rfl) ?_
              refine XD.pu 9 rfl (Pu.eql rfl rfl) ?_
              refine XD.pu 10 rfl (Pu.pickT rfl rfl) ?_
              refine XD.pu 11 rfl (Pu.move rfl) ?_
              refine XD.know 212 (.bool true) rfl (congrArg Value.bool ((by first | rfl | (simp; done) | (simp; omega)))) ?_
              refine XD.pu 12 rfl (Pu.move rfl) ?_
              refine XD.pu 14 rfl (Pu.move rfl) ?_
              refine XD.cRL 13 Try.call14 (lnum_ok) ?_
              refine XD.pu 15 rfl (Pu.eql rfl rfl) ?_
              refine XD.pu 16 rfl (Pu.pickT rfl rfl) ?_
              refine XD.ef0 17 rfl (Ef.stA Try.sizeOf53) ?_
              rintro _ _ ⟨rfl, rfl⟩
              refine ⟨trivial, ?_⟩
              refine XD.pu 18 rfl (Pu.assign rfl) ?_
              refine XD.nil ?_
              refine X.sub (p' := [(7, _), (6, _), (5, _), (4, _), (0, _)]) ⟨rfl, rfl, rfl, rfl, rfl, trivial⟩ ?_
              refine X.retL [refM r2, syH p σ2] Try.func26 (resC Try.results26 (ResOk.cell rfl (LV.agg Try.isAgg53 Try.sizeOf53 hasA rfl) (ResOk.tmp rfl ResOk.nil))) ⟨_, rfl, r2, σ2, h2, hR2, by simp [Wx.sub, splice], rfl⟩
            · skip
              refine X.know 179 (.bool false) rfl (congrArg Value.bool (by simp [hw5])) ?_
              have ea : actS s wh nn th vv = (recvS s nn).1 := by unfold actS; rw [if_neg hw0, if_neg hw1, if_neg hw2, if_neg hw3, if_neg hw4, if_neg hw5]
              rw [ea]
              refine X.condF rfl ?_
              refine X.skip ?_
              refine X.inBlock ?_
              refine X.seq ?_
              refine X.region ?_
              refine XO.ldA Try.isAgg53 Try.sizeOf53 ?_
              refine XO.pu (Pu.fieldAddr 3 1 0 rfl Try.underlying31 rfl Try.sizeOf3) ?_
              refine XO.ld Try.isAgg3 ?_
              refine XO.cF Try.call52 (RRecv_ok h hs hN) ?_
              rintro _ _ ⟨r2, h2, rfl, rfl⟩ _ e_; simp only [ca, na] at e_; subst e_
              refine XO.pu (Pu.move rfl) ?_
              refine XO.pu (Pu.extract rfl rfl) ?_
              refine XO.pu (Pu.extract rfl rfl) ?_
              refine XO.pu (Pu.extract rfl rfl) ?_
              refine XO.pu (Pu.extract rfl rfl) ?_
              refine XO.ef (Ef.alloc Try.zeroValue53) ?_
              rintro _ _ ⟨n10, rfl, rfl⟩
              refine XO.ef0 (Ef.stA Try.sizeOf53) ?_
              rintro _ _ ⟨rfl, rfl⟩
              refine XO.pu (Pu.assign rfl) ?_
              refine XO.pu (Pu.assign rfl) ?_
              refine XO.pu (Pu.assign rfl) ?_
              refine XO.nil ?_
              refine X.sub (p' := [(37, _), (36, _), (35, _), (34, _), (7, _), (6, _), (5, _), (0, _)]) ⟨rfl, rfl, rfl, rfl, rfl, rfl, rfl, rfl, trivial⟩ ?_
              refine X.seq ?_
              refine X.region ?_
              refine XO.pu (Pu.move rfl) ?_
              refine XO.pu (Pu.fieldAddr 3 1 0 rfl Try.underlying31 rfl Try.sizeOf3) ?_
              refine XO.ld Try.isAgg3 ?_
              refine XO.cF Try.call19 (Recv_H hR hs (by omega)) ?_
              rintro _ _ ⟨σ2, hR2, rfl, rfl⟩ _ e_; simp only [ca, na] at e_; subst e_
              refine XO.pu (Pu.move rfl) ?_
              refine XO.pu (Pu.extract rfl rfl) ?_
              refine XO.pu (Pu.extract rfl rfl) ?_
              refine XO.pu (Pu.extract rfl rfl) ?_
              refine XO.pu (Pu.extract rfl rfl) ?_
              refine XO.pu (Pu.assign rfl) ?_
              refine XO.pu (Pu.assign rfl) ?_
              refine XO.pu (Pu.assign rfl) ?_
              refine XO.pu (Pu.assign rfl) ?_
              refine XO.nil ?_
              refine X.sub (p' := [(41, _), (40, _), (39, _), (38, _), (37, _), (36, _), (35, _), (34, _), (7, _), (6, _)]) ⟨rfl, rfl, rfl, rfl, rfl, rfl, rfl, rfl, rfl, rfl, trivial⟩ ?_
              refine X.seq ?_
              refine X.draw [] Try.mixed (by kernel_rfl) (by kernel_rfl) rfl ?_
              refine XD.loadA 0 rfl rfl Try.isAgg53 Try.sizeOf53 hasA (by rfl) ?_
              refine XD.pu 1 rfl (Pu.move rfl) ?_
              refine XD.pu 2 rfl (Pu.move rfl) ?_
              refine XD.pu 3 rfl (Pu.geq rfl rfl) ?_
              refine XD.pu 4 rfl (Pu.eqlB rfl rfl Try.underlying4) ?_
              refine XD.pu 5 rfl (Pu.move rfl) ?_
              refine XD.know 241 (.bool true) rfl (congrArg Value.bool ((by first | rfl | (simp; done) | (simp; omega)))) ?_
              refine XD.pu 6 rfl (Pu.move rfl) ?_
              refine XD.pu 7 rfl (Pu.move rfl) ?_
              refine XD.pu 8 rfl (Pu.eql rfl rfl) ?_
              refine XD.pu 9 rfl (Pu.pickT rfl rfl) ?_
              refine XD.pu 10 rfl (Pu.move rfl) ?_
              refine XD.know 246 (.bool true) rfl (congrArg Value.bool ((by first | rfl | (simp; done) | (simp; omega)))) ?_
              refine XD.pu 11 rfl (Pu.move rfl) ?_
              refine XD.pu 12 rfl (Pu.move rfl) ?_
              refine XD.pu 13 rfl (Pu.max2 rfl rfl) ?_
              refine XD.pu 14 rfl (Pu.eql rfl rfl) ?_
              refine XD.pu 15 rfl (Pu.pickT rfl rfl) ?_
              refine XD.pu 16 rfl (Pu.move rfl) ?_
              refine XD.know 252 (.bool true) rfl (congrArg Value.bool ((by first | rfl | (simp; done) | (simp; omega)))) ?_
              refine XD.pu 17 rfl (Pu.move rfl) ?_
              refine XD.pu 19 rfl (Pu.move rfl) ?_
              refine XD.cRL 18 Try.call14 (lnum_ok) ?_
              refine XD.pu 20 rfl (Pu.eql rfl rfl) ?_
              refine XD.pu 21 rfl (Pu.pickT rfl rfl) ?_
              refine XD.ef0 22 rfl (Ef.stA Try.sizeOf53) ?_
              rintro _ _ ⟨rfl, rfl⟩
              refine ⟨trivial, ?_⟩
              refine XD.pu 23 rfl (Pu.assign rfl) ?_
              refine XD.nil ?_
              refine X.sub (p' := [(7, _), (6, _)]) ⟨rfl, rfl, trivial⟩ ?_
              refine X.retL [refM r2, syH p σ2] Try.func26 (resC Try.results26 (ResOk.cell rfl (LV.agg Try.isAgg53 Try.sizeOf53 hasA rfl) (ResOk.tmp rfl ResOk.nil))) ⟨_, rfl, r2, σ2, h2, hR2, by simp [Wx.sub, splice], rfl⟩
end
end Go.Proofs.Ytlgnnhpbomfdiaa

