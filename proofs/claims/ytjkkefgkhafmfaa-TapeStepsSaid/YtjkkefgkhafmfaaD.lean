/- What functions of package tape, of its references and of its laws do: contracts of calls, proved by walking their code. -/
import Derived.Test.YtjkkefgkhafmfaaS
import Derived.KernelRfl
set_option maxRecDepth 100000
set_option linter.unusedVariables false
set_option linter.unusedSimpArgs false
namespace Go.Proofs.Ytjkkefgkhafmfaa
open Go Go.RowKit Wx
attribute [local irreducible] Wx.lsH Wx.rsH Wx.lsM Wx.rsM Wx.stars

theorem Try.info71 : (Try.prog.info? 71).map (fun i => (i.zero, i.size, i.bytes)) = some (some (.agg #[.int .u32 0, .slice none 0 0, .int .i64 0, .int .i64 0, .int .i64 0, .int .i64 0, .int .i64 0, .int .i64 0, .int .i64 0]), 9, 88) := by kernel_rfl
abbrev tapC (t : Tkn) (a : Option Addr) (c : Nat) (m i u : Int) : List Value := [.int .u32 t.hash, .slice a t.turns.length c, .int .i64 t.e.1, .int .i64 t.e.2.1, .int .i64 t.e.2.2.1, .int .i64 t.e.2.2.2, .int .i64 m, .int .i64 i, .int .i64 u]
abbrev tapH (n : Nat) (t : Tkn) (a : Option Addr) (c : Nat) (m i u : Int) : HP := pto n (.cells (tapC t a c m i u).toArray 71 (0, 0))
section
variable {G : World} {q : List HP} {t : Tkn} {a : Option Addr} {c : Nat}
set_option maxHeartbeats 1000000 in
theorem open_ok (hs : Sees q a (t.turns.flatMap tcs)) : CallF Try.prog G 30 [t.v a c] (q) (RP (fun v q' => okT t ∧ ∃ n, v = .pointer (some ⟨n, 0, none⟩) ∧ q' = tapH n t a c (sumT t.turns) 0 0 :: q) (fun ch q' => ¬ okT t ∧ ch = [refE 2] ∧ q' = q)) := by
  refine CallF.of Try.func30 Try.ntmps30 rfl (fun F cs => ?_)
  unfold Tkn.v Tkn.cs
  refine xo 2 ?_
  refine XO.ef (Ef.box rfl) ?_
  rintro _ _ ⟨n1, rfl, rfl⟩
  refine oo 4 ?_
  refine XO.ldA Try.isAgg32 Try.sizeOf32 ?_
  refine XO.cR Try.call22 (Check_ok (t := t) (hs.le leA)) ?_
  refine oo 1 ?_
  refine XO.cP Try.call21 (Le.refl _) need_if ?_ ?_
  · rintro _ _ ⟨hb, rfl, rfl⟩
    exact FQ.panic Try.func30 (RP.thr ⟨by intro ok; rw [chk, if_pos ok] at hb; exact absurd hb (by decide), rfl, rfl⟩)
  rintro _ _ ⟨hb, rfl⟩
  have ok : okT t := by by_cases ok : okT t; exact ok; rw [chk, if_neg ok] at hb; exact absurd hb (by decide)
  refine oo 3 ?_
  refine XO.ldA Try.isAgg32 Try.sizeOf32 ?_
  refine oo 1 ?_
  refine XO.ef (Ef.box rfl) ?_
  rintro _ _ ⟨n2, rfl, rfl⟩
  refine oo 6 ?_
  refine XO.ld Try.isAgg26 ?_
  refine ox 4 ?_
  have hLn : t.turns.length ≤ 65536 := ok.1
  refine X.at (X.loop (fun (s : Nat) => s ≤ t.turns.length) (fun s => [(16, .int .i64 (s : Int)), (2, .pointer none), (3, .pointer (some ⟨n2, 0, none⟩)), (14, .slice a t.turns.length c), (15, .int .i64 (t.turns.length : Int))]) (fun s => tapH n2 t a c (sumT (t.turns.take s)) 0 0 :: (q ++ F)) (fun s => t.turns.length - s) (fun s hi_ ih => ?_) 0 (by omega)) subA leA
  try dsimp only at hi_ ih ⊢
  obtain hi := hi_
  have hlen := flatMap_len (f := tcs) (sz := 2) (fun _ => rfl) t.turns
  refine xx 5 ?_
  refine X.part 17 rfl (fun h0 => ?_) (fun h0 => ?_)
  · skip
    replace h0 := sp h0
    have hi0 : s < t.turns.length := by omega
    have hst := sumT_succ hi0
    have hk := okT_take ok s
    have hk1 := okT_take ok (s + 1)
    refine xo 6 ?_
    refine XO.adr hs (by rw [hlen]; omega) (fun b26 o26 e_ => ?_); subst e_
    refine oo 1 ?_
    refine XO.ldS (n := s) Try.isAgg45 Try.sizeOf45 hs (by omega) ?_
    refine XO.ef (Ef.alloc Try.zeroValue45) ?_
    rintro _ _ ⟨n3, rfl, rfl⟩
    refine XO.ef0 (Ef.stA Try.sizeOf45) ?_
    rintro _ _ ⟨rfl, rfl⟩
    refine ox 1 ?_
    refine X.draw [] Try.mixed (by kernel_rfl) (by kernel_rfl) rfl ?_
    refine dd [0, 1, 2] ?_
    refine XD.ld 3 Try.isAgg3 ?_
    refine dd [4] ?_
    refine XD.ld 5 Try.isAgg3 ?_
    refine dd [6, 7, 8] ?_
    refine XD.ef0 9 rfl (Ef.st Try.sizeOf3) ?_
    rintro _ _ ⟨rfl, rfl⟩
    refine ⟨trivial, ?_⟩
    refine XD.nil ?_
    refine xx 5 ?_
    rw [← hst]
    refine X.at (ih (s + 1) (by omega) (by omega)) subA leA
  · skip
    replace h0 := sp h0
    refine xx 7 ?_
    rw [List.take_of_length_le (show t.turns.length ≤ s by omega)]
    refine X.retL (tapH n2 t a c (sumT t.turns) 0 0 :: q) Try.func30 (res1 Try.results30 rfl) (RP.ret ⟨ok, n2, rfl, rfl⟩)
end
end Go.Proofs.Ytjkkefgkhafmfaa

