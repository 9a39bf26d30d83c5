/- What functions of package verify, of its references and of its laws do: contracts of calls, proved by walking their code. -/
import Derived.Test.YtbeeplmgcdnadaaDoorL
import Derived.KernelRfl
set_option maxRecDepth 100000
set_option linter.unusedVariables false
set_option linter.unusedSimpArgs false
namespace Go.Proofs.YtbeeplmgcdnadaaDoor
open Go Go.RowKit Wx
attribute [local irreducible] Wx.lsH Wx.rsH Wx.lsM Wx.rsM Wx.stars

/-- What is told of a thread's depths, of modules. -/
def dpOf (m : Mdl) (th : Int) : List Int × Int := if mchk m ≠ 0 then ([], mchk m) else if h : 0 ≤ th ∧ th.toNat < m.threads.length then dOf m m.threads[th.toNat] else ([], 2)
def vErr (m : Mdl) : List Cod → Int
  | [] => 0
  | t :: r => if (dOf m t).2 ≠ 0 then (dOf m t).2 else vErr m r
def vchk (m : Mdl) : Int := if mchk m ≠ 0 then mchk m else vErr m m.threads
def nxOf (m : Mdl) (th a : Int) : List Int × Int := if mchk m ≠ 0 then ([], mchk m) else if h : 0 ≤ th ∧ th.toNat < m.threads.length then (if h2 : 0 ≤ a ∧ a.toNat < m.threads[th.toNat].ins.length then (nxt m.threads[th.toNat].ins[a.toNat] a, 0) else ([], 4)) else ([], 4)
theorem mdlOk_thr {m : Mdl} (h : mchk m = 0) {t : Cod} (ht : t ∈ m.threads) : (∀ x ∈ t.ins, insOk x) ∧ t.ins.length ≤ 65536 := by
  have h1 := mchk_iff.1 h
  have h2 := h1.2.2.2.2.2.2 t ht
  exact ⟨h2.2.2.2.1.2, by have := h2.2.2.2.1.1; omega⟩
theorem nxt_len (x : Ins) (a : Int) : (nxt x a).length ≤ 1000000 := by
  unfold nxt
  (repeat' split) <;> simp
theorem mdlOk_len {m : Mdl} (h : mchk m = 0) : m.threads.length ≤ 64 := by have := (mchk_iff.1 h).2.2.2.2.2.1; omega

section
variable {G : World} {q pre : List HP} {a b A : Option Addr} {c d C p p0 p1 p2 i : Nat} {lo hi n cd dep : Int} {fv : Value} {x y : Ins} {t : Cod} {m : Mdl} {at_ : Int}
variable {pm om pt ot n : Nat} {th : Int}
set_option maxHeartbeats 2000000 in
theorem VCheck_ok (gc : GC q) (g : GE q) (hq : MdlQ q m) : CallF Tryd.prog G 21 [.agg (mdlC m).toArray] (q) (Ret fun v q' => v = .int .i64 (vchk m) ∧ q' = q) := by
 refine CallF.of Tryd.func21 Tryd.ntmps21 rfl (fun F cs => ?_)
 have hlen := flatMap_len (f := codC) (sz := 4) (fun _ => rfl) m.threads; have hnt := hq.nt
 refine xo 2 ?_
 refine XO.bx fun n1 => ?_
 refine oo 5 ?_
 refine ldA ?_
 refine XO.cR Tryd.call31 (Check_ok (gc.le leA) (hq.le leA)) ?_
 refine ox 7 ?_
 refine X.part 10 rfl (fun h0 => ?_) (fun h0 => ?_)
 · skip
   replace h0 := sp h0
   refine xx 6 ?_
   refine X.retL (q) Tryd.func21 (res1 Tryd.results21 rfl) ⟨_, rfl, by unfold vchk; rw [if_pos (by omega)], rfl⟩
 · skip
   replace h0 := sp h0; have hk0 : mchk m = 0 := by omega
   refine xo 6 ?_
   refine ld ?_
   refine ox 4 ?_
   refine X.at (X.loop (fun (s : Nat) => s ≤ m.threads.length ∧ vErr m m.threads = vErr m (m.threads.drop s)) (fun s => [(15, .int .i64 (s : Int)), (14, .int .i64 (m.threads.length : Int)), (1, .pointer (some ⟨n1, 0, none⟩)), (2, .int .i64 0)]) (fun s => pto n1 (.cells (mdlC m).toArray 26 (0, 0)) :: (q ++ F)) (fun s => m.threads.length - s) (fun s hi_ ih => ?_) 0 ⟨Nat.zero_le _, rfl⟩) subA leA
   try dsimp only at hi_ ih ⊢
   obtain ⟨hs0, hv⟩ := hi_
   refine xx 5 ?_
   refine X.part 16 rfl (fun h0 => ?_) (fun h0 => ?_)
   · skip
     replace h0 := sp h0
     have hth : s < m.threads.length := by omega
     obtain ⟨hin, hL⟩ := mdlOk_thr hk0 (List.getElem_mem hth)
     have hvd : vErr m (m.threads.drop s) = if (dOf m m.threads[s]).2 ≠ 0 then (dOf m m.threads[s]).2 else vErr m (m.threads.drop (s + 1)) := by rw [List.drop_eq_getElem_cons hth]; rfl
     refine xo 12 ?_
     refine ld ?_
     refine oo 1 ?_
     refine XO.adr hq.t (by rw [hlen]; omega) (fun b1 o1 e1 => ?_)
     have hs1 := hq.t; rw [e1] at hs1
     refine XO.know 20 (.slice (some ⟨b1, o1, none⟩) m.threads.length m.tc) rfl (by rw [e1]) ?_
     refine oo 1 ?_
     refine XO.cX Tryd.call32 (Le.refl _) (depthsOf_ok (m := m) (t := m.threads[s]) (g.le leA) (CellsAt.of hasA) (CellsAt.row (j := (s : Int)) hs1 leA (fun _ => rfl) hth (by omega)) ((hq.x _ (List.getElem_mem hth)).le leA) hin hL) ?_
     rintro _ _ (⟨hz, rfl, rfl⟩ | ⟨hz, a1, c1, rfl, rfl⟩)
     · skip
       refine ox 11 ?_
       refine X.sb [27, 6, 15, 14, 1, 2] ?_
       refine X.know 27 (.bool true) rfl (congrArg Value.bool (by rw [bne_iff_ne]; exact hz)) ?_
       refine xx 6 ?_
       refine X.retL (q) Tryd.func21 (res1 Tryd.results21 rfl) ⟨_, rfl, by unfold vchk; rw [if_neg (by omega), hv, hvd, if_pos hz], rfl⟩
     · skip
       refine ox 11 ?_
       refine X.sb [27, 6, 15, 14, 1, 2] ?_
       refine X.kf 27 ?_
       refine xx 7 ?_
       refine X.at (ih (s + 1) ⟨by omega, by rw [hv, hvd, if_neg (by omega)]⟩ (by omega)) subA leA
   · skip
     replace h0 := sp h0
     refine xx 6 ?_
     refine X.retL (q) Tryd.func21 (res1 Tryd.results21 rfl) ⟨_, rfl, by unfold vchk; rw [if_neg (by omega), hv, List.drop_eq_nil_of_le (by omega)]; rfl, rfl⟩
end
end Go.Proofs.YtbeeplmgcdnadaaDoor

