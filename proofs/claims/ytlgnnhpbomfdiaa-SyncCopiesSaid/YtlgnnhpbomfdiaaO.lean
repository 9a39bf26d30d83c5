/- What functions of package sync, of its references and of its laws do: contracts of calls, proved by walking their code. -/
import Derived.Test.YtlgnnhpbomfdiaaN
import Derived.KernelRfl
set_option maxRecDepth 100000
set_option linter.unusedVariables false
set_option linter.unusedSimpArgs false
namespace Go.Proofs.Ytlgnnhpbomfdiaa
open Go Go.RowKit Wx
attribute [local irreducible] Wx.lsH Wx.rsH Wx.lsM Wx.rsM Wx.stars

section
variable {G : World} {q : List HP} {a b : Option Addr} {c d g p i n : Nat} {σ : SyC} {r : RS} {s : Sy} {k t v m wh nn th vv : Int}
set_option maxHeartbeats 1000000 in
theorem is_ok (h : Ref r s) (hR : Real σ s) {N : Nat} (hs : s.ok N) (hN : N ≤ 900) : CallF Try.prog G 27 [.pointer (some ⟨p, 0, none⟩), .agg [.slice r.ow.a r.ow.l.length r.ow.c, .slice r.cs.a r.cs.l.length r.cs.c, .slice r.rm.a r.rm.l.length r.rm.c, .slice r.st.a r.st.l.length r.st.c, .slice r.tk.a r.tk.l.length r.tk.c].toArray] [refM r, syH p σ] (Ret fun v q' => v = .bool true ∧ q' = [refM r, syH p σ]) := by
  refine CallF.of Try.func27 Try.ntmps27 rfl (fun F cs => ?_)
  refine X.sub (p' := [(0, _), (1, _)]) ⟨rfl, rfl, trivial⟩ ?_
  change X _ _ _ _ _ _ _ _ (refM r :: syH p σ :: F)
  refine X.refM (fun hr => ?_)
  have hz : ∀ q', Le q' (refM r :: syH p σ :: F) → RSee q' r := fun q' l => hr.le l; have hl := h.len hs (by omega); have hlo := hl.o; have hlc := hl.c; have hlm := hl.m; have hlt := hl.t; have hlk := hl.k; have eo := h.lo; have ec := h.lc; have em := h.lm; have et := h.lt; have ek := h.lk
  refine X.seq ?_
  refine X.region ?_
  refine XO.ef (Ef.box rfl) ?_
  rintro _ _ ⟨n1, rfl, rfl⟩
  refine XO.pu (Pu.assign rfl) ?_
  refine XO.nil ?_
  refine X.sub (p' := [(4, _), (3, _), (0, _)]) ⟨rfl, rfl, rfl, trivial⟩ ?_
  refine X.seq ?_
  refine X.seq ?_
  refine X.region ?_
  refine XO.pu (Pu.assign rfl) ?_
  refine XO.nil ?_
  refine X.sub (p' := [(5, _), (4, _), (3, _), (0, _)]) ⟨rfl, rfl, rfl, rfl, trivial⟩ ?_
  refine X.block ?_
  refine X.at (X.loop (fun (x : Nat) => x ≤ r.ow.l.length) (fun x => [(0, .pointer (some ⟨p, 0, none⟩)), (3, .pointer (some ⟨n1, 0, none⟩)), (5, .int .i64 (x : Int))]) (fun x => pto n1 (.cells [.slice r.ow.a r.ow.l.length r.ow.c, .slice r.cs.a r.cs.l.length r.cs.c, .slice r.rm.a r.rm.l.length r.rm.c, .slice r.st.a r.st.l.length r.st.c, .slice r.tk.a r.tk.l.length r.tk.c].toArray 53 (0, 0)) :: refM r :: syH p σ :: F) (fun x => r.ow.l.length - x) (fun x hi_ ih => ?_) 0 (by omega)) ⟨(by first | rfl | exact congrArg some (congrArg (Value.int _) (by omega)) | (show some _ = some _; simp; done) | (show some _ = some _; simp; omega)), (by first | rfl | exact congrArg some (congrArg (Value.int _) (by omega)) | (show some _ = some _; simp; done) | (show some _ = some _; simp; omega)), (by first | rfl | exact congrArg some (congrArg (Value.int _) (by omega)) | (show some _ = some _; simp; done) | (show some _ = some _; simp; omega)), trivial⟩ leA
  try dsimp only at hi_ ih ⊢
  obtain hi := hi_
  refine X.seq ?_
  refine X.seq ?_
  refine X.region ?_
  refine XO.pu (Pu.move rfl) ?_
  refine XO.pu (Pu.fieldAddr 29 0 0 rfl Try.underlying53 rfl Try.sizeOf29) ?_
  refine XO.ld Try.isAgg29 ?_
  refine XO.pu (Pu.len rfl Try.underlying29) ?_
  refine XO.pu (Pu.lss rfl rfl) ?_
  refine XO.nil ?_
  refine X.sub (p' := [(22, _), (0, _), (3, _), (5, _)]) ⟨rfl, rfl, rfl, rfl, trivial⟩ ?_
  refine X.part 22 rfl (fun h0 => ?_) (fun h0 => ?_)
  · skip
    have h0 := of_decide_eq_true h0; have hi0 : x < r.ow.l.length := (by omega)
    have hin : inR (x : Int) s.owners.length := ⟨by omega, by omega⟩; have hv : ownerS s (x : Int) = (r.ow.l[x], 0) := (if_pos hin).trans (by rw [← h.ol hi0]; rfl)
    refine X.condT rfl ?_
    refine X.skip ?_
    refine X.seq ?_
    refine X.block ?_
    refine X.seq ?_
    refine X.region ?_
    refine XO.pu (Pu.move rfl) ?_
    refine XO.pu (Pu.move rfl) ?_
    refine XO.cF Try.call20 (Owner_H (m := (x : Int)) hR hs (by omega)) ?_
    rintro _ _ ⟨rfl, rfl⟩ _ e_; simp only [ca, na] at e_; subst e_
    rw [hv]
    refine XO.adr ((hz _ leA).so) (by simp; omega) (fun b5 o5 e5 => ?_); have hs5 := hr.so; rw [e5] at hs5; rw [e5]
    refine XO.pu (Pu.move rfl) ?_
    refine XO.pu (Pu.extract rfl rfl) ?_
    refine XO.pu (Pu.extract rfl rfl) ?_
    refine XO.pu (Pu.assign rfl) ?_
    refine XO.pu (Pu.assign rfl) ?_
    refine XO.nil ?_
    refine X.sub (p' := [(7, _), (6, _), (0, _), (3, _), (5, _)]) ⟨rfl, rfl, rfl, rfl, rfl, trivial⟩ ?_
    refine X.seq ?_
    refine X.region ?_
    refine XO.pu (Pu.move rfl) ?_
    refine XO.pu (Pu.fieldAddr 29 0 0 rfl Try.underlying53 rfl Try.sizeOf29) ?_
    refine XO.ld Try.isAgg29 ?_
    refine XO.pu (Pu.move rfl) ?_
    refine XO.pu (Pu.indexAddr rfl rfl Try.underlying29 Try.sizeOf3 (by omega) (by omega)) ?_
    refine XO.ld Try.isAgg3 ?_
    refine XO.pu (Pu.neq rfl rfl) ?_
    refine XO.pu (Pu.move rfl) ?_
    refine XO.know 38 (.bool false) rfl (congrArg Value.bool ((by first | rfl | (simp; done) | (simp; omega)))) ?_
    refine XO.pu (Pu.move rfl) ?_
    refine XO.cR Try.call14 (lnum_ok) ?_
    refine XO.pu (Pu.neq rfl rfl) ?_
    refine XO.pu (Pu.pickF rfl rfl) ?_
    refine XO.nil ?_
    refine X.sub (p' := [(42, _), (0, _), (3, _), (5, _)]) ⟨rfl, rfl, rfl, rfl, trivial⟩ ?_
    refine X.know 42 (.bool false) rfl (congrArg Value.bool (rfl)) ?_
    refine X.condF rfl ?_
    refine X.skip ?_
    refine X.inBlock ?_
    refine X.region ?_
    refine XO.pu (Pu.move rfl) ?_
    refine XO.pu (Pu.add rfl rfl (by omega) (by omega)) ?_
    refine XO.pu (Pu.assign rfl) ?_
    refine XO.nil ?_
    refine X.sub (p' := [(5, _), (0, _), (3, _)]) ⟨rfl, rfl, rfl, trivial⟩ ?_
    rw [← e5]
    refine X.at (ih (x + 1) (by omega) (by omega)) ⟨(by first | rfl | exact congrArg some (congrArg (Value.int _) (by omega)) | (show some _ = some _; simp; done) | (show some _ = some _; simp; omega)), (by first | rfl | exact congrArg some (congrArg (Value.int _) (by omega)) | (show some _ = some _; simp; done) | (show some _ = some _; simp; omega)), (by first | rfl | exact congrArg some (congrArg (Value.int _) (by omega)) | (show some _ = some _; simp; done) | (show some _ = some _; simp; omega)), trivial⟩ leA
  · skip
    have h0 := of_decide_eq_false h0; clear ih
    refine X.condF rfl ?_
    refine X.exit rfl ?_
    refine X.seq ?_
    refine X.seq ?_
    refine X.region ?_
    refine XO.pu (Pu.assign rfl) ?_
    refine XO.nil ?_
    refine X.sub (p' := [(8, _), (0, _), (3, _)]) ⟨rfl, rfl, rfl, trivial⟩ ?_
    refine X.block ?_
    refine X.at (X.loop (fun (x : Nat) => x ≤ r.cs.l.length) (fun x => [(0, .pointer (some ⟨p, 0, none⟩)), (3, .pointer (some ⟨n1, 0, none⟩)), (8, .int .i64 (x : Int))]) (fun x => pto n1 (.cells [.slice r.ow.a r.ow.l.length r.ow.c, .slice r.cs.a r.cs.l.length r.cs.c, .slice r.rm.a r.rm.l.length r.rm.c, .slice r.st.a r.st.l.length r.st.c, .slice r.tk.a r.tk.l.length r.tk.c].toArray 53 (0, 0)) :: refM r :: syH p σ :: F) (fun x => r.cs.l.length - x) (fun x hi_ ih => ?_) 0 (by omega)) ⟨(by first | rfl | exact congrArg some (congrArg (Value.int _) (by omega)) | (show some _ = some _; simp; done) | (show some _ = some _; simp; omega)), (by first | rfl | exact congrArg some (congrArg (Value.int _) (by omega)) | (show some _ = some _; simp; done) | (show some _ = some _; simp; omega)), (by first | rfl | exact congrArg some (congrArg (Value.int _) (by omega)) | (show some _ = some _; simp; done) | (show some _ = some _; simp; omega)), trivial⟩ leA
    try dsimp only at hi_ ih ⊢
    obtain hi := hi_
    refine X.seq ?_
    refine X.seq ?_
    refine X.region ?_
    refine XO.pu (Pu.move rfl) ?_
    refine XO.pu (Pu.fieldAddr 50 1 0 rfl Try.underlying53 rfl Try.sizeOf50) ?_
    refine XO.ld Try.isAgg50 ?_
    refine XO.pu (Pu.len rfl Try.underlying50) ?_
    refine XO.pu (Pu.lss rfl rfl) ?_
    refine XO.nil ?_
    refine X.sub (p' := [(47, _), (0, _), (3, _), (8, _)]) ⟨rfl, rfl, rfl, rfl, trivial⟩ ?_
    refine X.part 47 rfl (fun h0 => ?_) (fun h0 => ?_)
    · skip
      have h0 := of_decide_eq_true h0; have hi0 : x < r.cs.l.length := (by omega)
      have hin : inR (x : Int) s.conds.length := ⟨by omega, by omega⟩; have hv : waitsS s (x : Int) = (r.cs.l[x].l, 0) := (if_pos hin).trans (by rw [← h.cl hi0]; rfl); have hci := hl.ci _ (List.getElem_mem hi0)
      refine X.condT rfl ?_
      refine X.skip ?_
      refine X.seq ?_
      refine X.block ?_
      refine X.seq ?_
      refine X.region ?_
      refine XO.pu (Pu.move rfl) ?_
      refine XO.pu (Pu.move rfl) ?_
      refine XO.cF Try.call21 (Waits_H (k := (x : Int)) hR hs (by omega)) ?_
      rintro _ _ ⟨a7, c7, rfl, rfl⟩ _ e_; simp only [ca, na] at e_; subst e_
      rw [hv]
      refine XO.adr ((hz _ leA).sc) (by simp; omega) (fun b5 o5 e5 => ?_); have hs5 := hr.sc; rw [e5] at hs5; rw [e5]
      refine XO.pu (Pu.move rfl) ?_
      refine XO.pu (Pu.extract rfl rfl) ?_
      refine XO.pu (Pu.extract rfl rfl) ?_
      refine XO.pu (Pu.assign rfl) ?_
      refine XO.pu (Pu.assign rfl) ?_
      refine XO.nil ?_
      refine X.sub (p' := [(10, _), (9, _), (0, _), (3, _), (8, _)]) ⟨rfl, rfl, rfl, rfl, rfl, trivial⟩ ?_
      refine X.seq ?_
      refine X.region ?_
      refine XO.pu (Pu.move rfl) ?_
      refine XO.pu (Pu.fieldAddr 50 1 0 rfl Try.underlying53 rfl Try.sizeOf50) ?_
      refine XO.ld Try.isAgg50 ?_
      refine XO.pu (Pu.move rfl) ?_
      refine XO.pu (Pu.indexAddr rfl rfl Try.underlying50 Try.sizeOf29 (by omega) (by omega)) ?_
      refine XO.ld Try.isAgg29 ?_
      refine XO.cR Try.call22 (LInts_ok (l := r.cs.l[x].l) (m := r.cs.l[x].l) ((Sees.lsH _).le leA) ((hr.sci x hi0).le leA) (by omega)) ?_
      refine XO.pu (Pu.not rfl) ?_
      refine XO.pu (Pu.move rfl) ?_
      refine XO.know 64 (.bool false) rfl (congrArg Value.bool ((by first | rfl | (simp; done) | (simp; omega)))) ?_
      refine XO.pu (Pu.move rfl) ?_
      refine XO.cR Try.call14 (lnum_ok) ?_
      refine XO.pu (Pu.neq rfl rfl) ?_
      refine XO.pu (Pu.pickF rfl rfl) ?_
      refine XO.nil ?_
      refine X.sub (p' := [(68, _), (0, _), (3, _), (8, _)]) ⟨rfl, rfl, rfl, rfl, trivial⟩ ?_
      refine X.know 68 (.bool false) rfl (congrArg Value.bool (rfl)) ?_
      refine X.condF rfl ?_
      refine X.skip ?_
      refine X.inBlock ?_
      refine X.region ?_
      refine XO.pu (Pu.move rfl) ?_
      refine XO.pu (Pu.add rfl rfl (by omega) (by omega)) ?_
      refine XO.pu (Pu.assign rfl) ?_
      refine XO.nil ?_
      refine X.sub (p' := [(8, _), (0, _), (3, _)]) ⟨rfl, rfl, rfl, trivial⟩ ?_
      rw [← e5]
      refine X.at (ih (x + 1) (by omega) (by omega)) ⟨(by first | rfl | exact congrArg some (congrArg (Value.int _) (by omega)) | (show some _ = some _; simp; done) | (show some _ = some _; simp; omega)), (by first | rfl | exact congrArg some (congrArg (Value.int _) (by omega)) | (show some _ = some _; simp; done) | (show some _ = some _; simp; omega)), (by first | rfl | exact congrArg some (congrArg (Value.int _) (by omega)) | (show some _ = some _; simp; done) | (show some _ = some _; simp; omega)), trivial⟩ leA
    · skip
      have h0 := of_decide_eq_false h0; clear ih
      refine X.condF rfl ?_
      refine X.exit rfl ?_
      refine X.seq ?_
      refine X.seq ?_
      refine X.region ?_
      refine XO.pu (Pu.assign rfl) ?_
      refine XO.nil ?_
      refine X.sub (p' := [(11, _), (0, _), (3, _)]) ⟨rfl, rfl, rfl, trivial⟩ ?_
      refine X.block ?_
      refine X.at (X.loop (fun (x : Nat) => x ≤ r.rm.l.length) (fun x => [(0, .pointer (some ⟨p, 0, none⟩)), (3, .pointer (some ⟨n1, 0, none⟩)), (11, .int .i64 (x : Int))]) (fun x => pto n1 (.cells [.slice r.ow.a r.ow.l.length r.ow.c, .slice r.cs.a r.cs.l.length r.cs.c, .slice r.rm.a r.rm.l.length r.rm.c, .slice r.st.a r.st.l.length r.st.c, .slice r.tk.a r.tk.l.length r.tk.c].toArray 53 (0, 0)) :: refM r :: syH p σ :: F) (fun x => r.rm.l.length - x) (fun x hi_ ih => ?_) 0 (by omega)) ⟨(by first | rfl | exact congrArg some (congrArg (Value.int _) (by omega)) | (show some _ = some _; simp; done) | (show some _ = some _; simp; omega)), (by first | rfl | exact congrArg some (congrArg (Value.int _) (by omega)) | (show some _ = some _; simp; done) | (show some _ = some _; simp; omega)), (by first | rfl | exact congrArg some (congrArg (Value.int _) (by omega)) | (show some _ = some _; simp; done) | (show some _ = some _; simp; omega)), trivial⟩ leA
      try dsimp only at hi_ ih ⊢
      obtain hi := hi_
      refine X.seq ?_
      refine X.seq ?_
      refine X.region ?_
      refine XO.pu (Pu.move rfl) ?_
      refine XO.pu (Pu.fieldAddr 29 2 0 rfl Try.underlying53 rfl Try.sizeOf29) ?_
      refine XO.ld Try.isAgg29 ?_
      refine XO.pu (Pu.len rfl Try.underlying29) ?_
      refine XO.pu (Pu.lss rfl rfl) ?_
      refine XO.nil ?_
      refine X.sub (p' := [(73, _), (0, _), (3, _), (11, _)]) ⟨rfl, rfl, rfl, rfl, trivial⟩ ?_
      refine X.part 73 rfl (fun h0 => ?_) (fun h0 => ?_)
      · skip
        have h0 := of_decide_eq_true h0; have hi0 : x < r.rm.l.length := (by omega)
        have hin : inR (x : Int) s.chans.length := ⟨by omega, by omega⟩; have hi2 : x < r.st.l.length := (by omega); have hi3 : x < r.tk.l.length := (by omega)
        have hch := hs.h _ (getD_mem (d := ch0) (show x < s.chans.length by omega)); obtain ⟨⟨hr1, hr2⟩, htk, hal, hit, hva⟩ := hch; have hm := h.ml (i := x) (by omega); have ht := h.tl (i := x) (by omega); have hk := h.kl (i := x) (by omega); have htl := congrArg List.length ht
        have hv1 : roomS s (x : Int) = (r.rm.l[x], 0) := (if_pos hin).trans (by rw [← hm]; rfl)
        have hv2 : valuesS s (x : Int) = ((r.st.l[x].l.drop (r.tk.l[x]).toNat), 0) := (if_pos hin).trans (by rw [← hk, ← ht]; rfl)
        have hts : (r.tk.l[x]).toNat ≤ r.st.l[x].l.length := (by omega); have hti := hl.ti _ (List.getElem_mem hi2)
        refine X.condT rfl ?_
        refine X.skip ?_
        refine X.seq ?_
        refine X.block ?_
        refine X.seq ?_
        refine X.region ?_
        refine XO.pu (Pu.move rfl) ?_
        refine XO.pu (Pu.move rfl) ?_
        refine XO.cF Try.call29 (Room_H (k := (x : Int)) hR hs (by omega)) ?_
        rintro _ _ ⟨rfl, rfl⟩ _ e_; simp only [ca, na] at e_; subst e_
        rw [hv1]
        refine XO.pu (Pu.move rfl) ?_
        refine XO.pu (Pu.extract rfl rfl) ?_
        refine XO.pu (Pu.extract rfl rfl) ?_
        refine XO.pu (Pu.assign rfl) ?_
        refine XO.pu (Pu.assign rfl) ?_
        refine XO.nil ?_
        refine X.sub (p' := [(13, _), (12, _), (0, _), (3, _), (11, _)]) ⟨rfl, rfl, rfl, rfl, rfl, trivial⟩ ?_
        refine X.seq ?_
        refine X.region ?_
        refine XO.pu (Pu.move rfl) ?_
        refine XO.pu (Pu.move rfl) ?_
        refine XO.cF Try.call28 (Values_H (k := (x : Int)) hR hs (by omega)) ?_
        rintro _ _ ⟨a7, c7, rfl, rfl⟩ _ e_; simp only [ca, na] at e_; subst e_
        rw [hv2]
        generalize hD : r.st.l[x].l.drop (r.tk.l[x]).toNat = D; have hDl : D.length = r.st.l[x].l.length - (r.tk.l[x]).toNat := by rw [← hD, List.length_drop]
        refine XO.pu (Pu.move rfl) ?_
        refine XO.pu (Pu.extract rfl rfl) ?_
        refine XO.pu (Pu.extract rfl rfl) ?_
        refine XO.pu (Pu.assign rfl) ?_
        refine XO.pu (Pu.assign rfl) ?_
        refine XO.nil ?_
        refine X.sub (p' := [(15, _), (14, _), (13, _), (12, _), (0, _), (3, _), (11, _)]) ⟨rfl, rfl, rfl, rfl, rfl, rfl, rfl, trivial⟩ ?_
        refine X.seq ?_
        refine X.region ?_
        refine XO.ldA Try.isAgg53 Try.sizeOf53 ?_
        refine XO.pu (Pu.move rfl) ?_
        refine XO.cR Try.call53 (RVals_ok (i := x) (hz _ leA) hl (by omega) (by omega) (by omega)) ?_
        rw [← hDl]; have hsw : Sees (refM r :: syH p σ :: F) (sufA r.st.l[x].a r.st.l[x].c (r.tk.l[x]).toNat 1) (D.map I64) := by have := (hr.ssi x hi2).suf (l := (r.tk.l[x]).toNat) (c := r.st.l[x].c) (sz := 1) (by have := hr.ssl x hi2; simp; omega); rw [← hD, List.map_drop]; simpa using this
        generalize sufA r.st.l[x].a r.st.l[x].c (r.tk.l[x]).toNat 1 = A9 at hsw ⊢; generalize r.st.l[x].c - (r.tk.l[x]).toNat = C9
        refine XO.adr ((hz _ leA).sr) (by simp; omega) (fun b5 o5 e5 => ?_); have hs5 := hr.sr; rw [e5] at hs5; rw [e5]
        refine XO.pu (Pu.assign rfl) ?_
        refine XO.nil ?_
        refine X.sub (p' := [(16, _), (15, _), (14, _), (13, _), (12, _), (0, _), (3, _), (11, _)]) ⟨rfl, rfl, rfl, rfl, rfl, rfl, rfl, rfl, trivial⟩ ?_
        refine X.seq ?_
        refine X.seq ?_
        refine X.region ?_
        refine XO.pu (Pu.move rfl) ?_
        refine XO.pu (Pu.fieldAddr 29 2 0 rfl Try.underlying53 rfl Try.sizeOf29) ?_
        refine XO.ld Try.isAgg29 ?_
        refine XO.pu (Pu.move rfl) ?_
        refine XO.pu (Pu.indexAddr rfl rfl Try.underlying29 Try.sizeOf3 (by omega) (by omega)) ?_
        refine XO.ld Try.isAgg3 ?_
        refine XO.pu (Pu.neq rfl rfl) ?_
        refine XO.pu (Pu.move rfl) ?_
        refine XO.know 98 (.bool false) rfl (congrArg Value.bool ((by first | rfl | (simp; done) | (simp; omega)))) ?_
        refine XO.pu (Pu.move rfl) ?_
        refine XO.cR Try.call14 (lnum_ok) ?_
        refine XO.pu (Pu.move rfl) ?_
        refine XO.cR Try.call14 (lnum_ok) ?_
        refine XO.pu (Pu.add rfl rfl (by omega) (by omega)) ?_
        refine XO.pu (Pu.neq rfl rfl) ?_
        refine XO.pu (Pu.pickF rfl rfl) ?_
        refine XO.pu (Pu.move rfl) ?_
        refine XO.know 106 (.bool false) rfl (congrArg Value.bool ((by first | rfl | (simp; done) | (simp; omega)))) ?_
        refine XO.pu (Pu.move rfl) ?_
        refine XO.pu (Pu.len rfl Try.underlying28) ?_
        refine XO.pu (Pu.move rfl) ?_
        refine XO.pu (Pu.len rfl Try.underlying28) ?_
        refine XO.pu (Pu.neq rfl rfl) ?_
        refine XO.pu (Pu.pickF rfl rfl) ?_
        refine XO.nil ?_
        refine X.sub (p' := [(112, _), (16, _), (14, _), (0, _), (3, _), (11, _)]) ⟨rfl, rfl, rfl, rfl, rfl, rfl, trivial⟩ ?_
        refine X.know 112 (.bool false) rfl (congrArg Value.bool (by simp)) ?_
        refine X.condF rfl ?_
        refine X.skip ?_
        refine X.seq ?_
        refine X.region ?_
        refine XO.pu (Pu.assign rfl) ?_
        refine XO.nil ?_
        refine X.sub (p' := [(17, _), (16, _), (14, _), (0, _), (3, _), (11, _)]) ⟨rfl, rfl, rfl, rfl, rfl, rfl, trivial⟩ ?_
        refine X.block ?_
        rw [← e5]
        refine X.at (X.loop (fun (y : Nat) => y ≤ D.length) (fun y => [(0, .pointer (some ⟨p, 0, none⟩)), (3, .pointer (some ⟨n1, 0, none⟩)), (11, .int .i64 (x : Int)), (14, .slice a7 D.length c7), (16, .slice A9 D.length C9), (17, .int .i64 (y : Int))]) (fun y => pto n1 (.cells [.slice r.ow.a r.ow.l.length r.ow.c, .slice r.cs.a r.cs.l.length r.cs.c, .slice r.rm.a r.rm.l.length r.rm.c, .slice r.st.a r.st.l.length r.st.c, .slice r.tk.a r.tk.l.length r.tk.c].toArray 53 (0, 0)) :: refM r :: lsH I64 2 a7 c7 D :: syH p σ :: F) (fun y => D.length - y) (fun y hi_ ih2 => ?_) 0 (by omega)) ⟨(by first | rfl | exact congrArg some (congrArg (Value.int _) (by omega)) | (show some _ = some _; simp; done) | (show some _ = some _; simp; omega)), (by first | rfl | exact congrArg some (congrArg (Value.int _) (by omega)) | (show some _ = some _; simp; done) | (show some _ = some _; simp; omega)), (by first | rfl | exact congrArg some (congrArg (Value.int _) (by omega)) | (show some _ = some _; simp; done) | (show some _ = some _; simp; omega)), (by first | rfl | exact congrArg some (congrArg (Value.int _) (by omega)) | (show some _ = some _; simp; done) | (show some _ = some _; simp; omega)), (by first | rfl | exact congrArg some (congrArg (Value.int _) (by omega)) | (show some _ = some _; simp; done) | (show some _ = some _; simp; omega)), (by first | rfl | exact congrArg some (congrArg (Value.int _) (by omega)) | (show some _ = some _; simp; done) | (show some _ = some _; simp; omega)), trivial⟩ leA
        try dsimp only at hi_ ih2 ⊢
        obtain hi := hi_
        refine X.seq ?_
        refine X.seq ?_
        refine X.region ?_
        refine XO.pu (Pu.move rfl) ?_
        refine XO.pu (Pu.move rfl) ?_
        refine XO.pu (Pu.len rfl Try.underlying28) ?_
        refine XO.pu (Pu.lss rfl rfl) ?_
        refine XO.nil ?_
        refine X.sub (p' := [(116, _), (0, _), (3, _), (11, _), (14, _), (16, _), (17, _)]) ⟨rfl, rfl, rfl, rfl, rfl, rfl, rfl, trivial⟩ ?_
        refine X.part 116 rfl (fun h1 => ?_) (fun h1 => ?_)
        · skip
          have h1 := of_decide_eq_true h1; have hy0 : y < D.length := (by omega)
          refine X.adr (a := a7) (vs := D.map I64) ((Sees.lsH (ty := 2) (c := c7) []).le leA) (by simp; omega) (fun b8 o8 e8 => ?_); refine X.adr (hsw.le leA) (by simp; omega) (fun b9 o9 e9 => ?_); subst e8; subst e9
          have hs8 : Sees (lsH I64 2 (some ⟨b8, o8, none⟩) c7 D :: []) (some ⟨b8, o8, none⟩) (D.map I64) := Sees.lsH []
          refine X.condT rfl ?_
          refine X.skip ?_
          refine X.seq ?_
          refine X.block ?_
          refine X.seq ?_
          refine X.draw [] Try.mixed (by kernel_rfl) (by kernel_rfl) rfl ?_
          refine XD.pu 0 rfl (Pu.move rfl) ?_
          refine XD.pu 1 rfl (Pu.move rfl) ?_
          refine XD.pu 2 rfl (Pu.indexAddr rfl rfl Try.underlying28 Try.sizeOf2 (by omega) (by omega)) ?_
          refine XD.ld 3 Try.isAgg2 ?_
          refine XD.pu 4 rfl (Pu.move rfl) ?_
          refine XD.pu 5 rfl (Pu.move rfl) ?_
          refine XD.pu 6 rfl (Pu.indexAddr rfl rfl Try.underlying28 Try.sizeOf2 (by omega) (by omega)) ?_
          refine XD.ld 7 Try.isAgg2 ?_
          refine XD.pu 8 rfl (Pu.neq rfl rfl) ?_
          refine XD.nil ?_
          refine X.sub (p' := [(127, _), (0, _), (3, _), (11, _), (14, _), (16, _), (17, _)]) ⟨rfl, rfl, rfl, rfl, rfl, rfl, rfl, trivial⟩ ?_
          refine X.know 127 (.bool false) rfl (congrArg Value.bool (by simp)) ?_
          refine X.condF rfl ?_
          refine X.skip ?_
          refine X.inBlock ?_
          refine X.region ?_
          refine XO.pu (Pu.move rfl) ?_
          refine XO.pu (Pu.add rfl rfl (by omega) (by omega)) ?_
          refine XO.pu (Pu.assign rfl) ?_
          refine XO.nil ?_
          refine X.sub (p' := [(17, _), (0, _), (3, _), (11, _), (14, _), (16, _)]) ⟨rfl, rfl, rfl, rfl, rfl, rfl, trivial⟩ ?_
          refine X.at (ih2 (y + 1) (by omega) (by omega)) ⟨(by first | rfl | exact congrArg some (congrArg (Value.int _) (by omega)) | (show some _ = some _; simp; done) | (show some _ = some _; simp; omega)), (by first | rfl | exact congrArg some (congrArg (Value.int _) (by omega)) | (show some _ = some _; simp; done) | (show some _ = some _; simp; omega)), (by first | rfl | exact congrArg some (congrArg (Value.int _) (by omega)) | (show some _ = some _; simp; done) | (show some _ = some _; simp; omega)), (by first | rfl | exact congrArg some (congrArg (Value.int _) (by omega)) | (show some _ = some _; simp; done) | (show some _ = some _; simp; omega)), (by first | rfl | exact congrArg some (congrArg (Value.int _) (by omega)) | (show some _ = some _; simp; done) | (show some _ = some _; simp; omega)), (by first | rfl | exact congrArg some (congrArg (Value.int _) (by omega)) | (show some _ = some _; simp; done) | (show some _ = some _; simp; omega)), trivial⟩ leA
        · skip
          have h1 := of_decide_eq_false h1
          refine X.condF rfl ?_
          refine X.exit rfl ?_
          refine X.inBlock ?_
          refine X.region ?_
          refine XO.pu (Pu.move rfl) ?_
          refine XO.pu (Pu.add rfl rfl (by omega) (by omega)) ?_
          refine XO.pu (Pu.assign rfl) ?_
          refine XO.nil ?_
          refine X.sub (p' := [(11, _), (0, _), (3, _)]) ⟨rfl, rfl, rfl, trivial⟩ ?_
          refine X.at (ih (x + 1) (by omega) (by omega)) ⟨(by first | rfl | exact congrArg some (congrArg (Value.int _) (by omega)) | (show some _ = some _; simp; done) | (show some _ = some _; simp; omega)), (by first | rfl | exact congrArg some (congrArg (Value.int _) (by omega)) | (show some _ = some _; simp; done) | (show some _ = some _; simp; omega)), (by first | rfl | exact congrArg some (congrArg (Value.int _) (by omega)) | (show some _ = some _; simp; done) | (show some _ = some _; simp; omega)), trivial⟩ leA
      · skip
        have h0 := of_decide_eq_false h0; clear ih
        refine X.condF rfl ?_
        refine X.exit rfl ?_
        refine X.seq ?_
        refine X.region ?_
        refine XO.pu (Pu.assign rfl) ?_
        refine XO.nil ?_
        refine X.sub (p' := [(4, _)]) ⟨rfl, trivial⟩ ?_
        refine X.retL [refM r, syH p σ] Try.func27 (res1 Try.results27 rfl) ⟨_, rfl, rfl, rfl⟩
def wk0 : Sy := newS 1 1 [1]
def wk1 : Sy := (lockS wk0 0 1).1
def wk2 : Sy := (lockS wk1 0 2).1
def wk3 : Sy := (waitS wk2 0 3).1
def wk4 : Sy := (signalS wk3 0).1
def wk5 : Sy := (sendS wk4 0 7).1
def wk6 : Sy := (recvS wk5 0).1
theorem wk0_ok : wk0.ok 0 := newS_ok (m := 1) (c := 1) (rooms := [1]) (by decide)
theorem wk6_ok : wk6.ok 9 := (recvS_ok (sendS_ok (signalS_ok (waitS_ok (lockS_ok (lockS_ok wk0_ok _ _) _ _) _ _) _) _ _) _).mono (by decide)
set_option maxHeartbeats 1000000 in
theorem works_ok  : CallF Try.prog G 11 [] q (Ret fun v q' => v = .bool true ∧ q' = q) := by
  refine CallF.of Try.func11 Try.ntmps11 rfl (fun F cs => ?_)
  refine X.sub (p' := []) trivial ?_
  refine X.seq ?_
  refine X.region ?_
  refine XO.pu (Pu.assign rfl) ?_
  refine XO.nil ?_
  refine X.sub (p' := [(0, _)]) ⟨rfl, trivial⟩ ?_
  refine X.seq ?_
  refine X.region ?_
  refine XO.ef (Ef.lit1 (u := 1) I64 Try.underlying29 Try.info3 rfl rfl) ?_
  rintro _ _ ⟨g2, rfl, rfl⟩
  refine XO.cX Try.call12 (Le.refl _) (New_ok (q := lsH I64 3 (some ⟨g2, 0, none⟩) 1 [1] :: (q ++ F)) (mm := 1) (cc := 1) (rooms := [1]) (Sees.lsH _) (by decide)) ?_
  rintro _ _ ⟨p, σ, hR, rfl, rfl⟩
  refine XO.le (Le.syInQ p σ _) ?_
  have hR0 : Real σ wk0 := hR
  refine XO.pu (Pu.move rfl) ?_
  refine XO.pu (Pu.extract rfl rfl) ?_
  refine XO.pu (Pu.extract rfl rfl) ?_
  refine XO.pu (Pu.assign rfl) ?_
  refine XO.pu (Pu.assign rfl) ?_
  refine XO.nil ?_
  refine X.sub (p' := [(2, _), (1, _), (0, _)]) ⟨rfl, rfl, rfl, trivial⟩ ?_
  refine X.seq ?_
  refine X.region ?_
  refine XO.pu (Pu.move rfl) ?_
  refine XO.cF Try.call13 (Lock_H (m := 0) (t := 1) (s := wk0) hR0 wk0_ok (by decide)) ?_
  rintro _ _ ⟨σ1, hR1, rfl, rfl⟩ _ e_; simp only [ca, na] at e_; subst e_
  rw [show (lockS wk0 0 1).2.1 = true by decide, show (lockS wk0 0 1).2.2 = 0 by decide]
  refine XO.pu (Pu.move rfl) ?_
  refine XO.pu (Pu.extract rfl rfl) ?_
  refine XO.pu (Pu.extract rfl rfl) ?_
  refine XO.pu (Pu.assign rfl) ?_
  refine XO.pu (Pu.assign rfl) ?_
  refine XO.nil ?_
  refine X.sub (p' := [(4, _), (3, _), (2, _), (1, _), (0, _)]) ⟨rfl, rfl, rfl, rfl, rfl, trivial⟩ ?_
  refine X.seq ?_
  refine X.region ?_
  refine XO.pu (Pu.move rfl) ?_
  refine XO.cF Try.call13 (Lock_H (m := 0) (t := 2) (s := wk1) hR1 (lockS_ok wk0_ok 0 1) (by decide)) ?_
  rintro _ _ ⟨σ2, hR2, rfl, rfl⟩ _ e_; simp only [ca, na] at e_; subst e_
  rw [show (lockS wk1 0 2).2.1 = false by decide, show (lockS wk1 0 2).2.2 = 0 by decide]
  refine XO.pu (Pu.move rfl) ?_
  refine XO.pu (Pu.extract rfl rfl) ?_
  refine XO.pu (Pu.extract rfl rfl) ?_
  refine XO.pu (Pu.assign rfl) ?_
  refine XO.pu (Pu.assign rfl) ?_
  refine XO.nil ?_
  refine X.sub (p' := [(6, _), (5, _), (4, _), (3, _), (2, _), (1, _), (0, _)]) ⟨rfl, rfl, rfl, rfl, rfl, rfl, rfl, trivial⟩ ?_
  refine X.seq ?_
  refine X.region ?_
  refine XO.pu (Pu.move rfl) ?_
  refine XO.cF Try.call20 (Owner_H (m := 0) hR2 (s := wk2) (lockS_ok (lockS_ok wk0_ok 0 1) 0 2) (by decide)) ?_
  rintro _ _ ⟨rfl, rfl⟩ _ e_; simp only [ca, na] at e_; subst e_
  rw [show (ownerS wk2 0).1 = 1 by decide, show (ownerS wk2 0).2 = 0 by decide]
  refine XO.pu (Pu.move rfl) ?_
  refine XO.pu (Pu.extract rfl rfl) ?_
  refine XO.pu (Pu.extract rfl rfl) ?_
  refine XO.pu (Pu.assign rfl) ?_
  refine XO.pu (Pu.assign rfl) ?_
  refine XO.nil ?_
  refine X.sub (p' := [(8, _), (7, _), (6, _), (5, _), (4, _), (3, _), (2, _), (1, _), (0, _)]) ⟨rfl, rfl, rfl, rfl, rfl, rfl, rfl, rfl, rfl, trivial⟩ ?_
  refine X.seq ?_
  refine X.region ?_
  refine XO.pu (Pu.move rfl) ?_
  refine XO.cF Try.call16 (Wait_H (k := 0) (t := 3) (s := wk2) hR2 (lockS_ok (lockS_ok wk0_ok 0 1) 0 2) (by decide)) ?_
  rintro _ _ ⟨σ3, hR3, rfl, rfl⟩ _ e_; simp only [ca, na] at e_; subst e_
  rw [show (waitS wk2 0 3).2 = 0 by decide]
  refine XO.pu (Pu.assign rfl) ?_
  refine XO.nil ?_
  refine X.sub (p' := [(9, _), (8, _), (7, _), (6, _), (5, _), (4, _), (3, _), (2, _), (1, _), (0, _)]) ⟨rfl, rfl, rfl, rfl, rfl, rfl, rfl, rfl, rfl, rfl, trivial⟩ ?_
  refine X.seq ?_
  refine X.region ?_
  refine XO.pu (Pu.move rfl) ?_
  refine XO.cF Try.call17 (Signal_H (k := 0) (s := wk3) hR3 (waitS_ok (lockS_ok (lockS_ok wk0_ok 0 1) 0 2) 0 3) (by decide)) ?_
  rintro _ _ ⟨σ4, hR4, rfl, rfl⟩ _ e_; simp only [ca, na] at e_; subst e_
  rw [show (signalS wk3 0).2.1 = 3 by decide, show (signalS wk3 0).2.2 = 0 by decide]
  refine XO.pu (Pu.move rfl) ?_
  refine XO.pu (Pu.extract rfl rfl) ?_
  refine XO.pu (Pu.extract rfl rfl) ?_
  refine XO.pu (Pu.extract rfl rfl) ?_
  refine XO.pu (Pu.assign rfl) ?_
  refine XO.pu (Pu.assign rfl) ?_
  refine XO.pu (Pu.assign rfl) ?_
  refine XO.nil ?_
  refine X.sub (p' := [(12, _), (11, _), (10, _), (9, _), (8, _), (7, _), (6, _), (5, _), (4, _), (3, _), (2, _), (1, _), (0, _)]) ⟨rfl, rfl, rfl, rfl, rfl, rfl, rfl, rfl, rfl, rfl, rfl, rfl, rfl, trivial⟩ ?_
  refine X.seq ?_
  refine X.region ?_
  refine XO.pu (Pu.move rfl) ?_
  refine XO.cF Try.call18 (Send_H (k := 0) (t := 7) (s := wk4) hR4 (signalS_ok (waitS_ok (lockS_ok (lockS_ok wk0_ok 0 1) 0 2) 0 3) 0) (by decide)) ?_
  rintro _ _ ⟨σ5, hR5, rfl, rfl⟩ _ e_; simp only [ca, na] at e_; subst e_
  rw [show (sendS wk4 0 7).2.1 = 0 by decide, show (sendS wk4 0 7).2.2 = 0 by decide]
  refine XO.pu (Pu.move rfl) ?_
  refine XO.pu (Pu.extract rfl rfl) ?_
  refine XO.pu (Pu.extract rfl rfl) ?_
  refine XO.pu (Pu.extract rfl rfl) ?_
  refine XO.pu (Pu.assign rfl) ?_
  refine XO.pu (Pu.assign rfl) ?_
  refine XO.pu (Pu.assign rfl) ?_
  refine XO.nil ?_
  refine X.sub (p' := [(15, _), (14, _), (13, _), (12, _), (11, _), (10, _), (9, _), (8, _), (7, _), (6, _), (5, _), (4, _), (3, _), (2, _), (1, _), (0, _)]) ⟨rfl, rfl, rfl, rfl, rfl, rfl, rfl, rfl, rfl, rfl, rfl, rfl, rfl, rfl, rfl, rfl, trivial⟩ ?_
  refine X.seq ?_
  refine X.region ?_
  refine XO.pu (Pu.move rfl) ?_
  refine XO.cF Try.call19 (Recv_H (k := 0) (s := wk5) hR5 (sendS_ok (signalS_ok (waitS_ok (lockS_ok (lockS_ok wk0_ok 0 1) 0 2) 0 3) 0) 0 7) (by decide)) ?_
  rintro _ _ ⟨σ6, hR6, rfl, rfl⟩ _ e_; simp only [ca, na] at e_; subst e_
  rw [show (recvS wk5 0).2.1 = 7 by decide, show (recvS wk5 0).2.2.1 = 0 by decide, show (recvS wk5 0).2.2.2 = 0 by decide]
  refine XO.pu (Pu.move rfl) ?_
  refine XO.pu (Pu.extract rfl rfl) ?_
  refine XO.pu (Pu.extract rfl rfl) ?_
  refine XO.pu (Pu.extract rfl rfl) ?_
  refine XO.pu (Pu.extract rfl rfl) ?_
  refine XO.pu (Pu.assign rfl) ?_
  refine XO.pu (Pu.assign rfl) ?_
  refine XO.pu (Pu.assign rfl) ?_
  refine XO.pu (Pu.assign rfl) ?_
  refine XO.nil ?_
  refine X.sub (p' := [(19, _), (18, _), (17, _), (16, _), (15, _), (14, _), (13, _), (12, _), (11, _), (10, _), (9, _), (8, _), (7, _), (6, _), (5, _), (4, _), (3, _), (2, _), (1, _), (0, _)]) ⟨rfl, rfl, rfl, rfl, rfl, rfl, rfl, rfl, rfl, rfl, rfl, rfl, rfl, rfl, rfl, rfl, rfl, rfl, rfl, rfl, trivial⟩ ?_
  refine X.seq ?_
  refine X.region ?_
  refine XO.pu (Pu.move rfl) ?_
  refine XO.cR Try.call14 (lnum_ok) ?_
  refine XO.pu (Pu.move rfl) ?_
  refine XO.cR Try.call14 (lnum_ok) ?_
  refine XO.pu (Pu.add rfl rfl (by omega) (by omega)) ?_
  refine XO.pu (Pu.move rfl) ?_
  refine XO.cR Try.call14 (lnum_ok) ?_
  refine XO.pu (Pu.add rfl rfl (by omega) (by omega)) ?_
  refine XO.pu (Pu.move rfl) ?_
  refine XO.cR Try.call14 (lnum_ok) ?_
  refine XO.pu (Pu.add rfl rfl (by omega) (by omega)) ?_
  refine XO.pu (Pu.move rfl) ?_
  refine XO.cR Try.call14 (lnum_ok) ?_
  refine XO.pu (Pu.add rfl rfl (by omega) (by omega)) ?_
  refine XO.pu (Pu.move rfl) ?_
  refine XO.cR Try.call14 (lnum_ok) ?_
  refine XO.pu (Pu.add rfl rfl (by omega) (by omega)) ?_
  refine XO.pu (Pu.move rfl) ?_
  refine XO.cR Try.call14 (lnum_ok) ?_
  refine XO.pu (Pu.add rfl rfl (by omega) (by omega)) ?_
  refine XO.pu (Pu.move rfl) ?_
  refine XO.cR Try.call14 (lnum_ok) ?_
  refine XO.pu (Pu.add rfl rfl (by omega) (by omega)) ?_
  refine XO.pu (Pu.eql rfl rfl) ?_
  refine XO.pu (Pu.move rfl) ?_
  refine XO.know 85 (.bool true) rfl (congrArg Value.bool ((by first | rfl | decide))) ?_
  refine XO.pu (Pu.move rfl) ?_
  refine XO.pu (Pu.pickT rfl rfl) ?_
  refine XO.pu (Pu.move rfl) ?_
  refine XO.know 88 (.bool true) rfl (congrArg Value.bool ((by first | rfl | decide))) ?_
  refine XO.pu (Pu.move rfl) ?_
  refine XO.pu (Pu.not rfl) ?_
  refine XO.pu (Pu.pickT rfl rfl) ?_
  refine XO.pu (Pu.move rfl) ?_
  refine XO.know 92 (.bool true) rfl (congrArg Value.bool ((by first | rfl | decide))) ?_
  refine XO.pu (Pu.move rfl) ?_
  refine XO.pu (Pu.eql rfl rfl) ?_
  refine XO.pu (Pu.pickT rfl rfl) ?_
  refine XO.pu (Pu.move rfl) ?_
  refine XO.know 96 (.bool true) rfl (congrArg Value.bool ((by first | rfl | decide))) ?_
  refine XO.pu (Pu.move rfl) ?_
  refine XO.pu (Pu.eql rfl rfl) ?_
  refine XO.pu (Pu.pickT rfl rfl) ?_
  refine XO.pu (Pu.move rfl) ?_
  refine XO.know 100 (.bool true) rfl (congrArg Value.bool ((by first | rfl | decide))) ?_
  refine XO.pu (Pu.move rfl) ?_
  refine XO.pu (Pu.pickT rfl rfl) ?_
  refine XO.pu (Pu.move rfl) ?_
  refine XO.know 103 (.bool true) rfl (congrArg Value.bool ((by first | rfl | decide))) ?_
  refine XO.pu (Pu.move rfl) ?_
  refine XO.pu (Pu.eql rfl rfl) ?_
  refine XO.pu (Pu.pickT rfl rfl) ?_
  refine XO.pu (Pu.move rfl) ?_
  refine XO.know 107 (.bool true) rfl (congrArg Value.bool ((by first | rfl | decide))) ?_
  refine XO.pu (Pu.move rfl) ?_
  refine XO.pu (Pu.pickT rfl rfl) ?_
  refine XO.pu (Pu.move rfl) ?_
  refine XO.know 110 (.bool true) rfl (congrArg Value.bool ((by first | rfl | decide))) ?_
  refine XO.pu (Pu.move rfl) ?_
  refine XO.pu (Pu.eql rfl rfl) ?_
  refine XO.pu (Pu.pickT rfl rfl) ?_
  refine XO.pu (Pu.move rfl) ?_
  refine XO.know 114 (.bool true) rfl (congrArg Value.bool ((by first | rfl | decide))) ?_
  refine XO.pu (Pu.move rfl) ?_
  refine XO.pu (Pu.eql rfl rfl) ?_
  refine XO.pu (Pu.pickT rfl rfl) ?_
  refine XO.pu (Pu.move rfl) ?_
  refine XO.know 118 (.bool true) rfl (congrArg Value.bool ((by first | rfl | decide))) ?_
  refine XO.pu (Pu.move rfl) ?_
  refine XO.pu (Pu.pickT rfl rfl) ?_
  refine XO.pu (Pu.move rfl) ?_
  refine XO.know 121 (.bool true) rfl (congrArg Value.bool ((by first | rfl | decide))) ?_
  refine XO.pu (Pu.move rfl) ?_
  refine XO.cF Try.call15 (Unlock_H (m := 0) (t := 2) (s := wk6) hR6 wk6_ok (by decide)) ?_
  rintro _ _ ⟨σ9, hR9, rfl, rfl⟩ _ e_; simp only [ca, na] at e_; subst e_
  rw [show (unlockS wk6 0 2).2 = 140 by decide]
  refine XO.cR Try.call14 (lnum_ok) ?_
  refine XO.pu (Pu.eql rfl rfl) ?_
  refine XO.pu (Pu.pickT rfl rfl) ?_
  refine XO.pu (Pu.assign rfl) ?_
  refine XO.nil ?_
  refine X.sub (p' := [(0, _)]) ⟨rfl, trivial⟩ ?_
  refine X.retL (q) Try.func11 (res1 Try.results11 rfl) ⟨_, rfl, congrArg Value.bool (by decide), rfl⟩
end
end Go.Proofs.Ytlgnnhpbomfdiaa

