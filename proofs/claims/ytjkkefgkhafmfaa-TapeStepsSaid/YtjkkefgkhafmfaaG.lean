/- What functions of package tape, of its references and of its laws do: contracts of calls, proved by walking their code. -/
import Derived.Test.YtjkkefgkhafmfaaF
import Derived.KernelRfl
set_option maxRecDepth 100000
set_option linter.unusedVariables false
set_option linter.unusedSimpArgs false
namespace Go.Proofs.Ytjkkefgkhafmfaa
open Go Go.RowKit Wx
attribute [local irreducible] Wx.lsH Wx.rsH Wx.lsM Wx.rsM Wx.stars

abbrev boxP (p : Nat) (A : Option Addr) (n C : Nat) : HP := pto p (.cells [.slice A n C].toArray 22 (0, 0))
abbrev tkH (p : Nat) (t : Tkn) (a : Option Addr) (c : Nat) : HP := pto p (.cells (t.cs a c).toArray 32 (0, 0))
abbrev z0 : Tkn := ⟨0, [], (0, 0, 0, 0)⟩
abbrev jErr (e : Int) (ls : List Pc) : Prop := e = 2 ∧ ¬ joinsOk ls ∨ e = 3 ∧ joinsOk ls ∧ ¬ okT (whole ls)
section
variable {G : World} {q : List HP} {l m : List Turn} {ls : List Pc} {t u : Tkn} {a b A : Option Addr} {c d C p0 p1 : Nat}
set_option maxHeartbeats 1000000 in
theorem join1_ok (hs : Sees q A (ls.flatMap pcs)) (hp : ∀ x ∈ ls, Sees q x.a (x.t.turns.flatMap tcs)) (hf : Few ls) : CallF Try.prog G 20 [.pointer (some ⟨p0, 0, none⟩), .pointer (some ⟨p1, 0, none⟩)] (boxP p0 A ls.length C :: tkH p1 z0 none 0 :: q) (RP (fun _ q' => joinsOk ls ∧ okT (whole ls) ∧ ∃ a c, q' = tkH p1 (whole ls) a c :: rsH tcs 2 45 a c ((whole ls).turns) :: q) (fun ch q' => ∃ e, ch = [refE e] ∧ jErr e ls ∧ q' = tkH p1 z0 none 0 :: q)) := by
  refine CallF.of Try.func20 Try.ntmps20 rfl (fun F cs => ?_)
  have hlen := flatMap_len (f := pcs) (sz := 6) (fun _ => rfl) ls; have hL := hf.1
  refine xo 2 ?_
  refine XO.ld Try.isAgg22 ?_
  refine oo 2 ?_
  refine XO.cP Try.call21 (Le.refl _) (need_if) ?_ ?_
  · rintro _ _ ⟨hb, rfl, rfl⟩
    try replace hb := sp hb
    exact FQ.panic Try.func20 (RP.thr ⟨2, rfl, .inl ⟨rfl, fun ok => by have := ok.1; omega⟩, rfl⟩)
  rintro _ _ ⟨hb, rfl⟩
  replace hb := sp hb
  have hz : 0 < ls.length := by omega
  refine XO.adr hs (by rw [hlen]; omega) (fun bA oA e_ => ?_); subst e_
  have h00 := hash0_eq hz
  refine oo 4 ?_
  refine XO.ld Try.isAgg22 ?_
  refine ox 4 ?_
  refine X.at (X.loop (fun (s : Nat) => s ≤ ls.length ∧ ∀ i (h : i < ls.length), i < s → pieceOk ls i ls[i]) (fun s => [(11, .int .i64 (s : Int)), (9, .slice (some ⟨bA, oA, none⟩) ls.length C), (10, .int .i64 (ls.length : Int)), (0, .pointer (some ⟨p0, 0, none⟩)), (1, .pointer (some ⟨p1, 0, none⟩))]) (fun s => boxP p0 (some ⟨bA, oA, none⟩) ls.length C :: tkH p1 z0 none 0 :: (q ++ F)) (fun s => ls.length - s) (fun s hi_ ih => ?_) 0 ⟨by omega, fun i h k => by omega⟩) subA leA
  try dsimp only at hi_ ih ⊢
  obtain ⟨hi1, hi2⟩ := hi_
  refine xx 5 ?_
  refine X.part 12 rfl (fun h0 => ?_) (fun h0 => ?_)
  · skip
    replace h0 := sp h0
    have hi0 : s < ls.length := by omega
    refine xo 8 ?_
    refine XO.ldS (n := s) Try.isAgg32 Try.sizeOf32 hs hi0 ?_
    refine XO.ef (Ef.alloc Try.zeroValue32) ?_
    rintro _ _ ⟨n1, rfl, rfl⟩
    refine oo 1 ?_
    refine XO.ef0 (Ef.stA Try.sizeOf32) ?_
    rintro _ _ ⟨rfl, rfl⟩
    refine ox 2 ?_
    refine X.draw [] Try.mixed (by kernel_rfl) (by kernel_rfl) rfl ?_
    refine XD.loadA 0 rfl rfl Try.isAgg32 Try.sizeOf32 hasA (by rfl) ?_
    refine XD.cRL 1 Try.call22 (Check_ok (t := ls[s].t) (a := ls[s].a) (c := ls[s].c) ((hp _ (List.getElem_mem hi0)).le leA)) ?_
    refine dd [2, 3] ?_
    refine XD.part 19 rfl (fun h1 => ?_) (fun h1 => ?_)
    · skip
      replace h1 := sp h1
      refine dd [4] ?_
      refine XD.ld 5 Try.isAgg25 ?_
      refine XD.ld 6 Try.isAgg22 ?_
      refine dd [7, 8] ?_
      refine XD.ld 9 Try.isAgg25 ?_ (hc := (Cl.el (n := 0) (l := ls) (k := 0) hs leA (fun _ => rfl) hz rfl rfl))
      refine dd [10, 11] ?_
      refine XD.cP 12 Try.call21 (Le.refl _) (need_if) ?_ ?_ trivial
      · rintro _ _ ⟨hb, rfl, rfl⟩
        try replace hb := sp hb
        exact FQ.panic Try.func20 (RP.thr ⟨2, rfl, .inl ⟨rfl, fun ok => by have k := ok.2 s hi0; exact hb (k.2.1.trans h00)⟩, rfl⟩)
      rintro _ _ ⟨hb1, rfl⟩
      refine ⟨hlA, ?_⟩
      replace hb1 := sp hb1; rw [chk_iff] at h1
      refine XD.nil ?_
      refine xo 2 ?_
      refine XO.ld Try.isAgg22 ?_
      refine oo 4 ?_
      refine XO.sb [34, 3, 11, 9, 10, 0, 1] ?_
      apply XO.cutOr 5 39 34 rfl
      · skip
        intro g2 M2; have h2 := sp g2
        refine oo 2 ?_
        refine XO.ld Try.isAgg27 ?_
        refine oo 2 ?_
        exact XO.fin M2 ⟨orF g2, subB⟩
      · skip
        intro g2 M2; have h2 := sp g2
        refine oo 5 ?_
        exact XO.fin M2 ⟨orT g2, subB⟩
      · skip
        refine XO.cP Try.call21 (Le.refl _) (need_if) ?_ ?_
        · rintro _ _ ⟨hb, rfl, rfl⟩
          try replace hb := sp hb
          exact FQ.panic Try.func20 (RP.thr ⟨2, rfl, .inl ⟨rfl, fun ok => by have k := ok.2 s hi0; rcases k.2.2 with k | k; omega; exact hb.2 k⟩, rfl⟩)
        rintro _ _ ⟨hb2, rfl⟩
        replace hb2 := sp hb2
        refine ox 6 ?_
        refine X.sb [11, 9, 10, 0, 1] ?_
        refine X.at (ih (s + 1) ⟨by omega, fun i h k => by rcases Nat.lt_or_ge i s with e | e; exact hi2 i h e; obtain rfl : i = s := (by omega); exact ⟨h1, by rw [h00]; exact hb1, by rcases hb2 with k | k; left; omega; exact .inr k⟩⟩ (by omega)) subA leA
    · skip
      replace h1 := sp h1
      refine dd [4, 5, 6, 7, 8, 9, 10, 11] ?_
      refine XD.cP 12 Try.call21 (Le.refl _) (need_if) ?_ ?_ trivial
      · rintro _ _ ⟨hb, rfl, rfl⟩
        try replace hb := sp hb
        exact FQ.panic Try.func20 (RP.thr ⟨2, rfl, .inl ⟨rfl, fun ok => by have k := ok.2 s hi0; exact h1 (chk_iff.2 k.1)⟩, rfl⟩)
      rintro _ _ ⟨hb1, rfl⟩
      refine ⟨trivial, ?_⟩
      cases hb1
  · skip
    replace h0 := sp h0
    refine xo 4 ?_
    refine XO.ld Try.isAgg22 ?_
    refine oo 1 ?_
    have jo : joinsOk ls := ⟨hz, fun i h => hi2 i h (by omega)⟩
    refine XO.cX Try.call23 (Le.refl _) (foldP_ok (hs.le leA) (fun x hx => (hp x hx).le leA) hf jo.all) ?_
    rintro _ _ ⟨a2, c2, rfl, rfl⟩
    refine XO.ef (Ef.alloc Try.zeroValue32) ?_
    rintro _ _ ⟨n2, rfl, rfl⟩
    refine XO.ef0 (Ef.stA Try.sizeOf32) ?_
    rintro _ _ ⟨rfl, rfl⟩
    refine oo 3 ?_
    refine XO.ldA Try.isAgg32 Try.sizeOf32 ?_
    refine XO.cR Try.call22 (Check_ok (t := whole ls) (a := a2) (c := c2) ((Sees.rsH (sz := 2) (ty := 45) (c := c2) []).le leA)) ?_
    refine oo 1 ?_
    refine XO.cP Try.call21 (Le.refl _) (need_if) ?_ ?_
    · rintro _ _ ⟨hb, rfl, rfl⟩
      try replace hb := sp hb
      exact FQ.panic Try.func20 (RP.thr ⟨3, rfl, .inr ⟨rfl, jo, by rw [chk_iff] at hb; exact hb⟩, rfl⟩)
    rintro _ _ ⟨hb3, rfl⟩
    replace hb3 := sp hb3; rw [chk_iff] at hb3
    refine oo 2 ?_
    refine XO.ldA Try.isAgg32 Try.sizeOf32 ?_
    refine XO.ef0 (Ef.stA Try.sizeOf32) ?_
    rintro _ _ ⟨rfl, rfl⟩
    refine ox 1 ?_
    refine X.fallL (tkH p1 (whole ls) a2 c2 :: rsH tcs 2 45 a2 c2 ((whole ls).turns) :: q) Try.func20 (res0 Try.results20) (RP.ret ⟨jo, hb3, a2, c2, rfl⟩)
set_option maxHeartbeats 1000000 in
theorem Join_ok (hs : Sees q A (ls.flatMap pcs)) (hp : ∀ x ∈ ls, Sees q x.a (x.t.turns.flatMap tcs)) (hf : Few ls) : CallF Try.prog G 7 [.slice A ls.length C] q (Ret fun v q' => (joinsOk ls ∧ okT (whole ls) ∧ ∃ a c, v = .tuple [(whole ls).v a c, .int .i64 0].toArray ∧ q' = rsH tcs 2 45 a c ((whole ls).turns) :: q) ∨ (∃ e, jErr e ls ∧ v = .tuple [z0.v none 0, .int .i64 e].toArray ∧ q' = q)) := by
  refine CallF.of Try.func7 Try.ntmps7 rfl (fun F cs => ?_)
  refine xo 2 ?_
  refine XO.ef (Ef.box rfl) ?_
  rintro _ _ ⟨n1, rfl, rfl⟩
  refine XO.ef (Ef.alloc Try.zeroValue32) ?_
  rintro _ _ ⟨n2, rfl, rfl⟩
  refine oo 4 ?_
  refine XO.ef (Ef.alloc Try.zeroValue32) ?_
  rintro _ _ ⟨n3, rfl, rfl⟩
  refine oo 4 ?_
  have hJ := fun q1 (h : Le q1 q) => join1_ok (G := G) (q := q1) (p0 := n1) (p1 := n3) (C := C) (hs.le h) (fun x hx => (hp x hx).le h) hf
  refine XO.cX Try.call19 (Le.pick fndA (Le.pick fndA (Le.refl _))) (try_ok (CallV.c02 Try.call20 (hJ _ leA))) ?_
  rintro _ _ (⟨rfl, jo, ok, a2, c2, rfl⟩ | ⟨e, rfl, he, rfl⟩)
  · skip
    refine oo 4 ?_
    refine XO.ldA Try.isAgg32 Try.sizeOf32 ?_
    refine oo 1 ?_
    refine XO.ef0 (Ef.stA Try.sizeOf32) ?_
    rintro _ _ ⟨rfl, rfl⟩
    refine ox 2 ?_
    refine X.retL (rsH tcs 2 45 a2 c2 ((whole ls).turns) :: q) Try.func7 (resC Try.results7 (ResOk.cell rfl (LV.agg Try.isAgg32 Try.sizeOf32 hasA rfl) (ResOk.tmp rfl ResOk.nil))) ⟨_, rfl, .inl ⟨jo, ok, a2, c2, rfl, rfl⟩⟩
  · skip
    refine oo 4 ?_
    refine XO.ldA Try.isAgg32 Try.sizeOf32 ?_
    refine oo 1 ?_
    refine XO.ef0 (Ef.stA Try.sizeOf32) ?_
    rintro _ _ ⟨rfl, rfl⟩
    refine ox 2 ?_
    refine X.retL (q) Try.func7 (resC Try.results7 (ResOk.cell rfl (LV.agg Try.isAgg32 Try.sizeOf32 hasA rfl) (ResOk.tmp rfl ResOk.nil))) ⟨_, rfl, .inr ⟨e, he, rfl, rfl⟩⟩
end
end Go.Proofs.Ytjkkefgkhafmfaa

