/- What functions of package vm, of its references and of its laws do: contracts of calls, proved by walking their code. -/
import Derived.Test.YtcklgodcjnnllaaGreatDoorP
import Derived.Test.YtcklgodcjnnllaaGreatDoorWd
import Derived.KernelRfl
set_option maxRecDepth 100000
set_option linter.unusedVariables false
set_option linter.unusedSimpArgs false
namespace Go.Proofs.YtcklgodcjnnllaaGreatDoor
open Go Go.RowKit Wx
attribute [local irreducible] Wx.lsH Wx.rsH Wx.lsM Wx.rsM Wx.stars

/-! ### frames, and what an instruction does -/
structure Frm where
  code : Int
  pc : Int
  loc : List Int
  stk : List Int
  la : Option Addr
  lc : Nat
  sa : Option Addr
  sc : Nat
def frmC (f : Frm) : List Value := [.int .i64 f.code, .int .i64 f.pc, .slice f.la f.loc.length f.lc, .slice f.sa f.stk.length f.sc]
structure FrmQ (q : List HP) (f : Frm) : Prop where
  l : Sees q f.la (f.loc.map I64)
  s : Sees q f.sa (f.stk.map I64)
  nl : f.loc.length ≤ 9223372036854775807
  ns : f.stk.length ≤ 9223372036854775807
theorem FrmQ.le {q q' : List HP} {f : Frm} (h : FrmQ q' f) (k : Le q q') : FrmQ q f := ⟨h.l.le k, h.s.le k, h.nl, h.ns⟩
def val (n : Int) : Prop := -2147483648 ≤ n ∧ n ≤ 2147483647
instance (n : Int) : Decidable (val n) := by unfold val; infer_instance
def vals (l : List Int) : Prop := ∀ n ∈ l, val n
instance (l : List Int) : Decidable (vals l) := by unfold vals; infer_instance
structure Did where
  kind : Int
  cell : Int
  write : Bool
  av : Int
  ins : Ins
  value : Int
  trap : Int
def didC (d : Did) : List Value := [.int .i64 d.kind, .int .i64 d.cell, .bool d.write, .int .i64 d.av, .int .i64 d.ins.c, .int .i64 d.ins.a, .int .i64 d.ins.b, .int .i64 d.ins.n, .int .i64 d.value, .int .i64 d.trap]
abbrev zIns : Ins := ⟨0, 0, 0, 0⟩
abbrev zDid : Did := ⟨0, 0, false, 0, zIns, 0, 0⟩
abbrev dPlain : Did := ⟨1, 0, false, 0, zIns, 0, 0⟩
abbrev dTrap (t : Int) : Did := ⟨7, 0, false, 0, zIns, 0, t⟩
abbrev dAcc (c : Int) (w : Bool) (v : Int) : Did := ⟨2, c, w, v, zIns, 0, 0⟩
abbrev dVal (k v : Int) : Did := ⟨k, 0, false, 0, zIns, v, 0⟩
abbrev dSync (i : Ins) (v : Int) : Did := ⟨5, 0, false, 0, i, v, 0⟩
abbrev zFrm : Frm := ⟨0, 0, [], [], none, 0, none, 0⟩
/-- May a frame be, whose stack has so many values less than it must? -/
def mayS (m : Mdl) (f : Frm) (less : Int) : Prop := vchk m = 0 ∧ 0 ≤ f.code ∧ ∃ h : f.code.toNat < m.threads.length, 0 ≤ f.pc ∧ f.pc < (m.threads[f.code.toNat].ins.length : Int) ∧ (f.loc.length : Int) = m.threads[f.code.toNat].locals ∧ vals f.loc ∧ vals f.stk ∧
  0 ≤ dAt (dOf m m.threads[f.code.toNat]).1 f.pc.toNat ∧ dAt (dOf m m.threads[f.code.toNat]).1 f.pc.toNat = (f.stk.length : Int) + less
def truthS (b : Bool) : Int := if b then 1 else 0
/-- What an operator makes of two values: the value, a trap. -/
def twoS (op a b : Int) : Int × Int :=
  if op = 3 then (truthS (decide (a = b)), 0) else if op = 4 then (truthS (decide (a ≠ b)), 0) else if op = 5 then (truthS (decide (a < b)), 0) else if op = 6 then (truthS (decide (a ≤ b)), 0)
  else if (op = 10 ∨ op = 11) ∧ b = 0 then (0, 1)
  else let n := if op = 7 then a + b else if op = 8 then a - b else if op = 9 then a * b else if op = 10 then a.tdiv b else a.tmod b
    if val n then (n, 0) else (0, 2)
def sumI (l : List Int) : Int := l.foldr (· + ·) 0
/-- The number of an array's cell; -1: there is none. -/
def cellS (m : Mdl) (a i : Int) : Int := if 0 ≤ i ∧ i < m.arrays.getD a.toNat 0 then m.vars.length + sumI (m.arrays.take a.toNat) + i else -1
def cntS (m : Mdl) : Int := m.vars.length + sumI m.arrays

theorem dOf_len {m : Mdl} {t : Cod} (hin : ∀ x ∈ t.ins, insOk x) (h : (dOf m t).2 = 0) : 0 < t.ins.length ∧ (dOf m t).1.length = t.ins.length ∧ dAt (dOf m t).1 0 = 0 ∧ ∀ a (ha : a < t.ins.length), 0 ≤ dAt (dOf m t).1 a →
    ¬ dAt (dOf m t).1 a < (effS t.ins[a].c).1 ∧ dAt (dOf m t).1 a - (effS t.ins[a].c).1 + (effS t.ins[a].c).2 ≤ 25 ∧ ((t.ins[a].c = 23 ∨ t.ins[a].c = 34) → dAt (dOf m t).1 a = 0) ∧
    ∀ y ∈ nxt t.ins[a] a, 0 ≤ y ∧ y.toNat < t.ins.length ∧ dAt (dOf m t).1 y.toNat = dAt (dOf m t).1 a - (effS t.ins[a].c).1 + (effS t.ins[a].c).2 := by
  unfold dOf at h ⊢
  split at h
  · exact absurd h (by decide)
  · rename_i h0
    split at h
    · exact absurd h (by decide)
    · rename_i h1
      rw [if_neg h0, if_neg h1]
      have hA : ∀ i ∈ insT t, (i.1 = 19 ∨ i.1 = 20 ∨ i.1 = 21) → 0 ≤ i.2.1 := by
        intro i hi hc
        obtain ⟨x, hx, rfl⟩ := List.mem_map.1 hi
        have := (hin x hx).2.1
        have hn : nmA x.c = true := by unfold nmA; simp only [decide_eq_true_eq]; have : (Ins.t x).1 = x.c := rfl; omega
        rw [if_pos hn] at this
        exact this.1
      have e := fun j => dAt_set (D := List.replicate t.ins.length (-1)) (i := 0) (j := j) (b := 0) (by simp; omega)
      obtain ⟨r1, r2, r3⟩ := thrS_goes hA t.ins.length ((List.replicate t.ins.length (-1)).set 0 0) (List.replicate t.ins.length false) (by simp [insT_len]) (by simp [insT_len]) (by simp)
        (fun a ha hd => by rw [List.getD_eq_getElem?_getD, List.getElem?_replicate] at hd; split at hd <;> simp at hd) h
      have e0 : dAt ((List.replicate t.ins.length (-1)).set 0 0) 0 = 0 := by rw [e]; simp
      refine ⟨by omega, by rw [r1, insT_len], by rw [r2 0 (by rw [e0]; omega), e0], fun a ha hd => ?_⟩
      obtain ⟨g1, g2⟩ := r3 a (by rw [insT_len]; exact ha) hd
      obtain ⟨n1, n2, n3⟩ := oneS_next g1
      generalize (thrS (insT t) t.ins.length ((List.replicate t.ins.length (-1)).set 0 0) (List.replicate t.ins.length false)).1 = D at g1 g2 n1 n2 n3 ⊢
      have o1 : oneS (insT t) a (dAt D a) = (dAt D a - (effS t.ins[a].c).1 + (effS t.ins[a].c).2, 0) ∧ dAt D a - (effS t.ins[a].c).1 + (effS t.ins[a].c).2 ≤ 25 ∧ ((t.ins[a].c = 23 ∨ t.ins[a].c = 34) → dAt D a = 0) := by
        generalize dAt D a = d at g1 ⊢
        unfold oneS at g1 ⊢
        rw [insT_at ha] at g1 ⊢
        dsimp only [Ins.t] at g1 ⊢
        split at g1
        · exact absurd g1 (by decide)
        · rename_i k1
          split at g1
          · exact absurd g1 (by decide)
          · rename_i k2
            split at g1
            · exact absurd g1 (by decide)
            · rename_i k3
              rw [if_neg k1, if_neg k2, if_neg k3]
              exact ⟨rfl, by omega, fun hc => Decidable.byContradiction fun hd => k2 ⟨hc, hd⟩⟩
      rw [insT_at ha] at n1 n3 g2
      refine ⟨n3, o1.2.1, o1.2.2, fun y hy => ?_⟩
      rw [nxt_eq] at hy
      have h2 := g2 y hy
      rw [o1.1] at h2
      have h3 := n1 y hy
      rw [insT_len] at h3
      have h4 : 0 ≤ y := by
        unfold nextS at hy
        have hAi := hA (t.ins[a].t) (List.mem_map.2 ⟨_, List.getElem_mem ha, rfl⟩)
        split at hy
        · simp at hy
        · split at hy
          · rename_i e; rw [List.mem_singleton.1 hy]; exact hAi (.inl e)
          · split at hy
            · rename_i e
              have h7 := hAi (by omega)
              split at hy
              · rw [List.mem_singleton.1 hy]; exact h7
              · rcases List.mem_cons.1 hy with rfl | hy
                · exact h7
                · rw [List.mem_singleton.1 hy]; omega
            · simp at hy; omega
      exact ⟨h4, by omega, h2⟩
theorem vchk_zero {m : Mdl} (h : vchk m = 0) : mchk m = 0 ∧ ∀ t ∈ m.threads, (dOf m t).2 = 0 := by
  unfold vchk at h
  split at h
  · contradiction
  · rename_i h0
    refine ⟨by omega, ?_⟩
    generalize m.threads = l at h ⊢
    induction l with
    | nil => intro t ht; cases ht
    | cons x r ih =>
      unfold vErr at h
      split at h
      · contradiction
      · rename_i h1
        intro t ht
        rcases List.mem_cons.1 ht with rfl | ht
        · omega
        · exact ih h t ht
/-- What is known of a module that may run, and of a thread of it. -/
theorem vOk {m : Mdl} (h : vchk m = 0) {i : Nat} (hi : i < m.threads.length) : (∀ x ∈ m.threads[i].ins, insOk x) ∧ m.threads[i].ins.length ≤ 65536 ∧ (dOf m m.threads[i]).2 = 0 ∧ (dpOf m i) = dOf m m.threads[i] := by
  obtain ⟨h0, h1⟩ := vchk_zero h
  obtain ⟨h2, h3⟩ := mdlOk_thr h0 (List.getElem_mem hi)
  refine ⟨h2, h3, h1 _ (List.getElem_mem hi), ?_⟩
  unfold dpOf; rw [if_neg (by omega), dif_pos ⟨by omega, by simpa using hi⟩]; simp
theorem mdlOk_of {m : Mdl} (h : vchk m = 0) : mdlOk m := mchk_iff.1 (vchk_zero h).1
theorem sumI_le {l : List Int} {b : Int} (hb : 0 ≤ b) (h : ∀ x ∈ l, 0 ≤ x ∧ x ≤ b) : 0 ≤ sumI l ∧ sumI l ≤ b * l.length := by
  induction l with
  | nil => simp [sumI]
  | cons x r ih =>
    have h1 := h x (List.mem_cons_self ..)
    have h2 := ih fun y hy => h y (List.mem_cons_of_mem _ hy)
    unfold sumI at h2 ⊢
    simp only [List.foldr_cons, List.length_cons]
    have e : b * ((r.length + 1 : Nat) : Int) = b * (r.length : Int) + b := by rw [Int.natCast_add, Int.mul_add]; simp
    omega
theorem sumI_take {l : List Int} {n : Nat} (h : n < l.length) : sumI (l.take (n + 1)) = sumI (l.take n) + l[n] := by
  rw [List.take_succ_eq_append_getElem h]
  unfold sumI
  generalize l.take n = r
  induction r with
  | nil => simp
  | cons x r ih => simp only [List.cons_append, List.foldr_cons]; rw [ih]; omega
theorem sumI_take_le {m : Mdl} (h : mdlOk m) (n : Nat) : 0 ≤ sumI (m.arrays.take n) ∧ sumI (m.arrays.take n) ≤ 16384 := by
  have h1 := h.2.2.2.1
  have h2 := sumI_le (l := m.arrays.take n) (b := 256) (by omega) (fun x hx => h1.2 x (List.mem_of_mem_take hx))
  have h3 : ((m.arrays.take n).length : Int) ≤ 64 := by rw [List.length_take]; omega
  refine ⟨h2.1, ?_⟩
  have : (256 : Int) * ((m.arrays.take n).length : Int) ≤ 256 * 64 := by omega
  omega
theorem vals_any {l : List Int} : (! l.any fun x => decide (x < -2147483648 ∨ x > 2147483647)) = decide (vals l) := by
  rw [Bool.eq_iff_iff, decide_eq_true_iff]
  unfold vals val
  simp only [Bool.not_eq_true', List.any_eq_false, decide_eq_true_eq]
  constructor
  · intro h n hn; have := h n hn; omega
  · intro h n hn; have := h n hn; omega
theorem mayS_at {m : Mdl} {f : Frm} (h1 : vchk m = 0 ∧ 0 ≤ f.code ∧ f.code < (m.threads.length : Int)) (hth : f.code.toNat < m.threads.length) (h2 : 0 ≤ f.pc ∧ f.pc < (m.threads[f.code.toNat].ins.length : Int)) :
    mayS m f 0 ↔ (f.loc.length : Int) = m.threads[f.code.toNat].locals ∧ vals f.loc ∧ (f.stk.length : Int) = dAt (dOf m m.threads[f.code.toNat]).1 f.pc.toNat ∧ vals f.stk := by
  constructor
  · rintro ⟨_, _, _, _, _, k1, k2, k3, k4, k5⟩; exact ⟨k1, k2, by omega, k3⟩
  · rintro ⟨k1, k2, k3, k4⟩; exact ⟨h1.1, h1.2.1, hth, h2.1, h2.2, k1, k2, k4, by omega, by omega⟩

theorem Tryz.info2 : (Tryz.prog.info? 2).map (fun i => (i.zero, i.size, i.bytes)) = some (some (.int .i64 0), 1, 8) := by kernel_rfl
section
variable {G : World} {q pre : List HP} {a b A : Option Addr} {c d C p p0 p1 p2 i : Nat} {lo hi n cd dep : Int} {fv : Value} {x y : Ins} {t : Cod} {m : Mdl} {at_ : Int}
variable {l l2 : List Int} {f : Frm} {th : Int}
theorem valMay1_ok  : CallF Tryz.prog G 62 [.int .i64 n] (q) (Ret fun v q' => v = .bool (decide (n < -2147483648 ∨ n > 2147483647)) ∧ q' = q) := by
 refine CallF.of Tryz.func62 Tryz.ntmps62 rfl (fun F cs => ?_)
 refine xo 9 ?_
 refine XO.sb [5, 2, 0] ?_
 apply XO.cutOr 3 8 5 rfl
 · skip
   intro g1 M1; have h1 := sp g1
   refine oo 3 ?_
   exact XO.fin M1 ⟨orF g1, subB⟩
 · skip
   intro g1 M1; have h1 := sp g1
   refine oo 3 ?_
   exact XO.fin M1 ⟨orT g1, subB⟩
 · skip
   refine ox 2 ?_
   refine X.retL (q) Tryz.func62 (res1 Tryz.results62 rfl) ⟨_, rfl, congrArg Value.bool (by rw [Bool.eq_iff_iff, decide_eq_true_iff]; simp), rfl⟩
theorem valMay1_rdr {l : List Int} : Rdr Tryz.prog G (.func (.func 62) #[] #[]) I64 (fun x => .bool (decide (x < -2147483648 ∨ x > 2147483647))) q l :=
  fun q1 h x _ => CallV.c10 Tryz.call62 valMay1_ok
theorem valuesMay_ok (hs : Sees q a (l.map I64)) (hL : l.length ≤ 9223372036854775807) : CallF Tryz.prog G 40 [.slice a l.length c] (q) (Ret fun v q' => v = .bool (decide (vals l)) ∧ q' = q) := by
 refine CallF.of Tryz.func40 Tryz.ntmps40 rfl (fun F cs => ?_)
 refine xo 7 ?_
 refine XO.cR Tryz.call61 (contFint64_ok (u := fun x => decide (x < -2147483648 ∨ x > 2147483647)) (hs.le leA) hL valMay1_rdr) ?_
 refine XO.pu (Pu.not rfl) ?_
 refine ox 2 ?_
 refine X.retL (q) Tryz.func40 (res1 Tryz.results40 rfl) ⟨_, rfl, congrArg Value.bool vals_any, rfl⟩
theorem there_ok (gc : GC q) (g : GE q) (hq : MdlQ q m) : CallF Tryz.prog G 35 [.pointer (some ⟨p, 0, none⟩), .int .i64 th] (pto p (.cells (mdlC m).toArray 26 (0, 0)) :: q) (Ret fun v q' => v = .bool (decide (vchk m = 0 ∧ 0 ≤ th ∧ th < (m.threads.length : Int))) ∧ q' = pto p (.cells (mdlC m).toArray 26 (0, 0)) :: q) := by
 refine CallF.of Tryz.func35 Tryz.ntmps35 rfl (fun F cs => ?_)
 refine xo 8 ?_
 refine ldA ?_
 refine XO.cR Tryz.call36 (VCheck_ok (gc.le leA) (g.le leA) (hq.le leA)) ?_
 refine oo 2 ?_
 refine XO.sb [10, 4, 0, 1] ?_
 apply XO.cutAnd 3 13 10 rfl
 · skip
   intro g1 M1; have h1 := sp g1
   refine oo 3 ?_
   exact XO.fin M1 ⟨andT g1, subB⟩
 · skip
   intro g1 M1; have h1 := sp g1
   refine oo 3 ?_
   exact XO.fin M1 ⟨andF g1, subB⟩
 · skip
   refine oo 1 ?_
   refine XO.sb [14, 4, 0, 1] ?_
   apply XO.cutAnd 8 22 14 rfl
   · skip
     intro g1 M1; have h1 := sp g1
     refine oo 4 ?_
     refine ld ?_
     refine oo 3 ?_
     exact XO.fin M1 ⟨andT g1, subB⟩
   · skip
     intro g1 M1; have h1 := sp g1
     refine oo 8 ?_
     exact XO.fin M1 ⟨andF g1, subB⟩
   · skip
     refine ox 2 ?_
     refine X.retL (pto p (.cells (mdlC m).toArray 26 (0, 0)) :: q) Tryz.func35 (res1 Tryz.results35 rfl) ⟨_, rfl, congrArg Value.bool (by rw [Bool.eq_iff_iff, decide_eq_true_iff]; simp; try omega), rfl⟩
set_option maxHeartbeats 2000000 in
theorem May_ok (gc : GC q) (g : GE q) (hq : MdlQ q m) (hf : FrmQ q f) : CallF Tryz.prog G 26 [.agg (mdlC m).toArray, .agg (frmC f).toArray] (q) (Ret fun v q' => (∃ bb, v = .bool bb ∧ (bb = true ↔ mayS m f 0)) ∧ q' = q) := by
 refine CallF.of Tryz.func26 Tryz.ntmps26 rfl (fun F cs => ?_)
 have hlen := flatMap_len (f := codC) (sz := 4) (fun _ => rfl) m.threads; have hnt := hq.nt; have hnl := hf.nl; have hns := hf.ns
 refine xo 2 ?_
 refine XO.bx fun n1 => ?_
 refine XO.bx fun n2 => ?_
 refine oo 6 ?_
 refine ld ?_
 refine XO.cX Tryz.call35 fndA (there_ok (gc.le leA) (g.le leA) (hq.le leA)) ?_
 rintro _ _ ⟨rfl, rfl⟩
 refine XO.pu (Pu.not rfl) ?_
 refine ox 1 ?_
 refine X.part 10 rfl (fun h1 => ?_) (fun h1 => ?_)
 · skip
   replace h1 := sp h1
   refine xx 5 ?_
   refine X.retL (q) Tryz.func26 (res1 Tryz.results26 rfl) ⟨_, rfl, ⟨false, rfl, by simp only [Bool.false_eq_true, false_iff]; rintro ⟨k1, k2, k3, _⟩; exact h1 ⟨k1, k2, by omega⟩⟩, rfl⟩
 · skip
   replace h1 := sp h1
   refine xo 4 ?_
   refine ldA ?_
   refine oo 1 ?_
   refine ld ?_
   have hth : f.code.toNat < m.threads.length := by omega
   obtain ⟨hin, hL, hd0, hdp⟩ := vOk h1.1 hth; obtain ⟨hp0, hDl, _, _⟩ := dOf_len hin hd0
   rw [show ((f.code.toNat : Nat) : Int) = f.code by omega] at hdp
   refine XO.cX Tryz.call42 (Le.refl _) (Depths_ok (th := f.code) (gc.le leA) (g.le leA) (hq.le leA)) ?_
   rintro _ _ (⟨hz, rfl, rfl⟩ | ⟨hz, a1, c1, rfl, rfl⟩) <;> rw [hdp] at hz
   · exact absurd hd0 hz
   rw [hdp]
   refine oo 12 ?_
   refine XO.kf 20 ?_
   refine oo 1 ?_
   refine ld ?_
   refine oo 3 ?_
   refine XO.sb [25, 5, 4, 3, 2] ?_
   apply XO.cutOr 6 31 25 rfl
   · skip
     intro g2 M2; have h2 := sp g2
     refine oo 1 ?_
     refine ld ?_
     refine oo 4 ?_
     exact XO.fin M2 ⟨orF g2, subB⟩
   · skip
     intro g2 M2; have h2 := sp g2
     refine oo 6 ?_
     exact XO.fin M2 ⟨orT g2, subB⟩
   · skip
     refine ox 1 ?_
     refine X.sb [31, 5, 4, 3, 2] ?_
     refine X.part 31 rfl (fun h2 => ?_) (fun h2 => ?_)
     · skip
       replace h2 := sp h2
       refine xx 5 ?_
       refine X.retL (q) Tryz.func26 (res1 Tryz.results26 rfl) ⟨_, rfl, ⟨false, rfl, by simp only [Bool.false_eq_true, false_iff]; rintro ⟨k1, k2, k3, k4, k5, _⟩; omega⟩, rfl⟩
     · skip
       replace h2 := sp h2
       refine xx 3 ?_
       refine drw ?_
       refine dd [0] ?_
       refine ldD 1 ?_
       refine dd [2, 3] ?_
       refine ldD 4 ?_
       refine dd [5] ?_
       refine ldD 6 ?_
       refine XD.adr hq.t (by rw [hlen]; omega) (fun b1 o1 e1 => ?_)
       have hs1 := hq.t; rw [e1] at hs1
       refine XD.know 36 (.slice (some ⟨b1, o1, none⟩) m.threads.length m.tc) rfl (by rw [e1]) ?_
       refine dd [7, 8] ?_
       refine ldD 9 ?_ (hc := (Cl.row (j := f.code) hs1 leA (fun _ => rfl) hth (by omega) 1 _ rfl))
       refine dd [10, 11] ?_
       refine XD.part 43 rfl (fun h3 => ?_) (fun h3 => ?_)
       · skip
         replace h3 := sp h3
         refine dd [12] ?_
         refine ldD 13 ?_
         refine XD.cRL 14 Tryz.call40 (valuesMay_ok (hf.l.le leA) hf.nl) ?_ (hL := (hlA (h := by repeat first | exact trivial | refine ⟨clA, ?_⟩ | refine ⟨Cl.row (j := f.code) hs1 leA (fun _ => rfl) hth (by omega) 1 _ rfl, ?_⟩ | refine ⟨Cl.e1 (Sees.lsH _) fndA hpc (by omega), ?_⟩)))
         refine dd [15, 16] ?_
         refine XD.part 48 rfl (fun h4 => ?_) (fun h4 => ?_)
         · skip
           replace h4 := sp h4
           refine dd [17] ?_
           refine ldD 18 ?_
           refine dd [19, 20, 21] ?_
           refine ldD 22 ?_
           have hpc : f.pc.toNat < (dOf m m.threads[f.code.toNat]).1.length := by omega
           refine XD.lsadr (l := (dOf m m.threads[f.code.toNat]).1) (by omega) (fun g1 e_ => ?_); subst e_
           refine dd [23] ?_
           refine ldD 24 ?_ (hc := (Cl.e1 (Sees.lsH _) fndA hpc (by omega)))
           refine dd [25, 26, 27] ?_
           refine XD.sb [59, 4, 3] ?_
           apply XD.cutAnd 1 [0, 1, 2, 3, 4, 5, 6, 7, 8, 9, 10, 11, 12, 13, 14, 15, 16, 17, 18, 19, 20, 21, 22, 23, 24, 25, 26, 27, 28, 29, 30, 31] 63 59 rfl
           · skip
             intro g5 M5; have h5 := sp g5
             refine dd [28] ?_
             refine ldD 29 ?_
             refine XD.cRL 30 Tryz.call40 (valuesMay_ok (hf.s.le leA) hf.ns) ?_ (hL := (hlA (h := by repeat first | exact trivial | refine ⟨clA, ?_⟩ | refine ⟨Cl.row (j := f.code) hs1 leA (fun _ => rfl) hth (by omega) 1 _ rfl, ?_⟩ | refine ⟨Cl.e1 (Sees.lsH _) fndA hpc (by omega), ?_⟩)))
             refine dd [31] ?_
             exact XD.fin M5 ⟨andT g5, subB⟩
           · skip
             intro g5 M5; have h5 := sp g5
             refine dd [28, 29, 30, 31] ?_
             exact XD.fin M5 ⟨andF g5, subB⟩
           · skip
             intro L_
             refine dd [32] ?_
             refine XD.nil ?_
             refine X.retL (q) Tryz.func26 (res1 Tryz.results26 rfl) ⟨_, rfl, ⟨_, rfl, by rw [mayS_at h1 hth ⟨h2.1, by omega⟩]; first | (rw [dAt_get hpc]; simp [h3, h4]; done) | (simp [h3, h4]; done) | (simp [h3]; done)⟩, rfl⟩
         · skip
           replace h4 := sp h4
           refine dd [17, 18, 19, 20, 21, 22, 23, 24, 25, 26, 27, 28, 29, 30, 31, 32] ?_
           refine XD.nil ?_
           refine X.retL (q) Tryz.func26 (res1 Tryz.results26 rfl) ⟨_, rfl, ⟨_, rfl, by rw [mayS_at h1 hth ⟨h2.1, by omega⟩]; first | (rw [dAt_get hpc]; simp [h3, h4]; done) | (simp [h3, h4]; done) | (simp [h3]; done)⟩, rfl⟩
       · skip
         replace h3 := sp h3
         refine dd [12, 13, 14, 15, 16, 17, 18, 19, 20, 21, 22, 23, 24, 25, 26, 27, 28, 29, 30, 31, 32] ?_
         refine XD.nil ?_
         refine X.retL (q) Tryz.func26 (res1 Tryz.results26 rfl) ⟨_, rfl, ⟨_, rfl, by rw [mayS_at h1 hth ⟨h2.1, by omega⟩]; first | (rw [dAt_get hpc]; simp [h3, h4]; done) | (simp [h3, h4]; done) | (simp [h3]; done)⟩, rfl⟩
end
end Go.Proofs.YtcklgodcjnnllaaGreatDoor

