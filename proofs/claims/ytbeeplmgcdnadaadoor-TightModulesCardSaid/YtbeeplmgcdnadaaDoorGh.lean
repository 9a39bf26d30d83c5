/- What functions of package tight, of its references and of its laws do: contracts of calls, proved by walking their code. -/
import Derived.Test.YtbeeplmgcdnadaaDoorGg
import Derived.Test.YtbeeplmgcdnadaaDoorWf
import Derived.KernelRfl
set_option maxRecDepth 100000
set_option linter.unusedVariables false
set_option linter.unusedSimpArgs false
namespace Go.Proofs.YtbeeplmgcdnadaaDoor
open Go Go.RowKit Wx
attribute [local irreducible] Wx.lsH Wx.rsH Wx.lsM Wx.rsM Wx.stars

/-! ### modules that last -/
def CodAt (M : Hp) (x : Cod) : Prop := SlAt M x.ia x.ic x.ins.length (x.ins.flatMap insC) ∧ SlAt M x.la x.lc x.lines.length (x.lines.map I64)
theorem CodAt.mono {M M' : Hp} {x : Cod} (e : Hle M M') (h : CodAt M x) : CodAt M' x := ⟨h.1.mono e, h.2.mono e⟩
def CodsAt (M : Hp) (l : List Cod) : Prop := ∀ x ∈ l, CodAt M x
theorem CodsAt.mono {M M' : Hp} {l : List Cod} (e : Hle M M') (h : CodsAt M l) : CodsAt M' l := fun x hx => (h x hx).mono e
def cosM (l : List Cod) : HP := lst (fun M => CodsAt M l) fun e h => CodsAt.mono e h
structure MdAt (M : Hp) (m : Mdl) : Prop where
  v : SlAt M m.va m.vc m.vars.length (m.vars.map I64)
  a : SlAt M m.aa m.ac m.arrays.length (m.arrays.map I64)
  c : SlAt M m.ca m.cc m.chans.length (m.chans.map I64)
  t : SlAt M m.ta m.tc m.threads.length (m.threads.flatMap codC)
  x : CodsAt M m.threads
theorem MdAt.mono {M M' : Hp} {m : Mdl} (e : Hle M M') (h : MdAt M m) : MdAt M' m := ⟨h.v.mono e, h.a.mono e, h.c.mono e, h.t.mono e, h.x.mono e⟩
def mdM (m : Mdl) : HP := lst (fun M => MdAt M m) fun e h => MdAt.mono e h
/-- Bounds of a module's lists. -/
def MdB (m : Mdl) : Prop := m.vars.length ≤ 9223372036854775807 ∧ m.arrays.length ≤ 9223372036854775807 ∧ m.chans.length ≤ 9223372036854775807 ∧ m.threads.length ≤ 9223372036854775807 ∧ m.arrays.length ≤ m.ac ∧ ∀ x ∈ m.threads, x.name.size ≤ 9223372036854775807 ∧ x.ins.length ≤ 9223372036854775807 ∧ x.lines.length ≤ 9223372036854775807
theorem Kn.mdl {q : List HP} {m : Mdl} (h : Kn q fun M => MdAt M m) (b : MdB m) : MdlQ q m :=
  ⟨Kn.sees (h.imp fun _ k => k.v.2.2), Kn.sees (h.imp fun _ k => k.a.2.2), Kn.sees (h.imp fun _ k => k.c.2.2), Kn.sees (h.imp fun _ k => k.t.2.2),
    fun x hx => ⟨Kn.sees (h.imp fun _ k => (k.x x hx).1.2.2), Kn.sees (h.imp fun _ k => (k.x x hx).2.2.2), (b.2.2.2.2.2 x hx).1, (b.2.2.2.2.2 x hx).2.1, (b.2.2.2.2.2 x hx).2.2⟩, b.1, b.2.1, b.2.2.1, b.2.2.2.1, b.2.2.2.2.1⟩
def mdZ : Mdl := ⟨[], [], [], 0, 0, [], none, 0, none, 0, none, 0, none, 0⟩
theorem mdZ_at (M : Hp) : MdAt M mdZ := ⟨SlAt.nil M, SlAt.nil M, SlAt.nil M, SlAt.nil M, fun x hx => by cases hx⟩
theorem mdZ_b : MdB mdZ := by simp [MdB, mdZ]
section
variable {P : Program} {G : World} {fr : Fc} {Q : Post} {k : List Item} {p : PE} {ds : List Deferred} {cs : List Frame} {q q0 : List HP} {ops lo : List Oper} {ty sz : Nat} {a : Option Addr} {c : Nat}
theorem X.frzI {todo : List Item} {l : List Int} (K : X P G fr Q todo p ds cs (lst (fun M => SlAt M a c l.length (l.map I64)) SlAt.mono :: q0)) (hq : Le q (Wx.lsH I64 ty a c l :: q0) := by exact fndA) : X P G fr Q todo p ds cs q := by
  unfold Wx.lsH at hq
  exact .frz Kn.here K hq
theorem XO.frzI {l : List Int} (K : XO P G fr Q ops.toArray k lo p ds cs (lst (fun M => SlAt M a c l.length (l.map I64)) SlAt.mono :: q0)) (hq : Le q (Wx.lsH I64 ty a c l :: q0) := by exact fndA) : XO P G fr Q ops.toArray k lo p ds cs q := by
  unfold Wx.lsH at hq
  exact .frz Kn.here K hq
theorem X.frzF {todo : List Item} {α : Type} {f : α → Value} {l : List α} (K : X P G fr Q todo p ds cs (lst (fun M => SlAt M a c l.length (l.map f)) SlAt.mono :: q0)) (hq : Le q (Wx.lsH f ty a c l :: q0) := by exact fndA) : X P G fr Q todo p ds cs q := by
  unfold Wx.lsH at hq
  exact .frz Kn.here K hq
theorem X.frzC {todo : List Item} {α : Type} {f : α → List Value} {l : List α} (K : X P G fr Q todo p ds cs (lst (fun M => SlAt M a c l.length (l.flatMap f)) SlAt.mono :: q0)) (hq : Le q (Wx.rsH f sz ty a c l :: q0) := by exact fndA) : X P G fr Q todo p ds cs q := .frzR Kn.here K hq
end
theorem Kn.cosnil {q : List HP} : Le q (cosM [] :: q) := Kn.add (fun _ _ _ x hx => by cases hx)
theorem Kn.coscons {q : List HP} {l : List Cod} {x : Cod} (h : Kn q fun M => CodsAt M l) (h1 : Kn q fun M => CodAt M x) : Le q (cosM (l ++ [x]) :: q) :=
  Kn.add ((h.and h1).imp fun M k y hy => by
    rcases List.mem_append.1 hy with hy | hy
    · exact k.1 y hy
    · rw [List.mem_singleton.1 hy]; exact k.2)
/-! ### what a tight module is -/
def Cod.pl (x : Cod) : ByteArray × Int × List Ins × List Int := (x.name, x.locals, x.ins, x.lines)
def tigT (t : Cod) : ByteArray × Int × List Ins × List Int := (t.name, t.locals, tiI t.ins, tiL t.ins t.lines)
structure TigM (m m' : Mdl) : Prop where
  v : m'.vars = m.vars
  a : m'.arrays = m.arrays
  c : m'.chans = m.chans
  mu : m'.mutexes = m.mutexes
  co : m'.conds = m.conds
  t : m'.threads.map Cod.pl = m.threads.map tigT
/-- Lists that last. -/
structure Nl where
  l : List Int
  a : Option Addr
  c : Nat
def Nl.v (x : Nl) : Value := .slice x.a x.l.length x.c
def NlsAt (M : Hp) (P : List Nl) : Prop := ∀ x ∈ P, SlAt M x.a x.c x.l.length (x.l.map I64)
theorem NlsAt.mono {M M' : Hp} {P : List Nl} (e : Hle M M') (h : NlsAt M P) : NlsAt M' P := fun x hx => (h x hx).mono e
def nlsM (P : List Nl) : HP := lst (fun M => NlsAt M P) fun e h => NlsAt.mono e h
theorem Kn.nlnil {q : List HP} : Le q (nlsM [] :: q) := Kn.add (fun _ _ _ x hx => by cases hx)
theorem Kn.nlcons {q : List HP} {l : List Nl} {x : Nl} (h : Kn q fun M => NlsAt M l) (h1 : Kn q fun M => SlAt M x.a x.c x.l.length (x.l.map I64)) : Le q (nlsM (l ++ [x]) :: q) :=
  Kn.add ((h.and h1).imp fun M k y hy => by
    rcases List.mem_append.1 hy with hy | hy
    · exact k.1 y hy
    · rw [List.mem_singleton.1 hy]; exact k.2)
def savedS (l : List Cod) : Int := (l.map fun t => (t.ins.length : Int) - (tiI t.ins).length).sum
theorem tiI_le (l : List Ins) : (tiI l).length ≤ l.length := by rw [tiI_len]; exact kb_le _ _
theorem savedS_snoc {l : List Cod} {s : Nat} (h : s < l.length) : savedS (l.take (s + 1)) = savedS (l.take s) + ((l[s].ins.length : Int) - (tiI l[s].ins).length) := by
  unfold savedS; rw [List.take_succ_eq_append_getElem h, List.map_append, List.sum_append]; simp
theorem savedS_le : ∀ {l : List Cod} {B : Int}, 0 ≤ B → (∀ t ∈ l, (t.ins.length : Int) ≤ B) → 0 ≤ savedS l ∧ savedS l ≤ l.length * B
  | [], B, hB, _ => by simp [savedS]
  | t :: r, B, hB, h => by
    obtain ⟨h1, h2⟩ := savedS_le (l := r) hB fun x hx => h x (List.mem_cons_of_mem _ hx)
    have h3 := h t (List.mem_cons_self ..)
    have h4 := tiI_le t.ins
    have e : savedS (t :: r) = ((t.ins.length : Int) - (tiI t.ins).length) + savedS r := by simp [savedS]
    rw [e, List.length_cons, Int.natCast_add, Int.add_mul]
    omega

def codZ : Cod := ⟨⟨#[]⟩, 0, [], [], none, 0, none, 0⟩
theorem tig_b {q : List HP} {m : Mdl} {T : List Cod} (hq : MdlQ q m) (hok : ∀ x ∈ m.threads, codOk x) (h : T.map Cod.pl = m.threads.map tigT) : ∀ x ∈ T, x.name.size ≤ 9223372036854775807 ∧ x.ins.length ≤ 9223372036854775807 ∧ x.lines.length ≤ 9223372036854775807 := by
  intro x hx
  have h1 : Cod.pl x ∈ m.threads.map tigT := by rw [← h]; exact List.mem_map_of_mem hx
  obtain ⟨t, ht, e⟩ := List.mem_map.1 h1
  have h2 := hq.x t ht
  simp only [Cod.pl, tigT, Prod.mk.injEq] at e
  obtain ⟨e1, e2, e3, e4⟩ := e
  have h3 := tiI_le t.ins
  have h4 : (tiL t.ins t.lines).length ≤ t.lines.length := by rw [tiL_eq]; exact cutS_le _ _
  have h5 := h2.n; have h6 := h2.ni; have h7 := h2.nl
  rw [← e1, ← e3, ← e4]; exact ⟨h5, by omega, by omega⟩
theorem ginfo35 : (Tryd.prog.info? 35).map (fun i => (i.zero, i.size, i.bytes)) = some (some (.agg #[.string ⟨#[]⟩, .int .i64 0, .slice none 0 0, .slice none 0 0]), 4, 72) := by kernel_rfl
theorem ginfo23 : (Tryd.prog.info? 23).map (fun i => (i.zero, i.size, i.bytes)) = some (some (.slice none 0 0), 1, 24) := by kernel_rfl
section
variable {G : World} {q : List HP} {a b A : Option Addr} {c d : Nat} {cd : Int} {l : List Ins} {ln : List Int} {o : List Bool}
variable {nt : Nat} {nm : ByteArray} {lo : Int} {ia la wa : Option Addr} {ic lc wc : Nat} {I : List Ins} {L W : List Int}
variable {m : Mdl} {th at_ : Int}
set_option maxHeartbeats 8000000 in
theorem Module_ok (gc : GC q) (g : GE q) (hq : MdlQ q m) : CallF Tryd.prog G 11 [.agg (mdlC m).toArray] (q) (Ret fun v q' => (vchk m ≠ 0 ∧ v = .tuple [.agg (mdlC mdZ).toArray, .int .i64 2].toArray ∧ q' = q) ∨ (vchk m = 0 ∧ ∃ m', TigM m m' ∧ MdB m' ∧ v = .tuple [.agg (mdlC m').toArray, .int .i64 0].toArray ∧ q' = mdM m' :: q)) := by
 refine CallF.of Tryd.func11 Tryd.ntmps11 rfl (fun F cs => ?_)
 have hlen := flatMap_len (f := codC) (sz := 4) (fun _ => rfl) m.threads; have hnt := hq.nt
 refine xo 2 ?_
 refine XO.bx fun n1 => ?_
 refine XO.al Tryd.zeroValue26 fun n2 => ?_
 refine oo 5 ?_
 refine ldA ?_
 refine XO.cR Tryd.call21 (VCheck_ok (gc.le leA) (g.le leA) (hq.le leA)) ?_
 refine ox 2 ?_
 refine X.part 9 rfl (fun h0 => ?_) (fun h0 => ?_)
 · skip
   replace h0 := sp h0
   refine xo 4 ?_
   refine stA ?_
   refine ox 2 ?_
   refine X.retL (q) Tryd.func11 (resC Tryd.results11 (ResOk.cell rfl (LV.agg Tryd.isAgg26 Tryd.sizeOf26 hasA rfl) (ResOk.tmp rfl ResOk.nil))) ⟨_, rfl, .inl ⟨h0, rfl, rfl⟩⟩
 · skip
   replace h0 := sp h0; obtain ⟨hk0, _⟩ := vchk_zero h0; have hok := mchk_iff.1 hk0; have hb1 := hok.2.2.1.1; have hb2 := hok.2.2.2.1.1; have hb3 := hok.2.2.2.2.1.1; have hb4 := hok.2.2.2.2.2.1
   refine xo 4 ?_
   refine ldA ?_
   refine XO.al Tryd.zeroValue26 fun n3 => ?_
   refine stA ?_
   refine ox 2 ?_
   refine drw ?_
   refine dd [0] ?_
   refine ldD 1 ?_
   refine dd [3] ?_
   refine ldD 4 ?_
   refine dd [6] ?_
   refine ldD 7 ?_
   refine XD.cX 2 Tryd.call25 (Le.refl _) (cloneint64_ok (m := m.vars) (hq.v.le leA) (by omega)) ?_
   rintro _ _ ⟨av, cv, rfl, rfl⟩
   refine ⟨hlA, ?_⟩
   refine dd [9] ?_
   refine XD.cX 5 Tryd.call26 (Le.refl _) (cloneint_ok (m := m.arrays) (hq.a.le leA) (by omega)) ?_
   rintro _ _ ⟨ar, cr, rfl, rfl⟩
   refine ⟨hlA, ?_⟩
   refine XD.cX 8 Tryd.call26 (Le.refl _) (cloneint_ok (m := m.chans) (hq.c.le leA) (by omega)) ?_
   rintro _ _ ⟨an, cn, rfl, rfl⟩
   refine ⟨trivial, ?_⟩
   refine stD 10 ?_
   refine dd [11] ?_
   refine stD 12 ?_
   refine dd [13] ?_
   refine stD 14 ?_
   refine XD.nil ?_
   refine xo 3 ?_
   refine st ?_
   refine oo 5 ?_
   refine ld ?_
   refine ox 4 ?_
   refine X.sb [28, 27, 26, 4, 3, 2] ?_
   refine X.frzI ?_
   refine X.frzI ?_
   refine X.frzI ?_
   refine X.at (X.loop (fun (s : (List Cod × Nat) × Option Addr × Option Addr × Nat) => s.1.2 ≤ m.threads.length ∧ s.2.1 = m.ta ∧ s.1.1.map Cod.pl = (m.threads.take s.1.2).map tigT) (fun s => [(28, .int .i64 (s.1.2 : Int)), (27, .int .i64 (m.threads.length : Int)), (26, .slice s.2.1 m.threads.length m.tc), (2, .pointer (some ⟨n2, 0, none⟩)), (3, .int .i64 0), (4, .pointer (some ⟨n3, 0, none⟩))]) (fun s => rsH codC 4 35 s.2.2.1 s.2.2.2 (s.1.1) :: cosM s.1.1 :: pto n3 (.cells [.slice av m.vars.length cv, .slice ar m.arrays.length cr, .slice an m.chans.length cn, .int .i64 m.mutexes, .int .i64 m.conds, .slice s.2.2.1 s.1.1.length s.2.2.2].toArray 26 (0, 0)) :: lst (fun M => SlAt M av cv m.vars.length (m.vars.map I64)) SlAt.mono :: lst (fun M => SlAt M ar cr m.arrays.length (m.arrays.map I64)) SlAt.mono :: lst (fun M => SlAt M an cn m.chans.length (m.chans.map I64)) SlAt.mono :: pto n1 (.cells (mdlC m).toArray 26 (0, 0)) :: pto n2 (.cells [.slice none 0 0, .slice none 0 0, .slice none 0 0, .int .i64 0, .int .i64 0, .slice none 0 0].toArray 26 (0, 0)) :: (q ++ F)) (fun s => m.threads.length - s.1.2) (fun s hi_ ih => ?_) (([], 0), m.ta, none, 0) ⟨Nat.zero_le _, rfl, rfl⟩) subA (Le.trans leA (Le.trans Kn.cosnil (Le.rsH_nil codC 4 35 _)))
   try dsimp only at hi_ ih ⊢
   obtain ⟨hs0, hta, hmp⟩ := hi_
   obtain ⟨⟨T, s⟩, ta, a', c'⟩ := s; dsimp only at *; have hTl : T.length = s := by have := congrArg List.length hmp; simp at this; omega
   refine xx 5 ?_
   refine X.part 29 rfl (fun h1 => ?_) (fun h1 => ?_)
   · skip
     replace h1 := sp h1; subst hta; have hth : s < m.threads.length := (by omega); have hT := ThOk.of h0 (List.getElem_mem hth)
     have hta0 : True := trivial
     refine xo 6 ?_
     refine XO.adr hq.t (by rw [hlen]; omega) (fun b1 o1 e1 => ?_)
     have hs1 := hq.t; rw [e1] at hs1
     refine XO.know 26 (.slice (some ⟨b1, o1, none⟩) m.threads.length m.tc) rfl (by rw [e1]) ?_
     refine oo 1 ?_
     refine XO.ldS (n := s) Tryd.isAgg35 Tryd.sizeOf35 hs1 hth ?_
     refine XO.al Tryd.zeroValue35 fun n4 => ?_
     refine stA ?_
     refine ox 1 ?_
     refine drw ?_
     refine dd [0] ?_
     refine ldD 1 ?_
     refine ldAD 2 ?_
     refine XD.cX 3 Tryd.call27 (Le.refl _) (tight_ok (t := m.threads[s]) ((hq.x _ (List.getElem_mem hth)).le leA) hT) ?_
     rintro _ _ ⟨nt, a1, c1, a2, c2, a3, c3, rfl, rfl⟩
     refine ⟨hlA, ?_⟩
     obtain ⟨x, hx⟩ : ∃ x : Cod, x = ⟨m.threads[s].name, m.threads[s].locals, tiI m.threads[s].ins, tiL m.threads[s].ins m.threads[s].lines, a1, c1, a2, c2⟩ := ⟨_, rfl⟩
     refine dd [4, 5] ?_
     refine ldAD 6 ?_
     refine XD.know 38 (.agg (codC x).toArray) rfl (by rw [hx]; rfl) ?_
     refine XD.ef 7 rfl (Ef.litR1 codC Tryd.underlying24 ginfo35 rfl rfl (fun _ => rfl) rfl) ?_
     rintro _ _ ⟨gx, rfl, rfl⟩
     refine ⟨hlA, ?_⟩
     refine XD.ef 8 rfl (Ef.appRA (f := codC) (l := T) (m := [x]) Tryd.underlying24 ginfo35 rfl rfl (fun _ => rfl) rfl rfl fndA ((Sees.rsH _).le fndA) (fun _ => rfl) (by simp only [List.length_cons, List.length_nil]; omega) (by simp only [List.length_cons, List.length_nil]; omega)) ?_
     rintro _ _ ⟨a4, c4, rfl, rfl⟩
     refine ⟨trivial, ?_⟩
     refine dd [9] ?_
     refine stD 10 ?_
     refine XD.nil ?_
     refine xx 5 ?_
     refine X.sb [28, 26, 27, 2, 3, 4] ?_
     refine X.frzC (f := insC) (a := a1) (c := c1) (l := tiI m.threads[s].ins) (sz := 4) (ty := 53) ?_
     refine X.frzI (a := a2) (c := c2) (l := tiL m.threads[s].ins m.threads[s].lines) (ty := 3) ?_
     refine X.le (Kn.coscons (l := T) (x := x) knA (by subst hx; exact Kn.and (knA (φ := fun M => SlAt M a1 c1 (tiI m.threads[s].ins).length ((tiI m.threads[s].ins).flatMap insC))) (knA (φ := fun M => SlAt M a2 c2 (tiL m.threads[s].ins m.threads[s].lines).length ((tiL m.threads[s].ins m.threads[s].lines).map I64))))) ?_
     have hmp2 : (T ++ [x]).map Cod.pl = (m.threads.take (s + 1)).map tigT := (by rw [List.take_succ_eq_append_getElem hth, List.map_append, List.map_append, hmp, hx]; rfl)
     refine X.at (ih ((T ++ [x], s + 1), some ⟨b1, o1, none⟩, a4, c4) ⟨by dsimp only; omega, e1.symm, hmp2⟩ (by dsimp only; omega)) subA leA
   · skip
     replace h1 := sp h1; obtain rfl : s = m.threads.length := (by omega); rw [List.take_length] at hmp
     refine xo 4 ?_
     refine ldA ?_
     refine stA ?_
     refine ox 2 ?_
     refine X.frzC (f := codC) (a := a') (c := c') (l := T) (sz := 4) (ty := 35) ?_
     refine X.le (q' := mdM (⟨m.vars, m.arrays, m.chans, m.mutexes, m.conds, T, av, cv, ar, cr, an, cn, a', c'⟩ : Mdl) :: _) (Kn.add ((Kn.and (knA (φ := fun M => SlAt M av cv m.vars.length (m.vars.map I64))) (Kn.and (knA (φ := fun M => SlAt M ar cr m.arrays.length (m.arrays.map I64))) (Kn.and (knA (φ := fun M => SlAt M an cn m.chans.length (m.chans.map I64))) (Kn.and (knA (φ := fun M => SlAt M a' c' T.length (T.flatMap codC))) (knA (φ := fun M => CodsAt M T)))))).imp fun M k => ⟨k.1, k.2.1, k.2.2.1, k.2.2.2.1, k.2.2.2.2⟩)) ?_
     refine X.fact (fun w s => Kn.fact (q := mdM (⟨m.vars, m.arrays, m.chans, m.mutexes, m.conds, T, av, cv, ar, cr, an, cn, a', c'⟩ : Mdl) :: _) knA (fun M (k : MdAt M (⟨m.vars, m.arrays, m.chans, m.mutexes, m.conds, T, av, cv, ar, cr, an, cn, a', c'⟩ : Mdl)) => k.a.1) s) (fun hka => ?_)
     have hpl : ∀ x ∈ T, x.name.size ≤ 9223372036854775807 ∧ x.ins.length ≤ 9223372036854775807 ∧ x.lines.length ≤ 9223372036854775807 := tig_b hq hok.2.2.2.2.2.2 hmp
     refine X.retL (mdM (⟨m.vars, m.arrays, m.chans, m.mutexes, m.conds, T, av, cv, ar, cr, an, cn, a', c'⟩ : Mdl) :: q) Tryd.func11 (resC Tryd.results11 (ResOk.cell rfl (LV.agg Tryd.isAgg26 Tryd.sizeOf26 hasA rfl) (ResOk.tmp rfl ResOk.nil))) ⟨_, rfl, .inr ⟨h0, (⟨m.vars, m.arrays, m.chans, m.mutexes, m.conds, T, av, cv, ar, cr, an, cn, a', c'⟩ : Mdl), ⟨rfl, rfl, rfl, rfl, rfl, hmp⟩, ⟨by show m.vars.length ≤ _; omega, by show m.arrays.length ≤ _; omega, by show m.chans.length ≤ _; omega, by show T.length ≤ _; omega, hka, hpl⟩, rfl, rfl⟩⟩
set_option maxHeartbeats 4000000 in
theorem Places_ok (gc : GC q) (g : GE q) (hq : MdlQ q m) : CallF Tryd.prog G 12 [.agg (mdlC m).toArray] (q) (Ret fun v q' => (vchk m ≠ 0 ∧ v = .tuple [.slice none 0 0, .int .i64 2].toArray ∧ q' = q) ∨ (vchk m = 0 ∧ ∃ (N : List Nl) (a' : Option Addr) (c' : Nat), N.map Nl.l = m.threads.map (fun t => nowsS t.ins) ∧ v = .tuple [.slice a' N.length c', .int .i64 0].toArray ∧ q' = lsH Nl.v 23 a' c' N :: nlsM N :: q)) := by
 refine CallF.of Tryd.func12 Tryd.ntmps12 rfl (fun F cs => ?_)
 have hlen := flatMap_len (f := codC) (sz := 4) (fun _ => rfl) m.threads; have hnt := hq.nt
 refine xo 2 ?_
 refine XO.bx fun n1 => ?_
 refine oo 6 ?_
 refine ldA ?_
 refine XO.cR Tryd.call21 (VCheck_ok (gc.le leA) (g.le leA) (hq.le leA)) ?_
 refine ox 2 ?_
 refine X.part 9 rfl (fun h0 => ?_) (fun h0 => ?_)
 · skip
   replace h0 := sp h0
   refine xx 6 ?_
   refine X.retL (q) Tryd.func12 (res2 Tryd.results12 rfl rfl) ⟨_, rfl, .inl ⟨h0, rfl, rfl⟩⟩
 · skip
   replace h0 := sp h0; obtain ⟨hk0, _⟩ := vchk_zero h0; have hok := mchk_iff.1 hk0; have hb4 := hok.2.2.2.2.2.1
   refine xo 10 ?_
   refine ld ?_
   refine ox 4 ?_
   refine X.at (X.loop (fun (s : (List Nl × Nat) × Option Addr × Option Addr × Nat) => s.1.2 ≤ m.threads.length ∧ s.2.1 = m.ta ∧ s.1.1.map Nl.l = (m.threads.take s.1.2).map (fun t => nowsS t.ins)) (fun s => [(13, .int .i64 (s.1.2 : Int)), (12, .int .i64 (m.threads.length : Int)), (11, .slice s.2.1 m.threads.length m.tc), (2, .slice none 0 0), (3, .int .i64 0), (4, .slice s.2.2.1 s.1.1.length s.2.2.2)]) (fun s => lsH Nl.v 23 s.2.2.1 s.2.2.2 (s.1.1) :: nlsM s.1.1 :: pto n1 (.cells (mdlC m).toArray 26 (0, 0)) :: (q ++ F)) (fun s => m.threads.length - s.1.2) (fun s hi_ ih => ?_) (([], 0), m.ta, none, 0) ⟨Nat.zero_le _, rfl, rfl⟩) subA (Le.trans leA (Le.trans Kn.nlnil (Le.lsH_nil Nl.v 23 _)))
   try dsimp only at hi_ ih ⊢
   obtain ⟨hs0, hta, hmp⟩ := hi_
   obtain ⟨⟨T, s⟩, ta, a', c'⟩ := s; dsimp only at *; have hTl : T.length = s := by have := congrArg List.length hmp; simp at this; omega
   refine xx 5 ?_
   refine X.part 14 rfl (fun h1 => ?_) (fun h1 => ?_)
   · skip
     replace h1 := sp h1; subst hta; have hth : s < m.threads.length := (by omega); have hT := ThOk.of h0 (List.getElem_mem hth)
     refine xo 6 ?_
     refine XO.adr hq.t (by rw [hlen]; omega) (fun b1 o1 e1 => ?_)
     have hs1 := hq.t; rw [e1] at hs1
     refine XO.know 11 (.slice (some ⟨b1, o1, none⟩) m.threads.length m.tc) rfl (by rw [e1]) ?_
     refine oo 1 ?_
     refine XO.ldS (n := s) Tryd.isAgg35 Tryd.sizeOf35 hs1 hth ?_
     refine XO.al Tryd.zeroValue35 fun n2 => ?_
     refine stA ?_
     refine oo 3 ?_
     refine ldA ?_
     refine XO.cX Tryd.call27 (Le.refl _) (tight_ok (t := m.threads[s]) ((hq.x _ (List.getElem_mem hth)).le leA) hT) ?_
     rintro _ _ ⟨nt, a1, c1, a2, c2, a3, c3, rfl, rfl⟩
     obtain ⟨x, hx⟩ : ∃ x : Nl, x = ⟨nowsS m.threads[s].ins, a3, c3⟩ := ⟨_, rfl⟩
     refine oo 2 ?_
     refine ld ?_
     refine XO.know 22 (x.v) rfl (by rw [hx]; rfl) ?_
     refine XO.ef (Ef.lit1 (u := x) Nl.v Tryd.underlying41 ginfo23 rfl rfl) ?_
     rintro _ _ ⟨gx, rfl, rfl⟩
     refine XO.ef (Ef.appA (f := Nl.v) (l := T) (m := [x]) Tryd.underlying41 ginfo23 rfl rfl rfl fndA ((Sees.lsH _).le fndA) (fun _ => rfl) (by simp only [List.length_cons, List.length_nil]; omega) (by simp only [List.length_cons, List.length_nil]; omega)) ?_
     rintro _ _ ⟨a4, c4, rfl, rfl⟩
     refine ox 7 ?_
     refine X.sb [13, 4, 11, 12, 2, 3] ?_
     refine X.frzI (a := a3) (c := c3) (l := nowsS m.threads[s].ins) (ty := 3) ?_
     refine X.le (Kn.nlcons (l := T) (x := x) knA (by subst hx; exact (knA (φ := fun M => SlAt M a3 c3 (nowsS m.threads[s].ins).length ((nowsS m.threads[s].ins).map I64))))) ?_
     have hmp2 : (T ++ [x]).map Nl.l = (m.threads.take (s + 1)).map (fun t => nowsS t.ins) := (by rw [List.take_succ_eq_append_getElem hth, List.map_append, List.map_append, hmp, hx]; rfl)
     refine X.at (ih ((T ++ [x], s + 1), some ⟨b1, o1, none⟩, a4, c4) ⟨by dsimp only; omega, e1.symm, hmp2⟩ (by dsimp only; omega)) subA leA
   · skip
     replace h1 := sp h1; obtain rfl : s = m.threads.length := (by omega); rw [List.take_length] at hmp
     refine xx 8 ?_
     refine X.retL (lsH Nl.v 23 a' c' (T) :: nlsM T :: q) Tryd.func12 (res2 Tryd.results12 rfl rfl) ⟨_, rfl, .inr ⟨h0, T, a', c', hmp, rfl, rfl⟩⟩
set_option maxHeartbeats 4000000 in
theorem Saved_ok (gc : GC q) (g : GE q) (hq : MdlQ q m) : CallF Tryd.prog G 13 [.agg (mdlC m).toArray] (q) (Ret fun v q' => v = .tuple [.int .i64 (if vchk m = 0 then savedS m.threads else 0), .int .i64 (if vchk m = 0 then 0 else 2)].toArray ∧ q' = q) := by
 refine CallF.of Tryd.func13 Tryd.ntmps13 rfl (fun F cs => ?_)
 have hlen := flatMap_len (f := codC) (sz := 4) (fun _ => rfl) m.threads; have hnt := hq.nt
 refine xo 2 ?_
 refine XO.bx fun n1 => ?_
 refine oo 6 ?_
 refine ldA ?_
 refine XO.cR Tryd.call21 (VCheck_ok (gc.le leA) (g.le leA) (hq.le leA)) ?_
 refine ox 2 ?_
 refine X.part 9 rfl (fun h0 => ?_) (fun h0 => ?_)
 · skip
   replace h0 := sp h0
   refine xx 6 ?_
   refine X.retL (q) Tryd.func13 (res2 Tryd.results13 rfl rfl) ⟨_, rfl, by rw [if_neg h0, if_neg h0], rfl⟩
 · skip
   replace h0 := sp h0; rw [if_pos h0, if_pos h0]; obtain ⟨hk0, _⟩ := vchk_zero h0; have hok := mchk_iff.1 hk0; have hb4 := hok.2.2.2.2.2.1
   refine xo 10 ?_
   refine ld ?_
   refine ox 4 ?_
   refine X.at (X.loop (fun (s : Nat × Option Addr) => s.1 ≤ m.threads.length ∧ s.2 = m.ta) (fun s => [(13, .int .i64 (s.1 : Int)), (12, .int .i64 (m.threads.length : Int)), (11, .slice s.2 m.threads.length m.tc), (2, .int .i64 0), (3, .int .i64 0), (4, .int .i64 (savedS (m.threads.take s.1)))]) (fun s => pto n1 (.cells (mdlC m).toArray 26 (0, 0)) :: (q ++ F)) (fun s => m.threads.length - s.1) (fun s hi_ ih => ?_) (0, m.ta) ⟨Nat.zero_le _, rfl⟩) subA leA
   try dsimp only at hi_ ih ⊢
   obtain ⟨hs0, hta⟩ := hi_
   obtain ⟨s, ta⟩ := s; dsimp only at *
   refine xx 5 ?_
   refine X.part 14 rfl (fun h1 => ?_) (fun h1 => ?_)
   · skip
     replace h1 := sp h1; subst hta; have hth : s < m.threads.length := (by omega); have hT := ThOk.of h0 (List.getElem_mem hth)
     have hsv := savedS_le (l := m.threads.take s) (B := 65536) (by decide) (fun x hx => by have := (ThOk.of h0 (List.mem_of_mem_take hx)).n; omega); rw [List.length_take, Nat.min_eq_left (by omega)] at hsv; have hsv2 := tiI_le m.threads[s].ins; have hTn := hT.n
     refine xo 6 ?_
     refine XO.adr hq.t (by rw [hlen]; omega) (fun b1 o1 e1 => ?_)
     have hs1 := hq.t; rw [e1] at hs1
     refine XO.know 11 (.slice (some ⟨b1, o1, none⟩) m.threads.length m.tc) rfl (by rw [e1]) ?_
     refine oo 1 ?_
     refine XO.ldS (n := s) Tryd.isAgg35 Tryd.sizeOf35 hs1 hth ?_
     refine XO.al Tryd.zeroValue35 fun n2 => ?_
     refine stA ?_
     refine ox 1 ?_
     refine drw ?_
     refine dd [0, 1] ?_
     refine ldD 2 ?_
     refine dd [3] ?_
     refine ldAD 4 ?_
     refine XD.cX 5 Tryd.call27 (Le.refl _) (tight_ok (t := m.threads[s]) ((hq.x _ (List.getElem_mem hth)).le leA) hT) ?_
     rintro _ _ ⟨nt, a1, c1, a2, c2, a3, c3, rfl, rfl⟩
     refine ⟨hlA, ?_⟩
     refine dd [6, 7, 8] ?_
     refine ldD 9 ?_
     refine dd [10, 11, 12, 13] ?_
     refine XD.nil ?_
     refine xx 5 ?_
     refine X.sb [13, 4, 11, 12, 2, 3] ?_
     refine X.know 4 (.int .i64 (savedS (m.threads.take (s + 1)))) rfl (by rw [savedS_snoc hth]) ?_
     skip
     refine X.at (ih (s + 1, some ⟨b1, o1, none⟩) ⟨by dsimp only; omega, e1.symm⟩ (by dsimp only; omega)) subA leA
   · skip
     replace h1 := sp h1; obtain rfl : s = m.threads.length := (by omega); rw [List.take_length]
     refine xx 8 ?_
     refine X.retL (q) Tryd.func13 (res2 Tryd.results13 rfl rfl) ⟨_, rfl, rfl, rfl⟩
set_option maxHeartbeats 4000000 in
theorem Leads_ok (gc : GC q) (g : GE q) (hq : MdlQ q m) : CallF Tryd.prog G 7 [.agg (mdlC m).toArray, .int .i64 th, .int .i64 at_] (q) (Ret fun v q' => ((¬ (vchk m = 0 ∧ 0 ≤ th ∧ th.toNat < m.threads.length ∧ 0 ≤ at_ ∧ at_.toNat < (m.threads.getD th.toNat codZ).ins.length)) ∧ v = .tuple [.int .i64 0, .int .i64 2].toArray ∧ q' = q) ∨ ((vchk m = 0 ∧ 0 ≤ th ∧ th.toNat < m.threads.length ∧ 0 ≤ at_ ∧ at_.toNat < (m.threads.getD th.toNat codZ).ins.length) ∧ v = .tuple [.int .i64 (leadS (m.threads.getD th.toNat codZ).ins at_.toNat : Int), .int .i64 0].toArray ∧ q' = q)) := by
 refine CallF.of Tryd.func7 Tryd.ntmps7 rfl (fun F cs => ?_)
 have hlen := flatMap_len (f := codC) (sz := 4) (fun _ => rfl) m.threads; have hnt := hq.nt
 refine xo 2 ?_
 refine XO.bx fun n1 => ?_
 refine oo 6 ?_
 refine ldA ?_
 refine XO.cR Tryd.call21 (VCheck_ok (gc.le leA) (g.le leA) (hq.le leA)) ?_
 refine oo 2 ?_
 refine XO.sb [12, 7, 6, 3, 1, 2] ?_
 apply XO.cutOr 3 15 12 rfl
 · skip
   intro g1 M1; have k1 := sp g1
   refine oo 3 ?_
   exact XO.fin M1 ⟨orF g1, subB⟩
 · skip
   intro g1 M1; have k1 := sp g1
   refine oo 3 ?_
   exact XO.fin M1 ⟨orT g1, subB⟩
 · skip
   refine oo 1 ?_
   refine XO.sb [16, 7, 6, 3, 1, 2] ?_
   apply XO.cutOr 6 22 16 rfl
   · skip
     intro g1 M1; have k1 := sp g1
     refine oo 2 ?_
     refine ld ?_
     refine oo 3 ?_
     exact XO.fin M1 ⟨orF g1, subB⟩
   · skip
     intro g1 M1; have k1 := sp g1
     refine oo 6 ?_
     exact XO.fin M1 ⟨orT g1, subB⟩
   · skip
     refine ox 1 ?_
     refine X.part 22 rfl (fun k1 => ?_) (fun k1 => ?_)
     · skip
       replace k1 := sp k1
       refine xx 6 ?_
       refine X.retL (q) Tryd.func7 (res2 Tryd.results7 rfl rfl) ⟨_, rfl, .inl ⟨by intro hk; omega, rfl, rfl⟩⟩
     · skip
       replace k1 := sp k1
       refine xo 5 ?_
       refine ld ?_
       refine oo 1 ?_
       have hv0 : vchk m = 0 := (by omega); have hth : th.toNat < m.threads.length := (by omega); have hgd : m.threads.getD th.toNat codZ = m.threads[th.toNat] := getD_lt' hth; have hT := ThOk.of hv0 (List.getElem_mem hth)
       refine XO.adr hq.t (by rw [hlen]; omega) (fun b1 o1 e1 => ?_)
       have hs1 := hq.t; rw [e1] at hs1
       refine XO.know 24 (.slice (some ⟨b1, o1, none⟩) m.threads.length m.tc) rfl (by rw [e1]) ?_
       refine oo 2 ?_
       refine ld ?_ (hc := (Cl.row (j := th) hs1 leA (fun _ => rfl) hth (by omega) 2 _ rfl))
       refine oo 8 ?_
       refine XO.sb [31, 8, 7, 6, 2] ?_
       apply XO.cutOr 5 36 31 rfl
       · skip
         intro g2 M2; have k2 := sp g2
         refine oo 5 ?_
         exact XO.fin M2 ⟨orF g2, subB⟩
       · skip
         intro g2 M2; have k2 := sp g2
         refine oo 5 ?_
         exact XO.fin M2 ⟨orT g2, subB⟩
       · skip
         refine ox 1 ?_
         refine X.sb [36, 8, 7, 6, 2] ?_
         refine X.part 36 rfl (fun k2 => ?_) (fun k2 => ?_)
         · skip
           replace k2 := sp k2
           refine xx 6 ?_
           refine X.retL (q) Tryd.func7 (res2 Tryd.results7 rfl rfl) ⟨_, rfl, .inl ⟨by rw [hgd]; intro hk; omega, rfl, rfl⟩⟩
         · skip
           replace k2 := sp k2
           refine xo 5 ?_
           have hat : at_.toNat < m.threads[th.toNat].ins.length := (by omega); have hli : at_.toNat < (leadsS m.threads[th.toNat].ins).length := (by unfold leadsS; simp; exact hat)
           refine XO.cX Tryd.call22 (Le.refl _) (leads_ok (l := m.threads[th.toNat].ins) ((hq.x _ (List.getElem_mem hth)).i.le leA) (fun i hi hc => hT.a i hi (by unfold jm; rw [hc]; decide)) hT.n) ?_
           rintro _ _ ⟨gs, rfl, rfl⟩
           refine oo 2 ?_
           refine ld ?_ (hc := (Cl.e1 (Sees.lsH _) fndA hli (by omega)))
           refine XO.know 41 (.int .i64 (leadS m.threads[th.toNat].ins at_.toNat : Int)) rfl (by simp only [leadsS, List.getElem_map, List.getElem_range]) ?_
           refine ox 3 ?_
           refine X.retL (q) Tryd.func7 (res2 Tryd.results7 rfl rfl) ⟨_, rfl, .inr ⟨by rw [hgd]; exact ⟨by omega, by omega, by omega, by omega, by omega⟩, by rw [hgd], rfl⟩⟩
end
end Go.Proofs.YtbeeplmgcdnadaaDoor

