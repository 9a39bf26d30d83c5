/- What functions of package sync, of its references and of its laws do: contracts of calls, proved by walking their code. -/
import Derived.Test.YtlgnnhpbomfdiaaH
import Derived.Test.YtlgnnhpbomfdiaaWx23
import Derived.KernelRfl
set_option maxRecDepth 100000
set_option linter.unusedVariables false
set_option linter.unusedSimpArgs false
namespace Go.Proofs.Ytlgnnhpbomfdiaa
open Go Go.RowKit Wx


/-! ### how the document's Sync stands in memory -/
abbrev IS : Sh := .int .i64
abbrev SyncR : Sh := .cons (.slice IS) (.cons (.slice (.slice IS)) (.cons (.slice IS) (.cons (.slice (.slice IS)) (.cons (.slice IS) .nil))))
structure RS where
  ow : SlV Int
  cs : SlV (SlV Int)
  rm : SlV Int
  st : SlV (SlV Int)
  tk : SlV Int
def RS.sh (r : RS) : Sh.T SyncR := (r.ow, r.cs, r.rm, r.st, r.tk, ())
def slV (x : SlV Int) : Value := .slice x.a x.l.length x.c
def refM (r : RS) : HP := shM SyncR r.sh
theorem lasts_refM (r : RS) : (refM r).lasts := lasts_shM _ _
structure RSee (q : List HP) (r : RS) : Prop where
  so : Sees q r.ow.a (r.ow.l.map I64)
  sc : Sees q r.cs.a (r.cs.l.map slV)
  sci : ∀ i (h : i < r.cs.l.length), Sees q r.cs.l[i].a (r.cs.l[i].l.map I64)
  sr : Sees q r.rm.a (r.rm.l.map I64)
  ss : Sees q r.st.a (r.st.l.map slV)
  ssi : ∀ i (h : i < r.st.l.length), Sees q r.st.l[i].a (r.st.l[i].l.map I64)
  sk : Sees q r.tk.a (r.tk.l.map I64)
  ssl : ∀ i (h : i < r.st.l.length), r.st.l[i].l.length ≤ r.st.l[i].c
theorem RSee.le {q q' : List HP} {r : RS} (h : RSee q' r) (l : Le q q') : RSee q r :=
  ⟨h.so.le l, h.sc.le l, fun i hi => (h.sci i hi).le l, h.sr.le l, h.ss.le l, fun i hi => (h.ssi i hi).le l, h.sk.le l, h.ssl⟩
theorem slV_cells (l : List (SlV Int)) : l.flatMap (Sh.cells (.slice IS)) = l.map slV := by
  induction l with
  | nil => rfl
  | cons y r ih => rw [List.flatMap_cons, ih]; rfl
theorem RSee.of {q : List HP} {r : RS} (h : SyncR.okQ q r.sh) : RSee q r := by
  obtain ⟨h1, h2, h3, h4, h5, _⟩ := h
  have i1 : ∀ {x : SlV Int}, (Sh.slice IS).okQ q x → Sees q x.a (x.l.map I64) := fun h => by rw [← ints_cells]; exact h.2.2.2.1
  refine ⟨i1 h1, ?_, fun i hi => i1 (h2.2.2.2.2 _ (List.getElem_mem hi)), i1 h3, ?_, fun i hi => i1 (h4.2.2.2.2 _ (List.getElem_mem hi)), i1 h5, fun i hi => (h4.2.2.2.2 _ (List.getElem_mem hi)).1⟩
  · rw [← slV_cells]; exact h2.2.2.2.1
  · rw [← slV_cells]; exact h4.2.2.2.1
theorem X.refM {P : Program} {G : World} {f : Fc} {Q : Post} {todo : List Item} {p : PE} {ds : List Deferred} {cs : List Frame} {q : List HP} {r : RS} (x : RSee (refM r :: q) r → X P G f Q todo p ds cs (Go.Proofs.Ytlgnnhpbomfdiaa.refM r :: q)) : X P G f Q todo p ds cs (Go.Proofs.Ytlgnnhpbomfdiaa.refM r :: q) :=
  X.shM fun h => x (RSee.of h)
structure Ref (r : RS) (s : Sy) : Prop where
  o : r.ow.l = s.owners
  c : r.cs.l.map (·.l) = s.conds
  m : r.rm.l = s.chans.map (·.room)
  t : r.st.l.map (·.l) = s.chans.map (·.all)
  k : r.tk.l = s.chans.map fun c => (c.taken : Int)
section
variable {r : RS} {s : Sy} (h : Ref r s) {i : Nat}
include h
theorem Ref.lo : r.ow.l.length = s.owners.length := by rw [h.o]
theorem Ref.lc : r.cs.l.length = s.conds.length := by rw [← h.c]; simp
theorem Ref.lm : r.rm.l.length = s.chans.length := by rw [h.m]; simp
theorem Ref.lt : r.st.l.length = s.chans.length := by have := congrArg List.length h.t; simpa using this
theorem Ref.lk : r.tk.l.length = s.chans.length := by rw [h.k]; simp
theorem Ref.ol (hi : i < r.ow.l.length) : s.owners.getD i 0 = r.ow.l[i] := by rw [← h.o]; simp [List.getD, hi]
theorem Ref.cl (hi : i < r.cs.l.length) : s.conds.getD i [] = r.cs.l[i].l := by rw [← h.c]; simp [List.getD, hi]
theorem Ref.ml (hi : i < r.rm.l.length) : (s.chans.getD i ch0).room = r.rm.l[i] := by
  have h2 : i < s.chans.length := by rw [← h.lm]; exact hi
  have := congrArg (·[i]?) h.m
  simp only [List.getElem?_map, List.getElem?_eq_getElem hi, List.getElem?_eq_getElem h2, Option.map_some] at this
  rw [List.getD, List.getElem?_eq_getElem h2]; exact (Option.some.inj this).symm
theorem Ref.tl (hi : i < r.st.l.length) : (s.chans.getD i ch0).all = r.st.l[i].l := by
  have h2 : i < s.chans.length := by rw [← h.lt]; exact hi
  have := congrArg (·[i]?) h.t
  simp only [List.getElem?_map, List.getElem?_eq_getElem hi, List.getElem?_eq_getElem h2, Option.map_some] at this
  rw [List.getD, List.getElem?_eq_getElem h2]; exact (Option.some.inj this).symm
theorem Ref.kl (hi : i < r.tk.l.length) : ((s.chans.getD i ch0).taken : Int) = r.tk.l[i] := by
  have h2 : i < s.chans.length := by rw [← h.lk]; exact hi
  have := congrArg (·[i]?) h.k
  simp only [List.getElem?_map, List.getElem?_eq_getElem hi, List.getElem?_eq_getElem h2, Option.map_some] at this
  rw [List.getD, List.getElem?_eq_getElem h2]; exact (Option.some.inj this).symm
end
/-- All is owned. -/
def refO (r : RS) : List HP := [lsH I64 3 r.ow.a r.ow.c r.ow.l, lsH slV 29 r.cs.a r.cs.c r.cs.l, stars (r.cs.l.map (lsV 3)), lsH I64 3 r.rm.a r.rm.c r.rm.l,
  lsH slV 28 r.st.a r.st.c r.st.l, stars (r.st.l.map (lsV 2)), lsH I64 3 r.tk.a r.tk.c r.tk.l]
theorem wfI {n : Int} (h : -9223372036854775808 ≤ n ∧ n ≤ 9223372036854775807) : (Lit.int .i64 n).wf = true := by
  simp [Lit.wf, IntKind.min, IntKind.max, IntKind.signed, IntKind.bits]; omega
def wfL (l : List Int) : Prop := ∀ n ∈ l, (Lit.int .i64 n).wf = true
theorem St.insM {G w : World} {q : List HP} {ty : TypeId} {x : SlV Int} (h : wfL x.l) (s : St G w (lsV ty x :: q)) : St G w (shM (.slice IS) x :: q) :=
  (Wx.St.slFreeze (show St G w (slH x.a x.c ty 1 x.l.length (x.l.map I64) :: q) from s)).le (Le.shM_ints h q)
theorem St.insAll {G w : World} {q : List HP} {ty : TypeId} {l : List (SlV Int)} (h : ∀ x ∈ l, wfL x.l) (s : St G w (stars (l.map (lsV ty)) :: q)) : St G w (stars (l.map (shM (.slice IS))) :: q) :=
  stars_frz (fun x hx G w q s => St.insM (h x hx) s) G w q s
theorem Le.shM_slV {ty : TypeId} {a : Option Addr} {c : Nat} {l : List (SlV Int)} (q : List HP) : Le (lsM slV ty a c l :: stars (l.map (shM (.slice IS))) :: q) (shM (.slice (.slice IS)) ⟨a, c, l⟩ :: q) :=
  Le.shM_slice (slV_cells l).symm q
/-- The same, but the inner lists last already. -/
def refP (r : RS) : List HP := [lsH I64 3 r.ow.a r.ow.c r.ow.l, lsH slV 29 r.cs.a r.cs.c r.cs.l, stars (r.cs.l.map (shM (.slice IS))), lsH I64 3 r.rm.a r.rm.c r.rm.l,
  lsH slV 28 r.st.a r.st.c r.st.l, stars (r.st.l.map (shM (.slice IS))), lsH I64 3 r.tk.a r.tk.c r.tk.l]
theorem St.refP {G w : World} {q : List HP} {r : RS} (h1 : wfL r.ow.l) (h2 : wfL r.rm.l) (h3 : wfL r.tk.l) (s : St G w (refP r ++ q)) : St G w (refM r :: q) := by
  unfold Go.Proofs.Ytlgnnhpbomfdiaa.refP at s
  simp only [ca, na] at s
  have s1 := St.insM (x := r.ow) h1 s
  have s2 := St.insM (x := r.rm) h2 (s1.le (show Le _ (lsV 3 r.rm :: _) from fndA))
  have s3 := St.insM (x := r.tk) h3 (s2.le (show Le _ (lsV 3 r.tk :: _) from fndA))
  have s4 := Wx.St.slFreeze (s3.le (show Le _ (slH r.cs.a r.cs.c 29 1 r.cs.l.length (r.cs.l.map slV) :: stars (r.cs.l.map (shM (.slice IS))) :: _) from Le.trans fndA (Le.pick fndA fndA)))
  have s5 := s4.le (Le.shM_slV (ty := 29) _)
  have s6 := Wx.St.slFreeze (s5.le (show Le _ (slH r.st.a r.st.c 28 1 r.st.l.length (r.st.l.map slV) :: stars (r.st.l.map (shM (.slice IS))) :: _) from Le.trans fndA (Le.pick fndA fndA)))
  have s7 := s6.le (Le.shM_slV (ty := 28) _)
  have s8 := s7.le (show Le _ (shM (.slice IS) r.tk :: shM .nil () :: _) from Le.trans fndA (Le.cons _ (Le.shM_nil _)))
  have s9 := s8.le (Le.shM_cons (a := .slice IS) (b := .nil) _)
  have s10 := (s9.le (show Le _ (shM (.slice (.slice IS)) ⟨r.st.a, r.st.c, r.st.l⟩ :: shM (.cons (.slice IS) .nil) (r.tk, ()) :: _) from Le.pick fndA fndA)).le (Le.shM_cons (a := .slice (.slice IS)) (b := .cons (.slice IS) .nil) _)
  have s11 := (s10.le (show Le _ (shM (.slice IS) r.rm :: shM (.cons (.slice (.slice IS)) (.cons (.slice IS) .nil)) (r.st, r.tk, ()) :: _) from Le.pick fndA fndA)).le (Le.shM_cons (a := .slice IS) (b := .cons (.slice (.slice IS)) (.cons (.slice IS) .nil)) _)
  have s12 := (s11.le (show Le _ (shM (.slice (.slice IS)) ⟨r.cs.a, r.cs.c, r.cs.l⟩ :: shM (.cons (.slice IS) (.cons (.slice (.slice IS)) (.cons (.slice IS) .nil))) (r.rm, r.st, r.tk, ()) :: _) from Le.pick fndA fndA)).le (Le.shM_cons (a := .slice (.slice IS)) (b := .cons (.slice IS) (.cons (.slice (.slice IS)) (.cons (.slice IS) .nil))) _)
  exact (s12.le (show Le _ (shM (.slice IS) r.ow :: shM (.cons (.slice (.slice IS)) (.cons (.slice IS) (.cons (.slice (.slice IS)) (.cons (.slice IS) .nil)))) (r.cs, r.rm, r.st, r.tk, ()) :: q) from Le.pick fndA (Le.pick fndA leA))).le (Le.shM_cons (a := .slice IS) (b := .cons (.slice (.slice IS)) (.cons (.slice IS) (.cons (.slice (.slice IS)) (.cons (.slice IS) .nil)))) _)
theorem Sy.ok.wf {s : Sy} {N : Nat} (hs : s.ok N) (hN : N ≤ 100000) {r : RS} (h : Ref r s) : wfL r.ow.l ∧ (∀ x ∈ r.cs.l, wfL x.l) ∧ wfL r.rm.l ∧ (∀ x ∈ r.st.l, wfL x.l) ∧ wfL r.tk.l := by
  refine ⟨fun n hn => ?_, fun x hx n hn => ?_, fun n hn => ?_, fun x hx n hn => ?_, fun n hn => ?_⟩
  · rw [h.o] at hn; have := hs.o n hn; exact wfI (by omega)
  · have h1 : x.l ∈ s.conds := by rw [← h.c]; exact List.mem_map_of_mem hx
    have h2 := (hs.c _ h1).2 n hn
    obtain ⟨a, b⟩ := h2; exact wfI (by omega)
  · rw [h.m] at hn; obtain ⟨c, hc, rfl⟩ := List.mem_map.1 hn; have := (hs.h c hc).1; exact wfI (by omega)
  · have h1 : x.l ∈ s.chans.map (·.all) := by rw [← h.t]; exact List.mem_map_of_mem hx
    obtain ⟨c, hc, e⟩ := List.mem_map.1 h1
    have e' : c.all = x.l := e
    have h2 := (hs.h c hc).2.2.2.2 n (by rw [e']; exact hn)
    obtain ⟨a, b⟩ := h2; exact wfI (by omega)
  · rw [h.k] at hn; obtain ⟨c, hc, rfl⟩ := List.mem_map.1 hn; obtain ⟨_, h1, h2, _⟩ := hs.h c hc; exact wfI (by omega)
theorem St.refFz {G w : World} {q : List HP} {r : RS} {s : Sy} {N : Nat} (hs : s.ok N) (hN : N ≤ 100000) (h : Ref r s) (st : St G w (refO r ++ q)) : St G w (refM r :: q) := by
  obtain ⟨w1, w2, w3, w4, w5⟩ := hs.wf hN h
  unfold refO at st
  simp only [ca, na] at st
  have s1 := St.insAll w2 (st.le (show Le _ (stars (r.cs.l.map (lsV 3)) :: _) from fndA))
  have s2 := St.insAll w4 (s1.le (show Le _ (stars (r.st.l.map (lsV 2)) :: _) from fndA))
  refine St.refP w1 w3 w5 (s2.le ?_)
  unfold Go.Proofs.Ytlgnnhpbomfdiaa.refP
  simp only [ca, na]
  exact leA
/-- The lists of two are the same. -/
structure SameL (r r' : RS) : Prop where
  o : r'.ow.l = r.ow.l
  c : r'.cs.l.map (·.l) = r.cs.l.map (·.l)
  m : r'.rm.l = r.rm.l
  t : r'.st.l.map (·.l) = r.st.l.map (·.l)
  k : r'.tk.l = r.tk.l
theorem SameL.ref {r r' : RS} {s : Sy} (e : SameL r r') (h : Ref r s) : Ref r' s := ⟨e.o.trans h.o, e.c.trans h.c, e.m.trans h.m, e.t.trans h.t, e.k.trans h.k⟩
/-- How long they are. -/
structure RLen (r : RS) : Prop where
  o : r.ow.l.length ≤ 1000
  c : r.cs.l.length ≤ 1000
  ci : ∀ x ∈ r.cs.l, x.l.length ≤ 1000
  m : r.rm.l.length ≤ 1000
  t : r.st.l.length ≤ 1000
  ti : ∀ x ∈ r.st.l, x.l.length ≤ 1000
  k : r.tk.l.length ≤ 1000
theorem Ref.len {r : RS} {s : Sy} (h : Ref r s) {N : Nat} (hs : s.ok N) (hN : N ≤ 1000) : RLen r := by
  have h1 := hs.no; have h2 := hs.nc; have h3 := hs.nh
  refine ⟨by rw [h.lo]; omega, by rw [h.lc]; omega, fun x hx => ?_, by rw [h.lm]; omega, by rw [h.lt]; omega, fun x hx => ?_, by rw [h.lk]; omega⟩
  · exact Nat.le_trans (hs.c x.l (by rw [← h.c]; exact List.mem_map_of_mem hx)).1 hN
  · have h1 : x.l ∈ s.chans.map (·.all) := by rw [← h.t]; exact List.mem_map_of_mem hx
    obtain ⟨c, hc, e⟩ := List.mem_map.1 h1
    have e' : c.all = x.l := e
    rw [← e']; exact Nat.le_trans (hs.h c hc).2.2.1 hN

section
variable {G : World} {q : List HP} {a b : Option Addr} {c d g p i n : Nat} {r : RS} {s : Sy} {k t v m : Int}
set_option maxHeartbeats 1000000 in
theorem RCopy_ok (hr : RSee q r) (hl : RLen r) : CallF Try.prog G 70 [.agg [.slice r.ow.a r.ow.l.length r.ow.c, .slice r.cs.a r.cs.l.length r.cs.c, .slice r.rm.a r.rm.l.length r.rm.c, .slice r.st.a r.st.l.length r.st.c, .slice r.tk.a r.tk.l.length r.tk.c].toArray] q (Ret fun v q' => ∃ r', SameL r r' ∧ v = .agg [.slice r'.ow.a r'.ow.l.length r'.ow.c, .slice r'.cs.a r'.cs.l.length r'.cs.c, .slice r'.rm.a r'.rm.l.length r'.rm.c, .slice r'.st.a r'.st.l.length r'.st.c, .slice r'.tk.a r'.tk.l.length r'.tk.c].toArray ∧ q' = refO r' ++ q) := by
  refine CallF.of Try.func70 Try.ntmps70 rfl (fun F cs => ?_)
  refine X.sub (p' := [(0, _)]) ⟨rfl, trivial⟩ ?_
  have hlo := hl.o; have hlc := hl.c; have hlm := hl.m; have hlt := hl.t; have hlk := hl.k
  refine X.seq ?_
  refine X.region ?_
  refine XO.ef (Ef.box rfl) ?_
  rintro _ _ ⟨n1, rfl, rfl⟩
  refine XO.ef (Ef.alloc Try.zeroValue53) ?_
  rintro _ _ ⟨n2, rfl, rfl⟩
  refine XO.nil ?_
  refine X.sub (p' := [(2, _), (1, _)]) ⟨rfl, rfl, trivial⟩ ?_
  refine X.seq ?_
  refine X.draw [] Try.mixed (by kernel_rfl) (by kernel_rfl) rfl ?_
  refine XD.pu 1 rfl (Pu.fieldAddr 29 0 0 rfl Try.underlying53 rfl Try.sizeOf29) ?_
  refine XD.ld 2 Try.isAgg29 ?_
  refine XD.pu 5 rfl (Pu.fieldAddr 29 2 0 rfl Try.underlying53 rfl Try.sizeOf29) ?_
  refine XD.ld 6 Try.isAgg29 ?_
  refine XD.pu 9 rfl (Pu.fieldAddr 29 4 0 rfl Try.underlying53 rfl Try.sizeOf29) ?_
  refine XD.ld 10 Try.isAgg29 ?_
  refine XD.float (fl := [⟨0, 6, fun g => .slice (some ⟨g, 0, none⟩) 0 0, fun g => lsH I64 3 (some ⟨g, 0, none⟩) 0 []⟩, ⟨4, 10, fun g => .slice (some ⟨g, 0, none⟩) 0 0, fun g => lsH I64 3 (some ⟨g, 0, none⟩) 0 []⟩, ⟨8, 14, fun g => .slice (some ⟨g, 0, none⟩) 0 0, fun g => lsH I64 3 (some ⟨g, 0, none⟩) 0 []⟩, ⟨13, 3, fun g => .pointer (some ⟨g, 0, none⟩), fun g => pto g (.cells [.slice none 0 0, .slice none 0 0, .slice none 0 0, .slice none 0 0, .slice none 0 0].toArray 53 (0, 0))⟩]) ?_
  refine XF.abs (e0 := ⟨0, 6, fun g => .slice (some ⟨g, 0, none⟩) 0 0, fun g => lsH I64 3 (some ⟨g, 0, none⟩) 0 []⟩) 0 ⟨⟨_, rfl, rfl, rfl, rfl, rfl, rfl, fun q => Ef.lit0 I64 Try.underlying29 Try.info3⟩, ⟨_, rfl, rfl, rfl, rfl, rfl, rfl, fun q => Ef.lit0 I64 Try.underlying29 Try.info3⟩, ⟨_, rfl, rfl, rfl, rfl, rfl, rfl, fun q => Ef.lit0 I64 Try.underlying29 Try.info3⟩, ⟨_, rfl, rfl, rfl, rfl, rfl, rfl, fun q => Ef.alloc Try.zeroValue53⟩, trivial⟩ (fun g0 => ?_)
  change XF _ _ _ _ _ _ _ [⟨4, 10, fun g => .slice (some ⟨g, 0, none⟩) 0 0, fun g => lsH I64 3 (some ⟨g, 0, none⟩) 0 []⟩, ⟨8, 14, fun g => .slice (some ⟨g, 0, none⟩) 0 0, fun g => lsH I64 3 (some ⟨g, 0, none⟩) 0 []⟩, ⟨13, 3, fun g => .pointer (some ⟨g, 0, none⟩), fun g => pto g (.cells [.slice none 0 0, .slice none 0 0, .slice none 0 0, .slice none 0 0, .slice none 0 0].toArray 53 (0, 0))⟩] _ _ _ ((6, .slice (some ⟨g0, 0, none⟩) 0 0) :: _) _ _ (lsH I64 3 (some ⟨g0, 0, none⟩) 0 [] :: _)
  refine XF.ef 3 ⟨⟨_, rfl, rfl, rfl, rfl, rfl, rfl, fun q => Ef.lit0 I64 Try.underlying29 Try.info3⟩, ⟨_, rfl, rfl, rfl, rfl, rfl, rfl, fun q => Ef.lit0 I64 Try.underlying29 Try.info3⟩, ⟨_, rfl, rfl, rfl, rfl, rfl, rfl, fun q => Ef.alloc Try.zeroValue53⟩, trivial⟩ (Ef.appE (fe := I64) (l := []) (m := r.ow.l) Try.underlying29 Try.info3 rfl rfl rfl fndA (hr.so.le leA) (fun _ => rfl) (by simp; omega) (by simp; omega)) ?_
  rintro _ _ ⟨a1, c1, rfl, rfl⟩
  refine ⟨hlA, ?_⟩
  refine XF.abs (e0 := ⟨4, 10, fun g => .slice (some ⟨g, 0, none⟩) 0 0, fun g => lsH I64 3 (some ⟨g, 0, none⟩) 0 []⟩) 4 ⟨⟨_, rfl, rfl, rfl, rfl, rfl, rfl, fun q => Ef.lit0 I64 Try.underlying29 Try.info3⟩, ⟨_, rfl, rfl, rfl, rfl, rfl, rfl, fun q => Ef.lit0 I64 Try.underlying29 Try.info3⟩, ⟨_, rfl, rfl, rfl, rfl, rfl, rfl, fun q => Ef.alloc Try.zeroValue53⟩, trivial⟩ (fun g1 => ?_)
  change XF _ _ _ _ _ _ _ [⟨8, 14, fun g => .slice (some ⟨g, 0, none⟩) 0 0, fun g => lsH I64 3 (some ⟨g, 0, none⟩) 0 []⟩, ⟨13, 3, fun g => .pointer (some ⟨g, 0, none⟩), fun g => pto g (.cells [.slice none 0 0, .slice none 0 0, .slice none 0 0, .slice none 0 0, .slice none 0 0].toArray 53 (0, 0))⟩] _ _ _ ((10, .slice (some ⟨g1, 0, none⟩) 0 0) :: _) _ _ (lsH I64 3 (some ⟨g1, 0, none⟩) 0 [] :: _)
  refine XF.ef 7 ⟨⟨_, rfl, rfl, rfl, rfl, rfl, rfl, fun q => Ef.lit0 I64 Try.underlying29 Try.info3⟩, ⟨_, rfl, rfl, rfl, rfl, rfl, rfl, fun q => Ef.alloc Try.zeroValue53⟩, trivial⟩ (Ef.appE (fe := I64) (l := []) (m := r.rm.l) Try.underlying29 Try.info3 rfl rfl rfl fndA (hr.sr.le leA) (fun _ => rfl) (by simp; omega) (by simp; omega)) ?_
  rintro _ _ ⟨a2, c2, rfl, rfl⟩
  refine ⟨hlA, ?_⟩
  refine XF.abs (e0 := ⟨8, 14, fun g => .slice (some ⟨g, 0, none⟩) 0 0, fun g => lsH I64 3 (some ⟨g, 0, none⟩) 0 []⟩) 8 ⟨⟨_, rfl, rfl, rfl, rfl, rfl, rfl, fun q => Ef.lit0 I64 Try.underlying29 Try.info3⟩, ⟨_, rfl, rfl, rfl, rfl, rfl, rfl, fun q => Ef.alloc Try.zeroValue53⟩, trivial⟩ (fun g2 => ?_)
  change XF _ _ _ _ _ _ _ [⟨13, 3, fun g => .pointer (some ⟨g, 0, none⟩), fun g => pto g (.cells [.slice none 0 0, .slice none 0 0, .slice none 0 0, .slice none 0 0, .slice none 0 0].toArray 53 (0, 0))⟩] _ _ _ ((14, .slice (some ⟨g2, 0, none⟩) 0 0) :: _) _ _ (lsH I64 3 (some ⟨g2, 0, none⟩) 0 [] :: _)
  refine XF.ef 11 ⟨⟨_, rfl, rfl, rfl, rfl, rfl, rfl, fun q => Ef.alloc Try.zeroValue53⟩, trivial⟩ (Ef.appE (fe := I64) (l := []) (m := r.tk.l) Try.underlying29 Try.info3 rfl rfl rfl fndA (hr.sk.le leA) (fun _ => rfl) (by simp; omega) (by simp; omega)) ?_
  rintro _ _ ⟨a3, c3, rfl, rfl⟩
  refine ⟨trivial, ?_⟩
  refine XF.pu 12 ⟨⟨_, rfl, rfl, rfl, rfl, rfl, rfl, fun q => Ef.alloc Try.zeroValue53⟩, trivial⟩ (Pu.build (cells := [_, _, _, _, _]) [(0, 1), (1, 1), (2, 1), (3, 1), (4, 1)] Try.zeroValue53 Try.underlying53 (by kernel_rfl) rfl rfl) ?_
  refine XF.abs (e0 := ⟨13, 3, fun g => .pointer (some ⟨g, 0, none⟩), fun g => pto g (.cells [.slice none 0 0, .slice none 0 0, .slice none 0 0, .slice none 0 0, .slice none 0 0].toArray 53 (0, 0))⟩) 13 ⟨⟨_, rfl, rfl, rfl, rfl, rfl, rfl, fun q => Ef.alloc Try.zeroValue53⟩, trivial⟩ (fun n3 => ?_)
  change XF _ _ _ _ _ _ _ [] _ _ _ ((3, .pointer (some ⟨n3, 0, none⟩)) :: _) _ _ (pto n3 (.cells [.slice none 0 0, .slice none 0 0, .slice none 0 0, .slice none 0 0, .slice none 0 0].toArray 53 (0, 0)) :: _)
  refine XF.back ?_
  refine XD.ef0 14 rfl (Ef.stA Try.sizeOf53) ?_
  rintro _ _ ⟨rfl, rfl⟩
  refine ⟨trivial, ?_⟩
  refine XD.nil ?_
  refine X.sub (p' := [(3, _), (2, _), (1, _)]) ⟨rfl, rfl, rfl, trivial⟩ ?_
  refine X.seq ?_
  refine X.seq ?_
  refine X.region ?_
  refine XO.pu (Pu.assign rfl) ?_
  refine XO.nil ?_
  refine X.sub (p' := [(4, _), (3, _), (2, _), (1, _)]) ⟨rfl, rfl, rfl, rfl, trivial⟩ ?_
  refine X.block ?_
  simp only [List.nil_append]
  refine X.at (X.loop (fun (zc : List (SlV Int) × Option Addr × Nat) => zc.1.length ≤ r.cs.l.length ∧ zc.1.map (·.l) = (r.cs.l.take zc.1.length).map (·.l)) (fun zc => [(1, .pointer (some ⟨n1, 0, none⟩)), (2, .pointer (some ⟨n2, 0, none⟩)), (3, .pointer (some ⟨n3, 0, none⟩)), (4, .int .i64 (zc.1.length : Int))]) (fun zc => pto n1 (.cells [.slice r.ow.a r.ow.l.length r.ow.c, .slice r.cs.a r.cs.l.length r.cs.c, .slice r.rm.a r.rm.l.length r.rm.c, .slice r.st.a r.st.l.length r.st.c, .slice r.tk.a r.tk.l.length r.tk.c].toArray 53 (0, 0)) :: pto n2 (.cells [.slice none 0 0, .slice none 0 0, .slice none 0 0, .slice none 0 0, .slice none 0 0].toArray 53 (0, 0)) :: pto n3 (.cells [.slice a1 r.ow.l.length c1, .slice zc.2.1 zc.1.length zc.2.2, .slice a2 r.rm.l.length c2, .slice none 0 0, .slice a3 r.tk.l.length c3].toArray 53 (0, 0)) :: lsH slV 29 zc.2.1 zc.2.2 zc.1 :: stars (zc.1.map (lsV 3)) :: lsH I64 3 a1 c1 r.ow.l :: lsH I64 3 a2 c2 r.rm.l :: lsH I64 3 a3 c3 r.tk.l :: (q ++ F)) (fun zc => r.cs.l.length - zc.1.length) (fun zc hi_ ih => ?_) ([], none, 0) ⟨by simp, by simp⟩) ⟨(by first | rfl | exact congrArg some (congrArg (Value.int _) (by omega)) | (show some _ = some _; simp; done) | (show some _ = some _; simp; omega)), (by first | rfl | exact congrArg some (congrArg (Value.int _) (by omega)) | (show some _ = some _; simp; done) | (show some _ = some _; simp; omega)), (by first | rfl | exact congrArg some (congrArg (Value.int _) (by omega)) | (show some _ = some _; simp; done) | (show some _ = some _; simp; omega)), (by first | rfl | exact congrArg some (congrArg (Value.int _) (by omega)) | (show some _ = some _; simp; done) | (show some _ = some _; simp; omega)), trivial⟩ (Le.trans leA (Le.trans (Le.lsH_nil slV 29 _) (Le.trans (Le.stars_nil _) leA)))
  try dsimp only at hi_ ih ⊢
  obtain ⟨hi1, hzc⟩ := hi_
  obtain ⟨zc, a4zc, c4zc⟩ := zc; dsimp only at *
  refine X.seq ?_
  refine X.seq ?_
  refine X.region ?_
  refine XO.pu (Pu.move rfl) ?_
  refine XO.pu (Pu.fieldAddr 50 1 0 rfl Try.underlying53 rfl Try.sizeOf50) ?_
  refine XO.ld Try.isAgg50 ?_
  refine XO.pu (Pu.len rfl Try.underlying50) ?_
  refine XO.pu (Pu.lss rfl rfl) ?_
  refine XO.nil ?_
  refine X.sub (p' := [(23, _), (1, _), (2, _), (3, _), (4, _)]) ⟨rfl, rfl, rfl, rfl, rfl, trivial⟩ ?_
  refine X.part 23 rfl (fun h0 => ?_) (fun h0 => ?_)
  · skip
    have h0 := of_decide_eq_true h0; have hi0 : zc.length < r.cs.l.length := (by omega)
    have hli := hl.ci _ (List.getElem_mem hi0)
    refine X.adr (hr.sc.le leA) (by simp; omega) (fun b1 o1 e1 => ?_); have hs1 := hr.sc; rw [e1] at hs1; rw [e1]
    refine X.condT rfl ?_
    refine X.skip ?_
    refine X.seq ?_
    refine X.block ?_
    refine X.draw [] Try.mixed (by kernel_rfl) (by kernel_rfl) rfl ?_
    refine XD.pu 0 rfl (Pu.fieldAddr 50 1 0 rfl Try.underlying53 rfl Try.sizeOf50) ?_
    refine XD.ld 1 Try.isAgg50 ?_
    refine XD.pu 3 rfl (Pu.fieldAddr 50 1 0 rfl Try.underlying53 rfl Try.sizeOf50) ?_
    refine XD.ld 4 Try.isAgg50 ?_
    refine XD.pu 5 rfl (Pu.move rfl) ?_
    refine XD.pu 6 rfl (Pu.indexAddr rfl rfl Try.underlying50 Try.sizeOf29 (by omega) (by omega)) ?_
    refine XD.ld 7 Try.isAgg29 ?_
    refine XD.ef 2 rfl (Ef.lit0 I64 Try.underlying29 Try.info3) ?_
    rintro _ _ ⟨g5, rfl, rfl⟩
    refine ⟨hlA, ?_⟩
    refine XD.ef 8 rfl (Ef.appA (f := I64) (l := []) (m := r.cs.l[zc.length].l) Try.underlying29 Try.info3 rfl rfl rfl fndA ((hr.sci _ hi0).le leA) (fun _ => rfl) (by simp; omega) (by simp; omega)) ?_
    rintro _ _ ⟨a5, c5, rfl, rfl⟩
    refine ⟨hlA, ?_⟩
    rw [List.nil_append]
    refine XD.ef 9 rfl (Ef.lit1 (u := (⟨a5, c5, r.cs.l[zc.length].l⟩ : SlV Int)) slV Try.underlying50 Try.info29 rfl rfl) ?_
    rintro _ _ ⟨g6, rfl, rfl⟩
    refine ⟨hlA, ?_⟩
    refine XD.ef 10 rfl (Ef.appA (f := slV) (l := zc) (m := [(⟨a5, c5, r.cs.l[zc.length].l⟩ : SlV Int)]) Try.underlying50 Try.info29 rfl rfl rfl fndA ((Sees.lsH _).le leA) (fun _ => rfl) (by simp; omega) (by simp; omega)) ?_
    rintro _ _ ⟨a7, c7, rfl, rfl⟩
    refine ⟨hlA, ?_⟩
    refine XD.pu 11 rfl (Pu.fieldAddr 50 1 0 rfl Try.underlying53 rfl Try.sizeOf50) ?_
    refine XD.ef0 12 rfl (Ef.st Try.sizeOf50) ?_
    rintro _ _ ⟨rfl, rfl⟩
    refine ⟨trivial, ?_⟩
    refine XD.nil ?_
    refine X.sub (p' := [(1, _), (2, _), (3, _), (4, _)]) ⟨rfl, rfl, rfl, rfl, trivial⟩ ?_
    refine X.inBlock ?_
    refine X.region ?_
    refine XO.pu (Pu.move rfl) ?_
    refine XO.pu (Pu.add rfl rfl (by omega) (by omega)) ?_
    refine XO.pu (Pu.assign rfl) ?_
    refine XO.nil ?_
    refine X.sub (p' := [(4, _), (1, _), (2, _), (3, _)]) ⟨rfl, rfl, rfl, rfl, trivial⟩ ?_
    refine X.le (q' := stars ((zc ++ [(⟨a5, c5, r.cs.l[zc.length].l⟩ : SlV Int)]).map (lsV 3)) :: _) (Le.trans (show Le _ (stars (zc.map (lsV 3)) :: lsV 3 (⟨a5, c5, r.cs.l[zc.length].l⟩ : SlV Int) :: _) from Le.pick fndA fndA) (Le.stars_snoc (lsV 3) zc (⟨a5, c5, r.cs.l[zc.length].l⟩ : SlV Int) _)) ?_
    rw [← e1]
    rw [show (zc.length : Int) + 1 = ((zc ++ [(⟨a5, c5, r.cs.l[zc.length].l⟩ : SlV Int)]).length : Int) by simp]
    refine X.at (ih (zc ++ [(⟨a5, c5, r.cs.l[zc.length].l⟩ : SlV Int)], a7, c7) ⟨by simp; omega, by simp only [List.length_append, List.length_singleton]; rw [List.take_succ_eq_append_getElem hi0, List.map_append, List.map_append, hzc]; rfl⟩ (by simp; omega)) ⟨(by first | rfl | exact congrArg some (congrArg (Value.int _) (by omega)) | (show some _ = some _; simp; done) | (show some _ = some _; simp; omega)), (by first | rfl | exact congrArg some (congrArg (Value.int _) (by omega)) | (show some _ = some _; simp; done) | (show some _ = some _; simp; omega)), (by first | rfl | exact congrArg some (congrArg (Value.int _) (by omega)) | (show some _ = some _; simp; done) | (show some _ = some _; simp; omega)), (by first | rfl | exact congrArg some (congrArg (Value.int _) (by omega)) | (show some _ = some _; simp; done) | (show some _ = some _; simp; omega)), trivial⟩ leA
  · skip
    have h0 := of_decide_eq_false h0; have hlzc : zc.length = r.cs.l.length := by omega
    rw [hlzc, List.take_length] at hzc; clear ih h0 hi1
    refine X.condF rfl ?_
    refine X.exit rfl ?_
    refine X.seq ?_
    refine X.seq ?_
    refine X.region ?_
    refine XO.pu (Pu.assign rfl) ?_
    refine XO.nil ?_
    refine X.sub (p' := [(5, _), (1, _), (2, _), (3, _)]) ⟨rfl, rfl, rfl, rfl, trivial⟩ ?_
    refine X.block ?_
    refine X.at (X.loop (fun (zt : List (SlV Int) × Option Addr × Nat) => zt.1.length ≤ r.st.l.length ∧ zt.1.map (·.l) = (r.st.l.take zt.1.length).map (·.l)) (fun zt => [(1, .pointer (some ⟨n1, 0, none⟩)), (2, .pointer (some ⟨n2, 0, none⟩)), (3, .pointer (some ⟨n3, 0, none⟩)), (5, .int .i64 (zt.1.length : Int))]) (fun zt => pto n1 (.cells [.slice r.ow.a r.ow.l.length r.ow.c, .slice r.cs.a r.cs.l.length r.cs.c, .slice r.rm.a r.rm.l.length r.rm.c, .slice r.st.a r.st.l.length r.st.c, .slice r.tk.a r.tk.l.length r.tk.c].toArray 53 (0, 0)) :: pto n2 (.cells [.slice none 0 0, .slice none 0 0, .slice none 0 0, .slice none 0 0, .slice none 0 0].toArray 53 (0, 0)) :: pto n3 (.cells [.slice a1 r.ow.l.length c1, .slice a4zc zc.length c4zc, .slice a2 r.rm.l.length c2, .slice zt.2.1 zt.1.length zt.2.2, .slice a3 r.tk.l.length c3].toArray 53 (0, 0)) :: lsH slV 28 zt.2.1 zt.2.2 zt.1 :: stars (zt.1.map (lsV 2)) :: lsH I64 3 a1 c1 r.ow.l :: lsH I64 3 a2 c2 r.rm.l :: lsH I64 3 a3 c3 r.tk.l :: lsH slV 29 a4zc c4zc zc :: stars (zc.map (lsV 3)) :: (q ++ F)) (fun zt => r.st.l.length - zt.1.length) (fun zt hi_ ih => ?_) ([], none, 0) ⟨by simp, by simp⟩) ⟨(by first | rfl | exact congrArg some (congrArg (Value.int _) (by omega)) | (show some _ = some _; simp; done) | (show some _ = some _; simp; omega)), (by first | rfl | exact congrArg some (congrArg (Value.int _) (by omega)) | (show some _ = some _; simp; done) | (show some _ = some _; simp; omega)), (by first | rfl | exact congrArg some (congrArg (Value.int _) (by omega)) | (show some _ = some _; simp; done) | (show some _ = some _; simp; omega)), (by first | rfl | exact congrArg some (congrArg (Value.int _) (by omega)) | (show some _ = some _; simp; done) | (show some _ = some _; simp; omega)), trivial⟩ (Le.trans leA (Le.trans (Le.lsH_nil slV 28 _) (Le.trans (Le.stars_nil _) leA)))
    try dsimp only at hi_ ih ⊢
    obtain ⟨hi1, hzt⟩ := hi_
    obtain ⟨zt, a4zt, c4zt⟩ := zt; dsimp only at *
    refine X.seq ?_
    refine X.seq ?_
    refine X.region ?_
    refine XO.pu (Pu.move rfl) ?_
    refine XO.pu (Pu.fieldAddr 51 3 0 rfl Try.underlying53 rfl Try.sizeOf51) ?_
    refine XO.ld Try.isAgg51 ?_
    refine XO.pu (Pu.len rfl Try.underlying51) ?_
    refine XO.pu (Pu.lss rfl rfl) ?_
    refine XO.nil ?_
    refine X.sub (p' := [(42, _), (1, _), (2, _), (3, _), (5, _)]) ⟨rfl, rfl, rfl, rfl, rfl, trivial⟩ ?_
    refine X.part 42 rfl (fun h0 => ?_) (fun h0 => ?_)
    · skip
      have h0 := of_decide_eq_true h0; have hi0 : zt.length < r.st.l.length := (by omega)
      have hli := hl.ti _ (List.getElem_mem hi0)
      refine X.adr (hr.ss.le leA) (by simp; omega) (fun b1 o1 e1 => ?_); have hs1 := hr.ss; rw [e1] at hs1; rw [e1]
      refine X.condT rfl ?_
      refine X.skip ?_
      refine X.seq ?_
      refine X.block ?_
      refine X.draw [] Try.mixed (by kernel_rfl) (by kernel_rfl) rfl ?_
      refine XD.pu 0 rfl (Pu.fieldAddr 51 3 0 rfl Try.underlying53 rfl Try.sizeOf51) ?_
      refine XD.ld 1 Try.isAgg51 ?_
      refine XD.pu 3 rfl (Pu.fieldAddr 51 3 0 rfl Try.underlying53 rfl Try.sizeOf51) ?_
      refine XD.ld 4 Try.isAgg51 ?_
      refine XD.pu 5 rfl (Pu.move rfl) ?_
      refine XD.pu 6 rfl (Pu.indexAddr rfl rfl Try.underlying51 Try.sizeOf28 (by omega) (by omega)) ?_
      refine XD.ld 7 Try.isAgg28 ?_
      refine XD.ef 2 rfl (Ef.lit0 I64 Try.underlying28 Try.info2) ?_
      rintro _ _ ⟨g5, rfl, rfl⟩
      refine ⟨hlA, ?_⟩
      refine XD.ef 8 rfl (Ef.appA (f := I64) (l := []) (m := r.st.l[zt.length].l) Try.underlying28 Try.info2 rfl rfl rfl fndA ((hr.ssi _ hi0).le leA) (fun _ => rfl) (by simp; omega) (by simp; omega)) ?_
      rintro _ _ ⟨a5, c5, rfl, rfl⟩
      refine ⟨hlA, ?_⟩
      rw [List.nil_append]
      refine XD.ef 9 rfl (Ef.lit1 (u := (⟨a5, c5, r.st.l[zt.length].l⟩ : SlV Int)) slV Try.underlying51 Try.info28 rfl rfl) ?_
      rintro _ _ ⟨g6, rfl, rfl⟩
      refine ⟨hlA, ?_⟩
      refine XD.ef 10 rfl (Ef.appA (f := slV) (l := zt) (m := [(⟨a5, c5, r.st.l[zt.length].l⟩ : SlV Int)]) Try.underlying51 Try.info28 rfl rfl rfl fndA ((Sees.lsH _).le leA) (fun _ => rfl) (by simp; omega) (by simp; omega)) ?_
      rintro _ _ ⟨a7, c7, rfl, rfl⟩
      refine ⟨hlA, ?_⟩
      refine XD.pu 11 rfl (Pu.fieldAddr 51 3 0 rfl Try.underlying53 rfl Try.sizeOf51) ?_
      refine XD.ef0 12 rfl (Ef.st Try.sizeOf51) ?_
      rintro _ _ ⟨rfl, rfl⟩
      refine ⟨trivial, ?_⟩
      refine XD.nil ?_
      refine X.sub (p' := [(1, _), (2, _), (3, _), (5, _)]) ⟨rfl, rfl, rfl, rfl, trivial⟩ ?_
      refine X.inBlock ?_
      refine X.region ?_
      refine XO.pu (Pu.move rfl) ?_
      refine XO.pu (Pu.add rfl rfl (by omega) (by omega)) ?_
      refine XO.pu (Pu.assign rfl) ?_
      refine XO.nil ?_
      refine X.sub (p' := [(5, _), (1, _), (2, _), (3, _)]) ⟨rfl, rfl, rfl, rfl, trivial⟩ ?_
      refine X.le (q' := stars ((zt ++ [(⟨a5, c5, r.st.l[zt.length].l⟩ : SlV Int)]).map (lsV 2)) :: _) (Le.trans (show Le _ (stars (zt.map (lsV 2)) :: lsV 2 (⟨a5, c5, r.st.l[zt.length].l⟩ : SlV Int) :: _) from Le.pick fndA fndA) (Le.stars_snoc (lsV 2) zt (⟨a5, c5, r.st.l[zt.length].l⟩ : SlV Int) _)) ?_
      rw [← e1]
      rw [show (zt.length : Int) + 1 = ((zt ++ [(⟨a5, c5, r.st.l[zt.length].l⟩ : SlV Int)]).length : Int) by simp]
      refine X.at (ih (zt ++ [(⟨a5, c5, r.st.l[zt.length].l⟩ : SlV Int)], a7, c7) ⟨by simp; omega, by simp only [List.length_append, List.length_singleton]; rw [List.take_succ_eq_append_getElem hi0, List.map_append, List.map_append, hzt]; rfl⟩ (by simp; omega)) ⟨(by first | rfl | exact congrArg some (congrArg (Value.int _) (by omega)) | (show some _ = some _; simp; done) | (show some _ = some _; simp; omega)), (by first | rfl | exact congrArg some (congrArg (Value.int _) (by omega)) | (show some _ = some _; simp; done) | (show some _ = some _; simp; omega)), (by first | rfl | exact congrArg some (congrArg (Value.int _) (by omega)) | (show some _ = some _; simp; done) | (show some _ = some _; simp; omega)), (by first | rfl | exact congrArg some (congrArg (Value.int _) (by omega)) | (show some _ = some _; simp; done) | (show some _ = some _; simp; omega)), trivial⟩ leA
    · skip
      have h0 := of_decide_eq_false h0; have hlzt : zt.length = r.st.l.length := by omega
      rw [hlzt, List.take_length] at hzt; clear ih h0 hi1
      refine X.condF rfl ?_
      refine X.exit rfl ?_
      refine X.seq ?_
      refine X.region ?_
      refine XO.ldA Try.isAgg53 Try.sizeOf53 ?_
      refine XO.ef0 (Ef.stA Try.sizeOf53) ?_
      rintro _ _ ⟨rfl, rfl⟩
      refine XO.nil ?_
      refine X.sub (p' := [(2, _)]) ⟨rfl, trivial⟩ ?_
      refine X.retL (refO ⟨⟨a1, c1, r.ow.l⟩, ⟨a4zc, c4zc, zc⟩, ⟨a2, c2, r.rm.l⟩, ⟨a4zt, c4zt, zt⟩, ⟨a3, c3, r.tk.l⟩⟩ ++ q) Try.func70 (resC1 Try.results70 (ResOk.cell rfl (LV.agg Try.isAgg53 Try.sizeOf53 hasA rfl) ResOk.nil)) ⟨_, rfl, ⟨⟨a1, c1, r.ow.l⟩, ⟨a4zc, c4zc, zc⟩, ⟨a2, c2, r.rm.l⟩, ⟨a4zt, c4zt, zt⟩, ⟨a3, c3, r.tk.l⟩⟩, ⟨rfl, hzc, rfl, hzt, rfl⟩, rfl, rfl⟩ (by unfold refO; simp only [ca, na]; exact leA)
theorem RVals_ok (hr : RSee q r) (hl : RLen r) (h1 : i < r.st.l.length) (h2 : i < r.tk.l.length) (h3 : 0 ≤ r.tk.l[i] ∧ r.tk.l[i] ≤ r.st.l[i].l.length) : CallF Try.prog G 53 [.agg [.slice r.ow.a r.ow.l.length r.ow.c, .slice r.cs.a r.cs.l.length r.cs.c, .slice r.rm.a r.rm.l.length r.rm.c, .slice r.st.a r.st.l.length r.st.c, .slice r.tk.a r.tk.l.length r.tk.c].toArray, .int .i64 (i : Int)] q (Ret fun v q' => v = .slice (sufA r.st.l[i].a r.st.l[i].c (r.tk.l[i]).toNat 1) (r.st.l[i].l.length - (r.tk.l[i]).toNat) (r.st.l[i].c - (r.tk.l[i]).toNat) ∧ q' = q) := by
  refine CallF.of Try.func53 Try.ntmps53 rfl (fun F cs => ?_)
  refine X.sub (p' := [(0, _), (1, _)]) ⟨rfl, rfl, trivial⟩ ?_
  have hlt := hl.t; have hlk := hl.k
  refine X.adr hr.ss (by simp; omega) (fun b1 o1 e1 => ?_); have hs1 := hr.ss; rw [e1] at hs1; rw [e1]
  refine X.adr hr.sk (by simp; omega) (fun b2 o2 e2 => ?_); have hs2 := hr.sk; rw [e2] at hs2; rw [e2]
  refine X.seq ?_
  refine X.region ?_
  refine XO.ef (Ef.box rfl) ?_
  rintro _ _ ⟨n1, rfl, rfl⟩
  refine XO.pu (Pu.assign rfl) ?_
  refine XO.nil ?_
  refine X.sub (p' := [(4, _), (2, _), (1, _)]) ⟨rfl, rfl, rfl, trivial⟩ ?_
  refine X.seq ?_
  refine X.draw [] Try.mixed (by kernel_rfl) (by kernel_rfl) rfl ?_
  refine XD.pu 0 rfl (Pu.fieldAddr 51 3 0 rfl Try.underlying53 rfl Try.sizeOf51) ?_
  refine XD.ld 1 Try.isAgg51 ?_
  refine XD.pu 2 rfl (Pu.move rfl) ?_
  refine XD.pu 3 rfl (Pu.indexAddr rfl rfl Try.underlying51 Try.sizeOf28 (by omega) (by omega)) ?_
  refine XD.ld 4 Try.isAgg28 ?_
  refine XD.pu 5 rfl (Pu.fieldAddr 29 4 0 rfl Try.underlying53 rfl Try.sizeOf29) ?_
  refine XD.ld 6 Try.isAgg29 ?_
  refine XD.pu 7 rfl (Pu.move rfl) ?_
  refine XD.pu 8 rfl (Pu.indexAddr rfl rfl Try.underlying29 Try.sizeOf3 (by omega) (by omega)) ?_
  refine XD.ld 9 Try.isAgg3 ?_
  refine XD.pu 10 rfl (Pu.sliceLo rfl rfl Try.underlying28 Try.sizeOf2 (by omega) (by omega)) ?_
  refine XD.pu 11 rfl (Pu.assign rfl) ?_
  refine XD.nil ?_
  refine X.sub (p' := [(4, _)]) ⟨rfl, trivial⟩ ?_
  refine X.retL (q) Try.func53 (res1 Try.results53 rfl) ⟨_, rfl, rfl, rfl⟩
end
end Go.Proofs.Ytlgnnhpbomfdiaa

