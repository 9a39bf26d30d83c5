/- What functions of package sync, of its references and of its laws do: contracts of calls, proved by walking their code. -/
import Derived.Test.YtlgnnhpbomfdiaaB
import Derived.KernelRfl
set_option maxRecDepth 100000
set_option linter.unusedVariables false
set_option linter.unusedSimpArgs false
namespace Go.Proofs.Ytlgnnhpbomfdiaa
open Go Go.RowKit Wx

/-! ### what is asked -/
def ownerS (s : Sy) (m : Int) : Int × Int := if inR m s.owners.length then (s.owners.getD m.toNat 0, 0) else (0, 4)
def waitsS (s : Sy) (k : Int) : List Int × Int := if inR k s.conds.length then (s.conds.getD k.toNat [], 0) else ([], 4)
def valuesS (s : Sy) (k : Int) : List Int × Int := if inR k s.chans.length then ((s.chans.getD k.toNat ch0).items, 0) else ([], 4)
def roomS (s : Sy) (k : Int) : Int × Int := if inR k s.chans.length then ((s.chans.getD k.toNat ch0).room, 0) else (0, 4)
theorem Real.ol {σ : SyC} {s : Sy} (r : Real σ s) {i : Nat} (h : i < σ.owners.length) : s.owners.getD i 0 = σ.owners[i] := by rw [← r.o]; simp [List.getD, h]
theorem Real.lo {σ : SyC} {s : Sy} (r : Real σ s) : σ.owners.length = s.owners.length := by rw [r.o]
theorem Le.focV {ty : TypeId} {l : List (SlV Int)} {i : Nat} (hi : i < l.length) {q r : List HP} (hq : Le q (stars (l.map (lsV ty)) :: r) := by exact fndA) : Le q (lsH I64 ty l[i].a l[i].c l[i].l :: stars ((l.eraseIdx i).map (lsV ty)) :: r) := hq.trans (Le.focus (lsV ty) hi r)
theorem Le.unfV {ty : TypeId} {l : List (SlV Int)} {i : Nat} (hi : i < l.length) {a : Option Addr} {c : Nat} {m : List Int} {q r : List HP} (hq : Le q (lsH I64 ty a c m :: stars ((l.eraseIdx i).map (lsV ty)) :: r) := by exact Le.pick fndA fndA) : Le q (stars ((l.set i ⟨a, c, m⟩).map (lsV ty)) :: r) := hq.trans (Le.unfocus (lsV ty) hi ⟨a, c, m⟩ r)
theorem clLe {q q' : List HP} {A : Addr} {v : Value} (h : Cl q' A v) (l : Le q q') : Cl q A v := fun G w s => h G w (s.le l)
def lsQ (ty : TypeId) (x : ChC) : HP := lsV ty x.q
theorem Le.focH {ty : TypeId} {l : List ChC} {i : Nat} (hi : i < l.length) {q r : List HP} (hq : Le q (stars (l.map fun x => lsV ty x.q) :: r) := by exact fndA) : Le q (lsH I64 ty l[i].q.a l[i].q.c l[i].q.l :: stars ((l.eraseIdx i).map fun x => lsV ty x.q) :: r) := hq.trans (Le.focus (fun (x : ChC) => lsV ty x.q) hi r)
theorem Le.unfH {ty : TypeId} {l : List ChC} {i : Nat} (hi : i < l.length) (x : ChC) {q r : List HP} (hq : Le q (lsH I64 ty x.q.a x.q.c x.q.l :: stars ((l.eraseIdx i).map fun x => lsV ty x.q) :: r) := by exact Le.pick fndA fndA) : Le q (stars ((l.set i x).map fun x => lsV ty x.q) :: r) := hq.trans (Le.unfocus (fun (x : ChC) => lsV ty x.q) hi x r)
section
variable {G : World} {q : List HP} {a b : Option Addr} {c d g p i n : Nat} {σ : SyC} {s : Sy} {k t v at_ number : Int}
theorem there_ok (h : Cl q ⟨p, 0, none⟩ (.bool true)) : CallF Try.prog G 55 [.pointer (some ⟨p, 0, none⟩)] q (Ret fun v q' => v = .bool true ∧ q' = q) := by
  refine CallF.of Try.func55 Try.ntmps55 rfl (fun F cs => ?_)
  refine X.sub (p' := [(0, _)]) ⟨rfl, trivial⟩ ?_
  refine X.seq ?_
  refine X.region ?_
  refine XO.pu (Pu.assign rfl) ?_
  refine XO.nil ?_
  refine X.sub (p' := [(2, _), (0, _)]) ⟨rfl, rfl, trivial⟩ ?_
  refine X.seq ?_
  refine X.region ?_
  refine XO.pu (Pu.move rfl) ?_
  refine XO.pu (Pu.neqNil rfl Try.underlying24) ?_
  refine XO.pu (Pu.move rfl) ?_
  refine XO.know 5 (.bool true) rfl (congrArg Value.bool (rfl)) ?_
  refine XO.pu (Pu.move rfl) ?_
  refine XO.pu (Pu.nilCheck rfl) ?_
  refine XO.pu (Pu.fieldAddr 4 0 0 rfl Try.underlying74 rfl Try.sizeOf4) ?_
  refine XO.ld Try.isAgg4 ?_ (hc := (clLe h leA))
  refine XO.pu (Pu.pickT rfl rfl) ?_
  refine XO.pu (Pu.assign rfl) ?_
  refine XO.nil ?_
  refine X.sub (p' := [(2, _)]) ⟨rfl, trivial⟩ ?_
  refine X.retL (q) Try.func55 (res1 Try.results55 rfl) ⟨_, rfl, rfl, rfl⟩
theorem mutexList_ok (h : Cl q ⟨p, 0, none⟩ (.bool true)) (h1 : Cl q ⟨p, 1, none⟩ (.slice a n c)) : CallF Try.prog G 35 [.pointer (some ⟨p, 0, none⟩)] q (Ret fun v q' => v = .slice a n c ∧ q' = q) := by
  refine CallF.of Try.func35 Try.ntmps35 rfl (fun F cs => ?_)
  refine X.sub (p' := [(0, _)]) ⟨rfl, trivial⟩ ?_
  refine X.seq ?_
  refine X.region ?_
  refine XO.pu (Pu.assign rfl) ?_
  refine XO.nil ?_
  refine X.sub (p' := [(2, _), (0, _)]) ⟨rfl, rfl, trivial⟩ ?_
  refine X.seq ?_
  refine X.seq ?_
  refine X.region ?_
  refine XO.pu (Pu.move rfl) ?_
  refine XO.cR Try.call55 (there_ok (clLe h leA)) ?_
  refine XO.pu (Pu.not rfl) ?_
  refine XO.nil ?_
  refine X.sub (p' := [(5, _), (2, _), (0, _)]) ⟨rfl, rfl, rfl, trivial⟩ ?_
  refine X.know 5 (.bool false) rfl (congrArg Value.bool (rfl)) ?_
  refine X.condF rfl ?_
  refine X.skip ?_
  refine X.seq ?_
  refine X.region ?_
  refine XO.pu (Pu.move rfl) ?_
  refine XO.pu (Pu.nilCheck rfl) ?_
  refine XO.pu (Pu.fieldAddr 29 1 0 rfl Try.underlying74 rfl Try.sizeOf29) ?_
  refine XO.ld Try.isAgg29 ?_ (hc := (clLe h1 leA))
  refine XO.pu (Pu.assign rfl) ?_
  refine XO.nil ?_
  refine X.sub (p' := [(2, _)]) ⟨rfl, trivial⟩ ?_
  refine X.retL (q) Try.func35 (res1 Try.results35 rfl) ⟨_, rfl, rfl, rfl⟩
theorem condList_ok (h : Cl q ⟨p, 0, none⟩ (.bool true)) (h1 : Cl q ⟨p, 2, none⟩ (.slice a n c)) : CallF Try.prog G 37 [.pointer (some ⟨p, 0, none⟩)] q (Ret fun v q' => v = .slice a n c ∧ q' = q) := by
  refine CallF.of Try.func37 Try.ntmps37 rfl (fun F cs => ?_)
  refine X.sub (p' := [(0, _)]) ⟨rfl, trivial⟩ ?_
  refine X.seq ?_
  refine X.region ?_
  refine XO.pu (Pu.assign rfl) ?_
  refine XO.nil ?_
  refine X.sub (p' := [(2, _), (0, _)]) ⟨rfl, rfl, trivial⟩ ?_
  refine X.seq ?_
  refine X.seq ?_
  refine X.region ?_
  refine XO.pu (Pu.move rfl) ?_
  refine XO.cR Try.call55 (there_ok (clLe h leA)) ?_
  refine XO.pu (Pu.not rfl) ?_
  refine XO.nil ?_
  refine X.sub (p' := [(5, _), (2, _), (0, _)]) ⟨rfl, rfl, rfl, trivial⟩ ?_
  refine X.know 5 (.bool false) rfl (congrArg Value.bool (rfl)) ?_
  refine X.condF rfl ?_
  refine X.skip ?_
  refine X.seq ?_
  refine X.region ?_
  refine XO.pu (Pu.move rfl) ?_
  refine XO.pu (Pu.nilCheck rfl) ?_
  refine XO.pu (Pu.fieldAddr 71 2 0 rfl Try.underlying74 rfl Try.sizeOf71) ?_
  refine XO.ld Try.isAgg71 ?_ (hc := (clLe h1 leA))
  refine XO.pu (Pu.assign rfl) ?_
  refine XO.nil ?_
  refine X.sub (p' := [(2, _)]) ⟨rfl, trivial⟩ ?_
  refine X.retL (q) Try.func37 (res1 Try.results37 rfl) ⟨_, rfl, rfl, rfl⟩
theorem channelList_ok (h : Cl q ⟨p, 0, none⟩ (.bool true)) (h1 : Cl q ⟨p, 3, none⟩ (.slice a n c)) : CallF Try.prog G 42 [.pointer (some ⟨p, 0, none⟩)] q (Ret fun v q' => v = .slice a n c ∧ q' = q) := by
  refine CallF.of Try.func42 Try.ntmps42 rfl (fun F cs => ?_)
  refine X.sub (p' := [(0, _)]) ⟨rfl, trivial⟩ ?_
  refine X.seq ?_
  refine X.region ?_
  refine XO.pu (Pu.assign rfl) ?_
  refine XO.nil ?_
  refine X.sub (p' := [(2, _), (0, _)]) ⟨rfl, rfl, trivial⟩ ?_
  refine X.seq ?_
  refine X.seq ?_
  refine X.region ?_
  refine XO.pu (Pu.move rfl) ?_
  refine XO.cR Try.call55 (there_ok (clLe h leA)) ?_
  refine XO.pu (Pu.not rfl) ?_
  refine XO.nil ?_
  refine X.sub (p' := [(5, _), (2, _), (0, _)]) ⟨rfl, rfl, rfl, trivial⟩ ?_
  refine X.know 5 (.bool false) rfl (congrArg Value.bool (rfl)) ?_
  refine X.condF rfl ?_
  refine X.skip ?_
  refine X.seq ?_
  refine X.region ?_
  refine XO.pu (Pu.move rfl) ?_
  refine XO.pu (Pu.nilCheck rfl) ?_
  refine XO.pu (Pu.fieldAddr 72 3 0 rfl Try.underlying74 rfl Try.sizeOf72) ?_
  refine XO.ld Try.isAgg72 ?_ (hc := (clLe h1 leA))
  refine XO.pu (Pu.assign rfl) ?_
  refine XO.nil ?_
  refine X.sub (p' := [(2, _)]) ⟨rfl, trivial⟩ ?_
  refine X.retL (q) Try.func42 (res1 Try.results42 rfl) ⟨_, rfl, rfl, rfl⟩
theorem findI0_rng (h : Cl q ⟨p, 0, none⟩ (.bool true)) (hn : n ≤ 1000000) (hr : ¬ inR at_ n) : CallF Try.prog G 34 [.pointer (some ⟨p, 0, none⟩), .slice a n c, .int .i64 at_, .int .i64 0, .int .i64 0] q (Ret fun v q' => v = .tuple [.pointer none, .int .i64 4].toArray ∧ q' = q) := by
  refine CallF.of Try.func34 Try.ntmps34 rfl (fun F cs => ?_)
  refine X.sub (p' := [(0, _), (1, _), (2, _), (3, _), (4, _)]) ⟨rfl, rfl, rfl, rfl, rfl, trivial⟩ ?_
  try unfold inR at hr
  try unfold thr at hb
  try unfold val at hb
  refine X.seq ?_
  refine X.region ?_
  refine XO.pu (Pu.assign rfl) ?_
  refine XO.pu (Pu.assign rfl) ?_
  refine XO.nil ?_
  refine X.sub (p' := [(11, _), (10, _), (0, _), (1, _), (2, _), (3, _), (4, _)]) ⟨rfl, rfl, rfl, rfl, rfl, rfl, rfl, trivial⟩ ?_
  refine X.seq ?_
  refine X.region ?_
  refine XO.pu (Pu.assign rfl) ?_
  refine XO.nil ?_
  refine X.sub (p' := [(12, _), (11, _), (10, _), (0, _), (1, _), (2, _), (3, _), (4, _)]) ⟨rfl, rfl, rfl, rfl, rfl, rfl, rfl, rfl, trivial⟩ ?_
  refine X.seq ?_
  refine X.region ?_
  refine XO.pu (Pu.assign rfl) ?_
  refine XO.pu (Pu.assign rfl) ?_
  refine XO.nil ?_
  refine X.sub (p' := [(14, _), (13, _), (12, _), (11, _), (10, _), (0, _), (1, _), (2, _), (3, _), (4, _)]) ⟨rfl, rfl, rfl, rfl, rfl, rfl, rfl, rfl, rfl, rfl, trivial⟩ ?_
  refine X.seq ?_
  refine X.seq ?_
  refine X.region ?_
  refine XO.pu (Pu.move rfl) ?_
  refine XO.nil ?_
  refine X.sub (p' := [(15, _), (14, _), (13, _), (12, _), (11, _), (10, _), (0, _), (1, _), (2, _), (4, _)]) ⟨rfl, rfl, rfl, rfl, rfl, rfl, rfl, rfl, rfl, rfl, trivial⟩ ?_
  refine X.block ?_
  refine X.seq ?_
  refine X.block ?_
  refine X.seq ?_
  refine X.block ?_
  refine X.seq ?_
  refine X.block ?_
  refine X.seq ?_
  refine X.seq ?_
  refine X.seq ?_
  refine X.region ?_
  refine XO.pu (Pu.eql rfl rfl) ?_
  refine XO.pu (Pu.assign rfl) ?_
  refine XO.nil ?_
  refine X.sub (p' := [(16, _), (15, _), (14, _), (13, _), (12, _), (11, _), (10, _), (0, _), (1, _), (2, _), (4, _)]) ⟨rfl, rfl, rfl, rfl, rfl, rfl, rfl, rfl, rfl, rfl, rfl, trivial⟩ ?_
  refine X.know 16 (.bool false) rfl (congrArg Value.bool (by simp)) ?_
  refine X.condF rfl ?_
  refine X.skip ?_
  refine X.seq ?_
  refine X.region ?_
  refine XO.pu (Pu.eql rfl rfl) ?_
  refine XO.pu (Pu.assign rfl) ?_
  refine XO.nil ?_
  refine X.sub (p' := [(18, _), (14, _), (13, _), (12, _), (11, _), (10, _), (0, _), (1, _), (2, _), (4, _)]) ⟨rfl, rfl, rfl, rfl, rfl, rfl, rfl, rfl, rfl, rfl, trivial⟩ ?_
  refine X.know 18 (.bool false) rfl (congrArg Value.bool (by simp)) ?_
  refine X.condF rfl ?_
  refine X.skip ?_
  refine X.exit rfl ?_
  refine X.seq ?_
  refine X.seq ?_
  refine X.seq ?_
  refine X.region ?_
  refine XO.pu (Pu.move rfl) ?_
  refine XO.pu (Pu.lss rfl rfl) ?_
  refine XO.pu (Pu.move rfl) ?_
  rcases Decidable.em (at_ < 0) with k1 | k1
  · skip
    refine XO.know 30 (.bool true) rfl (congrArg Value.bool ((by first | exact decide_eq_true (by omega) | exact decide_eq_false (by omega) | rfl | (simp; omega) | simp))) ?_
    refine XO.pass rfl ?_
    refine XO.pass rfl ?_
    refine XO.pass rfl ?_
    refine XO.pass rfl ?_
    refine XO.pu (Pu.pickT rfl rfl) ?_
    refine XO.nil ?_
    refine X.sub (p' := [(35, _), (12, _), (11, _), (10, _), (0, _), (1, _), (2, _)]) ⟨rfl, rfl, rfl, rfl, rfl, rfl, rfl, trivial⟩ ?_
    refine X.condT rfl ?_
    refine X.region ?_
    refine XO.pu (Pu.assign rfl) ?_
    refine XO.nil ?_
    refine X.sub (p' := [(12, _), (11, _), (10, _), (0, _), (1, _), (2, _)]) ⟨rfl, rfl, rfl, rfl, rfl, rfl, trivial⟩ ?_
    refine X.seq ?_
    refine X.region ?_
    refine XO.pu (Pu.move rfl) ?_
    refine XO.cR Try.call55 (there_ok (clLe h leA)) ?_
    refine XO.pu (Pu.not rfl) ?_
    refine XO.nil ?_
    refine X.sub (p' := [(38, _), (12, _), (11, _), (10, _), (1, _), (2, _)]) ⟨rfl, rfl, rfl, rfl, rfl, rfl, trivial⟩ ?_
    refine X.know 38 (.bool false) rfl (congrArg Value.bool (rfl)) ?_
    refine X.condF rfl ?_
    refine X.skip ?_
    refine X.exit rfl ?_
    refine X.seq ?_
    refine X.seq ?_
    refine X.region ?_
    refine XO.pu (Pu.move rfl) ?_
    refine XO.pu (Pu.neq rfl rfl) ?_
    refine XO.nil ?_
    refine X.sub (p' := [(40, _), (12, _), (11, _), (10, _), (1, _), (2, _)]) ⟨rfl, rfl, rfl, rfl, rfl, rfl, trivial⟩ ?_
    refine X.know 40 (.bool true) rfl (congrArg Value.bool (rfl)) ?_
    refine X.condT rfl ?_
    refine X.seq ?_
    refine X.region ?_
    refine XO.pu (Pu.move rfl) ?_
    refine XO.pu (Pu.assign rfl) ?_
    refine XO.pu (Pu.assign rfl) ?_
    refine XO.nil ?_
    refine X.sub (p' := [(11, _), (10, _), (1, _), (2, _)]) ⟨rfl, rfl, rfl, rfl, trivial⟩ ?_
    refine X.retL (q) Try.func34 (res2 Try.results34 rfl rfl) ⟨_, rfl, rfl, rfl⟩
  · skip
    refine XO.know 30 (.bool false) rfl (congrArg Value.bool ((by first | exact decide_eq_true (by omega) | exact decide_eq_false (by omega) | rfl | (simp; omega) | simp))) ?_
    refine XO.pu (Pu.move rfl) ?_
    refine XO.pu (Pu.move rfl) ?_
    refine XO.pu (Pu.len rfl Try.underlying29) ?_
    refine XO.pu (Pu.geq rfl rfl) ?_
    refine XO.pu (Pu.pickF rfl rfl) ?_
    refine XO.nil ?_
    refine X.sub (p' := [(35, _), (12, _), (11, _), (10, _), (0, _), (1, _), (2, _)]) ⟨rfl, rfl, rfl, rfl, rfl, rfl, rfl, trivial⟩ ?_
    refine X.know 35 (.bool true) rfl (congrArg Value.bool ((by first | exact decide_eq_true (by omega) | exact decide_eq_false (by omega) | rfl | (simp; omega) | simp))) ?_
    refine X.condT rfl ?_
    refine X.region ?_
    refine XO.pu (Pu.assign rfl) ?_
    refine XO.nil ?_
    refine X.sub (p' := [(12, _), (11, _), (10, _), (0, _), (1, _), (2, _)]) ⟨rfl, rfl, rfl, rfl, rfl, rfl, trivial⟩ ?_
    refine X.seq ?_
    refine X.region ?_
    refine XO.pu (Pu.move rfl) ?_
    refine XO.cR Try.call55 (there_ok (clLe h leA)) ?_
    refine XO.pu (Pu.not rfl) ?_
    refine XO.nil ?_
    refine X.sub (p' := [(38, _), (12, _), (11, _), (10, _), (1, _), (2, _)]) ⟨rfl, rfl, rfl, rfl, rfl, rfl, trivial⟩ ?_
    refine X.know 38 (.bool false) rfl (congrArg Value.bool (rfl)) ?_
    refine X.condF rfl ?_
    refine X.skip ?_
    refine X.exit rfl ?_
    refine X.seq ?_
    refine X.seq ?_
    refine X.region ?_
    refine XO.pu (Pu.move rfl) ?_
    refine XO.pu (Pu.neq rfl rfl) ?_
    refine XO.nil ?_
    refine X.sub (p' := [(40, _), (12, _), (11, _), (10, _), (1, _), (2, _)]) ⟨rfl, rfl, rfl, rfl, rfl, rfl, trivial⟩ ?_
    refine X.know 40 (.bool true) rfl (congrArg Value.bool (rfl)) ?_
    refine X.condT rfl ?_
    refine X.seq ?_
    refine X.region ?_
    refine XO.pu (Pu.move rfl) ?_
    refine XO.pu (Pu.assign rfl) ?_
    refine XO.pu (Pu.assign rfl) ?_
    refine XO.nil ?_
    refine X.sub (p' := [(11, _), (10, _), (1, _), (2, _)]) ⟨rfl, rfl, rfl, rfl, trivial⟩ ?_
    refine X.retL (q) Try.func34 (res2 Try.results34 rfl rfl) ⟨_, rfl, rfl, rfl⟩
theorem findI0_ok (h : Cl q ⟨p, 0, none⟩ (.bool true)) (hn : n ≤ 1000000) (hr : i < n) (hb : True) : CallF Try.prog G 34 [.pointer (some ⟨p, 0, none⟩), .slice (some ⟨g, 0, none⟩) n c, .int .i64 (i : Int), .int .i64 0, .int .i64 0] q (Ret fun v q' => v = .tuple [.pointer (some ⟨g, i * 1, none⟩), .int .i64 0].toArray ∧ q' = q) := by
  refine CallF.of Try.func34 Try.ntmps34 rfl (fun F cs => ?_)
  refine X.sub (p' := [(0, _), (1, _), (2, _), (3, _), (4, _)]) ⟨rfl, rfl, rfl, rfl, rfl, trivial⟩ ?_
  try unfold inR at hr
  try unfold thr at hb
  try unfold val at hb
  refine X.seq ?_
  refine X.region ?_
  refine XO.pu (Pu.assign rfl) ?_
  refine XO.pu (Pu.assign rfl) ?_
  refine XO.nil ?_
  refine X.sub (p' := [(11, _), (10, _), (0, _), (1, _), (2, _), (3, _), (4, _)]) ⟨rfl, rfl, rfl, rfl, rfl, rfl, rfl, trivial⟩ ?_
  refine X.seq ?_
  refine X.region ?_
  refine XO.pu (Pu.assign rfl) ?_
  refine XO.nil ?_
  refine X.sub (p' := [(12, _), (11, _), (10, _), (0, _), (1, _), (2, _), (3, _), (4, _)]) ⟨rfl, rfl, rfl, rfl, rfl, rfl, rfl, rfl, trivial⟩ ?_
  refine X.seq ?_
  refine X.region ?_
  refine XO.pu (Pu.assign rfl) ?_
  refine XO.pu (Pu.assign rfl) ?_
  refine XO.nil ?_
  refine X.sub (p' := [(14, _), (13, _), (12, _), (11, _), (10, _), (0, _), (1, _), (2, _), (3, _), (4, _)]) ⟨rfl, rfl, rfl, rfl, rfl, rfl, rfl, rfl, rfl, rfl, trivial⟩ ?_
  refine X.seq ?_
  refine X.seq ?_
  refine X.region ?_
  refine XO.pu (Pu.move rfl) ?_
  refine XO.nil ?_
  refine X.sub (p' := [(15, _), (14, _), (13, _), (12, _), (11, _), (10, _), (0, _), (1, _), (2, _), (4, _)]) ⟨rfl, rfl, rfl, rfl, rfl, rfl, rfl, rfl, rfl, rfl, trivial⟩ ?_
  refine X.block ?_
  refine X.seq ?_
  refine X.block ?_
  refine X.seq ?_
  refine X.block ?_
  refine X.seq ?_
  refine X.block ?_
  refine X.seq ?_
  refine X.seq ?_
  refine X.seq ?_
  refine X.region ?_
  refine XO.pu (Pu.eql rfl rfl) ?_
  refine XO.pu (Pu.assign rfl) ?_
  refine XO.nil ?_
  refine X.sub (p' := [(16, _), (15, _), (14, _), (13, _), (12, _), (11, _), (10, _), (0, _), (1, _), (2, _), (4, _)]) ⟨rfl, rfl, rfl, rfl, rfl, rfl, rfl, rfl, rfl, rfl, rfl, trivial⟩ ?_
  refine X.know 16 (.bool false) rfl (congrArg Value.bool (by simp)) ?_
  refine X.condF rfl ?_
  refine X.skip ?_
  refine X.seq ?_
  refine X.region ?_
  refine XO.pu (Pu.eql rfl rfl) ?_
  refine XO.pu (Pu.assign rfl) ?_
  refine XO.nil ?_
  refine X.sub (p' := [(18, _), (14, _), (13, _), (12, _), (11, _), (10, _), (0, _), (1, _), (2, _), (4, _)]) ⟨rfl, rfl, rfl, rfl, rfl, rfl, rfl, rfl, rfl, rfl, trivial⟩ ?_
  refine X.know 18 (.bool false) rfl (congrArg Value.bool (by simp)) ?_
  refine X.condF rfl ?_
  refine X.skip ?_
  refine X.exit rfl ?_
  refine X.seq ?_
  refine X.seq ?_
  refine X.seq ?_
  refine X.region ?_
  refine XO.pu (Pu.move rfl) ?_
  refine XO.pu (Pu.lss rfl rfl) ?_
  refine XO.pu (Pu.move rfl) ?_
  refine XO.know 30 (.bool false) rfl (congrArg Value.bool ((by first | exact decide_eq_true (by omega) | exact decide_eq_false (by omega) | rfl | (simp; omega) | simp))) ?_
  refine XO.pu (Pu.move rfl) ?_
  refine XO.pu (Pu.move rfl) ?_
  refine XO.pu (Pu.len rfl Try.underlying29) ?_
  refine XO.pu (Pu.geq rfl rfl) ?_
  refine XO.pu (Pu.pickF rfl rfl) ?_
  refine XO.nil ?_
  refine X.sub (p' := [(35, _), (12, _), (11, _), (10, _), (0, _), (1, _), (2, _)]) ⟨rfl, rfl, rfl, rfl, rfl, rfl, rfl, trivial⟩ ?_
  refine X.know 35 (.bool false) rfl (congrArg Value.bool ((by first | exact decide_eq_true (by omega) | exact decide_eq_false (by omega) | rfl | (simp; omega) | simp))) ?_
  refine X.condF rfl ?_
  refine X.skip ?_
  refine X.seq ?_
  refine X.region ?_
  refine XO.pu (Pu.move rfl) ?_
  refine XO.cR Try.call55 (there_ok (clLe h leA)) ?_
  refine XO.pu (Pu.not rfl) ?_
  refine XO.nil ?_
  refine X.sub (p' := [(38, _), (12, _), (11, _), (10, _), (1, _), (2, _)]) ⟨rfl, rfl, rfl, rfl, rfl, rfl, trivial⟩ ?_
  refine X.know 38 (.bool false) rfl (congrArg Value.bool (rfl)) ?_
  refine X.condF rfl ?_
  refine X.skip ?_
  refine X.exit rfl ?_
  refine X.seq ?_
  refine X.seq ?_
  refine X.region ?_
  refine XO.pu (Pu.move rfl) ?_
  refine XO.pu (Pu.neq rfl rfl) ?_
  refine XO.nil ?_
  refine X.sub (p' := [(40, _), (12, _), (11, _), (10, _), (1, _), (2, _)]) ⟨rfl, rfl, rfl, rfl, rfl, rfl, trivial⟩ ?_
  refine X.know 40 (.bool false) rfl (congrArg Value.bool (rfl)) ?_
  refine X.condF rfl ?_
  refine X.skip ?_
  refine X.seq ?_
  refine X.region ?_
  refine XO.pu (Pu.move rfl) ?_
  refine XO.pu (Pu.move rfl) ?_
  refine XO.pu (Pu.indexAddr rfl rfl Try.underlying29 Try.sizeOf3 (by omega) (by omega)) ?_
  refine XO.pu (Pu.assign rfl) ?_
  refine XO.pu (Pu.assign rfl) ?_
  refine XO.nil ?_
  refine X.sub (p' := [(11, _), (10, _)]) ⟨rfl, rfl, trivial⟩ ?_
  refine X.retL (q) Try.func34 (res2 Try.results34 rfl rfl) ⟨_, rfl, by simp, rfl⟩
theorem findI1_rng (h : Cl q ⟨p, 0, none⟩ (.bool true)) (hn : n ≤ 1000000) (hr : ¬ inR at_ n) : CallF Try.prog G 34 [.pointer (some ⟨p, 0, none⟩), .slice a n c, .int .i64 at_, .int .i64 1, .int .i64 number] q (Ret fun v q' => v = .tuple [.pointer none, .int .i64 4].toArray ∧ q' = q) := by
  refine CallF.of Try.func34 Try.ntmps34 rfl (fun F cs => ?_)
  refine X.sub (p' := [(0, _), (1, _), (2, _), (3, _), (4, _)]) ⟨rfl, rfl, rfl, rfl, rfl, trivial⟩ ?_
  try unfold inR at hr
  try unfold thr at hb
  try unfold val at hb
  refine X.seq ?_
  refine X.region ?_
  refine XO.pu (Pu.assign rfl) ?_
  refine XO.pu (Pu.assign rfl) ?_
  refine XO.nil ?_
  refine X.sub (p' := [(11, _), (10, _), (0, _), (1, _), (2, _), (3, _), (4, _)]) ⟨rfl, rfl, rfl, rfl, rfl, rfl, rfl, trivial⟩ ?_
  refine X.seq ?_
  refine X.region ?_
  refine XO.pu (Pu.assign rfl) ?_
  refine XO.nil ?_
  refine X.sub (p' := [(12, _), (11, _), (10, _), (0, _), (1, _), (2, _), (3, _), (4, _)]) ⟨rfl, rfl, rfl, rfl, rfl, rfl, rfl, rfl, trivial⟩ ?_
  refine X.seq ?_
  refine X.region ?_
  refine XO.pu (Pu.assign rfl) ?_
  refine XO.pu (Pu.assign rfl) ?_
  refine XO.nil ?_
  refine X.sub (p' := [(14, _), (13, _), (12, _), (11, _), (10, _), (0, _), (1, _), (2, _), (3, _), (4, _)]) ⟨rfl, rfl, rfl, rfl, rfl, rfl, rfl, rfl, rfl, rfl, trivial⟩ ?_
  refine X.seq ?_
  refine X.seq ?_
  refine X.region ?_
  refine XO.pu (Pu.move rfl) ?_
  refine XO.nil ?_
  refine X.sub (p' := [(15, _), (14, _), (13, _), (12, _), (11, _), (10, _), (0, _), (1, _), (2, _), (4, _)]) ⟨rfl, rfl, rfl, rfl, rfl, rfl, rfl, rfl, rfl, rfl, trivial⟩ ?_
  refine X.block ?_
  refine X.seq ?_
  refine X.block ?_
  refine X.seq ?_
  refine X.block ?_
  refine X.seq ?_
  refine X.block ?_
  refine X.seq ?_
  refine X.seq ?_
  refine X.seq ?_
  refine X.region ?_
  refine XO.pu (Pu.eql rfl rfl) ?_
  refine XO.pu (Pu.assign rfl) ?_
  refine XO.nil ?_
  refine X.sub (p' := [(16, _), (15, _), (14, _), (13, _), (12, _), (11, _), (10, _), (0, _), (1, _), (2, _), (4, _)]) ⟨rfl, rfl, rfl, rfl, rfl, rfl, rfl, rfl, rfl, rfl, rfl, trivial⟩ ?_
  refine X.know 16 (.bool true) rfl (congrArg Value.bool (by simp)) ?_
  refine X.condT rfl ?_
  refine X.exit rfl ?_
  refine X.region ?_
  refine XO.pu (Pu.assign rfl) ?_
  refine XO.pu (Pu.assign rfl) ?_
  refine XO.nil ?_
  refine X.sub (p' := [(14, _), (13, _), (12, _), (11, _), (10, _), (0, _), (1, _), (2, _), (4, _)]) ⟨rfl, rfl, rfl, rfl, rfl, rfl, rfl, rfl, rfl, trivial⟩ ?_
  refine X.inBlock ?_
  refine X.seq ?_
  refine X.region ?_
  refine XO.pu (Pu.move rfl) ?_
  refine XO.pu (Pu.move rfl) ?_
  refine XO.pu (Pu.lss rfl rfl) ?_
  refine XO.pu (Pu.move rfl) ?_
  rcases Decidable.em (number < 0) with k8 | k8
  · skip
    refine XO.know 23 (.bool true) rfl (congrArg Value.bool ((by first | exact decide_eq_true (by omega) | exact decide_eq_false (by omega) | rfl | (simp; omega) | simp))) ?_
    refine XO.pass rfl ?_
    refine XO.pass rfl ?_
    refine XO.pass rfl ?_
    refine XO.pu (Pu.pickT rfl rfl) ?_
    refine XO.nil ?_
    refine X.sub (p' := [(27, _), (12, _), (11, _), (10, _), (0, _), (1, _), (2, _)]) ⟨rfl, rfl, rfl, rfl, rfl, rfl, rfl, trivial⟩ ?_
    refine X.condT rfl ?_
    refine X.region ?_
    refine XO.pu (Pu.assign rfl) ?_
    refine XO.nil ?_
    refine X.sub (p' := [(12, _), (11, _), (10, _), (0, _), (1, _), (2, _)]) ⟨rfl, rfl, rfl, rfl, rfl, rfl, trivial⟩ ?_
    refine X.inBlock ?_
    refine X.seq ?_
    refine X.seq ?_
    refine X.seq ?_
    refine X.region ?_
    refine XO.pu (Pu.move rfl) ?_
    refine XO.pu (Pu.lss rfl rfl) ?_
    refine XO.pu (Pu.move rfl) ?_
    rcases Decidable.em (at_ < 0) with k1 | k1
    · skip
      refine XO.know 30 (.bool true) rfl (congrArg Value.bool ((by first | exact decide_eq_true (by omega) | exact decide_eq_false (by omega) | rfl | (simp; omega) | simp))) ?_
      refine XO.pass rfl ?_
      refine XO.pass rfl ?_
      refine XO.pass rfl ?_
      refine XO.pass rfl ?_
      refine XO.pu (Pu.pickT rfl rfl) ?_
      refine XO.nil ?_
      refine X.sub (p' := [(35, _), (12, _), (11, _), (10, _), (0, _), (1, _), (2, _)]) ⟨rfl, rfl, rfl, rfl, rfl, rfl, rfl, trivial⟩ ?_
      refine X.condT rfl ?_
      refine X.region ?_
      refine XO.pu (Pu.assign rfl) ?_
      refine XO.nil ?_
      refine X.sub (p' := [(12, _), (11, _), (10, _), (0, _), (1, _), (2, _)]) ⟨rfl, rfl, rfl, rfl, rfl, rfl, trivial⟩ ?_
      refine X.seq ?_
      refine X.region ?_
      refine XO.pu (Pu.move rfl) ?_
      refine XO.cR Try.call55 (there_ok (clLe h leA)) ?_
      refine XO.pu (Pu.not rfl) ?_
      refine XO.nil ?_
      refine X.sub (p' := [(38, _), (12, _), (11, _), (10, _), (1, _), (2, _)]) ⟨rfl, rfl, rfl, rfl, rfl, rfl, trivial⟩ ?_
      refine X.know 38 (.bool false) rfl (congrArg Value.bool (rfl)) ?_
      refine X.condF rfl ?_
      refine X.skip ?_
      refine X.exit rfl ?_
      refine X.seq ?_
      refine X.seq ?_
      refine X.region ?_
      refine XO.pu (Pu.move rfl) ?_
      refine XO.pu (Pu.neq rfl rfl) ?_
      refine XO.nil ?_
      refine X.sub (p' := [(40, _), (12, _), (11, _), (10, _), (1, _), (2, _)]) ⟨rfl, rfl, rfl, rfl, rfl, rfl, trivial⟩ ?_
      refine X.know 40 (.bool true) rfl (congrArg Value.bool (rfl)) ?_
      refine X.condT rfl ?_
      refine X.seq ?_
      refine X.region ?_
      refine XO.pu (Pu.move rfl) ?_
      refine XO.pu (Pu.assign rfl) ?_
      refine XO.pu (Pu.assign rfl) ?_
      refine XO.nil ?_
      refine X.sub (p' := [(11, _), (10, _), (1, _), (2, _)]) ⟨rfl, rfl, rfl, rfl, trivial⟩ ?_
      refine X.retL (q) Try.func34 (res2 Try.results34 rfl rfl) ⟨_, rfl, rfl, rfl⟩
    · skip
      refine XO.know 30 (.bool false) rfl (congrArg Value.bool ((by first | exact decide_eq_true (by omega) | exact decide_eq_false (by omega) | rfl | (simp; omega) | simp))) ?_
      refine XO.pu (Pu.move rfl) ?_
      refine XO.pu (Pu.move rfl) ?_
      refine XO.pu (Pu.len rfl Try.underlying29) ?_
      refine XO.pu (Pu.geq rfl rfl) ?_
      refine XO.pu (Pu.pickF rfl rfl) ?_
      refine XO.nil ?_
      refine X.sub (p' := [(35, _), (12, _), (11, _), (10, _), (0, _), (1, _), (2, _)]) ⟨rfl, rfl, rfl, rfl, rfl, rfl, rfl, trivial⟩ ?_
      refine X.know 35 (.bool true) rfl (congrArg Value.bool ((by first | exact decide_eq_true (by omega) | exact decide_eq_false (by omega) | rfl | (simp; omega) | simp))) ?_
      refine X.condT rfl ?_
      refine X.region ?_
      refine XO.pu (Pu.assign rfl) ?_
      refine XO.nil ?_
      refine X.sub (p' := [(12, _), (11, _), (10, _), (0, _), (1, _), (2, _)]) ⟨rfl, rfl, rfl, rfl, rfl, rfl, trivial⟩ ?_
      refine X.seq ?_
      refine X.region ?_
      refine XO.pu (Pu.move rfl) ?_
      refine XO.cR Try.call55 (there_ok (clLe h leA)) ?_
      refine XO.pu (Pu.not rfl) ?_
      refine XO.nil ?_
      refine X.sub (p' := [(38, _), (12, _), (11, _), (10, _), (1, _), (2, _)]) ⟨rfl, rfl, rfl, rfl, rfl, rfl, trivial⟩ ?_
      refine X.know 38 (.bool false) rfl (congrArg Value.bool (rfl)) ?_
      refine X.condF rfl ?_
      refine X.skip ?_
      refine X.exit rfl ?_
      refine X.seq ?_
      refine X.seq ?_
      refine X.region ?_
      refine XO.pu (Pu.move rfl) ?_
      refine XO.pu (Pu.neq rfl rfl) ?_
      refine XO.nil ?_
      refine X.sub (p' := [(40, _), (12, _), (11, _), (10, _), (1, _), (2, _)]) ⟨rfl, rfl, rfl, rfl, rfl, rfl, trivial⟩ ?_
      refine X.know 40 (.bool true) rfl (congrArg Value.bool (rfl)) ?_
      refine X.condT rfl ?_
      refine X.seq ?_
      refine X.region ?_
      refine XO.pu (Pu.move rfl) ?_
      refine XO.pu (Pu.assign rfl) ?_
      refine XO.pu (Pu.assign rfl) ?_
      refine XO.nil ?_
      refine X.sub (p' := [(11, _), (10, _), (1, _), (2, _)]) ⟨rfl, rfl, rfl, rfl, trivial⟩ ?_
      refine X.retL (q) Try.func34 (res2 Try.results34 rfl rfl) ⟨_, rfl, rfl, rfl⟩
  · skip
    rcases Decidable.em (number > 7) with k9 | k9
    · skip
      refine XO.know 23 (.bool false) rfl (congrArg Value.bool ((by first | exact decide_eq_true (by omega) | exact decide_eq_false (by omega) | rfl | (simp; omega) | simp))) ?_
      refine XO.pu (Pu.move rfl) ?_
      refine XO.pu (Pu.move rfl) ?_
      refine XO.pu (Pu.gtr rfl rfl) ?_
      refine XO.pu (Pu.pickF rfl rfl) ?_
      refine XO.nil ?_
      refine X.sub (p' := [(27, _), (12, _), (11, _), (10, _), (0, _), (1, _), (2, _)]) ⟨rfl, rfl, rfl, rfl, rfl, rfl, rfl, trivial⟩ ?_
      refine X.know 27 (.bool true) rfl (congrArg Value.bool ((by first | exact decide_eq_true (by omega) | exact decide_eq_false (by omega) | rfl | (simp; omega) | simp))) ?_
      refine X.condT rfl ?_
      refine X.region ?_
      refine XO.pu (Pu.assign rfl) ?_
      refine XO.nil ?_
      refine X.sub (p' := [(12, _), (11, _), (10, _), (0, _), (1, _), (2, _)]) ⟨rfl, rfl, rfl, rfl, rfl, rfl, trivial⟩ ?_
      refine X.inBlock ?_
      refine X.seq ?_
      refine X.seq ?_
      refine X.seq ?_
      refine X.region ?_
      refine XO.pu (Pu.move rfl) ?_
      refine XO.pu (Pu.lss rfl rfl) ?_
      refine XO.pu (Pu.move rfl) ?_
      rcases Decidable.em (at_ < 0) with k1 | k1
      · skip
        refine XO.know 30 (.bool true) rfl (congrArg Value.bool ((by first | exact decide_eq_true (by omega) | exact decide_eq_false (by omega) | rfl | (simp; omega) | simp))) ?_
        refine XO.pass rfl ?_
        refine XO.pass rfl ?_
        refine XO.pass rfl ?_
        refine XO.pass rfl ?_
        refine XO.pu (Pu.pickT rfl rfl) ?_
        refine XO.nil ?_
        refine X.sub (p' := [(35, _), (12, _), (11, _), (10, _), (0, _), (1, _), (2, _)]) ⟨rfl, rfl, rfl, rfl, rfl, rfl, rfl, trivial⟩ ?_
        refine X.condT rfl ?_
        refine X.region ?_
        refine XO.pu (Pu.assign rfl) ?_
        refine XO.nil ?_
        refine X.sub (p' := [(12, _), (11, _), (10, _), (0, _), (1, _), (2, _)]) ⟨rfl, rfl, rfl, rfl, rfl, rfl, trivial⟩ ?_
        refine X.seq ?_
        refine X.region ?_
        refine XO.pu (Pu.move rfl) ?_
        refine XO.cR Try.call55 (there_ok (clLe h leA)) ?_
        refine XO.pu (Pu.not rfl) ?_
        refine XO.nil ?_
        refine X.sub (p' := [(38, _), (12, _), (11, _), (10, _), (1, _), (2, _)]) ⟨rfl, rfl, rfl, rfl, rfl, rfl, trivial⟩ ?_
        refine X.know 38 (.bool false) rfl (congrArg Value.bool (rfl)) ?_
        refine X.condF rfl ?_
        refine X.skip ?_
        refine X.exit rfl ?_
        refine X.seq ?_
        refine X.seq ?_
        refine X.region ?_
        refine XO.pu (Pu.move rfl) ?_
        refine XO.pu (Pu.neq rfl rfl) ?_
        refine XO.nil ?_
        refine X.sub (p' := [(40, _), (12, _), (11, _), (10, _), (1, _), (2, _)]) ⟨rfl, rfl, rfl, rfl, rfl, rfl, trivial⟩ ?_
        refine X.know 40 (.bool true) rfl (congrArg Value.bool (rfl)) ?_
        refine X.condT rfl ?_
        refine X.seq ?_
        refine X.region ?_
        refine XO.pu (Pu.move rfl) ?_
        refine XO.pu (Pu.assign rfl) ?_
        refine XO.pu (Pu.assign rfl) ?_
        refine XO.nil ?_
        refine X.sub (p' := [(11, _), (10, _), (1, _), (2, _)]) ⟨rfl, rfl, rfl, rfl, trivial⟩ ?_
        refine X.retL (q) Try.func34 (res2 Try.results34 rfl rfl) ⟨_, rfl, rfl, rfl⟩
      · skip
        refine XO.know 30 (.bool false) rfl (congrArg Value.bool ((by first | exact decide_eq_true (by omega) | exact decide_eq_false (by omega) | rfl | (simp; omega) | simp))) ?_
        refine XO.pu (Pu.move rfl) ?_
        refine XO.pu (Pu.move rfl) ?_
        refine XO.pu (Pu.len rfl Try.underlying29) ?_
        refine XO.pu (Pu.geq rfl rfl) ?_
        refine XO.pu (Pu.pickF rfl rfl) ?_
        refine XO.nil ?_
        refine X.sub (p' := [(35, _), (12, _), (11, _), (10, _), (0, _), (1, _), (2, _)]) ⟨rfl, rfl, rfl, rfl, rfl, rfl, rfl, trivial⟩ ?_
        refine X.know 35 (.bool true) rfl (congrArg Value.bool ((by first | exact decide_eq_true (by omega) | exact decide_eq_false (by omega) | rfl | (simp; omega) | simp))) ?_
        refine X.condT rfl ?_
        refine X.region ?_
        refine XO.pu (Pu.assign rfl) ?_
        refine XO.nil ?_
        refine X.sub (p' := [(12, _), (11, _), (10, _), (0, _), (1, _), (2, _)]) ⟨rfl, rfl, rfl, rfl, rfl, rfl, trivial⟩ ?_
        refine X.seq ?_
        refine X.region ?_
        refine XO.pu (Pu.move rfl) ?_
        refine XO.cR Try.call55 (there_ok (clLe h leA)) ?_
        refine XO.pu (Pu.not rfl) ?_
        refine XO.nil ?_
        refine X.sub (p' := [(38, _), (12, _), (11, _), (10, _), (1, _), (2, _)]) ⟨rfl, rfl, rfl, rfl, rfl, rfl, trivial⟩ ?_
        refine X.know 38 (.bool false) rfl (congrArg Value.bool (rfl)) ?_
        refine X.condF rfl ?_
        refine X.skip ?_
        refine X.exit rfl ?_
        refine X.seq ?_
        refine X.seq ?_
        refine X.region ?_
        refine XO.pu (Pu.move rfl) ?_
        refine XO.pu (Pu.neq rfl rfl) ?_
        refine XO.nil ?_
        refine X.sub (p' := [(40, _), (12, _), (11, _), (10, _), (1, _), (2, _)]) ⟨rfl, rfl, rfl, rfl, rfl, rfl, trivial⟩ ?_
        refine X.know 40 (.bool true) rfl (congrArg Value.bool (rfl)) ?_
        refine X.condT rfl ?_
        refine X.seq ?_
        refine X.region ?_
        refine XO.pu (Pu.move rfl) ?_
        refine XO.pu (Pu.assign rfl) ?_
        refine XO.pu (Pu.assign rfl) ?_
        refine XO.nil ?_
        refine X.sub (p' := [(11, _), (10, _), (1, _), (2, _)]) ⟨rfl, rfl, rfl, rfl, trivial⟩ ?_
        refine X.retL (q) Try.func34 (res2 Try.results34 rfl rfl) ⟨_, rfl, rfl, rfl⟩
    · skip
      refine XO.know 23 (.bool false) rfl (congrArg Value.bool ((by first | exact decide_eq_true (by omega) | exact decide_eq_false (by omega) | rfl | (simp; omega) | simp))) ?_
      refine XO.pu (Pu.move rfl) ?_
      refine XO.pu (Pu.move rfl) ?_
      refine XO.pu (Pu.gtr rfl rfl) ?_
      refine XO.pu (Pu.pickF rfl rfl) ?_
      refine XO.nil ?_
      refine X.sub (p' := [(27, _), (12, _), (11, _), (10, _), (0, _), (1, _), (2, _)]) ⟨rfl, rfl, rfl, rfl, rfl, rfl, rfl, trivial⟩ ?_
      refine X.know 27 (.bool false) rfl (congrArg Value.bool ((by first | exact decide_eq_true (by omega) | exact decide_eq_false (by omega) | rfl | (simp; omega) | simp))) ?_
      refine X.condF rfl ?_
      refine X.skip ?_
      refine X.inBlock ?_
      refine X.seq ?_
      refine X.seq ?_
      refine X.seq ?_
      refine X.region ?_
      refine XO.pu (Pu.move rfl) ?_
      refine XO.pu (Pu.lss rfl rfl) ?_
      refine XO.pu (Pu.move rfl) ?_
      rcases Decidable.em (at_ < 0) with k1 | k1
      · skip
        refine XO.know 30 (.bool true) rfl (congrArg Value.bool ((by first | exact decide_eq_true (by omega) | exact decide_eq_false (by omega) | rfl | (simp; omega) | simp))) ?_
        refine XO.pass rfl ?_
        refine XO.pass rfl ?_
        refine XO.pass rfl ?_
        refine XO.pass rfl ?_
        refine XO.pu (Pu.pickT rfl rfl) ?_
        refine XO.nil ?_
        refine X.sub (p' := [(35, _), (12, _), (11, _), (10, _), (0, _), (1, _), (2, _)]) ⟨rfl, rfl, rfl, rfl, rfl, rfl, rfl, trivial⟩ ?_
        refine X.condT rfl ?_
        refine X.region ?_
        refine XO.pu (Pu.assign rfl) ?_
        refine XO.nil ?_
        refine X.sub (p' := [(12, _), (11, _), (10, _), (0, _), (1, _), (2, _)]) ⟨rfl, rfl, rfl, rfl, rfl, rfl, trivial⟩ ?_
        refine X.seq ?_
        refine X.region ?_
        refine XO.pu (Pu.move rfl) ?_
        refine XO.cR Try.call55 (there_ok (clLe h leA)) ?_
        refine XO.pu (Pu.not rfl) ?_
        refine XO.nil ?_
        refine X.sub (p' := [(38, _), (12, _), (11, _), (10, _), (1, _), (2, _)]) ⟨rfl, rfl, rfl, rfl, rfl, rfl, trivial⟩ ?_
        refine X.know 38 (.bool false) rfl (congrArg Value.bool (rfl)) ?_
        refine X.condF rfl ?_
        refine X.skip ?_
        refine X.exit rfl ?_
        refine X.seq ?_
        refine X.seq ?_
        refine X.region ?_
        refine XO.pu (Pu.move rfl) ?_
        refine XO.pu (Pu.neq rfl rfl) ?_
        refine XO.nil ?_
        refine X.sub (p' := [(40, _), (12, _), (11, _), (10, _), (1, _), (2, _)]) ⟨rfl, rfl, rfl, rfl, rfl, rfl, trivial⟩ ?_
        refine X.know 40 (.bool true) rfl (congrArg Value.bool (rfl)) ?_
        refine X.condT rfl ?_
        refine X.seq ?_
        refine X.region ?_
        refine XO.pu (Pu.move rfl) ?_
        refine XO.pu (Pu.assign rfl) ?_
        refine XO.pu (Pu.assign rfl) ?_
        refine XO.nil ?_
        refine X.sub (p' := [(11, _), (10, _), (1, _), (2, _)]) ⟨rfl, rfl, rfl, rfl, trivial⟩ ?_
        refine X.retL (q) Try.func34 (res2 Try.results34 rfl rfl) ⟨_, rfl, rfl, rfl⟩
      · skip
        refine XO.know 30 (.bool false) rfl (congrArg Value.bool ((by first | exact decide_eq_true (by omega) | exact decide_eq_false (by omega) | rfl | (simp; omega) | simp))) ?_
        refine XO.pu (Pu.move rfl) ?_
        refine XO.pu (Pu.move rfl) ?_
        refine XO.pu (Pu.len rfl Try.underlying29) ?_
        refine XO.pu (Pu.geq rfl rfl) ?_
        refine XO.pu (Pu.pickF rfl rfl) ?_
        refine XO.nil ?_
        refine X.sub (p' := [(35, _), (12, _), (11, _), (10, _), (0, _), (1, _), (2, _)]) ⟨rfl, rfl, rfl, rfl, rfl, rfl, rfl, trivial⟩ ?_
        refine X.know 35 (.bool true) rfl (congrArg Value.bool ((by first | exact decide_eq_true (by omega) | exact decide_eq_false (by omega) | rfl | (simp; omega) | simp))) ?_
        refine X.condT rfl ?_
        refine X.region ?_
        refine XO.pu (Pu.assign rfl) ?_
        refine XO.nil ?_
        refine X.sub (p' := [(12, _), (11, _), (10, _), (0, _), (1, _), (2, _)]) ⟨rfl, rfl, rfl, rfl, rfl, rfl, trivial⟩ ?_
        refine X.seq ?_
        refine X.region ?_
        refine XO.pu (Pu.move rfl) ?_
        refine XO.cR Try.call55 (there_ok (clLe h leA)) ?_
        refine XO.pu (Pu.not rfl) ?_
        refine XO.nil ?_
        refine X.sub (p' := [(38, _), (12, _), (11, _), (10, _), (1, _), (2, _)]) ⟨rfl, rfl, rfl, rfl, rfl, rfl, trivial⟩ ?_
        refine X.know 38 (.bool false) rfl (congrArg Value.bool (rfl)) ?_
        refine X.condF rfl ?_
        refine X.skip ?_
        refine X.exit rfl ?_
        refine X.seq ?_
        refine X.seq ?_
        refine X.region ?_
        refine XO.pu (Pu.move rfl) ?_
        refine XO.pu (Pu.neq rfl rfl) ?_
        refine XO.nil ?_
        refine X.sub (p' := [(40, _), (12, _), (11, _), (10, _), (1, _), (2, _)]) ⟨rfl, rfl, rfl, rfl, rfl, rfl, trivial⟩ ?_
        refine X.know 40 (.bool true) rfl (congrArg Value.bool (rfl)) ?_
        refine X.condT rfl ?_
        refine X.seq ?_
        refine X.region ?_
        refine XO.pu (Pu.move rfl) ?_
        refine XO.pu (Pu.assign rfl) ?_
        refine XO.pu (Pu.assign rfl) ?_
        refine XO.nil ?_
        refine X.sub (p' := [(11, _), (10, _), (1, _), (2, _)]) ⟨rfl, rfl, rfl, rfl, trivial⟩ ?_
        refine X.retL (q) Try.func34 (res2 Try.results34 rfl rfl) ⟨_, rfl, rfl, rfl⟩
theorem findI1_arg (h : Cl q ⟨p, 0, none⟩ (.bool true)) (hn : n ≤ 1000000) (hr : i < n) (hb : ¬ (thr number)) : CallF Try.prog G 34 [.pointer (some ⟨p, 0, none⟩), .slice a n c, .int .i64 (i : Int), .int .i64 1, .int .i64 number] q (Ret fun v q' => v = .tuple [.pointer none, .int .i64 2].toArray ∧ q' = q) := by
  refine CallF.of Try.func34 Try.ntmps34 rfl (fun F cs => ?_)
  refine X.sub (p' := [(0, _), (1, _), (2, _), (3, _), (4, _)]) ⟨rfl, rfl, rfl, rfl, rfl, trivial⟩ ?_
  try unfold inR at hr
  try unfold thr at hb
  try unfold val at hb
  refine X.seq ?_
  refine X.region ?_
  refine XO.pu (Pu.assign rfl) ?_
  refine XO.pu (Pu.assign rfl) ?_
  refine XO.nil ?_
  refine X.sub (p' := [(11, _), (10, _), (0, _), (1, _), (2, _), (3, _), (4, _)]) ⟨rfl, rfl, rfl, rfl, rfl, rfl, rfl, trivial⟩ ?_
  refine X.seq ?_
  refine X.region ?_
  refine XO.pu (Pu.assign rfl) ?_
  refine XO.nil ?_
  refine X.sub (p' := [(12, _), (11, _), (10, _), (0, _), (1, _), (2, _), (3, _), (4, _)]) ⟨rfl, rfl, rfl, rfl, rfl, rfl, rfl, rfl, trivial⟩ ?_
  refine X.seq ?_
  refine X.region ?_
  refine XO.pu (Pu.assign rfl) ?_
  refine XO.pu (Pu.assign rfl) ?_
  refine XO.nil ?_
  refine X.sub (p' := [(14, _), (13, _), (12, _), (11, _), (10, _), (0, _), (1, _), (2, _), (3, _), (4, _)]) ⟨rfl, rfl, rfl, rfl, rfl, rfl, rfl, rfl, rfl, rfl, trivial⟩ ?_
  refine X.seq ?_
  refine X.seq ?_
  refine X.region ?_
  refine XO.pu (Pu.move rfl) ?_
  refine XO.nil ?_
  refine X.sub (p' := [(15, _), (14, _), (13, _), (12, _), (11, _), (10, _), (0, _), (1, _), (2, _), (4, _)]) ⟨rfl, rfl, rfl, rfl, rfl, rfl, rfl, rfl, rfl, rfl, trivial⟩ ?_
  refine X.block ?_
  refine X.seq ?_
  refine X.block ?_
  refine X.seq ?_
  refine X.block ?_
  refine X.seq ?_
  refine X.block ?_
  refine X.seq ?_
  refine X.seq ?_
  refine X.seq ?_
  refine X.region ?_
  refine XO.pu (Pu.eql rfl rfl) ?_
  refine XO.pu (Pu.assign rfl) ?_
  refine XO.nil ?_
  refine X.sub (p' := [(16, _), (15, _), (14, _), (13, _), (12, _), (11, _), (10, _), (0, _), (1, _), (2, _), (4, _)]) ⟨rfl, rfl, rfl, rfl, rfl, rfl, rfl, rfl, rfl, rfl, rfl, trivial⟩ ?_
  refine X.know 16 (.bool true) rfl (congrArg Value.bool (by simp)) ?_
  refine X.condT rfl ?_
  refine X.exit rfl ?_
  refine X.region ?_
  refine XO.pu (Pu.assign rfl) ?_
  refine XO.pu (Pu.assign rfl) ?_
  refine XO.nil ?_
  refine X.sub (p' := [(14, _), (13, _), (12, _), (11, _), (10, _), (0, _), (1, _), (2, _), (4, _)]) ⟨rfl, rfl, rfl, rfl, rfl, rfl, rfl, rfl, rfl, trivial⟩ ?_
  refine X.inBlock ?_
  refine X.seq ?_
  refine X.region ?_
  refine XO.pu (Pu.move rfl) ?_
  refine XO.pu (Pu.move rfl) ?_
  refine XO.pu (Pu.lss rfl rfl) ?_
  refine XO.pu (Pu.move rfl) ?_
  rcases Decidable.em (number < 0) with k8 | k8
  · skip
    refine XO.know 23 (.bool true) rfl (congrArg Value.bool ((by first | exact decide_eq_true (by omega) | exact decide_eq_false (by omega) | rfl | (simp; omega) | simp))) ?_
    refine XO.pass rfl ?_
    refine XO.pass rfl ?_
    refine XO.pass rfl ?_
    refine XO.pu (Pu.pickT rfl rfl) ?_
    refine XO.nil ?_
    refine X.sub (p' := [(27, _), (12, _), (11, _), (10, _), (0, _), (1, _), (2, _)]) ⟨rfl, rfl, rfl, rfl, rfl, rfl, rfl, trivial⟩ ?_
    refine X.condT rfl ?_
    refine X.region ?_
    refine XO.pu (Pu.assign rfl) ?_
    refine XO.nil ?_
    refine X.sub (p' := [(12, _), (11, _), (10, _), (0, _), (1, _), (2, _)]) ⟨rfl, rfl, rfl, rfl, rfl, rfl, trivial⟩ ?_
    refine X.inBlock ?_
    refine X.seq ?_
    refine X.seq ?_
    refine X.seq ?_
    refine X.region ?_
    refine XO.pu (Pu.move rfl) ?_
    refine XO.pu (Pu.lss rfl rfl) ?_
    refine XO.pu (Pu.move rfl) ?_
    refine XO.know 30 (.bool false) rfl (congrArg Value.bool ((by first | exact decide_eq_true (by omega) | exact decide_eq_false (by omega) | rfl | (simp; omega) | simp))) ?_
    refine XO.pu (Pu.move rfl) ?_
    refine XO.pu (Pu.move rfl) ?_
    refine XO.pu (Pu.len rfl Try.underlying29) ?_
    refine XO.pu (Pu.geq rfl rfl) ?_
    refine XO.pu (Pu.pickF rfl rfl) ?_
    refine XO.nil ?_
    refine X.sub (p' := [(35, _), (12, _), (11, _), (10, _), (0, _), (1, _), (2, _)]) ⟨rfl, rfl, rfl, rfl, rfl, rfl, rfl, trivial⟩ ?_
    refine X.know 35 (.bool false) rfl (congrArg Value.bool ((by first | exact decide_eq_true (by omega) | exact decide_eq_false (by omega) | rfl | (simp; omega) | simp))) ?_
    refine X.condF rfl ?_
    refine X.skip ?_
    refine X.seq ?_
    refine X.region ?_
    refine XO.pu (Pu.move rfl) ?_
    refine XO.cR Try.call55 (there_ok (clLe h leA)) ?_
    refine XO.pu (Pu.not rfl) ?_
    refine XO.nil ?_
    refine X.sub (p' := [(38, _), (12, _), (11, _), (10, _), (1, _), (2, _)]) ⟨rfl, rfl, rfl, rfl, rfl, rfl, trivial⟩ ?_
    refine X.know 38 (.bool false) rfl (congrArg Value.bool (rfl)) ?_
    refine X.condF rfl ?_
    refine X.skip ?_
    refine X.exit rfl ?_
    refine X.seq ?_
    refine X.seq ?_
    refine X.region ?_
    refine XO.pu (Pu.move rfl) ?_
    refine XO.pu (Pu.neq rfl rfl) ?_
    refine XO.nil ?_
    refine X.sub (p' := [(40, _), (12, _), (11, _), (10, _), (1, _), (2, _)]) ⟨rfl, rfl, rfl, rfl, rfl, rfl, trivial⟩ ?_
    refine X.know 40 (.bool true) rfl (congrArg Value.bool (rfl)) ?_
    refine X.condT rfl ?_
    refine X.seq ?_
    refine X.region ?_
    refine XO.pu (Pu.move rfl) ?_
    refine XO.pu (Pu.assign rfl) ?_
    refine XO.pu (Pu.assign rfl) ?_
    refine XO.nil ?_
    refine X.sub (p' := [(11, _), (10, _), (1, _), (2, _)]) ⟨rfl, rfl, rfl, rfl, trivial⟩ ?_
    refine X.retL (q) Try.func34 (res2 Try.results34 rfl rfl) ⟨_, rfl, rfl, rfl⟩
  · skip
    refine XO.know 23 (.bool false) rfl (congrArg Value.bool ((by first | exact decide_eq_true (by omega) | exact decide_eq_false (by omega) | rfl | (simp; omega) | simp))) ?_
    refine XO.pu (Pu.move rfl) ?_
    refine XO.pu (Pu.move rfl) ?_
    refine XO.pu (Pu.gtr rfl rfl) ?_
    refine XO.pu (Pu.pickF rfl rfl) ?_
    refine XO.nil ?_
    refine X.sub (p' := [(27, _), (12, _), (11, _), (10, _), (0, _), (1, _), (2, _)]) ⟨rfl, rfl, rfl, rfl, rfl, rfl, rfl, trivial⟩ ?_
    refine X.know 27 (.bool true) rfl (congrArg Value.bool ((by first | exact decide_eq_true (by omega) | exact decide_eq_false (by omega) | rfl | (simp; omega) | simp))) ?_
    refine X.condT rfl ?_
    refine X.region ?_
    refine XO.pu (Pu.assign rfl) ?_
    refine XO.nil ?_
    refine X.sub (p' := [(12, _), (11, _), (10, _), (0, _), (1, _), (2, _)]) ⟨rfl, rfl, rfl, rfl, rfl, rfl, trivial⟩ ?_
    refine X.inBlock ?_
    refine X.seq ?_
    refine X.seq ?_
    refine X.seq ?_
    refine X.region ?_
    refine XO.pu (Pu.move rfl) ?_
    refine XO.pu (Pu.lss rfl rfl) ?_
    refine XO.pu (Pu.move rfl) ?_
    refine XO.know 30 (.bool false) rfl (congrArg Value.bool ((by first | exact decide_eq_true (by omega) | exact decide_eq_false (by omega) | rfl | (simp; omega) | simp))) ?_
    refine XO.pu (Pu.move rfl) ?_
    refine XO.pu (Pu.move rfl) ?_
    refine XO.pu (Pu.len rfl Try.underlying29) ?_
    refine XO.pu (Pu.geq rfl rfl) ?_
    refine XO.pu (Pu.pickF rfl rfl) ?_
    refine XO.nil ?_
    refine X.sub (p' := [(35, _), (12, _), (11, _), (10, _), (0, _), (1, _), (2, _)]) ⟨rfl, rfl, rfl, rfl, rfl, rfl, rfl, trivial⟩ ?_
    refine X.know 35 (.bool false) rfl (congrArg Value.bool ((by first | exact decide_eq_true (by omega) | exact decide_eq_false (by omega) | rfl | (simp; omega) | simp))) ?_
    refine X.condF rfl ?_
    refine X.skip ?_
    refine X.seq ?_
    refine X.region ?_
    refine XO.pu (Pu.move rfl) ?_
    refine XO.cR Try.call55 (there_ok (clLe h leA)) ?_
    refine XO.pu (Pu.not rfl) ?_
    refine XO.nil ?_
    refine X.sub (p' := [(38, _), (12, _), (11, _), (10, _), (1, _), (2, _)]) ⟨rfl, rfl, rfl, rfl, rfl, rfl, trivial⟩ ?_
    refine X.know 38 (.bool false) rfl (congrArg Value.bool (rfl)) ?_
    refine X.condF rfl ?_
    refine X.skip ?_
    refine X.exit rfl ?_
    refine X.seq ?_
    refine X.seq ?_
    refine X.region ?_
    refine XO.pu (Pu.move rfl) ?_
    refine XO.pu (Pu.neq rfl rfl) ?_
    refine XO.nil ?_
    refine X.sub (p' := [(40, _), (12, _), (11, _), (10, _), (1, _), (2, _)]) ⟨rfl, rfl, rfl, rfl, rfl, rfl, trivial⟩ ?_
    refine X.know 40 (.bool true) rfl (congrArg Value.bool (rfl)) ?_
    refine X.condT rfl ?_
    refine X.seq ?_
    refine X.region ?_
    refine XO.pu (Pu.move rfl) ?_
    refine XO.pu (Pu.assign rfl) ?_
    refine XO.pu (Pu.assign rfl) ?_
    refine XO.nil ?_
    refine X.sub (p' := [(11, _), (10, _), (1, _), (2, _)]) ⟨rfl, rfl, rfl, rfl, trivial⟩ ?_
    refine X.retL (q) Try.func34 (res2 Try.results34 rfl rfl) ⟨_, rfl, rfl, rfl⟩
theorem findI1_ok (h : Cl q ⟨p, 0, none⟩ (.bool true)) (hn : n ≤ 1000000) (hr : i < n) (hb : thr number) : CallF Try.prog G 34 [.pointer (some ⟨p, 0, none⟩), .slice (some ⟨g, 0, none⟩) n c, .int .i64 (i : Int), .int .i64 1, .int .i64 number] q (Ret fun v q' => v = .tuple [.pointer (some ⟨g, i * 1, none⟩), .int .i64 0].toArray ∧ q' = q) := by
  refine CallF.of Try.func34 Try.ntmps34 rfl (fun F cs => ?_)
  refine X.sub (p' := [(0, _), (1, _), (2, _), (3, _), (4, _)]) ⟨rfl, rfl, rfl, rfl, rfl, trivial⟩ ?_
  try unfold inR at hr
  try unfold thr at hb
  try unfold val at hb
  refine X.seq ?_
  refine X.region ?_
  refine XO.pu (Pu.assign rfl) ?_
  refine XO.pu (Pu.assign rfl) ?_
  refine XO.nil ?_
  refine X.sub (p' := [(11, _), (10, _), (0, _), (1, _), (2, _), (3, _), (4, _)]) ⟨rfl, rfl, rfl, rfl, rfl, rfl, rfl, trivial⟩ ?_
  refine X.seq ?_
  refine X.region ?_
  refine XO.pu (Pu.assign rfl) ?_
  refine XO.nil ?_
  refine X.sub (p' := [(12, _), (11, _), (10, _), (0, _), (1, _), (2, _), (3, _), (4, _)]) ⟨rfl, rfl, rfl, rfl, rfl, rfl, rfl, rfl, trivial⟩ ?_
  refine X.seq ?_
  refine X.region ?_
  refine XO.pu (Pu.assign rfl) ?_
  refine XO.pu (Pu.assign rfl) ?_
  refine XO.nil ?_
  refine X.sub (p' := [(14, _), (13, _), (12, _), (11, _), (10, _), (0, _), (1, _), (2, _), (3, _), (4, _)]) ⟨rfl, rfl, rfl, rfl, rfl, rfl, rfl, rfl, rfl, rfl, trivial⟩ ?_
  refine X.seq ?_
  refine X.seq ?_
  refine X.region ?_
  refine XO.pu (Pu.move rfl) ?_
  refine XO.nil ?_
  refine X.sub (p' := [(15, _), (14, _), (13, _), (12, _), (11, _), (10, _), (0, _), (1, _), (2, _), (4, _)]) ⟨rfl, rfl, rfl, rfl, rfl, rfl, rfl, rfl, rfl, rfl, trivial⟩ ?_
  refine X.block ?_
  refine X.seq ?_
  refine X.block ?_
  refine X.seq ?_
  refine X.block ?_
  refine X.seq ?_
  refine X.block ?_
  refine X.seq ?_
  refine X.seq ?_
  refine X.seq ?_
  refine X.region ?_
  refine XO.pu (Pu.eql rfl rfl) ?_
  refine XO.pu (Pu.assign rfl) ?_
  refine XO.nil ?_
  refine X.sub (p' := [(16, _), (15, _), (14, _), (13, _), (12, _), (11, _), (10, _), (0, _), (1, _), (2, _), (4, _)]) ⟨rfl, rfl, rfl, rfl, rfl, rfl, rfl, rfl, rfl, rfl, rfl, trivial⟩ ?_
  refine X.know 16 (.bool true) rfl (congrArg Value.bool (by simp)) ?_
  refine X.condT rfl ?_
  refine X.exit rfl ?_
  refine X.region ?_
  refine XO.pu (Pu.assign rfl) ?_
  refine XO.pu (Pu.assign rfl) ?_
  refine XO.nil ?_
  refine X.sub (p' := [(14, _), (13, _), (12, _), (11, _), (10, _), (0, _), (1, _), (2, _), (4, _)]) ⟨rfl, rfl, rfl, rfl, rfl, rfl, rfl, rfl, rfl, trivial⟩ ?_
  refine X.inBlock ?_
  refine X.seq ?_
  refine X.region ?_
  refine XO.pu (Pu.move rfl) ?_
  refine XO.pu (Pu.move rfl) ?_
  refine XO.pu (Pu.lss rfl rfl) ?_
  refine XO.pu (Pu.move rfl) ?_
  refine XO.know 23 (.bool false) rfl (congrArg Value.bool ((by first | exact decide_eq_true (by omega) | exact decide_eq_false (by omega) | rfl | (simp; omega) | simp))) ?_
  refine XO.pu (Pu.move rfl) ?_
  refine XO.pu (Pu.move rfl) ?_
  refine XO.pu (Pu.gtr rfl rfl) ?_
  refine XO.pu (Pu.pickF rfl rfl) ?_
  refine XO.nil ?_
  refine X.sub (p' := [(27, _), (12, _), (11, _), (10, _), (0, _), (1, _), (2, _)]) ⟨rfl, rfl, rfl, rfl, rfl, rfl, rfl, trivial⟩ ?_
  refine X.know 27 (.bool false) rfl (congrArg Value.bool ((by first | exact decide_eq_true (by omega) | exact decide_eq_false (by omega) | rfl | (simp; omega) | simp))) ?_
  refine X.condF rfl ?_
  refine X.skip ?_
  refine X.inBlock ?_
  refine X.seq ?_
  refine X.seq ?_
  refine X.seq ?_
  refine X.region ?_
  refine XO.pu (Pu.move rfl) ?_
  refine XO.pu (Pu.lss rfl rfl) ?_
  refine XO.pu (Pu.move rfl) ?_
  refine XO.know 30 (.bool false) rfl (congrArg Value.bool ((by first | exact decide_eq_true (by omega) | exact decide_eq_false (by omega) | rfl | (simp; omega) | simp))) ?_
  refine XO.pu (Pu.move rfl) ?_
  refine XO.pu (Pu.move rfl) ?_
  refine XO.pu (Pu.len rfl Try.underlying29) ?_
  refine XO.pu (Pu.geq rfl rfl) ?_
  refine XO.pu (Pu.pickF rfl rfl) ?_
  refine XO.nil ?_
  refine X.sub (p' := [(35, _), (12, _), (11, _), (10, _), (0, _), (1, _), (2, _)]) ⟨rfl, rfl, rfl, rfl, rfl, rfl, rfl, trivial⟩ ?_
  refine X.know 35 (.bool false) rfl (congrArg Value.bool ((by first | exact decide_eq_true (by omega) | exact decide_eq_false (by omega) | rfl | (simp; omega) | simp))) ?_
  refine X.condF rfl ?_
  refine X.skip ?_
  refine X.seq ?_
  refine X.region ?_
  refine XO.pu (Pu.move rfl) ?_
  refine XO.cR Try.call55 (there_ok (clLe h leA)) ?_
  refine XO.pu (Pu.not rfl) ?_
  refine XO.nil ?_
  refine X.sub (p' := [(38, _), (12, _), (11, _), (10, _), (1, _), (2, _)]) ⟨rfl, rfl, rfl, rfl, rfl, rfl, trivial⟩ ?_
  refine X.know 38 (.bool false) rfl (congrArg Value.bool (rfl)) ?_
  refine X.condF rfl ?_
  refine X.skip ?_
  refine X.exit rfl ?_
  refine X.seq ?_
  refine X.seq ?_
  refine X.region ?_
  refine XO.pu (Pu.move rfl) ?_
  refine XO.pu (Pu.neq rfl rfl) ?_
  refine XO.nil ?_
  refine X.sub (p' := [(40, _), (12, _), (11, _), (10, _), (1, _), (2, _)]) ⟨rfl, rfl, rfl, rfl, rfl, rfl, trivial⟩ ?_
  refine X.know 40 (.bool false) rfl (congrArg Value.bool (rfl)) ?_
  refine X.condF rfl ?_
  refine X.skip ?_
  refine X.seq ?_
  refine X.region ?_
  refine XO.pu (Pu.move rfl) ?_
  refine XO.pu (Pu.move rfl) ?_
  refine XO.pu (Pu.indexAddr rfl rfl Try.underlying29 Try.sizeOf3 (by omega) (by omega)) ?_
  refine XO.pu (Pu.assign rfl) ?_
  refine XO.pu (Pu.assign rfl) ?_
  refine XO.nil ?_
  refine X.sub (p' := [(11, _), (10, _)]) ⟨rfl, rfl, trivial⟩ ?_
  refine X.retL (q) Try.func34 (res2 Try.results34 rfl rfl) ⟨_, rfl, by simp, rfl⟩
theorem findC0_rng (h : Cl q ⟨p, 0, none⟩ (.bool true)) (hn : n ≤ 1000000) (hr : ¬ inR at_ n) : CallF Try.prog G 36 [.pointer (some ⟨p, 0, none⟩), .slice a n c, .int .i64 at_, .int .i64 0, .int .i64 0] q (Ret fun v q' => v = .tuple [.pointer none, .int .i64 4].toArray ∧ q' = q) := by
  refine CallF.of Try.func36 Try.ntmps36 rfl (fun F cs => ?_)
  refine X.sub (p' := [(0, _), (1, _), (2, _), (3, _), (4, _)]) ⟨rfl, rfl, rfl, rfl, rfl, trivial⟩ ?_
  try unfold inR at hr
  try unfold thr at hb
  try unfold val at hb
  refine X.seq ?_
  refine X.region ?_
  refine XO.pu (Pu.assign rfl) ?_
  refine XO.pu (Pu.assign rfl) ?_
  refine XO.nil ?_
  refine X.sub (p' := [(11, _), (10, _), (0, _), (1, _), (2, _), (3, _), (4, _)]) ⟨rfl, rfl, rfl, rfl, rfl, rfl, rfl, trivial⟩ ?_
  refine X.seq ?_
  refine X.region ?_
  refine XO.pu (Pu.assign rfl) ?_
  refine XO.nil ?_
  refine X.sub (p' := [(12, _), (11, _), (10, _), (0, _), (1, _), (2, _), (3, _), (4, _)]) ⟨rfl, rfl, rfl, rfl, rfl, rfl, rfl, rfl, trivial⟩ ?_
  refine X.seq ?_
  refine X.region ?_
  refine XO.pu (Pu.assign rfl) ?_
  refine XO.pu (Pu.assign rfl) ?_
  refine XO.nil ?_
  refine X.sub (p' := [(14, _), (13, _), (12, _), (11, _), (10, _), (0, _), (1, _), (2, _), (3, _), (4, _)]) ⟨rfl, rfl, rfl, rfl, rfl, rfl, rfl, rfl, rfl, rfl, trivial⟩ ?_
  refine X.seq ?_
  refine X.seq ?_
  refine X.region ?_
  refine XO.pu (Pu.move rfl) ?_
  refine XO.nil ?_
  refine X.sub (p' := [(15, _), (14, _), (13, _), (12, _), (11, _), (10, _), (0, _), (1, _), (2, _), (4, _)]) ⟨rfl, rfl, rfl, rfl, rfl, rfl, rfl, rfl, rfl, rfl, trivial⟩ ?_
  refine X.block ?_
  refine X.seq ?_
  refine X.block ?_
  refine X.seq ?_
  refine X.block ?_
  refine X.seq ?_
  refine X.block ?_
  refine X.seq ?_
  refine X.seq ?_
  refine X.seq ?_
  refine X.region ?_
  refine XO.pu (Pu.eql rfl rfl) ?_
  refine XO.pu (Pu.assign rfl) ?_
  refine XO.nil ?_
  refine X.sub (p' := [(16, _), (15, _), (14, _), (13, _), (12, _), (11, _), (10, _), (0, _), (1, _), (2, _), (4, _)]) ⟨rfl, rfl, rfl, rfl, rfl, rfl, rfl, rfl, rfl, rfl, rfl, trivial⟩ ?_
  refine X.know 16 (.bool false) rfl (congrArg Value.bool (by simp)) ?_
  refine X.condF rfl ?_
  refine X.skip ?_
  refine X.seq ?_
  refine X.region ?_
  refine XO.pu (Pu.eql rfl rfl) ?_
  refine XO.pu (Pu.assign rfl) ?_
  refine XO.nil ?_
  refine X.sub (p' := [(18, _), (14, _), (13, _), (12, _), (11, _), (10, _), (0, _), (1, _), (2, _), (4, _)]) ⟨rfl, rfl, rfl, rfl, rfl, rfl, rfl, rfl, rfl, rfl, trivial⟩ ?_
  refine X.know 18 (.bool false) rfl (congrArg Value.bool (by simp)) ?_
  refine X.condF rfl ?_
  refine X.skip ?_
  refine X.exit rfl ?_
  refine X.seq ?_
  refine X.seq ?_
  refine X.seq ?_
  refine X.region ?_
  refine XO.pu (Pu.move rfl) ?_
  refine XO.pu (Pu.lss rfl rfl) ?_
  refine XO.pu (Pu.move rfl) ?_
  rcases Decidable.em (at_ < 0) with k1 | k1
  · skip
    refine XO.know 30 (.bool true) rfl (congrArg Value.bool ((by first | exact decide_eq_true (by omega) | exact decide_eq_false (by omega) | rfl | (simp; omega) | simp))) ?_
    refine XO.pass rfl ?_
    refine XO.pass rfl ?_
    refine XO.pass rfl ?_
    refine XO.pass rfl ?_
    refine XO.pu (Pu.pickT rfl rfl) ?_
    refine XO.nil ?_
    refine X.sub (p' := [(35, _), (12, _), (11, _), (10, _), (0, _), (1, _), (2, _)]) ⟨rfl, rfl, rfl, rfl, rfl, rfl, rfl, trivial⟩ ?_
    refine X.condT rfl ?_
    refine X.region ?_
    refine XO.pu (Pu.assign rfl) ?_
    refine XO.nil ?_
    refine X.sub (p' := [(12, _), (11, _), (10, _), (0, _), (1, _), (2, _)]) ⟨rfl, rfl, rfl, rfl, rfl, rfl, trivial⟩ ?_
    refine X.seq ?_
    refine X.region ?_
    refine XO.pu (Pu.move rfl) ?_
    refine XO.cR Try.call55 (there_ok (clLe h leA)) ?_
    refine XO.pu (Pu.not rfl) ?_
    refine XO.nil ?_
    refine X.sub (p' := [(38, _), (12, _), (11, _), (10, _), (1, _), (2, _)]) ⟨rfl, rfl, rfl, rfl, rfl, rfl, trivial⟩ ?_
    refine X.know 38 (.bool false) rfl (congrArg Value.bool (rfl)) ?_
    refine X.condF rfl ?_
    refine X.skip ?_
    refine X.exit rfl ?_
    refine X.seq ?_
    refine X.seq ?_
    refine X.region ?_
    refine XO.pu (Pu.move rfl) ?_
    refine XO.pu (Pu.neq rfl rfl) ?_
    refine XO.nil ?_
    refine X.sub (p' := [(40, _), (12, _), (11, _), (10, _), (1, _), (2, _)]) ⟨rfl, rfl, rfl, rfl, rfl, rfl, trivial⟩ ?_
    refine X.know 40 (.bool true) rfl (congrArg Value.bool (rfl)) ?_
    refine X.condT rfl ?_
    refine X.seq ?_
    refine X.region ?_
    refine XO.pu (Pu.move rfl) ?_
    refine XO.pu (Pu.assign rfl) ?_
    refine XO.pu (Pu.assign rfl) ?_
    refine XO.nil ?_
    refine X.sub (p' := [(11, _), (10, _), (1, _), (2, _)]) ⟨rfl, rfl, rfl, rfl, trivial⟩ ?_
    refine X.retL (q) Try.func36 (res2 Try.results36 rfl rfl) ⟨_, rfl, rfl, rfl⟩
  · skip
    refine XO.know 30 (.bool false) rfl (congrArg Value.bool ((by first | exact decide_eq_true (by omega) | exact decide_eq_false (by omega) | rfl | (simp; omega) | simp))) ?_
    refine XO.pu (Pu.move rfl) ?_
    refine XO.pu (Pu.move rfl) ?_
    refine XO.pu (Pu.len rfl Try.underlying71) ?_
    refine XO.pu (Pu.geq rfl rfl) ?_
    refine XO.pu (Pu.pickF rfl rfl) ?_
    refine XO.nil ?_
    refine X.sub (p' := [(35, _), (12, _), (11, _), (10, _), (0, _), (1, _), (2, _)]) ⟨rfl, rfl, rfl, rfl, rfl, rfl, rfl, trivial⟩ ?_
    refine X.know 35 (.bool true) rfl (congrArg Value.bool ((by first | exact decide_eq_true (by omega) | exact decide_eq_false (by omega) | rfl | (simp; omega) | simp))) ?_
    refine X.condT rfl ?_
    refine X.region ?_
    refine XO.pu (Pu.assign rfl) ?_
    refine XO.nil ?_
    refine X.sub (p' := [(12, _), (11, _), (10, _), (0, _), (1, _), (2, _)]) ⟨rfl, rfl, rfl, rfl, rfl, rfl, trivial⟩ ?_
    refine X.seq ?_
    refine X.region ?_
    refine XO.pu (Pu.move rfl) ?_
    refine XO.cR Try.call55 (there_ok (clLe h leA)) ?_
    refine XO.pu (Pu.not rfl) ?_
    refine XO.nil ?_
    refine X.sub (p' := [(38, _), (12, _), (11, _), (10, _), (1, _), (2, _)]) ⟨rfl, rfl, rfl, rfl, rfl, rfl, trivial⟩ ?_
    refine X.know 38 (.bool false) rfl (congrArg Value.bool (rfl)) ?_
    refine X.condF rfl ?_
    refine X.skip ?_
    refine X.exit rfl ?_
    refine X.seq ?_
    refine X.seq ?_
    refine X.region ?_
    refine XO.pu (Pu.move rfl) ?_
    refine XO.pu (Pu.neq rfl rfl) ?_
    refine XO.nil ?_
    refine X.sub (p' := [(40, _), (12, _), (11, _), (10, _), (1, _), (2, _)]) ⟨rfl, rfl, rfl, rfl, rfl, rfl, trivial⟩ ?_
    refine X.know 40 (.bool true) rfl (congrArg Value.bool (rfl)) ?_
    refine X.condT rfl ?_
    refine X.seq ?_
    refine X.region ?_
    refine XO.pu (Pu.move rfl) ?_
    refine XO.pu (Pu.assign rfl) ?_
    refine XO.pu (Pu.assign rfl) ?_
    refine XO.nil ?_
    refine X.sub (p' := [(11, _), (10, _), (1, _), (2, _)]) ⟨rfl, rfl, rfl, rfl, trivial⟩ ?_
    refine X.retL (q) Try.func36 (res2 Try.results36 rfl rfl) ⟨_, rfl, rfl, rfl⟩
theorem findC0_ok (h : Cl q ⟨p, 0, none⟩ (.bool true)) (hn : n ≤ 1000000) (hr : i < n) (hb : True) : CallF Try.prog G 36 [.pointer (some ⟨p, 0, none⟩), .slice (some ⟨g, 0, none⟩) n c, .int .i64 (i : Int), .int .i64 0, .int .i64 0] q (Ret fun v q' => v = .tuple [.pointer (some ⟨g, i * 1, none⟩), .int .i64 0].toArray ∧ q' = q) := by
  refine CallF.of Try.func36 Try.ntmps36 rfl (fun F cs => ?_)
  refine X.sub (p' := [(0, _), (1, _), (2, _), (3, _), (4, _)]) ⟨rfl, rfl, rfl, rfl, rfl, trivial⟩ ?_
  try unfold inR at hr
  try unfold thr at hb
  try unfold val at hb
  refine X.seq ?_
  refine X.region ?_
  refine XO.pu (Pu.assign rfl) ?_
  refine XO.pu (Pu.assign rfl) ?_
  refine XO.nil ?_
  refine X.sub (p' := [(11, _), (10, _), (0, _), (1, _), (2, _), (3, _), (4, _)]) ⟨rfl, rfl, rfl, rfl, rfl, rfl, rfl, trivial⟩ ?_
  refine X.seq ?_
  refine X.region ?_
  refine XO.pu (Pu.assign rfl) ?_
  refine XO.nil ?_
  refine X.sub (p' := [(12, _), (11, _), (10, _), (0, _), (1, _), (2, _), (3, _), (4, _)]) ⟨rfl, rfl, rfl, rfl, rfl, rfl, rfl, rfl, trivial⟩ ?_
  refine X.seq ?_
  refine X.region ?_
  refine XO.pu (Pu.assign rfl) ?_
  refine XO.pu (Pu.assign rfl) ?_
  refine XO.nil ?_
  refine X.sub (p' := [(14, _), (13, _), (12, _), (11, _), (10, _), (0, _), (1, _), (2, _), (3, _), (4, _)]) ⟨rfl, rfl, rfl, rfl, rfl, rfl, rfl, rfl, rfl, rfl, trivial⟩ ?_
  refine X.seq ?_
  refine X.seq ?_
  refine X.region ?_
  refine XO.pu (Pu.move rfl) ?_
  refine XO.nil ?_
  refine X.sub (p' := [(15, _), (14, _), (13, _), (12, _), (11, _), (10, _), (0, _), (1, _), (2, _), (4, _)]) ⟨rfl, rfl, rfl, rfl, rfl, rfl, rfl, rfl, rfl, rfl, trivial⟩ ?_
  refine X.block ?_
  refine X.seq ?_
  refine X.block ?_
  refine X.seq ?_
  refine X.block ?_
  refine X.seq ?_
  refine X.block ?_
  refine X.seq ?_
  refine X.seq ?_
  refine X.seq ?_
  refine X.region ?_
  refine XO.pu (Pu.eql rfl rfl) ?_
  refine XO.pu (Pu.assign rfl) ?_
  refine XO.nil ?_
  refine X.sub (p' := [(16, _), (15, _), (14, _), (13, _), (12, _), (11, _), (10, _), (0, _), (1, _), (2, _), (4, _)]) ⟨rfl, rfl, rfl, rfl, rfl, rfl, rfl, rfl, rfl, rfl, rfl, trivial⟩ ?_
  refine X.know 16 (.bool false) rfl (congrArg Value.bool (by simp)) ?_
  refine X.condF rfl ?_
  refine X.skip ?_
  refine X.seq ?_
  refine X.region ?_
  refine XO.pu (Pu.eql rfl rfl) ?_
  refine XO.pu (Pu.assign rfl) ?_
  refine XO.nil ?_
  refine X.sub (p' := [(18, _), (14, _), (13, _), (12, _), (11, _), (10, _), (0, _), (1, _), (2, _), (4, _)]) ⟨rfl, rfl, rfl, rfl, rfl, rfl, rfl, rfl, rfl, rfl, trivial⟩ ?_
  refine X.know 18 (.bool false) rfl (congrArg Value.bool (by simp)) ?_
  refine X.condF rfl ?_
  refine X.skip ?_
  refine X.exit rfl ?_
  refine X.seq ?_
  refine X.seq ?_
  refine X.seq ?_
  refine X.region ?_
  refine XO.pu (Pu.move rfl) ?_
  refine XO.pu (Pu.lss rfl rfl) ?_
  refine XO.pu (Pu.move rfl) ?_
  refine XO.know 30 (.bool false) rfl (congrArg Value.bool ((by first | exact decide_eq_true (by omega) | exact decide_eq_false (by omega) | rfl | (simp; omega) | simp))) ?_
  refine XO.pu (Pu.move rfl) ?_
  refine XO.pu (Pu.move rfl) ?_
  refine XO.pu (Pu.len rfl Try.underlying71) ?_
  refine XO.pu (Pu.geq rfl rfl) ?_
  refine XO.pu (Pu.pickF rfl rfl) ?_
  refine XO.nil ?_
  refine X.sub (p' := [(35, _), (12, _), (11, _), (10, _), (0, _), (1, _), (2, _)]) ⟨rfl, rfl, rfl, rfl, rfl, rfl, rfl, trivial⟩ ?_
  refine X.know 35 (.bool false) rfl (congrArg Value.bool ((by first | exact decide_eq_true (by omega) | exact decide_eq_false (by omega) | rfl | (simp; omega) | simp))) ?_
  refine X.condF rfl ?_
  refine X.skip ?_
  refine X.seq ?_
  refine X.region ?_
  refine XO.pu (Pu.move rfl) ?_
  refine XO.cR Try.call55 (there_ok (clLe h leA)) ?_
  refine XO.pu (Pu.not rfl) ?_
  refine XO.nil ?_
  refine X.sub (p' := [(38, _), (12, _), (11, _), (10, _), (1, _), (2, _)]) ⟨rfl, rfl, rfl, rfl, rfl, rfl, trivial⟩ ?_
  refine X.know 38 (.bool false) rfl (congrArg Value.bool (rfl)) ?_
  refine X.condF rfl ?_
  refine X.skip ?_
  refine X.exit rfl ?_
  refine X.seq ?_
  refine X.seq ?_
  refine X.region ?_
  refine XO.pu (Pu.move rfl) ?_
  refine XO.pu (Pu.neq rfl rfl) ?_
  refine XO.nil ?_
  refine X.sub (p' := [(40, _), (12, _), (11, _), (10, _), (1, _), (2, _)]) ⟨rfl, rfl, rfl, rfl, rfl, rfl, trivial⟩ ?_
  refine X.know 40 (.bool false) rfl (congrArg Value.bool (rfl)) ?_
  refine X.condF rfl ?_
  refine X.skip ?_
  refine X.seq ?_
  refine X.region ?_
  refine XO.pu (Pu.move rfl) ?_
  refine XO.pu (Pu.move rfl) ?_
  refine XO.pu (Pu.indexAddr rfl rfl Try.underlying71 Try.sizeOf89 (by omega) (by omega)) ?_
  refine XO.pu (Pu.assign rfl) ?_
  refine XO.pu (Pu.assign rfl) ?_
  refine XO.nil ?_
  refine X.sub (p' := [(11, _), (10, _)]) ⟨rfl, rfl, trivial⟩ ?_
  refine X.retL (q) Try.func36 (res2 Try.results36 rfl rfl) ⟨_, rfl, by simp, rfl⟩
theorem findC1_rng (h : Cl q ⟨p, 0, none⟩ (.bool true)) (hn : n ≤ 1000000) (hr : ¬ inR at_ n) : CallF Try.prog G 36 [.pointer (some ⟨p, 0, none⟩), .slice a n c, .int .i64 at_, .int .i64 1, .int .i64 number] q (Ret fun v q' => v = .tuple [.pointer none, .int .i64 4].toArray ∧ q' = q) := by
  refine CallF.of Try.func36 Try.ntmps36 rfl (fun F cs => ?_)
  refine X.sub (p' := [(0, _), (1, _), (2, _), (3, _), (4, _)]) ⟨rfl, rfl, rfl, rfl, rfl, trivial⟩ ?_
  try unfold inR at hr
  try unfold thr at hb
  try unfold val at hb
  refine X.seq ?_
  refine X.region ?_
  refine XO.pu (Pu.assign rfl) ?_
  refine XO.pu (Pu.assign rfl) ?_
  refine XO.nil ?_
  refine X.sub (p' := [(11, _), (10, _), (0, _), (1, _), (2, _), (3, _), (4, _)]) ⟨rfl, rfl, rfl, rfl, rfl, rfl, rfl, trivial⟩ ?_
  refine X.seq ?_
  refine X.region ?_
  refine XO.pu (Pu.assign rfl) ?_
  refine XO.nil ?_
  refine X.sub (p' := [(12, _), (11, _), (10, _), (0, _), (1, _), (2, _), (3, _), (4, _)]) ⟨rfl, rfl, rfl, rfl, rfl, rfl, rfl, rfl, trivial⟩ ?_
  refine X.seq ?_
  refine X.region ?_
  refine XO.pu (Pu.assign rfl) ?_
  refine XO.pu (Pu.assign rfl) ?_
  refine XO.nil ?_
  refine X.sub (p' := [(14, _), (13, _), (12, _), (11, _), (10, _), (0, _), (1, _), (2, _), (3, _), (4, _)]) ⟨rfl, rfl, rfl, rfl, rfl, rfl, rfl, rfl, rfl, rfl, trivial⟩ ?_
  refine X.seq ?_
  refine X.seq ?_
  refine X.region ?_
  refine XO.pu (Pu.move rfl) ?_
  refine XO.nil ?_
  refine X.sub (p' := [(15, _), (14, _), (13, _), (12, _), (11, _), (10, _), (0, _), (1, _), (2, _), (4, _)]) ⟨rfl, rfl, rfl, rfl, rfl, rfl, rfl, rfl, rfl, rfl, trivial⟩ ?_
  refine X.block ?_
  refine X.seq ?_
  refine X.block ?_
  refine X.seq ?_
  refine X.block ?_
  refine X.seq ?_
  refine X.block ?_
  refine X.seq ?_
  refine X.seq ?_
  refine X.seq ?_
  refine X.region ?_
  refine XO.pu (Pu.eql rfl rfl) ?_
  refine XO.pu (Pu.assign rfl) ?_
  refine XO.nil ?_
  refine X.sub (p' := [(16, _), (15, _), (14, _), (13, _), (12, _), (11, _), (10, _), (0, _), (1, _), (2, _), (4, _)]) ⟨rfl, rfl, rfl, rfl, rfl, rfl, rfl, rfl, rfl, rfl, rfl, trivial⟩ ?_
  refine X.know 16 (.bool true) rfl (congrArg Value.bool (by simp)) ?_
  refine X.condT rfl ?_
  refine X.exit rfl ?_
  refine X.region ?_
  refine XO.pu (Pu.assign rfl) ?_
  refine XO.pu (Pu.assign rfl) ?_
  refine XO.nil ?_
  refine X.sub (p' := [(14, _), (13, _), (12, _), (11, _), (10, _), (0, _), (1, _), (2, _), (4, _)]) ⟨rfl, rfl, rfl, rfl, rfl, rfl, rfl, rfl, rfl, trivial⟩ ?_
  refine X.inBlock ?_
  refine X.seq ?_
  refine X.region ?_
  refine XO.pu (Pu.move rfl) ?_
  refine XO.pu (Pu.move rfl) ?_
  refine XO.pu (Pu.lss rfl rfl) ?_
  refine XO.pu (Pu.move rfl) ?_
  rcases Decidable.em (number < 0) with k8 | k8
  · skip
    refine XO.know 23 (.bool true) rfl (congrArg Value.bool ((by first | exact decide_eq_true (by omega) | exact decide_eq_false (by omega) | rfl | (simp; omega) | simp))) ?_
    refine XO.pass rfl ?_
    refine XO.pass rfl ?_
    refine XO.pass rfl ?_
    refine XO.pu (Pu.pickT rfl rfl) ?_
    refine XO.nil ?_
    refine X.sub (p' := [(27, _), (12, _), (11, _), (10, _), (0, _), (1, _), (2, _)]) ⟨rfl, rfl, rfl, rfl, rfl, rfl, rfl, trivial⟩ ?_
    refine X.condT rfl ?_
    refine X.region ?_
    refine XO.pu (Pu.assign rfl) ?_
    refine XO.nil ?_
    refine X.sub (p' := [(12, _), (11, _), (10, _), (0, _), (1, _), (2, _)]) ⟨rfl, rfl, rfl, rfl, rfl, rfl, trivial⟩ ?_
    refine X.inBlock ?_
    refine X.seq ?_
    refine X.seq ?_
    refine X.seq ?_
    refine X.region ?_
    refine XO.pu (Pu.move rfl) ?_
    refine XO.pu (Pu.lss rfl rfl) ?_
    refine XO.pu (Pu.move rfl) ?_
    rcases Decidable.em (at_ < 0) with k1 | k1
    · skip
      refine XO.know 30 (.bool true) rfl (congrArg Value.bool ((by first | exact decide_eq_true (by omega) | exact decide_eq_false (by omega) | rfl | (simp; omega) | simp))) ?_
      refine XO.pass rfl ?_
      refine XO.pass rfl ?_
      refine XO.pass rfl ?_
      refine XO.pass rfl ?_
      refine XO.pu (Pu.pickT rfl rfl) ?_
      refine XO.nil ?_
      refine X.sub (p' := [(35, _), (12, _), (11, _), (10, _), (0, _), (1, _), (2, _)]) ⟨rfl, rfl, rfl, rfl, rfl, rfl, rfl, trivial⟩ ?_
      refine X.condT rfl ?_
      refine X.region ?_
      refine XO.pu (Pu.assign rfl) ?_
      refine XO.nil ?_
      refine X.sub (p' := [(12, _), (11, _), (10, _), (0, _), (1, _), (2, _)]) ⟨rfl, rfl, rfl, rfl, rfl, rfl, trivial⟩ ?_
      refine X.seq ?_
      refine X.region ?_
      refine XO.pu (Pu.move rfl) ?_
      refine XO.cR Try.call55 (there_ok (clLe h leA)) ?_
      refine XO.pu (Pu.not rfl) ?_
      refine XO.nil ?_
      refine X.sub (p' := [(38, _), (12, _), (11, _), (10, _), (1, _), (2, _)]) ⟨rfl, rfl, rfl, rfl, rfl, rfl, trivial⟩ ?_
      refine X.know 38 (.bool false) rfl (congrArg Value.bool (rfl)) ?_
      refine X.condF rfl ?_
      refine X.skip ?_
      refine X.exit rfl ?_
      refine X.seq ?_
      refine X.seq ?_
      refine X.region ?_
      refine XO.pu (Pu.move rfl) ?_
      refine XO.pu (Pu.neq rfl rfl) ?_
      refine XO.nil ?_
      refine X.sub (p' := [(40, _), (12, _), (11, _), (10, _), (1, _), (2, _)]) ⟨rfl, rfl, rfl, rfl, rfl, rfl, trivial⟩ ?_
      refine X.know 40 (.bool true) rfl (congrArg Value.bool (rfl)) ?_
      refine X.condT rfl ?_
      refine X.seq ?_
      refine X.region ?_
      refine XO.pu (Pu.move rfl) ?_
      refine XO.pu (Pu.assign rfl) ?_
      refine XO.pu (Pu.assign rfl) ?_
      refine XO.nil ?_
      refine X.sub (p' := [(11, _), (10, _), (1, _), (2, _)]) ⟨rfl, rfl, rfl, rfl, trivial⟩ ?_
      refine X.retL (q) Try.func36 (res2 Try.results36 rfl rfl) ⟨_, rfl, rfl, rfl⟩
    · skip
      refine XO.know 30 (.bool false) rfl (congrArg Value.bool ((by first | exact decide_eq_true (by omega) | exact decide_eq_false (by omega) | rfl | (simp; omega) | simp))) ?_
      refine XO.pu (Pu.move rfl) ?_
      refine XO.pu (Pu.move rfl) ?_
      refine XO.pu (Pu.len rfl Try.underlying71) ?_
      refine XO.pu (Pu.geq rfl rfl) ?_
      refine XO.pu (Pu.pickF rfl rfl) ?_
      refine XO.nil ?_
      refine X.sub (p' := [(35, _), (12, _), (11, _), (10, _), (0, _), (1, _), (2, _)]) ⟨rfl, rfl, rfl, rfl, rfl, rfl, rfl, trivial⟩ ?_
      refine X.know 35 (.bool true) rfl (congrArg Value.bool ((by first | exact decide_eq_true (by omega) | exact decide_eq_false (by omega) | rfl | (simp; omega) | simp))) ?_
      refine X.condT rfl ?_
      refine X.region ?_
      refine XO.pu (Pu.assign rfl) ?_
      refine XO.nil ?_
      refine X.sub (p' := [(12, _), (11, _), (10, _), (0, _), (1, _), (2, _)]) ⟨rfl, rfl, rfl, rfl, rfl, rfl, trivial⟩ ?_
      refine X.seq ?_
      refine X.region ?_
      refine XO.pu (Pu.move rfl) ?_
      refine XO.cR Try.call55 (there_ok (clLe h leA)) ?_
      refine XO.pu (Pu.not rfl) ?_
      refine XO.nil ?_
      refine X.sub (p' := [(38, _), (12, _), (11, _), (10, _), (1, _), (2, _)]) ⟨rfl, rfl, rfl, rfl, rfl, rfl, trivial⟩ ?_
      refine X.know 38 (.bool false) rfl (congrArg Value.bool (rfl)) ?_
      refine X.condF rfl ?_
      refine X.skip ?_
      refine X.exit rfl ?_
      refine X.seq ?_
      refine X.seq ?_
      refine X.region ?_
      refine XO.pu (Pu.move rfl) ?_
      refine XO.pu (Pu.neq rfl rfl) ?_
      refine XO.nil ?_
      refine X.sub (p' := [(40, _), (12, _), (11, _), (10, _), (1, _), (2, _)]) ⟨rfl, rfl, rfl, rfl, rfl, rfl, trivial⟩ ?_
      refine X.know 40 (.bool true) rfl (congrArg Value.bool (rfl)) ?_
      refine X.condT rfl ?_
      refine X.seq ?_
      refine X.region ?_
      refine XO.pu (Pu.move rfl) ?_
      refine XO.pu (Pu.assign rfl) ?_
      refine XO.pu (Pu.assign rfl) ?_
      refine XO.nil ?_
      refine X.sub (p' := [(11, _), (10, _), (1, _), (2, _)]) ⟨rfl, rfl, rfl, rfl, trivial⟩ ?_
      refine X.retL (q) Try.func36 (res2 Try.results36 rfl rfl) ⟨_, rfl, rfl, rfl⟩
  · skip
    rcases Decidable.em (number > 7) with k9 | k9
    · skip
      refine XO.know 23 (.bool false) rfl (congrArg Value.bool ((by first | exact decide_eq_true (by omega) | exact decide_eq_false (by omega) | rfl | (simp; omega) | simp))) ?_
      refine XO.pu (Pu.move rfl) ?_
      refine XO.pu (Pu.move rfl) ?_
      refine XO.pu (Pu.gtr rfl rfl) ?_
      refine XO.pu (Pu.pickF rfl rfl) ?_
      refine XO.nil ?_
      refine X.sub (p' := [(27, _), (12, _), (11, _), (10, _), (0, _), (1, _), (2, _)]) ⟨rfl, rfl, rfl, rfl, rfl, rfl, rfl, trivial⟩ ?_
      refine X.know 27 (.bool true) rfl (congrArg Value.bool ((by first | exact decide_eq_true (by omega) | exact decide_eq_false (by omega) | rfl | (simp; omega) | simp))) ?_
      refine X.condT rfl ?_
      refine X.region ?_
      refine XO.pu (Pu.assign rfl) ?_
      refine XO.nil ?_
      refine X.sub (p' := [(12, _), (11, _), (10, _), (0, _), (1, _), (2, _)]) ⟨rfl, rfl, rfl, rfl, rfl, rfl, trivial⟩ ?_
      refine X.inBlock ?_
      refine X.seq ?_
      refine X.seq ?_
      refine X.seq ?_
      refine X.region ?_
      refine XO.pu (Pu.move rfl) ?_
      refine XO.pu (Pu.lss rfl rfl) ?_
      refine XO.pu (Pu.move rfl) ?_
      rcases Decidable.em (at_ < 0) with k1 | k1
      · skip
        refine XO.know 30 (.bool true) rfl (congrArg Value.bool ((by first | exact decide_eq_true (by omega) | exact decide_eq_false (by omega) | rfl | (simp; omega) | simp))) ?_
        refine XO.pass rfl ?_
        refine XO.pass rfl ?_
        refine XO.pass rfl ?_
        refine XO.pass rfl ?_
        refine XO.pu (Pu.pickT rfl rfl) ?_
        refine XO.nil ?_
        refine X.sub (p' := [(35, _), (12, _), (11, _), (10, _), (0, _), (1, _), (2, _)]) ⟨rfl, rfl, rfl, rfl, rfl, rfl, rfl, trivial⟩ ?_
        refine X.condT rfl ?_
        refine X.region ?_
        refine XO.pu (Pu.assign rfl) ?_
        refine XO.nil ?_
        refine X.sub (p' := [(12, _), (11, _), (10, _), (0, _), (1, _), (2, _)]) ⟨rfl, rfl, rfl, rfl, rfl, rfl, trivial⟩ ?_
        refine X.seq ?_
        refine X.region ?_
        refine XO.pu (Pu.move rfl) ?_
        refine XO.cR Try.call55 (there_ok (clLe h leA)) ?_
        refine XO.pu (Pu.not rfl) ?_
        refine XO.nil ?_
        refine X.sub (p' := [(38, _), (12, _), (11, _), (10, _), (1, _), (2, _)]) ⟨rfl, rfl, rfl, rfl, rfl, rfl, trivial⟩ ?_
        refine X.know 38 (.bool false) rfl (congrArg Value.bool (rfl)) ?_
        refine X.condF rfl ?_
        refine X.skip ?_
        refine X.exit rfl ?_
        refine X.seq ?_
        refine X.seq ?_
        refine X.region ?_
        refine XO.pu (Pu.move rfl) ?_
        refine XO.pu (Pu.neq rfl rfl) ?_
        refine XO.nil ?_
        refine X.sub (p' := [(40, _), (12, _), (11, _), (10, _), (1, _), (2, _)]) ⟨rfl, rfl, rfl, rfl, rfl, rfl, trivial⟩ ?_
        refine X.know 40 (.bool true) rfl (congrArg Value.bool (rfl)) ?_
        refine X.condT rfl ?_
        refine X.seq ?_
        refine X.region ?_
        refine XO.pu (Pu.move rfl) ?_
        refine XO.pu (Pu.assign rfl) ?_
        refine XO.pu (Pu.assign rfl) ?_
        refine XO.nil ?_
        refine X.sub (p' := [(11, _), (10, _), (1, _), (2, _)]) ⟨rfl, rfl, rfl, rfl, trivial⟩ ?_
        refine X.retL (q) Try.func36 (res2 Try.results36 rfl rfl) ⟨_, rfl, rfl, rfl⟩
      · skip
        refine XO.know 30 (.bool false) rfl (congrArg Value.bool ((by first | exact decide_eq_true (by omega) | exact decide_eq_false (by omega) | rfl | (simp; omega) | simp))) ?_
        refine XO.pu (Pu.move rfl) ?_
        refine XO.pu (Pu.move rfl) ?_
        refine XO.pu (Pu.len rfl Try.underlying71) ?_
        refine XO.pu (Pu.geq rfl rfl) ?_
        refine XO.pu (Pu.pickF rfl rfl) ?_
        refine XO.nil ?_
        refine X.sub (p' := [(35, _), (12, _), (11, _), (10, _), (0, _), (1, _), (2, _)]) ⟨rfl, rfl, rfl, rfl, rfl, rfl, rfl, trivial⟩ ?_
        refine X.know 35 (.bool true) rfl (congrArg Value.bool ((by first | exact decide_eq_true (by omega) | exact decide_eq_false (by omega) | rfl | (simp; omega) | simp))) ?_
        refine X.condT rfl ?_
        refine X.region ?_
        refine XO.pu (Pu.assign rfl) ?_
        refine XO.nil ?_
        refine X.sub (p' := [(12, _), (11, _), (10, _), (0, _), (1, _), (2, _)]) ⟨rfl, rfl, rfl, rfl, rfl, rfl, trivial⟩ ?_
        refine X.seq ?_
        refine X.region ?_
        refine XO.pu (Pu.move rfl) ?_
        refine XO.cR Try.call55 (there_ok (clLe h leA)) ?_
        refine XO.pu (Pu.not rfl) ?_
        refine XO.nil ?_
        refine X.sub (p' := [(38, _), (12, _), (11, _), (10, _), (1, _), (2, _)]) ⟨rfl, rfl, rfl, rfl, rfl, rfl, trivial⟩ ?_
        refine X.know 38 (.bool false) rfl (congrArg Value.bool (rfl)) ?_
        refine X.condF rfl ?_
        refine X.skip ?_
        refine X.exit rfl ?_
        refine X.seq ?_
        refine X.seq ?_
        refine X.region ?_
        refine XO.pu (Pu.move rfl) ?_
        refine XO.pu (Pu.neq rfl rfl) ?_
        refine XO.nil ?_
        refine X.sub (p' := [(40, _), (12, _), (11, _), (10, _), (1, _), (2, _)]) ⟨rfl, rfl, rfl, rfl, rfl, rfl, trivial⟩ ?_
        refine X.know 40 (.bool true) rfl (congrArg Value.bool (rfl)) ?_
        refine X.condT rfl ?_
        refine X.seq ?_
        refine X.region ?_
        refine XO.pu (Pu.move rfl) ?_
        refine XO.pu (Pu.assign rfl) ?_
        refine XO.pu (Pu.assign rfl) ?_
        refine XO.nil ?_
        refine X.sub (p' := [(11, _), (10, _), (1, _), (2, _)]) ⟨rfl, rfl, rfl, rfl, trivial⟩ ?_
        refine X.retL (q) Try.func36 (res2 Try.results36 rfl rfl) ⟨_, rfl, rfl, rfl⟩
    · skip
      refine XO.know 23 (.bool false) rfl (congrArg Value.bool ((by first | exact decide_eq_true (by omega) | exact decide_eq_false (by omega) | rfl | (simp; omega) | simp))) ?_
      refine XO.pu (Pu.move rfl) ?_
      refine XO.pu (Pu.move rfl) ?_
      refine XO.pu (Pu.gtr rfl rfl) ?_
      refine XO.pu (Pu.pickF rfl rfl) ?_
      refine XO.nil ?_
      refine X.sub (p' := [(27, _), (12, _), (11, _), (10, _), (0, _), (1, _), (2, _)]) ⟨rfl, rfl, rfl, rfl, rfl, rfl, rfl, trivial⟩ ?_
      refine X.know 27 (.bool false) rfl (congrArg Value.bool ((by first | exact decide_eq_true (by omega) | exact decide_eq_false (by omega) | rfl | (simp; omega) | simp))) ?_
      refine X.condF rfl ?_
      refine X.skip ?_
      refine X.inBlock ?_
      refine X.seq ?_
      refine X.seq ?_
      refine X.seq ?_
      refine X.region ?_
      refine XO.pu (Pu.move rfl) ?_
      refine XO.pu (Pu.lss rfl rfl) ?_
      refine XO.pu (Pu.move rfl) ?_
      rcases Decidable.em (at_ < 0) with k1 | k1
      · skip
        refine XO.know 30 (.bool true) rfl (congrArg Value.bool ((by first | exact decide_eq_true (by omega) | exact decide_eq_false (by omega) | rfl | (simp; omega) | simp))) ?_
        refine XO.pass rfl ?_
        refine XO.pass rfl ?_
        refine XO.pass rfl ?_
        refine XO.pass rfl ?_
        refine XO.pu (Pu.pickT rfl rfl) ?_
        refine XO.nil ?_
        refine X.sub (p' := [(35, _), (12, _), (11, _), (10, _), (0, _), (1, _), (2, _)]) ⟨rfl, rfl, rfl, rfl, rfl, rfl, rfl, trivial⟩ ?_
        refine X.condT rfl ?_
        refine X.region ?_
        refine XO.pu (Pu.assign rfl) ?_
        refine XO.nil ?_
        refine X.sub (p' := [(12, _), (11, _), (10, _), (0, _), (1, _), (2, _)]) ⟨rfl, rfl, rfl, rfl, rfl, rfl, trivial⟩ ?_
        refine X.seq ?_
        refine X.region ?_
        refine XO.pu (Pu.move rfl) ?_
        refine XO.cR Try.call55 (there_ok (clLe h leA)) ?_
        refine XO.pu (Pu.not rfl) ?_
        refine XO.nil ?_
        refine X.sub (p' := [(38, _), (12, _), (11, _), (10, _), (1, _), (2, _)]) ⟨rfl, rfl, rfl, rfl, rfl, rfl, trivial⟩ ?_
        refine X.know 38 (.bool false) rfl (congrArg Value.bool (rfl)) ?_
        refine X.condF rfl ?_
        refine X.skip ?_
        refine X.exit rfl ?_
        refine X.seq ?_
        refine X.seq ?_
        refine X.region ?_
        refine XO.pu (Pu.move rfl) ?_
        refine XO.pu (Pu.neq rfl rfl) ?_
        refine XO.nil ?_
        refine X.sub (p' := [(40, _), (12, _), (11, _), (10, _), (1, _), (2, _)]) ⟨rfl, rfl, rfl, rfl, rfl, rfl, trivial⟩ ?_
        refine X.know 40 (.bool true) rfl (congrArg Value.bool (rfl)) ?_
        refine X.condT rfl ?_
        refine X.seq ?_
        refine X.region ?_
        refine XO.pu (Pu.move rfl) ?_
        refine XO.pu (Pu.assign rfl) ?_
        refine XO.pu (Pu.assign rfl) ?_
        refine XO.nil ?_
        refine X.sub (p' := [(11, _), (10, _), (1, _), (2, _)]) ⟨rfl, rfl, rfl, rfl, trivial⟩ ?_
        refine X.retL (q) Try.func36 (res2 Try.results36 rfl rfl) ⟨_, rfl, rfl, rfl⟩
      · skip
        refine XO.know 30 (.bool false) rfl (congrArg Value.bool ((by first | exact decide_eq_true (by omega) | exact decide_eq_false (by omega) | rfl | (simp; omega) | simp))) ?_
        refine XO.pu (Pu.move rfl) ?_
        refine XO.pu (Pu.move rfl) ?_
        refine XO.pu (Pu.len rfl Try.underlying71) ?_
        refine XO.pu (Pu.geq rfl rfl) ?_
        refine XO.pu (Pu.pickF rfl rfl) ?_
        refine XO.nil ?_
        refine X.sub (p' := [(35, _), (12, _), (11, _), (10, _), (0, _), (1, _), (2, _)]) ⟨rfl, rfl, rfl, rfl, rfl, rfl, rfl, trivial⟩ ?_
        refine X.know 35 (.bool true) rfl (congrArg Value.bool ((by first | exact decide_eq_true (by omega) | exact decide_eq_false (by omega) | rfl | (simp; omega) | simp))) ?_
        refine X.condT rfl ?_
        refine X.region ?_
        refine XO.pu (Pu.assign rfl) ?_
        refine XO.nil ?_
        refine X.sub (p' := [(12, _), (11, _), (10, _), (0, _), (1, _), (2, _)]) ⟨rfl, rfl, rfl, rfl, rfl, rfl, trivial⟩ ?_
        refine X.seq ?_
        refine X.region ?_
        refine XO.pu (Pu.move rfl) ?_
        refine XO.cR Try.call55 (there_ok (clLe h leA)) ?_
        refine XO.pu (Pu.not rfl) ?_
        refine XO.nil ?_
        refine X.sub (p' := [(38, _), (12, _), (11, _), (10, _), (1, _), (2, _)]) ⟨rfl, rfl, rfl, rfl, rfl, rfl, trivial⟩ ?_
        refine X.know 38 (.bool false) rfl (congrArg Value.bool (rfl)) ?_
        refine X.condF rfl ?_
        refine X.skip ?_
        refine X.exit rfl ?_
        refine X.seq ?_
        refine X.seq ?_
        refine X.region ?_
        refine XO.pu (Pu.move rfl) ?_
        refine XO.pu (Pu.neq rfl rfl) ?_
        refine XO.nil ?_
        refine X.sub (p' := [(40, _), (12, _), (11, _), (10, _), (1, _), (2, _)]) ⟨rfl, rfl, rfl, rfl, rfl, rfl, trivial⟩ ?_
        refine X.know 40 (.bool true) rfl (congrArg Value.bool (rfl)) ?_
        refine X.condT rfl ?_
        refine X.seq ?_
        refine X.region ?_
        refine XO.pu (Pu.move rfl) ?_
        refine XO.pu (Pu.assign rfl) ?_
        refine XO.pu (Pu.assign rfl) ?_
        refine XO.nil ?_
        refine X.sub (p' := [(11, _), (10, _), (1, _), (2, _)]) ⟨rfl, rfl, rfl, rfl, trivial⟩ ?_
        refine X.retL (q) Try.func36 (res2 Try.results36 rfl rfl) ⟨_, rfl, rfl, rfl⟩
theorem findC1_arg (h : Cl q ⟨p, 0, none⟩ (.bool true)) (hn : n ≤ 1000000) (hr : i < n) (hb : ¬ (thr number)) : CallF Try.prog G 36 [.pointer (some ⟨p, 0, none⟩), .slice a n c, .int .i64 (i : Int), .int .i64 1, .int .i64 number] q (Ret fun v q' => v = .tuple [.pointer none, .int .i64 2].toArray ∧ q' = q) := by
  refine CallF.of Try.func36 Try.ntmps36 rfl (fun F cs => ?_)
  refine X.sub (p' := [(0, _), (1, _), (2, _), (3, _), (4, _)]) ⟨rfl, rfl, rfl, rfl, rfl, trivial⟩ ?_
  try unfold inR at hr
  try unfold thr at hb
  try unfold val at hb
  refine X.seq ?_
  refine X.region ?_
  refine XO.pu (Pu.assign rfl) ?_
  refine XO.pu (Pu.assign rfl) ?_
  refine XO.nil ?_
  refine X.sub (p' := [(11, _), (10, _), (0, _), (1, _), (2, _), (3, _), (4, _)]) ⟨rfl, rfl, rfl, rfl, rfl, rfl, rfl, trivial⟩ ?_
  refine X.seq ?_
  refine X.region ?_
  refine XO.pu (Pu.assign rfl) ?_
  refine XO.nil ?_
  refine X.sub (p' := [(12, _), (11, _), (10, _), (0, _), (1, _), (2, _), (3, _), (4, _)]) ⟨rfl, rfl, rfl, rfl, rfl, rfl, rfl, rfl, trivial⟩ ?_
  refine X.seq ?_
  refine X.region ?_
  refine XO.pu (Pu.assign rfl) ?_
  refine XO.pu (Pu.assign rfl) ?_
  refine XO.nil ?_
  refine X.sub (p' := [(14, _), (13, _), (12, _), (11, _), (10, _), (0, _), (1, _), (2, _), (3, _), (4, _)]) ⟨rfl, rfl, rfl, rfl, rfl, rfl, rfl, rfl, rfl, rfl, trivial⟩ ?_
  refine X.seq ?_
  refine X.seq ?_
  refine X.region ?_
  refine XO.pu (Pu.move rfl) ?_
  refine XO.nil ?_
  refine X.sub (p' := [(15, _), (14, _), (13, _), (12, _), (11, _), (10, _), (0, _), (1, _), (2, _), (4, _)]) ⟨rfl, rfl, rfl, rfl, rfl, rfl, rfl, rfl, rfl, rfl, trivial⟩ ?_
  refine X.block ?_
  refine X.seq ?_
  refine X.block ?_
  refine X.seq ?_
  refine X.block ?_
  refine X.seq ?_
  refine X.block ?_
  refine X.seq ?_
  refine X.seq ?_
  refine X.seq ?_
  refine X.region ?_
  refine XO.pu (Pu.eql rfl rfl) ?_
  refine XO.pu (Pu.assign rfl) ?_
  refine XO.nil ?_
  refine X.sub (p' := [(16, _), (15, _), (14, _), (13, _), (12, _), (11, _), (10, _), (0, _), (1, _), (2, _), (4, _)]) ⟨rfl, rfl, rfl, rfl, rfl, rfl, rfl, rfl, rfl, rfl, rfl, trivial⟩ ?_
  refine X.know 16 (.bool true) rfl (congrArg Value.bool (by simp)) ?_
  refine X.condT rfl ?_
  refine X.exit rfl ?_
  refine X.region ?_
  refine XO.pu (Pu.assign rfl) ?_
  refine XO.pu (Pu.assign rfl) ?_
  refine XO.nil ?_
  refine X.sub (p' := [(14, _), (13, _), (12, _), (11, _), (10, _), (0, _), (1, _), (2, _), (4, _)]) ⟨rfl, rfl, rfl, rfl, rfl, rfl, rfl, rfl, rfl, trivial⟩ ?_
  refine X.inBlock ?_
  refine X.seq ?_
  refine X.region ?_
  refine XO.pu (Pu.move rfl) ?_
  refine XO.pu (Pu.move rfl) ?_
  refine XO.pu (Pu.lss rfl rfl) ?_
  refine XO.pu (Pu.move rfl) ?_
  rcases Decidable.em (number < 0) with k8 | k8
  · skip
    refine XO.know 23 (.bool true) rfl (congrArg Value.bool ((by first | exact decide_eq_true (by omega) | exact decide_eq_false (by omega) | rfl | (simp; omega) | simp))) ?_
    refine XO.pass rfl ?_
    refine XO.pass rfl ?_
    refine XO.pass rfl ?_
    refine XO.pu (Pu.pickT rfl rfl) ?_
    refine XO.nil ?_
    refine X.sub (p' := [(27, _), (12, _), (11, _), (10, _), (0, _), (1, _), (2, _)]) ⟨rfl, rfl, rfl, rfl, rfl, rfl, rfl, trivial⟩ ?_
    refine X.condT rfl ?_
    refine X.region ?_
    refine XO.pu (Pu.assign rfl) ?_
    refine XO.nil ?_
    refine X.sub (p' := [(12, _), (11, _), (10, _), (0, _), (1, _), (2, _)]) ⟨rfl, rfl, rfl, rfl, rfl, rfl, trivial⟩ ?_
    refine X.inBlock ?_
    refine X.seq ?_
    refine X.seq ?_
    refine X.seq ?_
    refine X.region ?_
    refine XO.pu (Pu.move rfl) ?_
    refine XO.pu (Pu.lss rfl rfl) ?_
    refine XO.pu (Pu.move rfl) ?_
    refine XO.know 30 (.bool false) rfl (congrArg Value.bool ((by first | exact decide_eq_true (by omega) | exact decide_eq_false (by omega) | rfl | (simp; omega) | simp))) ?_
    refine XO.pu (Pu.move rfl) ?_
    refine XO.pu (Pu.move rfl) ?_
    refine XO.pu (Pu.len rfl Try.underlying71) ?_
    refine XO.pu (Pu.geq rfl rfl) ?_
    refine XO.pu (Pu.pickF rfl rfl) ?_
    refine XO.nil ?_
    refine X.sub (p' := [(35, _), (12, _), (11, _), (10, _), (0, _), (1, _), (2, _)]) ⟨rfl, rfl, rfl, rfl, rfl, rfl, rfl, trivial⟩ ?_
    refine X.know 35 (.bool false) rfl (congrArg Value.bool ((by first | exact decide_eq_true (by omega) | exact decide_eq_false (by omega) | rfl | (simp; omega) | simp))) ?_
    refine X.condF rfl ?_
    refine X.skip ?_
    refine X.seq ?_
    refine X.region ?_
    refine XO.pu (Pu.move rfl) ?_
    refine XO.cR Try.call55 (there_ok (clLe h leA)) ?_
    refine XO.pu (Pu.not rfl) ?_
    refine XO.nil ?_
    refine X.sub (p' := [(38, _), (12, _), (11, _), (10, _), (1, _), (2, _)]) ⟨rfl, rfl, rfl, rfl, rfl, rfl, trivial⟩ ?_
    refine X.know 38 (.bool false) rfl (congrArg Value.bool (rfl)) ?_
    refine X.condF rfl ?_
    refine X.skip ?_
    refine X.exit rfl ?_
    refine X.seq ?_
    refine X.seq ?_
    refine X.region ?_
    refine XO.pu (Pu.move rfl) ?_
    refine XO.pu (Pu.neq rfl rfl) ?_
    refine XO.nil ?_
    refine X.sub (p' := [(40, _), (12, _), (11, _), (10, _), (1, _), (2, _)]) ⟨rfl, rfl, rfl, rfl, rfl, rfl, trivial⟩ ?_
    refine X.know 40 (.bool true) rfl (congrArg Value.bool (rfl)) ?_
    refine X.condT rfl ?_
    refine X.seq ?_
    refine X.region ?_
    refine XO.pu (Pu.move rfl) ?_
    refine XO.pu (Pu.assign rfl) ?_
    refine XO.pu (Pu.assign rfl) ?_
    refine XO.nil ?_
    refine X.sub (p' := [(11, _), (10, _), (1, _), (2, _)]) ⟨rfl, rfl, rfl, rfl, trivial⟩ ?_
    refine X.retL (q) Try.func36 (res2 Try.results36 rfl rfl) ⟨_, rfl, rfl, rfl⟩
  · skip
    refine XO.know 23 (.bool false) rfl (congrArg Value.bool ((by first | exact decide_eq_true (by omega) | exact decide_eq_false (by omega) | rfl | (simp; omega) | simp))) ?_
    refine XO.pu (Pu.move rfl) ?_
    refine XO.pu (Pu.move rfl) ?_
    refine XO.pu (Pu.gtr rfl rfl) ?_
    refine XO.pu (Pu.pickF rfl rfl) ?_
    refine XO.nil ?_
    refine X.sub (p' := [(27, _), (12, _), (11, _), (10, _), (0, _), (1, _), (2, _)]) ⟨rfl, rfl, rfl, rfl, rfl, rfl, rfl, trivial⟩ ?_
    refine X.know 27 (.bool true) rfl (congrArg Value.bool ((by first | exact decide_eq_true (by omega) | exact decide_eq_false (by omega) | rfl | (simp; omega) | simp))) ?_
    refine X.condT rfl ?_
    refine X.region ?_
    refine XO.pu (Pu.assign rfl) ?_
    refine XO.nil ?_
    refine X.sub (p' := [(12, _), (11, _), (10, _), (0, _), (1, _), (2, _)]) ⟨rfl, rfl, rfl, rfl, rfl, rfl, trivial⟩ ?_
    refine X.inBlock ?_
    refine X.seq ?_
    refine X.seq ?_
    refine X.seq ?_
    refine X.region ?_
    refine XO.pu (Pu.move rfl) ?_
    refine XO.pu (Pu.lss rfl rfl) ?_
    refine XO.pu (Pu.move rfl) ?_
    refine XO.know 30 (.bool false) rfl (congrArg Value.bool ((by first | exact decide_eq_true (by omega) | exact decide_eq_false (by omega) | rfl | (simp; omega) | simp))) ?_
    refine XO.pu (Pu.move rfl) ?_
    refine XO.pu (Pu.move rfl) ?_
    refine XO.pu (Pu.len rfl Try.underlying71) ?_
    refine XO.pu (Pu.geq rfl rfl) ?_
    refine XO.pu (Pu.pickF rfl rfl) ?_
    refine XO.nil ?_
    refine X.sub (p' := [(35, _), (12, _), (11, _), (10, _), (0, _), (1, _), (2, _)]) ⟨rfl, rfl, rfl, rfl, rfl, rfl, rfl, trivial⟩ ?_
    refine X.know 35 (.bool false) rfl (congrArg Value.bool ((by first | exact decide_eq_true (by omega) | exact decide_eq_false (by omega) | rfl | (simp; omega) | simp))) ?_
    refine X.condF rfl ?_
    refine X.skip ?_
    refine X.seq ?_
    refine X.region ?_
    refine XO.pu (Pu.move rfl) ?_
    refine XO.cR Try.call55 (there_ok (clLe h leA)) ?_
    refine XO.pu (Pu.not rfl) ?_
    refine XO.nil ?_
    refine X.sub (p' := [(38, _), (12, _), (11, _), (10, _), (1, _), (2, _)]) ⟨rfl, rfl, rfl, rfl, rfl, rfl, trivial⟩ ?_
    refine X.know 38 (.bool false) rfl (congrArg Value.bool (rfl)) ?_
    refine X.condF rfl ?_
    refine X.skip ?_
    refine X.exit rfl ?_
    refine X.seq ?_
    refine X.seq ?_
    refine X.region ?_
    refine XO.pu (Pu.move rfl) ?_
    refine XO.pu (Pu.neq rfl rfl) ?_
    refine XO.nil ?_
    refine X.sub (p' := [(40, _), (12, _), (11, _), (10, _), (1, _), (2, _)]) ⟨rfl, rfl, rfl, rfl, rfl, rfl, trivial⟩ ?_
    refine X.know 40 (.bool true) rfl (congrArg Value.bool (rfl)) ?_
    refine X.condT rfl ?_
    refine X.seq ?_
    refine X.region ?_
    refine XO.pu (Pu.move rfl) ?_
    refine XO.pu (Pu.assign rfl) ?_
    refine XO.pu (Pu.assign rfl) ?_
    refine XO.nil ?_
    refine X.sub (p' := [(11, _), (10, _), (1, _), (2, _)]) ⟨rfl, rfl, rfl, rfl, trivial⟩ ?_
    refine X.retL (q) Try.func36 (res2 Try.results36 rfl rfl) ⟨_, rfl, rfl, rfl⟩
theorem findC1_ok (h : Cl q ⟨p, 0, none⟩ (.bool true)) (hn : n ≤ 1000000) (hr : i < n) (hb : thr number) : CallF Try.prog G 36 [.pointer (some ⟨p, 0, none⟩), .slice (some ⟨g, 0, none⟩) n c, .int .i64 (i : Int), .int .i64 1, .int .i64 number] q (Ret fun v q' => v = .tuple [.pointer (some ⟨g, i * 1, none⟩), .int .i64 0].toArray ∧ q' = q) := by
  refine CallF.of Try.func36 Try.ntmps36 rfl (fun F cs => ?_)
  refine X.sub (p' := [(0, _), (1, _), (2, _), (3, _), (4, _)]) ⟨rfl, rfl, rfl, rfl, rfl, trivial⟩ ?_
  try unfold inR at hr
  try unfold thr at hb
  try unfold val at hb
  refine X.seq ?_
  refine X.region ?_
  refine XO.pu (Pu.assign rfl) ?_
  refine XO.pu (Pu.assign rfl) ?_
  refine XO.nil ?_
  refine X.sub (p' := [(11, _), (10, _), (0, _), (1, _), (2, _), (3, _), (4, _)]) ⟨rfl, rfl, rfl, rfl, rfl, rfl, rfl, trivial⟩ ?_
  refine X.seq ?_
  refine X.region ?_
  refine XO.pu (Pu.assign rfl) ?_
  refine XO.nil ?_
  refine X.sub (p' := [(12, _), (11, _), (10, _), (0, _), (1, _), (2, _), (3, _), (4, _)]) ⟨rfl, rfl, rfl, rfl, rfl, rfl, rfl, rfl, trivial⟩ ?_
  refine X.seq ?_
  refine X.region ?_
  refine XO.pu (Pu.assign rfl) ?_
  refine XO.pu (Pu.assign rfl) ?_
  refine XO.nil ?_
  refine X.sub (p' := [(14, _), (13, _), (12, _), (11, _), (10, _), (0, _), (1, _), (2, _), (3, _), (4, _)]) ⟨rfl, rfl, rfl, rfl, rfl, rfl, rfl, rfl, rfl, rfl, trivial⟩ ?_
  refine X.seq ?_
  refine X.seq ?_
  refine X.region ?_
  refine XO.pu (Pu.move rfl) ?_
  refine XO.nil ?_
  refine X.sub (p' := [(15, _), (14, _), (13, _), (12, _), (11, _), (10, _), (0, _), (1, _), (2, _), (4, _)]) ⟨rfl, rfl, rfl, rfl, rfl, rfl, rfl, rfl, rfl, rfl, trivial⟩ ?_
  refine X.block ?_
  refine X.seq ?_
  refine X.block ?_
  refine X.seq ?_
  refine X.block ?_
  refine X.seq ?_
  refine X.block ?_
  refine X.seq ?_
  refine X.seq ?_
  refine X.seq ?_
  refine X.region ?_
  refine XO.pu (Pu.eql rfl rfl) ?_
  refine XO.pu (Pu.assign rfl) ?_
  refine XO.nil ?_
  refine X.sub (p' := [(16, _), (15, _), (14, _), (13, _), (12, _), (11, _), (10, _), (0, _), (1, _), (2, _), (4, _)]) ⟨rfl, rfl, rfl, rfl, rfl, rfl, rfl, rfl, rfl, rfl, rfl, trivial⟩ ?_
  refine X.know 16 (.bool true) rfl (congrArg Value.bool (by simp)) ?_
  refine X.condT rfl ?_
  refine X.exit rfl ?_
  refine X.region ?_
  refine XO.pu (Pu.assign rfl) ?_
  refine XO.pu (Pu.assign rfl) ?_
  refine XO.nil ?_
  refine X.sub (p' := [(14, _), (13, _), (12, _), (11, _), (10, _), (0, _), (1, _), (2, _), (4, _)]) ⟨rfl, rfl, rfl, rfl, rfl, rfl, rfl, rfl, rfl, trivial⟩ ?_
  refine X.inBlock ?_
  refine X.seq ?_
  refine X.region ?_
  refine XO.pu (Pu.move rfl) ?_
  refine XO.pu (Pu.move rfl) ?_
  refine XO.pu (Pu.lss rfl rfl) ?_
  refine XO.pu (Pu.move rfl) ?_
  refine XO.know 23 (.bool false) rfl (congrArg Value.bool ((by first | exact decide_eq_true (by omega) | exact decide_eq_false (by omega) | rfl | (simp; omega) | simp))) ?_
  refine XO.pu (Pu.move rfl) ?_
  refine XO.pu (Pu.move rfl) ?_
  refine XO.pu (Pu.gtr rfl rfl) ?_
  refine XO.pu (Pu.pickF rfl rfl) ?_
  refine XO.nil ?_
  refine X.sub (p' := [(27, _), (12, _), (11, _), (10, _), (0, _), (1, _), (2, _)]) ⟨rfl, rfl, rfl, rfl, rfl, rfl, rfl, trivial⟩ ?_
  refine X.know 27 (.bool false) rfl (congrArg Value.bool ((by first | exact decide_eq_true (by omega) | exact decide_eq_false (by omega) | rfl | (simp; omega) | simp))) ?_
  refine X.condF rfl ?_
  refine X.skip ?_
  refine X.inBlock ?_
  refine X.seq ?_
  refine X.seq ?_
  refine X.seq ?_
  refine X.region ?_
  refine XO.pu (Pu.move rfl) ?_
  refine XO.pu (Pu.lss rfl rfl) ?_
  refine XO.pu (Pu.move rfl) ?_
  refine XO.know 30 (.bool false) rfl (congrArg Value.bool ((by first | exact decide_eq_true (by omega) | exact decide_eq_false (by omega) | rfl | (simp; omega) | simp))) ?_
  refine XO.pu (Pu.move rfl) ?_
  refine XO.pu (Pu.move rfl) ?_
  refine XO.pu (Pu.len rfl Try.underlying71) ?_
  refine XO.pu (Pu.geq rfl rfl) ?_
  refine XO.pu (Pu.pickF rfl rfl) ?_
  refine XO.nil ?_
  refine X.sub (p' := [(35, _), (12, _), (11, _), (10, _), (0, _), (1, _), (2, _)]) ⟨rfl, rfl, rfl, rfl, rfl, rfl, rfl, trivial⟩ ?_
  refine X.know 35 (.bool false) rfl (congrArg Value.bool ((by first | exact decide_eq_true (by omega) | exact decide_eq_false (by omega) | rfl | (simp; omega) | simp))) ?_
  refine X.condF rfl ?_
  refine X.skip ?_
  refine X.seq ?_
  refine X.region ?_
  refine XO.pu (Pu.move rfl) ?_
  refine XO.cR Try.call55 (there_ok (clLe h leA)) ?_
  refine XO.pu (Pu.not rfl) ?_
  refine XO.nil ?_
  refine X.sub (p' := [(38, _), (12, _), (11, _), (10, _), (1, _), (2, _)]) ⟨rfl, rfl, rfl, rfl, rfl, rfl, trivial⟩ ?_
  refine X.know 38 (.bool false) rfl (congrArg Value.bool (rfl)) ?_
  refine X.condF rfl ?_
  refine X.skip ?_
  refine X.exit rfl ?_
  refine X.seq ?_
  refine X.seq ?_
  refine X.region ?_
  refine XO.pu (Pu.move rfl) ?_
  refine XO.pu (Pu.neq rfl rfl) ?_
  refine XO.nil ?_
  refine X.sub (p' := [(40, _), (12, _), (11, _), (10, _), (1, _), (2, _)]) ⟨rfl, rfl, rfl, rfl, rfl, rfl, trivial⟩ ?_
  refine X.know 40 (.bool false) rfl (congrArg Value.bool (rfl)) ?_
  refine X.condF rfl ?_
  refine X.skip ?_
  refine X.seq ?_
  refine X.region ?_
  refine XO.pu (Pu.move rfl) ?_
  refine XO.pu (Pu.move rfl) ?_
  refine XO.pu (Pu.indexAddr rfl rfl Try.underlying71 Try.sizeOf89 (by omega) (by omega)) ?_
  refine XO.pu (Pu.assign rfl) ?_
  refine XO.pu (Pu.assign rfl) ?_
  refine XO.nil ?_
  refine X.sub (p' := [(11, _), (10, _)]) ⟨rfl, rfl, trivial⟩ ?_
  refine X.retL (q) Try.func36 (res2 Try.results36 rfl rfl) ⟨_, rfl, by simp, rfl⟩
theorem findH0_rng (h : Cl q ⟨p, 0, none⟩ (.bool true)) (hn : n ≤ 1000000) (hr : ¬ inR at_ n) : CallF Try.prog G 41 [.pointer (some ⟨p, 0, none⟩), .slice a n c, .int .i64 at_, .int .i64 0, .int .i64 0] q (Ret fun v q' => v = .tuple [.pointer none, .int .i64 4].toArray ∧ q' = q) := by
  refine CallF.of Try.func41 Try.ntmps41 rfl (fun F cs => ?_)
  refine X.sub (p' := [(0, _), (1, _), (2, _), (3, _), (4, _)]) ⟨rfl, rfl, rfl, rfl, rfl, trivial⟩ ?_
  try unfold inR at hr
  try unfold thr at hb
  try unfold val at hb
  refine X.seq ?_
  refine X.region ?_
  refine XO.pu (Pu.assign rfl) ?_
  refine XO.pu (Pu.assign rfl) ?_
  refine XO.nil ?_
  refine X.sub (p' := [(11, _), (10, _), (0, _), (1, _), (2, _), (3, _), (4, _)]) ⟨rfl, rfl, rfl, rfl, rfl, rfl, rfl, trivial⟩ ?_
  refine X.seq ?_
  refine X.region ?_
  refine XO.pu (Pu.assign rfl) ?_
  refine XO.nil ?_
  refine X.sub (p' := [(12, _), (11, _), (10, _), (0, _), (1, _), (2, _), (3, _), (4, _)]) ⟨rfl, rfl, rfl, rfl, rfl, rfl, rfl, rfl, trivial⟩ ?_
  refine X.seq ?_
  refine X.region ?_
  refine XO.pu (Pu.assign rfl) ?_
  refine XO.pu (Pu.assign rfl) ?_
  refine XO.nil ?_
  refine X.sub (p' := [(14, _), (13, _), (12, _), (11, _), (10, _), (0, _), (1, _), (2, _), (3, _), (4, _)]) ⟨rfl, rfl, rfl, rfl, rfl, rfl, rfl, rfl, rfl, rfl, trivial⟩ ?_
  refine X.seq ?_
  refine X.seq ?_
  refine X.region ?_
  refine XO.pu (Pu.move rfl) ?_
  refine XO.nil ?_
  refine X.sub (p' := [(15, _), (14, _), (13, _), (12, _), (11, _), (10, _), (0, _), (1, _), (2, _), (4, _)]) ⟨rfl, rfl, rfl, rfl, rfl, rfl, rfl, rfl, rfl, rfl, trivial⟩ ?_
  refine X.block ?_
  refine X.seq ?_
  refine X.block ?_
  refine X.seq ?_
  refine X.block ?_
  refine X.seq ?_
  refine X.block ?_
  refine X.seq ?_
  refine X.seq ?_
  refine X.seq ?_
  refine X.region ?_
  refine XO.pu (Pu.eql rfl rfl) ?_
  refine XO.pu (Pu.assign rfl) ?_
  refine XO.nil ?_
  refine X.sub (p' := [(16, _), (15, _), (14, _), (13, _), (12, _), (11, _), (10, _), (0, _), (1, _), (2, _), (4, _)]) ⟨rfl, rfl, rfl, rfl, rfl, rfl, rfl, rfl, rfl, rfl, rfl, trivial⟩ ?_
  refine X.know 16 (.bool false) rfl (congrArg Value.bool (by simp)) ?_
  refine X.condF rfl ?_
  refine X.skip ?_
  refine X.seq ?_
  refine X.region ?_
  refine XO.pu (Pu.eql rfl rfl) ?_
  refine XO.pu (Pu.assign rfl) ?_
  refine XO.nil ?_
  refine X.sub (p' := [(18, _), (14, _), (13, _), (12, _), (11, _), (10, _), (0, _), (1, _), (2, _), (4, _)]) ⟨rfl, rfl, rfl, rfl, rfl, rfl, rfl, rfl, rfl, rfl, trivial⟩ ?_
  refine X.know 18 (.bool false) rfl (congrArg Value.bool (by simp)) ?_
  refine X.condF rfl ?_
  refine X.skip ?_
  refine X.exit rfl ?_
  refine X.seq ?_
  refine X.seq ?_
  refine X.seq ?_
  refine X.region ?_
  refine XO.pu (Pu.move rfl) ?_
  refine XO.pu (Pu.lss rfl rfl) ?_
  refine XO.pu (Pu.move rfl) ?_
  rcases Decidable.em (at_ < 0) with k1 | k1
  · skip
    refine XO.know 30 (.bool true) rfl (congrArg Value.bool ((by first | exact decide_eq_true (by omega) | exact decide_eq_false (by omega) | rfl | (simp; omega) | simp))) ?_
    refine XO.pass rfl ?_
    refine XO.pass rfl ?_
    refine XO.pass rfl ?_
    refine XO.pass rfl ?_
    refine XO.pu (Pu.pickT rfl rfl) ?_
    refine XO.nil ?_
    refine X.sub (p' := [(35, _), (12, _), (11, _), (10, _), (0, _), (1, _), (2, _)]) ⟨rfl, rfl, rfl, rfl, rfl, rfl, rfl, trivial⟩ ?_
    refine X.condT rfl ?_
    refine X.region ?_
    refine XO.pu (Pu.assign rfl) ?_
    refine XO.nil ?_
    refine X.sub (p' := [(12, _), (11, _), (10, _), (0, _), (1, _), (2, _)]) ⟨rfl, rfl, rfl, rfl, rfl, rfl, trivial⟩ ?_
    refine X.seq ?_
    refine X.region ?_
    refine XO.pu (Pu.move rfl) ?_
    refine XO.cR Try.call55 (there_ok (clLe h leA)) ?_
    refine XO.pu (Pu.not rfl) ?_
    refine XO.nil ?_
    refine X.sub (p' := [(38, _), (12, _), (11, _), (10, _), (1, _), (2, _)]) ⟨rfl, rfl, rfl, rfl, rfl, rfl, trivial⟩ ?_
    refine X.know 38 (.bool false) rfl (congrArg Value.bool (rfl)) ?_
    refine X.condF rfl ?_
    refine X.skip ?_
    refine X.exit rfl ?_
    refine X.seq ?_
    refine X.seq ?_
    refine X.region ?_
    refine XO.pu (Pu.move rfl) ?_
    refine XO.pu (Pu.neq rfl rfl) ?_
    refine XO.nil ?_
    refine X.sub (p' := [(40, _), (12, _), (11, _), (10, _), (1, _), (2, _)]) ⟨rfl, rfl, rfl, rfl, rfl, rfl, trivial⟩ ?_
    refine X.know 40 (.bool true) rfl (congrArg Value.bool (rfl)) ?_
    refine X.condT rfl ?_
    refine X.seq ?_
    refine X.region ?_
    refine XO.pu (Pu.move rfl) ?_
    refine XO.pu (Pu.assign rfl) ?_
    refine XO.pu (Pu.assign rfl) ?_
    refine XO.nil ?_
    refine X.sub (p' := [(11, _), (10, _), (1, _), (2, _)]) ⟨rfl, rfl, rfl, rfl, trivial⟩ ?_
    refine X.retL (q) Try.func41 (res2 Try.results41 rfl rfl) ⟨_, rfl, rfl, rfl⟩
  · skip
    refine XO.know 30 (.bool false) rfl (congrArg Value.bool ((by first | exact decide_eq_true (by omega) | exact decide_eq_false (by omega) | rfl | (simp; omega) | simp))) ?_
    refine XO.pu (Pu.move rfl) ?_
    refine XO.pu (Pu.move rfl) ?_
    refine XO.pu (Pu.len rfl Try.underlying72) ?_
    refine XO.pu (Pu.geq rfl rfl) ?_
    refine XO.pu (Pu.pickF rfl rfl) ?_
    refine XO.nil ?_
    refine X.sub (p' := [(35, _), (12, _), (11, _), (10, _), (0, _), (1, _), (2, _)]) ⟨rfl, rfl, rfl, rfl, rfl, rfl, rfl, trivial⟩ ?_
    refine X.know 35 (.bool true) rfl (congrArg Value.bool ((by first | exact decide_eq_true (by omega) | exact decide_eq_false (by omega) | rfl | (simp; omega) | simp))) ?_
    refine X.condT rfl ?_
    refine X.region ?_
    refine XO.pu (Pu.assign rfl) ?_
    refine XO.nil ?_
    refine X.sub (p' := [(12, _), (11, _), (10, _), (0, _), (1, _), (2, _)]) ⟨rfl, rfl, rfl, rfl, rfl, rfl, trivial⟩ ?_
    refine X.seq ?_
    refine X.region ?_
    refine XO.pu (Pu.move rfl) ?_
    refine XO.cR Try.call55 (there_ok (clLe h leA)) ?_
    refine XO.pu (Pu.not rfl) ?_
    refine XO.nil ?_
    refine X.sub (p' := [(38, _), (12, _), (11, _), (10, _), (1, _), (2, _)]) ⟨rfl, rfl, rfl, rfl, rfl, rfl, trivial⟩ ?_
    refine X.know 38 (.bool false) rfl (congrArg Value.bool (rfl)) ?_
    refine X.condF rfl ?_
    refine X.skip ?_
    refine X.exit rfl ?_
    refine X.seq ?_
    refine X.seq ?_
    refine X.region ?_
    refine XO.pu (Pu.move rfl) ?_
    refine XO.pu (Pu.neq rfl rfl) ?_
    refine XO.nil ?_
    refine X.sub (p' := [(40, _), (12, _), (11, _), (10, _), (1, _), (2, _)]) ⟨rfl, rfl, rfl, rfl, rfl, rfl, trivial⟩ ?_
    refine X.know 40 (.bool true) rfl (congrArg Value.bool (rfl)) ?_
    refine X.condT rfl ?_
    refine X.seq ?_
    refine X.region ?_
    refine XO.pu (Pu.move rfl) ?_
    refine XO.pu (Pu.assign rfl) ?_
    refine XO.pu (Pu.assign rfl) ?_
    refine XO.nil ?_
    refine X.sub (p' := [(11, _), (10, _), (1, _), (2, _)]) ⟨rfl, rfl, rfl, rfl, trivial⟩ ?_
    refine X.retL (q) Try.func41 (res2 Try.results41 rfl rfl) ⟨_, rfl, rfl, rfl⟩
theorem findH0_ok (h : Cl q ⟨p, 0, none⟩ (.bool true)) (hn : n ≤ 1000000) (hr : i < n) (hb : True) : CallF Try.prog G 41 [.pointer (some ⟨p, 0, none⟩), .slice (some ⟨g, 0, none⟩) n c, .int .i64 (i : Int), .int .i64 0, .int .i64 0] q (Ret fun v q' => v = .tuple [.pointer (some ⟨g, i * 3, none⟩), .int .i64 0].toArray ∧ q' = q) := by
  refine CallF.of Try.func41 Try.ntmps41 rfl (fun F cs => ?_)
  refine X.sub (p' := [(0, _), (1, _), (2, _), (3, _), (4, _)]) ⟨rfl, rfl, rfl, rfl, rfl, trivial⟩ ?_
  try unfold inR at hr
  try unfold thr at hb
  try unfold val at hb
  refine X.seq ?_
  refine X.region ?_
  refine XO.pu (Pu.assign rfl) ?_
  refine XO.pu (Pu.assign rfl) ?_
  refine XO.nil ?_
  refine X.sub (p' := [(11, _), (10, _), (0, _), (1, _), (2, _), (3, _), (4, _)]) ⟨rfl, rfl, rfl, rfl, rfl, rfl, rfl, trivial⟩ ?_
  refine X.seq ?_
  refine X.region ?_
  refine XO.pu (Pu.assign rfl) ?_
  refine XO.nil ?_
  refine X.sub (p' := [(12, _), (11, _), (10, _), (0, _), (1, _), (2, _), (3, _), (4, _)]) ⟨rfl, rfl, rfl, rfl, rfl, rfl, rfl, rfl, trivial⟩ ?_
  refine X.seq ?_
  refine X.region ?_
  refine XO.pu (Pu.assign rfl) ?_
  refine XO.pu (Pu.assign rfl) ?_
  refine XO.nil ?_
  refine X.sub (p' := [(14, _), (13, _), (12, _), (11, _), (10, _), (0, _), (1, _), (2, _), (3, _), (4, _)]) ⟨rfl, rfl, rfl, rfl, rfl, rfl, rfl, rfl, rfl, rfl, trivial⟩ ?_
  refine X.seq ?_
  refine X.seq ?_
  refine X.region ?_
  refine XO.pu (Pu.move rfl) ?_
  refine XO.nil ?_
  refine X.sub (p' := [(15, _), (14, _), (13, _), (12, _), (11, _), (10, _), (0, _), (1, _), (2, _), (4, _)]) ⟨rfl, rfl, rfl, rfl, rfl, rfl, rfl, rfl, rfl, rfl, trivial⟩ ?_
  refine X.block ?_
  refine X.seq ?_
  refine X.block ?_
  refine X.seq ?_
  refine X.block ?_
  refine X.seq ?_
  refine X.block ?_
  refine X.seq ?_
  refine X.seq ?_
  refine X.seq ?_
  refine X.region ?_
  refine XO.pu (Pu.eql rfl rfl) ?_
  refine XO.pu (Pu.assign rfl) ?_
  refine XO.nil ?_
  refine X.sub (p' := [(16, _), (15, _), (14, _), (13, _), (12, _), (11, _), (10, _), (0, _), (1, _), (2, _), (4, _)]) ⟨rfl, rfl, rfl, rfl, rfl, rfl, rfl, rfl, rfl, rfl, rfl, trivial⟩ ?_
  refine X.know 16 (.bool false) rfl (congrArg Value.bool (by simp)) ?_
  refine X.condF rfl ?_
  refine X.skip ?_
  refine X.seq ?_
  refine X.region ?_
  refine XO.pu (Pu.eql rfl rfl) ?_
  refine XO.pu (Pu.assign rfl) ?_
  refine XO.nil ?_
  refine X.sub (p' := [(18, _), (14, _), (13, _), (12, _), (11, _), (10, _), (0, _), (1, _), (2, _), (4, _)]) ⟨rfl, rfl, rfl, rfl, rfl, rfl, rfl, rfl, rfl, rfl, trivial⟩ ?_
  refine X.know 18 (.bool false) rfl (congrArg Value.bool (by simp)) ?_
  refine X.condF rfl ?_
  refine X.skip ?_
  refine X.exit rfl ?_
  refine X.seq ?_
  refine X.seq ?_
  refine X.seq ?_
  refine X.region ?_
  refine XO.pu (Pu.move rfl) ?_
  refine XO.pu (Pu.lss rfl rfl) ?_
  refine XO.pu (Pu.move rfl) ?_
  refine XO.know 30 (.bool false) rfl (congrArg Value.bool ((by first | exact decide_eq_true (by omega) | exact decide_eq_false (by omega) | rfl | (simp; omega) | simp))) ?_
  refine XO.pu (Pu.move rfl) ?_
  refine XO.pu (Pu.move rfl) ?_
  refine XO.pu (Pu.len rfl Try.underlying72) ?_
  refine XO.pu (Pu.geq rfl rfl) ?_
  refine XO.pu (Pu.pickF rfl rfl) ?_
  refine XO.nil ?_
  refine X.sub (p' := [(35, _), (12, _), (11, _), (10, _), (0, _), (1, _), (2, _)]) ⟨rfl, rfl, rfl, rfl, rfl, rfl, rfl, trivial⟩ ?_
  refine X.know 35 (.bool false) rfl (congrArg Value.bool ((by first | exact decide_eq_true (by omega) | exact decide_eq_false (by omega) | rfl | (simp; omega) | simp))) ?_
  refine X.condF rfl ?_
  refine X.skip ?_
  refine X.seq ?_
  refine X.region ?_
  refine XO.pu (Pu.move rfl) ?_
  refine XO.cR Try.call55 (there_ok (clLe h leA)) ?_
  refine XO.pu (Pu.not rfl) ?_
  refine XO.nil ?_
  refine X.sub (p' := [(38, _), (12, _), (11, _), (10, _), (1, _), (2, _)]) ⟨rfl, rfl, rfl, rfl, rfl, rfl, trivial⟩ ?_
  refine X.know 38 (.bool false) rfl (congrArg Value.bool (rfl)) ?_
  refine X.condF rfl ?_
  refine X.skip ?_
  refine X.exit rfl ?_
  refine X.seq ?_
  refine X.seq ?_
  refine X.region ?_
  refine XO.pu (Pu.move rfl) ?_
  refine XO.pu (Pu.neq rfl rfl) ?_
  refine XO.nil ?_
  refine X.sub (p' := [(40, _), (12, _), (11, _), (10, _), (1, _), (2, _)]) ⟨rfl, rfl, rfl, rfl, rfl, rfl, trivial⟩ ?_
  refine X.know 40 (.bool false) rfl (congrArg Value.bool (rfl)) ?_
  refine X.condF rfl ?_
  refine X.skip ?_
  refine X.seq ?_
  refine X.region ?_
  refine XO.pu (Pu.move rfl) ?_
  refine XO.pu (Pu.move rfl) ?_
  refine XO.pu (Pu.indexAddr rfl rfl Try.underlying72 Try.sizeOf78 (by omega) (by omega)) ?_
  refine XO.pu (Pu.assign rfl) ?_
  refine XO.pu (Pu.assign rfl) ?_
  refine XO.nil ?_
  refine X.sub (p' := [(11, _), (10, _)]) ⟨rfl, rfl, trivial⟩ ?_
  refine X.retL (q) Try.func41 (res2 Try.results41 rfl rfl) ⟨_, rfl, by simp, rfl⟩
theorem findH2_rng (h : Cl q ⟨p, 0, none⟩ (.bool true)) (hn : n ≤ 1000000) (hr : ¬ inR at_ n) : CallF Try.prog G 41 [.pointer (some ⟨p, 0, none⟩), .slice a n c, .int .i64 at_, .int .i64 2, .int .i64 number] q (Ret fun v q' => v = .tuple [.pointer none, .int .i64 4].toArray ∧ q' = q) := by
  refine CallF.of Try.func41 Try.ntmps41 rfl (fun F cs => ?_)
  refine X.sub (p' := [(0, _), (1, _), (2, _), (3, _), (4, _)]) ⟨rfl, rfl, rfl, rfl, rfl, trivial⟩ ?_
  try unfold inR at hr
  try unfold thr at hb
  try unfold val at hb
  refine X.seq ?_
  refine X.region ?_
  refine XO.pu (Pu.assign rfl) ?_
  refine XO.pu (Pu.assign rfl) ?_
  refine XO.nil ?_
  refine X.sub (p' := [(11, _), (10, _), (0, _), (1, _), (2, _), (3, _), (4, _)]) ⟨rfl, rfl, rfl, rfl, rfl, rfl, rfl, trivial⟩ ?_
  refine X.seq ?_
  refine X.region ?_
  refine XO.pu (Pu.assign rfl) ?_
  refine XO.nil ?_
  refine X.sub (p' := [(12, _), (11, _), (10, _), (0, _), (1, _), (2, _), (3, _), (4, _)]) ⟨rfl, rfl, rfl, rfl, rfl, rfl, rfl, rfl, trivial⟩ ?_
  refine X.seq ?_
  refine X.region ?_
  refine XO.pu (Pu.assign rfl) ?_
  refine XO.pu (Pu.assign rfl) ?_
  refine XO.nil ?_
  refine X.sub (p' := [(14, _), (13, _), (12, _), (11, _), (10, _), (0, _), (1, _), (2, _), (3, _), (4, _)]) ⟨rfl, rfl, rfl, rfl, rfl, rfl, rfl, rfl, rfl, rfl, trivial⟩ ?_
  refine X.seq ?_
  refine X.seq ?_
  refine X.region ?_
  refine XO.pu (Pu.move rfl) ?_
  refine XO.nil ?_
  refine X.sub (p' := [(15, _), (14, _), (13, _), (12, _), (11, _), (10, _), (0, _), (1, _), (2, _), (4, _)]) ⟨rfl, rfl, rfl, rfl, rfl, rfl, rfl, rfl, rfl, rfl, trivial⟩ ?_
  refine X.block ?_
  refine X.seq ?_
  refine X.block ?_
  refine X.seq ?_
  refine X.block ?_
  refine X.seq ?_
  refine X.block ?_
  refine X.seq ?_
  refine X.seq ?_
  refine X.seq ?_
  refine X.region ?_
  refine XO.pu (Pu.eql rfl rfl) ?_
  refine XO.pu (Pu.assign rfl) ?_
  refine XO.nil ?_
  refine X.sub (p' := [(16, _), (15, _), (14, _), (13, _), (12, _), (11, _), (10, _), (0, _), (1, _), (2, _), (4, _)]) ⟨rfl, rfl, rfl, rfl, rfl, rfl, rfl, rfl, rfl, rfl, rfl, trivial⟩ ?_
  refine X.know 16 (.bool false) rfl (congrArg Value.bool (by simp)) ?_
  refine X.condF rfl ?_
  refine X.skip ?_
  refine X.seq ?_
  refine X.region ?_
  refine XO.pu (Pu.eql rfl rfl) ?_
  refine XO.pu (Pu.assign rfl) ?_
  refine XO.nil ?_
  refine X.sub (p' := [(18, _), (14, _), (13, _), (12, _), (11, _), (10, _), (0, _), (1, _), (2, _), (4, _)]) ⟨rfl, rfl, rfl, rfl, rfl, rfl, rfl, rfl, rfl, rfl, trivial⟩ ?_
  refine X.know 18 (.bool true) rfl (congrArg Value.bool (by simp)) ?_
  refine X.condT rfl ?_
  refine X.exit rfl ?_
  refine X.seq ?_
  refine X.region ?_
  refine XO.pu (Pu.move rfl) ?_
  refine XO.pu (Pu.move rfl) ?_
  refine XO.pu (Pu.lss rfl rfl) ?_
  refine XO.pu (Pu.move rfl) ?_
  rcases Decidable.em (number < -2147483648) with k8 | k8
  · skip
    refine XO.know 23 (.bool true) rfl (congrArg Value.bool ((by first | exact decide_eq_true (by omega) | exact decide_eq_false (by omega) | rfl | (simp; omega) | simp))) ?_
    refine XO.pass rfl ?_
    refine XO.pass rfl ?_
    refine XO.pass rfl ?_
    refine XO.pu (Pu.pickT rfl rfl) ?_
    refine XO.nil ?_
    refine X.sub (p' := [(27, _), (12, _), (11, _), (10, _), (0, _), (1, _), (2, _)]) ⟨rfl, rfl, rfl, rfl, rfl, rfl, rfl, trivial⟩ ?_
    refine X.condT rfl ?_
    refine X.region ?_
    refine XO.pu (Pu.assign rfl) ?_
    refine XO.nil ?_
    refine X.sub (p' := [(12, _), (11, _), (10, _), (0, _), (1, _), (2, _)]) ⟨rfl, rfl, rfl, rfl, rfl, rfl, trivial⟩ ?_
    refine X.inBlock ?_
    refine X.seq ?_
    refine X.seq ?_
    refine X.seq ?_
    refine X.region ?_
    refine XO.pu (Pu.move rfl) ?_
    refine XO.pu (Pu.lss rfl rfl) ?_
    refine XO.pu (Pu.move rfl) ?_
    rcases Decidable.em (at_ < 0) with k1 | k1
    · skip
      refine XO.know 30 (.bool true) rfl (congrArg Value.bool ((by first | exact decide_eq_true (by omega) | exact decide_eq_false (by omega) | rfl | (simp; omega) | simp))) ?_
      refine XO.pass rfl ?_
      refine XO.pass rfl ?_
      refine XO.pass rfl ?_
      refine XO.pass rfl ?_
      refine XO.pu (Pu.pickT rfl rfl) ?_
      refine XO.nil ?_
      refine X.sub (p' := [(35, _), (12, _), (11, _), (10, _), (0, _), (1, _), (2, _)]) ⟨rfl, rfl, rfl, rfl, rfl, rfl, rfl, trivial⟩ ?_
      refine X.condT rfl ?_
      refine X.region ?_
      refine XO.pu (Pu.assign rfl) ?_
      refine XO.nil ?_
      refine X.sub (p' := [(12, _), (11, _), (10, _), (0, _), (1, _), (2, _)]) ⟨rfl, rfl, rfl, rfl, rfl, rfl, trivial⟩ ?_
      refine X.seq ?_
      refine X.region ?_
      refine XO.pu (Pu.move rfl) ?_
      refine XO.cR Try.call55 (there_ok (clLe h leA)) ?_
      refine XO.pu (Pu.not rfl) ?_
      refine XO.nil ?_
      refine X.sub (p' := [(38, _), (12, _), (11, _), (10, _), (1, _), (2, _)]) ⟨rfl, rfl, rfl, rfl, rfl, rfl, trivial⟩ ?_
      refine X.know 38 (.bool false) rfl (congrArg Value.bool (rfl)) ?_
      refine X.condF rfl ?_
      refine X.skip ?_
      refine X.exit rfl ?_
      refine X.seq ?_
      refine X.seq ?_
      refine X.region ?_
      refine XO.pu (Pu.move rfl) ?_
      refine XO.pu (Pu.neq rfl rfl) ?_
      refine XO.nil ?_
      refine X.sub (p' := [(40, _), (12, _), (11, _), (10, _), (1, _), (2, _)]) ⟨rfl, rfl, rfl, rfl, rfl, rfl, trivial⟩ ?_
      refine X.know 40 (.bool true) rfl (congrArg Value.bool (rfl)) ?_
      refine X.condT rfl ?_
      refine X.seq ?_
      refine X.region ?_
      refine XO.pu (Pu.move rfl) ?_
      refine XO.pu (Pu.assign rfl) ?_
      refine XO.pu (Pu.assign rfl) ?_
      refine XO.nil ?_
      refine X.sub (p' := [(11, _), (10, _), (1, _), (2, _)]) ⟨rfl, rfl, rfl, rfl, trivial⟩ ?_
      refine X.retL (q) Try.func41 (res2 Try.results41 rfl rfl) ⟨_, rfl, rfl, rfl⟩
    · skip
      refine XO.know 30 (.bool false) rfl (congrArg Value.bool ((by first | exact decide_eq_true (by omega) | exact decide_eq_false (by omega) | rfl | (simp; omega) | simp))) ?_
      refine XO.pu (Pu.move rfl) ?_
      refine XO.pu (Pu.move rfl) ?_
      refine XO.pu (Pu.len rfl Try.underlying72) ?_
      refine XO.pu (Pu.geq rfl rfl) ?_
      refine XO.pu (Pu.pickF rfl rfl) ?_
      refine XO.nil ?_
      refine X.sub (p' := [(35, _), (12, _), (11, _), (10, _), (0, _), (1, _), (2, _)]) ⟨rfl, rfl, rfl, rfl, rfl, rfl, rfl, trivial⟩ ?_
      refine X.know 35 (.bool true) rfl (congrArg Value.bool ((by first | exact decide_eq_true (by omega) | exact decide_eq_false (by omega) | rfl | (simp; omega) | simp))) ?_
      refine X.condT rfl ?_
      refine X.region ?_
      refine XO.pu (Pu.assign rfl) ?_
      refine XO.nil ?_
      refine X.sub (p' := [(12, _), (11, _), (10, _), (0, _), (1, _), (2, _)]) ⟨rfl, rfl, rfl, rfl, rfl, rfl, trivial⟩ ?_
      refine X.seq ?_
      refine X.region ?_
      refine XO.pu (Pu.move rfl) ?_
      refine XO.cR Try.call55 (there_ok (clLe h leA)) ?_
      refine XO.pu (Pu.not rfl) ?_
      refine XO.nil ?_
      refine X.sub (p' := [(38, _), (12, _), (11, _), (10, _), (1, _), (2, _)]) ⟨rfl, rfl, rfl, rfl, rfl, rfl, trivial⟩ ?_
      refine X.know 38 (.bool false) rfl (congrArg Value.bool (rfl)) ?_
      refine X.condF rfl ?_
      refine X.skip ?_
      refine X.exit rfl ?_
      refine X.seq ?_
      refine X.seq ?_
      refine X.region ?_
      refine XO.pu (Pu.move rfl) ?_
      refine XO.pu (Pu.neq rfl rfl) ?_
      refine XO.nil ?_
      refine X.sub (p' := [(40, _), (12, _), (11, _), (10, _), (1, _), (2, _)]) ⟨rfl, rfl, rfl, rfl, rfl, rfl, trivial⟩ ?_
      refine X.know 40 (.bool true) rfl (congrArg Value.bool (rfl)) ?_
      refine X.condT rfl ?_
      refine X.seq ?_
      refine X.region ?_
      refine XO.pu (Pu.move rfl) ?_
      refine XO.pu (Pu.assign rfl) ?_
      refine XO.pu (Pu.assign rfl) ?_
      refine XO.nil ?_
      refine X.sub (p' := [(11, _), (10, _), (1, _), (2, _)]) ⟨rfl, rfl, rfl, rfl, trivial⟩ ?_
      refine X.retL (q) Try.func41 (res2 Try.results41 rfl rfl) ⟨_, rfl, rfl, rfl⟩
  · skip
    rcases Decidable.em (number > 2147483647) with k9 | k9
    · skip
      refine XO.know 23 (.bool false) rfl (congrArg Value.bool ((by first | exact decide_eq_true (by omega) | exact decide_eq_false (by omega) | rfl | (simp; omega) | simp))) ?_
      refine XO.pu (Pu.move rfl) ?_
      refine XO.pu (Pu.move rfl) ?_
      refine XO.pu (Pu.gtr rfl rfl) ?_
      refine XO.pu (Pu.pickF rfl rfl) ?_
      refine XO.nil ?_
      refine X.sub (p' := [(27, _), (12, _), (11, _), (10, _), (0, _), (1, _), (2, _)]) ⟨rfl, rfl, rfl, rfl, rfl, rfl, rfl, trivial⟩ ?_
      refine X.know 27 (.bool true) rfl (congrArg Value.bool ((by first | exact decide_eq_true (by omega) | exact decide_eq_false (by omega) | rfl | (simp; omega) | simp))) ?_
      refine X.condT rfl ?_
      refine X.region ?_
      refine XO.pu (Pu.assign rfl) ?_
      refine XO.nil ?_
      refine X.sub (p' := [(12, _), (11, _), (10, _), (0, _), (1, _), (2, _)]) ⟨rfl, rfl, rfl, rfl, rfl, rfl, trivial⟩ ?_
      refine X.inBlock ?_
      refine X.seq ?_
      refine X.seq ?_
      refine X.seq ?_
      refine X.region ?_
      refine XO.pu (Pu.move rfl) ?_
      refine XO.pu (Pu.lss rfl rfl) ?_
      refine XO.pu (Pu.move rfl) ?_
      rcases Decidable.em (at_ < 0) with k1 | k1
      · skip
        refine XO.know 30 (.bool true) rfl (congrArg Value.bool ((by first | exact decide_eq_true (by omega) | exact decide_eq_false (by omega) | rfl | (simp; omega) | simp))) ?_
        refine XO.pass rfl ?_
        refine XO.pass rfl ?_
        refine XO.pass rfl ?_
        refine XO.pass rfl ?_
        refine XO.pu (Pu.pickT rfl rfl) ?_
        refine XO.nil ?_
        refine X.sub (p' := [(35, _), (12, _), (11, _), (10, _), (0, _), (1, _), (2, _)]) ⟨rfl, rfl, rfl, rfl, rfl, rfl, rfl, trivial⟩ ?_
        refine X.condT rfl ?_
        refine X.region ?_
        refine XO.pu (Pu.assign rfl) ?_
        refine XO.nil ?_
        refine X.sub (p' := [(12, _), (11, _), (10, _), (0, _), (1, _), (2, _)]) ⟨rfl, rfl, rfl, rfl, rfl, rfl, trivial⟩ ?_
        refine X.seq ?_
        refine X.region ?_
        refine XO.pu (Pu.move rfl) ?_
        refine XO.cR Try.call55 (there_ok (clLe h leA)) ?_
        refine XO.pu (Pu.not rfl) ?_
        refine XO.nil ?_
        refine X.sub (p' := [(38, _), (12, _), (11, _), (10, _), (1, _), (2, _)]) ⟨rfl, rfl, rfl, rfl, rfl, rfl, trivial⟩ ?_
        refine X.know 38 (.bool false) rfl (congrArg Value.bool (rfl)) ?_
        refine X.condF rfl ?_
        refine X.skip ?_
        refine X.exit rfl ?_
        refine X.seq ?_
        refine X.seq ?_
        refine X.region ?_
        refine XO.pu (Pu.move rfl) ?_
        refine XO.pu (Pu.neq rfl rfl) ?_
        refine XO.nil ?_
        refine X.sub (p' := [(40, _), (12, _), (11, _), (10, _), (1, _), (2, _)]) ⟨rfl, rfl, rfl, rfl, rfl, rfl, trivial⟩ ?_
        refine X.know 40 (.bool true) rfl (congrArg Value.bool (rfl)) ?_
        refine X.condT rfl ?_
        refine X.seq ?_
        refine X.region ?_
        refine XO.pu (Pu.move rfl) ?_
        refine XO.pu (Pu.assign rfl) ?_
        refine XO.pu (Pu.assign rfl) ?_
        refine XO.nil ?_
        refine X.sub (p' := [(11, _), (10, _), (1, _), (2, _)]) ⟨rfl, rfl, rfl, rfl, trivial⟩ ?_
        refine X.retL (q) Try.func41 (res2 Try.results41 rfl rfl) ⟨_, rfl, rfl, rfl⟩
      · skip
        refine XO.know 30 (.bool false) rfl (congrArg Value.bool ((by first | exact decide_eq_true (by omega) | exact decide_eq_false (by omega) | rfl | (simp; omega) | simp))) ?_
        refine XO.pu (Pu.move rfl) ?_
        refine XO.pu (Pu.move rfl) ?_
        refine XO.pu (Pu.len rfl Try.underlying72) ?_
        refine XO.pu (Pu.geq rfl rfl) ?_
        refine XO.pu (Pu.pickF rfl rfl) ?_
        refine XO.nil ?_
        refine X.sub (p' := [(35, _), (12, _), (11, _), (10, _), (0, _), (1, _), (2, _)]) ⟨rfl, rfl, rfl, rfl, rfl, rfl, rfl, trivial⟩ ?_
        refine X.know 35 (.bool true) rfl (congrArg Value.bool ((by first | exact decide_eq_true (by omega) | exact decide_eq_false (by omega) | rfl | (simp; omega) | simp))) ?_
        refine X.condT rfl ?_
        refine X.region ?_
        refine XO.pu (Pu.assign rfl) ?_
        refine XO.nil ?_
        refine X.sub (p' := [(12, _), (11, _), (10, _), (0, _), (1, _), (2, _)]) ⟨rfl, rfl, rfl, rfl, rfl, rfl, trivial⟩ ?_
        refine X.seq ?_
        refine X.region ?_
        refine XO.pu (Pu.move rfl) ?_
        refine XO.cR Try.call55 (there_ok (clLe h leA)) ?_
        refine XO.pu (Pu.not rfl) ?_
        refine XO.nil ?_
        refine X.sub (p' := [(38, _), (12, _), (11, _), (10, _), (1, _), (2, _)]) ⟨rfl, rfl, rfl, rfl, rfl, rfl, trivial⟩ ?_
        refine X.know 38 (.bool false) rfl (congrArg Value.bool (rfl)) ?_
        refine X.condF rfl ?_
        refine X.skip ?_
        refine X.exit rfl ?_
        refine X.seq ?_
        refine X.seq ?_
        refine X.region ?_
        refine XO.pu (Pu.move rfl) ?_
        refine XO.pu (Pu.neq rfl rfl) ?_
        refine XO.nil ?_
        refine X.sub (p' := [(40, _), (12, _), (11, _), (10, _), (1, _), (2, _)]) ⟨rfl, rfl, rfl, rfl, rfl, rfl, trivial⟩ ?_
        refine X.know 40 (.bool true) rfl (congrArg Value.bool (rfl)) ?_
        refine X.condT rfl ?_
        refine X.seq ?_
        refine X.region ?_
        refine XO.pu (Pu.move rfl) ?_
        refine XO.pu (Pu.assign rfl) ?_
        refine XO.pu (Pu.assign rfl) ?_
        refine XO.nil ?_
        refine X.sub (p' := [(11, _), (10, _), (1, _), (2, _)]) ⟨rfl, rfl, rfl, rfl, trivial⟩ ?_
        refine X.retL (q) Try.func41 (res2 Try.results41 rfl rfl) ⟨_, rfl, rfl, rfl⟩
    · skip
      refine XO.know 23 (.bool false) rfl (congrArg Value.bool ((by first | exact decide_eq_true (by omega) | exact decide_eq_false (by omega) | rfl | (simp; omega) | simp))) ?_
      refine XO.pu (Pu.move rfl) ?_
      refine XO.pu (Pu.move rfl) ?_
      refine XO.pu (Pu.gtr rfl rfl) ?_
      refine XO.pu (Pu.pickF rfl rfl) ?_
      refine XO.nil ?_
      refine X.sub (p' := [(27, _), (12, _), (11, _), (10, _), (0, _), (1, _), (2, _)]) ⟨rfl, rfl, rfl, rfl, rfl, rfl, rfl, trivial⟩ ?_
      refine X.know 27 (.bool false) rfl (congrArg Value.bool ((by first | exact decide_eq_true (by omega) | exact decide_eq_false (by omega) | rfl | (simp; omega) | simp))) ?_
      refine X.condF rfl ?_
      refine X.skip ?_
      refine X.inBlock ?_
      refine X.seq ?_
      refine X.seq ?_
      refine X.seq ?_
      refine X.region ?_
      refine XO.pu (Pu.move rfl) ?_
      refine XO.pu (Pu.lss rfl rfl) ?_
      refine XO.pu (Pu.move rfl) ?_
      rcases Decidable.em (at_ < 0) with k1 | k1
      · skip
        refine XO.know 30 (.bool true) rfl (congrArg Value.bool ((by first | exact decide_eq_true (by omega) | exact decide_eq_false (by omega) | rfl | (simp; omega) | simp))) ?_
        refine XO.pass rfl ?_
        refine XO.pass rfl ?_
        refine XO.pass rfl ?_
        refine XO.pass rfl ?_
        refine XO.pu (Pu.pickT rfl rfl) ?_
        refine XO.nil ?_
        refine X.sub (p' := [(35, _), (12, _), (11, _), (10, _), (0, _), (1, _), (2, _)]) ⟨rfl, rfl, rfl, rfl, rfl, rfl, rfl, trivial⟩ ?_
        refine X.condT rfl ?_
        refine X.region ?_
        refine XO.pu (Pu.assign rfl) ?_
        refine XO.nil ?_
        refine X.sub (p' := [(12, _), (11, _), (10, _), (0, _), (1, _), (2, _)]) ⟨rfl, rfl, rfl, rfl, rfl, rfl, trivial⟩ ?_
        refine X.seq ?_
        refine X.region ?_
        refine XO.pu (Pu.move rfl) ?_
        refine XO.cR Try.call55 (there_ok (clLe h leA)) ?_
        refine XO.pu (Pu.not rfl) ?_
        refine XO.nil ?_
        refine X.sub (p' := [(38, _), (12, _), (11, _), (10, _), (1, _), (2, _)]) ⟨rfl, rfl, rfl, rfl, rfl, rfl, trivial⟩ ?_
        refine X.know 38 (.bool false) rfl (congrArg Value.bool (rfl)) ?_
        refine X.condF rfl ?_
        refine X.skip ?_
        refine X.exit rfl ?_
        refine X.seq ?_
        refine X.seq ?_
        refine X.region ?_
        refine XO.pu (Pu.move rfl) ?_
        refine XO.pu (Pu.neq rfl rfl) ?_
        refine XO.nil ?_
        refine X.sub (p' := [(40, _), (12, _), (11, _), (10, _), (1, _), (2, _)]) ⟨rfl, rfl, rfl, rfl, rfl, rfl, trivial⟩ ?_
        refine X.know 40 (.bool true) rfl (congrArg Value.bool (rfl)) ?_
        refine X.condT rfl ?_
        refine X.seq ?_
        refine X.region ?_
        refine XO.pu (Pu.move rfl) ?_
        refine XO.pu (Pu.assign rfl) ?_
        refine XO.pu (Pu.assign rfl) ?_
        refine XO.nil ?_
        refine X.sub (p' := [(11, _), (10, _), (1, _), (2, _)]) ⟨rfl, rfl, rfl, rfl, trivial⟩ ?_
        refine X.retL (q) Try.func41 (res2 Try.results41 rfl rfl) ⟨_, rfl, rfl, rfl⟩
      · skip
        refine XO.know 30 (.bool false) rfl (congrArg Value.bool ((by first | exact decide_eq_true (by omega) | exact decide_eq_false (by omega) | rfl | (simp; omega) | simp))) ?_
        refine XO.pu (Pu.move rfl) ?_
        refine XO.pu (Pu.move rfl) ?_
        refine XO.pu (Pu.len rfl Try.underlying72) ?_
        refine XO.pu (Pu.geq rfl rfl) ?_
        refine XO.pu (Pu.pickF rfl rfl) ?_
        refine XO.nil ?_
        refine X.sub (p' := [(35, _), (12, _), (11, _), (10, _), (0, _), (1, _), (2, _)]) ⟨rfl, rfl, rfl, rfl, rfl, rfl, rfl, trivial⟩ ?_
        refine X.know 35 (.bool true) rfl (congrArg Value.bool ((by first | exact decide_eq_true (by omega) | exact decide_eq_false (by omega) | rfl | (simp; omega) | simp))) ?_
        refine X.condT rfl ?_
        refine X.region ?_
        refine XO.pu (Pu.assign rfl) ?_
        refine XO.nil ?_
        refine X.sub (p' := [(12, _), (11, _), (10, _), (0, _), (1, _), (2, _)]) ⟨rfl, rfl, rfl, rfl, rfl, rfl, trivial⟩ ?_
        refine X.seq ?_
        refine X.region ?_
        refine XO.pu (Pu.move rfl) ?_
        refine XO.cR Try.call55 (there_ok (clLe h leA)) ?_
        refine XO.pu (Pu.not rfl) ?_
        refine XO.nil ?_
        refine X.sub (p' := [(38, _), (12, _), (11, _), (10, _), (1, _), (2, _)]) ⟨rfl, rfl, rfl, rfl, rfl, rfl, trivial⟩ ?_
        refine X.know 38 (.bool false) rfl (congrArg Value.bool (rfl)) ?_
        refine X.condF rfl ?_
        refine X.skip ?_
        refine X.exit rfl ?_
        refine X.seq ?_
        refine X.seq ?_
        refine X.region ?_
        refine XO.pu (Pu.move rfl) ?_
        refine XO.pu (Pu.neq rfl rfl) ?_
        refine XO.nil ?_
        refine X.sub (p' := [(40, _), (12, _), (11, _), (10, _), (1, _), (2, _)]) ⟨rfl, rfl, rfl, rfl, rfl, rfl, trivial⟩ ?_
        refine X.know 40 (.bool true) rfl (congrArg Value.bool (rfl)) ?_
        refine X.condT rfl ?_
        refine X.seq ?_
        refine X.region ?_
        refine XO.pu (Pu.move rfl) ?_
        refine XO.pu (Pu.assign rfl) ?_
        refine XO.pu (Pu.assign rfl) ?_
        refine XO.nil ?_
        refine X.sub (p' := [(11, _), (10, _), (1, _), (2, _)]) ⟨rfl, rfl, rfl, rfl, trivial⟩ ?_
        refine X.retL (q) Try.func41 (res2 Try.results41 rfl rfl) ⟨_, rfl, rfl, rfl⟩
theorem findH2_arg (h : Cl q ⟨p, 0, none⟩ (.bool true)) (hn : n ≤ 1000000) (hr : i < n) (hb : ¬ (val number)) : CallF Try.prog G 41 [.pointer (some ⟨p, 0, none⟩), .slice a n c, .int .i64 (i : Int), .int .i64 2, .int .i64 number] q (Ret fun v q' => v = .tuple [.pointer none, .int .i64 2].toArray ∧ q' = q) := by
  refine CallF.of Try.func41 Try.ntmps41 rfl (fun F cs => ?_)
  refine X.sub (p' := [(0, _), (1, _), (2, _), (3, _), (4, _)]) ⟨rfl, rfl, rfl, rfl, rfl, trivial⟩ ?_
  try unfold inR at hr
  try unfold thr at hb
  try unfold val at hb
  refine X.seq ?_
  refine X.region ?_
  refine XO.pu (Pu.assign rfl) ?_
  refine XO.pu (Pu.assign rfl) ?_
  refine XO.nil ?_
  refine X.sub (p' := [(11, _), (10, _), (0, _), (1, _), (2, _), (3, _), (4, _)]) ⟨rfl, rfl, rfl, rfl, rfl, rfl, rfl, trivial⟩ ?_
  refine X.seq ?_
  refine X.region ?_
  refine XO.pu (Pu.assign rfl) ?_
  refine XO.nil ?_
  refine X.sub (p' := [(12, _), (11, _), (10, _), (0, _), (1, _), (2, _), (3, _), (4, _)]) ⟨rfl, rfl, rfl, rfl, rfl, rfl, rfl, rfl, trivial⟩ ?_
  refine X.seq ?_
  refine X.region ?_
  refine XO.pu (Pu.assign rfl) ?_
  refine XO.pu (Pu.assign rfl) ?_
  refine XO.nil ?_
  refine X.sub (p' := [(14, _), (13, _), (12, _), (11, _), (10, _), (0, _), (1, _), (2, _), (3, _), (4, _)]) ⟨rfl, rfl, rfl, rfl, rfl, rfl, rfl, rfl, rfl, rfl, trivial⟩ ?_
  refine X.seq ?_
  refine X.seq ?_
  refine X.region ?_
  refine XO.pu (Pu.move rfl) ?_
  refine XO.nil ?_
  refine X.sub (p' := [(15, _), (14, _), (13, _), (12, _), (11, _), (10, _), (0, _), (1, _), (2, _), (4, _)]) ⟨rfl, rfl, rfl, rfl, rfl, rfl, rfl, rfl, rfl, rfl, trivial⟩ ?_
  refine X.block ?_
  refine X.seq ?_
  refine X.block ?_
  refine X.seq ?_
  refine X.block ?_
  refine X.seq ?_
  refine X.block ?_
  refine X.seq ?_
  refine X.seq ?_
  refine X.seq ?_
  refine X.region ?_
  refine XO.pu (Pu.eql rfl rfl) ?_
  refine XO.pu (Pu.assign rfl) ?_
  refine XO.nil ?_
  refine X.sub (p' := [(16, _), (15, _), (14, _), (13, _), (12, _), (11, _), (10, _), (0, _), (1, _), (2, _), (4, _)]) ⟨rfl, rfl, rfl, rfl, rfl, rfl, rfl, rfl, rfl, rfl, rfl, trivial⟩ ?_
  refine X.know 16 (.bool false) rfl (congrArg Value.bool (by simp)) ?_
  refine X.condF rfl ?_
  refine X.skip ?_
  refine X.seq ?_
  refine X.region ?_
  refine XO.pu (Pu.eql rfl rfl) ?_
  refine XO.pu (Pu.assign rfl) ?_
  refine XO.nil ?_
  refine X.sub (p' := [(18, _), (14, _), (13, _), (12, _), (11, _), (10, _), (0, _), (1, _), (2, _), (4, _)]) ⟨rfl, rfl, rfl, rfl, rfl, rfl, rfl, rfl, rfl, rfl, trivial⟩ ?_
  refine X.know 18 (.bool true) rfl (congrArg Value.bool (by simp)) ?_
  refine X.condT rfl ?_
  refine X.exit rfl ?_
  refine X.seq ?_
  refine X.region ?_
  refine XO.pu (Pu.move rfl) ?_
  refine XO.pu (Pu.move rfl) ?_
  refine XO.pu (Pu.lss rfl rfl) ?_
  refine XO.pu (Pu.move rfl) ?_
  rcases Decidable.em (number < -2147483648) with k8 | k8
  · skip
    refine XO.know 23 (.bool true) rfl (congrArg Value.bool ((by first | exact decide_eq_true (by omega) | exact decide_eq_false (by omega) | rfl | (simp; omega) | simp))) ?_
    refine XO.pass rfl ?_
    refine XO.pass rfl ?_
    refine XO.pass rfl ?_
    refine XO.pu (Pu.pickT rfl rfl) ?_
    refine XO.nil ?_
    refine X.sub (p' := [(27, _), (12, _), (11, _), (10, _), (0, _), (1, _), (2, _)]) ⟨rfl, rfl, rfl, rfl, rfl, rfl, rfl, trivial⟩ ?_
    refine X.condT rfl ?_
    refine X.region ?_
    refine XO.pu (Pu.assign rfl) ?_
    refine XO.nil ?_
    refine X.sub (p' := [(12, _), (11, _), (10, _), (0, _), (1, _), (2, _)]) ⟨rfl, rfl, rfl, rfl, rfl, rfl, trivial⟩ ?_
    refine X.inBlock ?_
    refine X.seq ?_
    refine X.seq ?_
    refine X.seq ?_
    refine X.region ?_
    refine XO.pu (Pu.move rfl) ?_
    refine XO.pu (Pu.lss rfl rfl) ?_
    refine XO.pu (Pu.move rfl) ?_
    refine XO.know 30 (.bool false) rfl (congrArg Value.bool ((by first | exact decide_eq_true (by omega) | exact decide_eq_false (by omega) | rfl | (simp; omega) | simp))) ?_
    refine XO.pu (Pu.move rfl) ?_
    refine XO.pu (Pu.move rfl) ?_
    refine XO.pu (Pu.len rfl Try.underlying72) ?_
    refine XO.pu (Pu.geq rfl rfl) ?_
    refine XO.pu (Pu.pickF rfl rfl) ?_
    refine XO.nil ?_
    refine X.sub (p' := [(35, _), (12, _), (11, _), (10, _), (0, _), (1, _), (2, _)]) ⟨rfl, rfl, rfl, rfl, rfl, rfl, rfl, trivial⟩ ?_
    refine X.know 35 (.bool false) rfl (congrArg Value.bool ((by first | exact decide_eq_true (by omega) | exact decide_eq_false (by omega) | rfl | (simp; omega) | simp))) ?_
    refine X.condF rfl ?_
    refine X.skip ?_
    refine X.seq ?_
    refine X.region ?_
    refine XO.pu (Pu.move rfl) ?_
    refine XO.cR Try.call55 (there_ok (clLe h leA)) ?_
    refine XO.pu (Pu.not rfl) ?_
    refine XO.nil ?_
    refine X.sub (p' := [(38, _), (12, _), (11, _), (10, _), (1, _), (2, _)]) ⟨rfl, rfl, rfl, rfl, rfl, rfl, trivial⟩ ?_
    refine X.know 38 (.bool false) rfl (congrArg Value.bool (rfl)) ?_
    refine X.condF rfl ?_
    refine X.skip ?_
    refine X.exit rfl ?_
    refine X.seq ?_
    refine X.seq ?_
    refine X.region ?_
    refine XO.pu (Pu.move rfl) ?_
    refine XO.pu (Pu.neq rfl rfl) ?_
    refine XO.nil ?_
    refine X.sub (p' := [(40, _), (12, _), (11, _), (10, _), (1, _), (2, _)]) ⟨rfl, rfl, rfl, rfl, rfl, rfl, trivial⟩ ?_
    refine X.know 40 (.bool true) rfl (congrArg Value.bool (rfl)) ?_
    refine X.condT rfl ?_
    refine X.seq ?_
    refine X.region ?_
    refine XO.pu (Pu.move rfl) ?_
    refine XO.pu (Pu.assign rfl) ?_
    refine XO.pu (Pu.assign rfl) ?_
    refine XO.nil ?_
    refine X.sub (p' := [(11, _), (10, _), (1, _), (2, _)]) ⟨rfl, rfl, rfl, rfl, trivial⟩ ?_
    refine X.retL (q) Try.func41 (res2 Try.results41 rfl rfl) ⟨_, rfl, rfl, rfl⟩
  · skip
    refine XO.know 23 (.bool false) rfl (congrArg Value.bool ((by first | exact decide_eq_true (by omega) | exact decide_eq_false (by omega) | rfl | (simp; omega) | simp))) ?_
    refine XO.pu (Pu.move rfl) ?_
    refine XO.pu (Pu.move rfl) ?_
    refine XO.pu (Pu.gtr rfl rfl) ?_
    refine XO.pu (Pu.pickF rfl rfl) ?_
    refine XO.nil ?_
    refine X.sub (p' := [(27, _), (12, _), (11, _), (10, _), (0, _), (1, _), (2, _)]) ⟨rfl, rfl, rfl, rfl, rfl, rfl, rfl, trivial⟩ ?_
    refine X.know 27 (.bool true) rfl (congrArg Value.bool ((by first | exact decide_eq_true (by omega) | exact decide_eq_false (by omega) | rfl | (simp; omega) | simp))) ?_
    refine X.condT rfl ?_
    refine X.region ?_
    refine XO.pu (Pu.assign rfl) ?_
    refine XO.nil ?_
    refine X.sub (p' := [(12, _), (11, _), (10, _), (0, _), (1, _), (2, _)]) ⟨rfl, rfl, rfl, rfl, rfl, rfl, trivial⟩ ?_
    refine X.inBlock ?_
    refine X.seq ?_
    refine X.seq ?_
    refine X.seq ?_
    refine X.region ?_
    refine XO.pu (Pu.move rfl) ?_
    refine XO.pu (Pu.lss rfl rfl) ?_
    refine XO.pu (Pu.move rfl) ?_
    refine XO.know 30 (.bool false) rfl (congrArg Value.bool ((by first | exact decide_eq_true (by omega) | exact decide_eq_false (by omega) | rfl | (simp; omega) | simp))) ?_
    refine XO.pu (Pu.move rfl) ?_
    refine XO.pu (Pu.move rfl) ?_
    refine XO.pu (Pu.len rfl Try.underlying72) ?_
    refine XO.pu (Pu.geq rfl rfl) ?_
    refine XO.pu (Pu.pickF rfl rfl) ?_
    refine XO.nil ?_
    refine X.sub (p' := [(35, _), (12, _), (11, _), (10, _), (0, _), (1, _), (2, _)]) ⟨rfl, rfl, rfl, rfl, rfl, rfl, rfl, trivial⟩ ?_
    refine X.know 35 (.bool false) rfl (congrArg Value.bool ((by first | exact decide_eq_true (by omega) | exact decide_eq_false (by omega) | rfl | (simp; omega) | simp))) ?_
    refine X.condF rfl ?_
    refine X.skip ?_
    refine X.seq ?_
    refine X.region ?_
    refine XO.pu (Pu.move rfl) ?_
    refine XO.cR Try.call55 (there_ok (clLe h leA)) ?_
    refine XO.pu (Pu.not rfl) ?_
    refine XO.nil ?_
    refine X.sub (p' := [(38, _), (12, _), (11, _), (10, _), (1, _), (2, _)]) ⟨rfl, rfl, rfl, rfl, rfl, rfl, trivial⟩ ?_
    refine X.know 38 (.bool false) rfl (congrArg Value.bool (rfl)) ?_
    refine X.condF rfl ?_
    refine X.skip ?_
    refine X.exit rfl ?_
    refine X.seq ?_
    refine X.seq ?_
    refine X.region ?_
    refine XO.pu (Pu.move rfl) ?_
    refine XO.pu (Pu.neq rfl rfl) ?_
    refine XO.nil ?_
    refine X.sub (p' := [(40, _), (12, _), (11, _), (10, _), (1, _), (2, _)]) ⟨rfl, rfl, rfl, rfl, rfl, rfl, trivial⟩ ?_
    refine X.know 40 (.bool true) rfl (congrArg Value.bool (rfl)) ?_
    refine X.condT rfl ?_
    refine X.seq ?_
    refine X.region ?_
    refine XO.pu (Pu.move rfl) ?_
    refine XO.pu (Pu.assign rfl) ?_
    refine XO.pu (Pu.assign rfl) ?_
    refine XO.nil ?_
    refine X.sub (p' := [(11, _), (10, _), (1, _), (2, _)]) ⟨rfl, rfl, rfl, rfl, trivial⟩ ?_
    refine X.retL (q) Try.func41 (res2 Try.results41 rfl rfl) ⟨_, rfl, rfl, rfl⟩
theorem findH2_ok (h : Cl q ⟨p, 0, none⟩ (.bool true)) (hn : n ≤ 1000000) (hr : i < n) (hb : val number) : CallF Try.prog G 41 [.pointer (some ⟨p, 0, none⟩), .slice (some ⟨g, 0, none⟩) n c, .int .i64 (i : Int), .int .i64 2, .int .i64 number] q (Ret fun v q' => v = .tuple [.pointer (some ⟨g, i * 3, none⟩), .int .i64 0].toArray ∧ q' = q) := by
  refine CallF.of Try.func41 Try.ntmps41 rfl (fun F cs => ?_)
  refine X.sub (p' := [(0, _), (1, _), (2, _), (3, _), (4, _)]) ⟨rfl, rfl, rfl, rfl, rfl, trivial⟩ ?_
  try unfold inR at hr
  try unfold thr at hb
  try unfold val at hb
  refine X.seq ?_
  refine X.region ?_
  refine XO.pu (Pu.assign rfl) ?_
  refine XO.pu (Pu.assign rfl) ?_
  refine XO.nil ?_
  refine X.sub (p' := [(11, _), (10, _), (0, _), (1, _), (2, _), (3, _), (4, _)]) ⟨rfl, rfl, rfl, rfl, rfl, rfl, rfl, trivial⟩ ?_
  refine X.seq ?_
  refine X.region ?_
  refine XO.pu (Pu.assign rfl) ?_
  refine XO.nil ?_
  refine X.sub (p' := [(12, _), (11, _), (10, _), (0, _), (1, _), (2, _), (3, _), (4, _)]) ⟨rfl, rfl, rfl, rfl, rfl, rfl, rfl, rfl, trivial⟩ ?_
  refine X.seq ?_
  refine X.region ?_
  refine XO.pu (Pu.assign rfl) ?_
  refine XO.pu (Pu.assign rfl) ?_
  refine XO.nil ?_
  refine X.sub (p' := [(14, _), (13, _), (12, _), (11, _), (10, _), (0, _), (1, _), (2, _), (3, _), (4, _)]) ⟨rfl, rfl, rfl, rfl, rfl, rfl, rfl, rfl, rfl, rfl, trivial⟩ ?_
  refine X.seq ?_
  refine X.seq ?_
  refine X.region ?_
  refine XO.pu (Pu.move rfl) ?_
  refine XO.nil ?_
  refine X.sub (p' := [(15, _), (14, _), (13, _), (12, _), (11, _), (10, _), (0, _), (1, _), (2, _), (4, _)]) ⟨rfl, rfl, rfl, rfl, rfl, rfl, rfl, rfl, rfl, rfl, trivial⟩ ?_
  refine X.block ?_
  refine X.seq ?_
  refine X.block ?_
  refine X.seq ?_
  refine X.block ?_
  refine X.seq ?_
  refine X.block ?_
  refine X.seq ?_
  refine X.seq ?_
  refine X.seq ?_
  refine X.region ?_
  refine XO.pu (Pu.eql rfl rfl) ?_
  refine XO.pu (Pu.assign rfl) ?_
  refine XO.nil ?_
  refine X.sub (p' := [(16, _), (15, _), (14, _), (13, _), (12, _), (11, _), (10, _), (0, _), (1, _), (2, _), (4, _)]) ⟨rfl, rfl, rfl, rfl, rfl, rfl, rfl, rfl, rfl, rfl, rfl, trivial⟩ ?_
  refine X.know 16 (.bool false) rfl (congrArg Value.bool (by simp)) ?_
  refine X.condF rfl ?_
  refine X.skip ?_
  refine X.seq ?_
  refine X.region ?_
  refine XO.pu (Pu.eql rfl rfl) ?_
  refine XO.pu (Pu.assign rfl) ?_
  refine XO.nil ?_
  refine X.sub (p' := [(18, _), (14, _), (13, _), (12, _), (11, _), (10, _), (0, _), (1, _), (2, _), (4, _)]) ⟨rfl, rfl, rfl, rfl, rfl, rfl, rfl, rfl, rfl, rfl, trivial⟩ ?_
  refine X.know 18 (.bool true) rfl (congrArg Value.bool (by simp)) ?_
  refine X.condT rfl ?_
  refine X.exit rfl ?_
  refine X.seq ?_
  refine X.region ?_
  refine XO.pu (Pu.move rfl) ?_
  refine XO.pu (Pu.move rfl) ?_
  refine XO.pu (Pu.lss rfl rfl) ?_
  refine XO.pu (Pu.move rfl) ?_
  refine XO.know 23 (.bool false) rfl (congrArg Value.bool ((by first | exact decide_eq_true (by omega) | exact decide_eq_false (by omega) | rfl | (simp; omega) | simp))) ?_
  refine XO.pu (Pu.move rfl) ?_
  refine XO.pu (Pu.move rfl) ?_
  refine XO.pu (Pu.gtr rfl rfl) ?_
  refine XO.pu (Pu.pickF rfl rfl) ?_
  refine XO.nil ?_
  refine X.sub (p' := [(27, _), (12, _), (11, _), (10, _), (0, _), (1, _), (2, _)]) ⟨rfl, rfl, rfl, rfl, rfl, rfl, rfl, trivial⟩ ?_
  refine X.know 27 (.bool false) rfl (congrArg Value.bool ((by first | exact decide_eq_true (by omega) | exact decide_eq_false (by omega) | rfl | (simp; omega) | simp))) ?_
  refine X.condF rfl ?_
  refine X.skip ?_
  refine X.inBlock ?_
  refine X.seq ?_
  refine X.seq ?_
  refine X.seq ?_
  refine X.region ?_
  refine XO.pu (Pu.move rfl) ?_
  refine XO.pu (Pu.lss rfl rfl) ?_
  refine XO.pu (Pu.move rfl) ?_
  refine XO.know 30 (.bool false) rfl (congrArg Value.bool ((by first | exact decide_eq_true (by omega) | exact decide_eq_false (by omega) | rfl | (simp; omega) | simp))) ?_
  refine XO.pu (Pu.move rfl) ?_
  refine XO.pu (Pu.move rfl) ?_
  refine XO.pu (Pu.len rfl Try.underlying72) ?_
  refine XO.pu (Pu.geq rfl rfl) ?_
  refine XO.pu (Pu.pickF rfl rfl) ?_
  refine XO.nil ?_
  refine X.sub (p' := [(35, _), (12, _), (11, _), (10, _), (0, _), (1, _), (2, _)]) ⟨rfl, rfl, rfl, rfl, rfl, rfl, rfl, trivial⟩ ?_
  refine X.know 35 (.bool false) rfl (congrArg Value.bool ((by first | exact decide_eq_true (by omega) | exact decide_eq_false (by omega) | rfl | (simp; omega) | simp))) ?_
  refine X.condF rfl ?_
  refine X.skip ?_
  refine X.seq ?_
  refine X.region ?_
  refine XO.pu (Pu.move rfl) ?_
  refine XO.cR Try.call55 (there_ok (clLe h leA)) ?_
  refine XO.pu (Pu.not rfl) ?_
  refine XO.nil ?_
  refine X.sub (p' := [(38, _), (12, _), (11, _), (10, _), (1, _), (2, _)]) ⟨rfl, rfl, rfl, rfl, rfl, rfl, trivial⟩ ?_
  refine X.know 38 (.bool false) rfl (congrArg Value.bool (rfl)) ?_
  refine X.condF rfl ?_
  refine X.skip ?_
  refine X.exit rfl ?_
  refine X.seq ?_
  refine X.seq ?_
  refine X.region ?_
  refine XO.pu (Pu.move rfl) ?_
  refine XO.pu (Pu.neq rfl rfl) ?_
  refine XO.nil ?_
  refine X.sub (p' := [(40, _), (12, _), (11, _), (10, _), (1, _), (2, _)]) ⟨rfl, rfl, rfl, rfl, rfl, rfl, trivial⟩ ?_
  refine X.know 40 (.bool false) rfl (congrArg Value.bool (rfl)) ?_
  refine X.condF rfl ?_
  refine X.skip ?_
  refine X.seq ?_
  refine X.region ?_
  refine XO.pu (Pu.move rfl) ?_
  refine XO.pu (Pu.move rfl) ?_
  refine XO.pu (Pu.indexAddr rfl rfl Try.underlying72 Try.sizeOf78 (by omega) (by omega)) ?_
  refine XO.pu (Pu.assign rfl) ?_
  refine XO.pu (Pu.assign rfl) ?_
  refine XO.nil ?_
  refine X.sub (p' := [(11, _), (10, _)]) ⟨rfl, rfl, trivial⟩ ?_
  refine X.retL (q) Try.func41 (res2 Try.results41 rfl rfl) ⟨_, rfl, by simp, rfl⟩
end
end Go.Proofs.Ytlgnnhpbomfdiaa

