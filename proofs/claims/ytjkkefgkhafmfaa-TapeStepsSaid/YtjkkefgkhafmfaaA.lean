/- What functions of package tape, of its references and of its laws do: contracts of calls, proved by walking their code. -/
import Derived.Test.YtjkkefgkhafmfaaRows
import Derived.Test.YtjkkefgkhafmfaaWx27
import Derived.KernelRfl
set_option maxRecDepth 100000
set_option linter.unusedVariables false
set_option linter.unusedSimpArgs false
namespace Go.Proofs.Ytjkkefgkhafmfaa
open Go Go.RowKit Wx

/-! ### what is known of types -/
def tbl : Tr := (.n none (.n none (.n (some (.mk (.int .i64) false 1 none)) (.n none (.n none .e (.n none (.n (some (.mk (.strct [(33, 0)]) true 1 (some ([(0, 1)], [.int .i64 0])))) .e .e) .e)) (.n none (.n none (.n (some (.mk (.strct [(32, 0), (3, 6), (3, 7), (3, 8)]) true 9 (some ([(0, 6), (6, 1), (7, 1), (8, 1)], [.int .u32 0, .slice none 0 0, .int .i64 0, .int .i64 0, .int .i64 0, .int .i64 0, .int .i64 0, .int .i64 0, .int .i64 0])))) .e .e) .e) .e)) (.n none .e (.n (some (.mk (.int .i64) false 1 none)) .e .e))) (.n none (.n none (.n none (.n (some (.mk (.int .i64) false 1 none)) .e .e) .e) (.n (some (.mk (.int .u32) false 1 none)) .e .e)) (.n none .e (.n none (.n (some (.mk (.strct [(3, 0), (3, 1)]) true 2 (some ([(0, 1), (1, 1)], [.int .i64 0, .int .i64 0])))) .e .e) .e)))) (.n none (.n (some (.mk .bool false 1 none)) (.n none (.n none (.n (some (.mk (.strct [(25, 0), (26, 1), (30, 2)]) true 6 (some ([(0, 1), (1, 1), (2, 4)], [.int .u32 0, .slice none 0 0, .int .i64 0, .int .i64 0, .int .i64 0, .int .i64 0])))) .e .e) .e) .e) (.n none (.n (some (.mk .ifc false 1 none)) .e .e) (.n (some (.mk (.int .i64) false 1 none)) (.n none (.n (some (.mk (.slc 3) false 1 none)) .e .e) .e) .e))) (.n none (.n none (.n none .e (.n (some (.mk .fn false 1 none)) .e .e)) (.n (some (.mk (.slc 45) false 1 none)) .e .e)) (.n none (.n (some (.mk (.slc 32) false 1 none)) .e .e) (.n (some (.mk (.strct [(27, 0), (28, 1), (3, 2), (3, 3)]) true 4 (some ([(0, 1), (1, 1), (2, 1), (3, 1)], [.int .i64 0, .int .i64 0, .int .i64 0, .int .i64 0])))) (.n (some (.mk .other true 8 none)) .e .e) .e)))))
theorem tbl_ok : tbl.ok Try.prog id := ⟨trivial, ⟨trivial, ⟨⟨Try.underlying3, Try.isAgg3, Try.sizeOf3, trivial⟩, ⟨trivial, ⟨trivial, trivial, ⟨trivial, ⟨⟨⟨_, Try.underlying79, rfl⟩, Try.isAgg79, Try.sizeOf79, ⟨Try.zeroValue79, _, Try.underlying79, by kernel_rfl⟩⟩, trivial, trivial⟩, trivial⟩⟩, ⟨trivial, ⟨trivial, ⟨⟨⟨_, Try.underlying71, rfl⟩, Try.isAgg71, Try.sizeOf71, ⟨Try.zeroValue71, _, Try.underlying71, by kernel_rfl⟩⟩, trivial, trivial⟩, trivial⟩, trivial⟩⟩, ⟨trivial, trivial, ⟨⟨Try.underlying27, Try.isAgg27, Try.sizeOf27, trivial⟩, trivial, trivial⟩⟩⟩, ⟨trivial, ⟨trivial, ⟨trivial, ⟨⟨Try.underlying33, Try.isAgg33, Try.sizeOf33, trivial⟩, trivial, trivial⟩, trivial⟩, ⟨⟨Try.underlying25, Try.isAgg25, Try.sizeOf25, trivial⟩, trivial, trivial⟩⟩, ⟨trivial, trivial, ⟨trivial, ⟨⟨⟨_, Try.underlying45, rfl⟩, Try.isAgg45, Try.sizeOf45, ⟨Try.zeroValue45, _, Try.underlying45, by kernel_rfl⟩⟩, trivial, trivial⟩, trivial⟩⟩⟩⟩, ⟨trivial, ⟨⟨Try.underlying4, Try.isAgg4, Try.sizeOf4, trivial⟩, ⟨trivial, ⟨trivial, ⟨⟨⟨_, Try.underlying32, rfl⟩, Try.isAgg32, Try.sizeOf32, ⟨Try.zeroValue32, _, Try.underlying32, by kernel_rfl⟩⟩, trivial, trivial⟩, trivial⟩, trivial⟩, ⟨trivial, ⟨⟨⟨_, Try.underlying20⟩, Try.isAgg20, Try.sizeOf20, trivial⟩, trivial, trivial⟩, ⟨⟨Try.underlying28, Try.isAgg28, Try.sizeOf28, trivial⟩, ⟨trivial, ⟨⟨Try.underlying76, Try.isAgg76, Try.sizeOf76, trivial⟩, trivial, trivial⟩, trivial⟩, trivial⟩⟩⟩, ⟨trivial, ⟨trivial, ⟨trivial, trivial, ⟨⟨⟨_, _, _, Try.underlying50⟩, Try.isAgg50, Try.sizeOf50, trivial⟩, trivial, trivial⟩⟩, ⟨⟨Try.underlying26, Try.isAgg26, Try.sizeOf26, trivial⟩, trivial, trivial⟩⟩, ⟨trivial, ⟨⟨Try.underlying22, Try.isAgg22, Try.sizeOf22, trivial⟩, trivial, trivial⟩, ⟨⟨⟨_, Try.underlying30, rfl⟩, Try.isAgg30, Try.sizeOf30, ⟨Try.zeroValue30, _, Try.underlying30, by kernel_rfl⟩⟩, ⟨⟨⟨_, Try.underlying46, rfl⟩, Try.isAgg46, Try.sizeOf46, trivial⟩, trivial, trivial⟩, trivial⟩⟩⟩⟩⟩
section
variable {G : World} {f : Fc} {Q : Post} {k k' : List Item} {p p' : PE} {c : List Prop} {ds : List Deferred} {cs : List Frame} {q : List HP} {ops l ops' l' : List Oper} {pk : PE} {L : Rds} {n n' : Nat} {done done' : List Nat}
theorem xx (m : Nat) (K : X Try.prog G f Q k' p' ds cs q) (h : stn tbl f.n m .code k p [] = some ⟨.code, k', p', c⟩ := by exact rfl) (hc : AllP c := by repeat (first | exact trivial | refine allP_cons (by first | omega | (simp; done) | (simp; omega)) ?_)) : X Try.prog G f Q k p ds cs q := stXX tbl_ok m h hc K
theorem xo (m : Nat) (K : XO Try.prog G f Q ops'.toArray k' l' p' ds cs q) (h : stn tbl f.n m .code k p [] = some ⟨.ops ops' l', k', p', c⟩ := by exact rfl) (hc : AllP c := by repeat (first | exact trivial | refine allP_cons (by first | omega | (simp; done) | (simp; omega)) ?_)) : X Try.prog G f Q k p ds cs q := stXO tbl_ok m h hc K
theorem ox (m : Nat) (K : X Try.prog G f Q k' p' ds cs q) (h : stn tbl f.n m (.ops ops l) k p [] = some ⟨.code, k', p', c⟩ := by exact rfl) (hc : AllP c := by repeat (first | exact trivial | refine allP_cons (by first | omega | (simp; done) | (simp; omega)) ?_)) : XO Try.prog G f Q ops.toArray k l p ds cs q := stOX tbl_ok m h hc K
theorem oo (m : Nat) (K : XO Try.prog G f Q ops'.toArray k' l' p' ds cs q) (h : stn tbl f.n m (.ops ops l) k p [] = some ⟨.ops ops' l', k', p', c⟩ := by exact rfl) (hc : AllP c := by repeat (first | exact trivial | refine allP_cons (by first | omega | (simp; done) | (simp; omega)) ?_)) : XO Try.prog G f Q ops.toArray k l p ds cs q := stOO tbl_ok m h hc K
theorem dd (is : List Nat) (K : XD Try.prog G f Q ops k pk L n' done' p' ds cs q) (h : sdn tbl f.n ops is n done p [] = some ⟨n', done', p', c⟩ := by exact rfl) (hc : AllP c := by repeat (first | exact trivial | refine allP_cons (by first | omega | (simp; done) | (simp; omega)) ?_)) : XD Try.prog G f Q ops k pk L n done p ds cs q := stDD tbl_ok is h hc K
end
theorem Try.mixed : Try.prog.follows .mixedOrders = true := by kernel_rfl

theorem Try.info5 : (Try.prog.info? 5).map (fun i => (i.zero, i.size, i.bytes)) = some (some (.int .u8 0), 1, 1) := by kernel_rfl
theorem Try.info3 : (Try.prog.info? 3).map (fun i => (i.zero, i.size, i.bytes)) = some (some (.int .i64 0), 1, 8) := by kernel_rfl
theorem Try.info2 : (Try.prog.info? 2).map (fun i => (i.zero, i.size, i.bytes)) = some (some (.int .i64 0), 1, 8) := by kernel_rfl
theorem Try.info45 : (Try.prog.info? 45).map (fun i => (i.zero, i.size, i.bytes)) = some (some (.agg #[.int .i64 0, .int .i64 0]), 2, 16) := by kernel_rfl
theorem Try.info32 : (Try.prog.info? 32).map (fun i => (i.zero, i.size, i.bytes)) = some (some (.agg #[.int .u32 0, .slice none 0 0, .int .i64 0, .int .i64 0, .int .i64 0, .int .i64 0]), 6, 64) := by kernel_rfl

/-! ### what was taken, as plain data -/
abbrev Turn := Int × Int
abbrev Outc := Int × Int × Int × Int
structure Tkn where
  hash : Int
  turns : List Turn
  e : Outc
def tcs (x : Turn) : List Value := [.int .i64 x.1, .int .i64 x.2]
def ocs (x : Outc) : List Value := [.int .i64 x.1, .int .i64 x.2.1, .int .i64 x.2.2.1, .int .i64 x.2.2.2]
def Tkn.cs (t : Tkn) (a : Option Addr) (c : Nat) : List Value := [.int .u32 t.hash, .slice a t.turns.length c, .int .i64 t.e.1, .int .i64 t.e.2.1, .int .i64 t.e.2.2.1, .int .i64 t.e.2.2.2]
def Tkn.v (t : Tkn) (a : Option Addr) (c : Nat) : Value := .agg (t.cs a c).toArray
def okE (o : Outc) : Prop := (1 ≤ o.1 ∧ o.1 ≤ 3 ∧ o.2.1 = 0 ∧ o.2.2.1 = 0 ∧ o.2.2.2 = 0) ∨ (o.1 = 4 ∧ 1 ≤ o.2.1 ∧ o.2.1 ≤ 5 ∧ 0 ≤ o.2.2.1 ∧ o.2.2.1 ≤ 7 ∧ 0 ≤ o.2.2.2 ∧ o.2.2.2 ≤ 511)
instance (o : Outc) : Decidable (okE o) := by unfold okE; infer_instance
def goT : Option Int → Int → List Turn → Prop
  | _, _, [] => True
  | p, s, x :: r => (0 ≤ x.1 ∧ x.1 ≤ 7 ∧ 1 ≤ x.2 ∧ s + x.2 ≤ 2147483647 ∧ p ≠ some x.1) ∧ goT (some x.1) (s + x.2) r
instance goT.dec : (p : Option Int) → (s : Int) → (l : List Turn) → Decidable (goT p s l)
  | _, _, [] => .isTrue trivial
  | p, s, x :: r => have := goT.dec (some x.1) (s + x.2) r; by unfold goT; infer_instance
def okT (t : Tkn) : Prop := t.turns.length ≤ 65536 ∧ okE t.e ∧ goT none 0 t.turns
instance (t : Tkn) : Decidable (okT t) := by unfold okT; infer_instance
def chk (t : Tkn) : Int := if okT t then 0 else 2
def prevT (l : List Turn) (n : Nat) : Option Int := if n = 0 then none else (l[n - 1]?).map (·.1)
theorem goT_end {l : List Turn} {n : Nat} {p : Option Int} {s : Int} (h : l.length ≤ n) : goT p s (l.drop n) := by rw [List.drop_eq_nil_of_le h]; trivial
theorem goT_step {l : List Turn} {n : Nat} {p : Option Int} {s : Int} (h : n < l.length) : goT p s (l.drop n) ↔ (0 ≤ l[n].1 ∧ l[n].1 ≤ 7 ∧ 1 ≤ l[n].2 ∧ s + l[n].2 ≤ 2147483647 ∧ p ≠ some l[n].1) ∧ goT (prevT l (n + 1)) (s + l[n].2) (l.drop (n + 1)) := by
  rw [List.drop_eq_getElem_cons h]
  simp [goT, prevT, h]
theorem prevT_pos {l : List Turn} {n : Nat} (h : n < l.length) (h0 : 0 < n) : prevT l n = some (l[n - 1]'(by omega)).1 := by
  simp [prevT, Nat.ne_of_gt h0, List.getElem?_eq_getElem (show n - 1 < l.length by omega)]
theorem prevT_zero (l : List Turn) : prevT l 0 = none := rfl
section
variable {G : World} {q : List HP} {t : Tkn} {a : Option Addr} {c : Nat}

theorem num_ok (n : Int) : CallF Try.prog G 10 [.int .i64 n] ([]) (Ret fun v q' => v = .int .i64 n ∧ q' = []) := by
  refine CallF.of Try.func10 Try.ntmps10 rfl (fun F cs => ?_)
  refine xx 9 ?_
  refine X.retL [] Try.func10 (res1 Try.results10 rfl) ⟨_, rfl, rfl, rfl⟩
theorem within64_ok (n l m : Int) : CallF Try.prog G 37 [.int .i64 n, .int .i64 l, .int .i64 m] ([]) (Ret fun v q' => v = .bool (decide (l ≤ n ∧ n ≤ m)) ∧ q' = []) := by
  refine CallF.of Try.func37 Try.ntmps37 rfl (fun F cs => ?_)
  refine xo 10 ?_
  refine XO.sb [10, 6, 0, 2] ?_
  apply XO.cutAnd 4 14 10 rfl
  · skip
    intro g1 M1; have h1 := sp g1
    refine oo 4 ?_
    exact XO.fin M1 ⟨andT g1, subB⟩
  · skip
    intro g1 M1; have h1 := sp g1
    refine oo 4 ?_
    exact XO.fin M1 ⟨andF g1, subB⟩
  · skip
    refine ox 2 ?_
    refine X.retL [] Try.func37 (res1 Try.results37 rfl) ⟨_, rfl, congrArg Value.bool (by simp; try omega), rfl⟩
theorem within_ok (n l m : Int) : CallF Try.prog G 44 [.int .i64 n, .int .i64 l, .int .i64 m] ([]) (Ret fun v q' => v = .bool (decide (l ≤ n ∧ n ≤ m)) ∧ q' = []) := by
  refine CallF.of Try.func44 Try.ntmps44 rfl (fun F cs => ?_)
  refine xo 10 ?_
  refine XO.sb [10, 6, 0, 2] ?_
  apply XO.cutAnd 4 14 10 rfl
  · skip
    intro g1 M1; have h1 := sp g1
    refine oo 4 ?_
    exact XO.fin M1 ⟨andT g1, subB⟩
  · skip
    intro g1 M1; have h1 := sp g1
    refine oo 4 ?_
    exact XO.fin M1 ⟨andF g1, subB⟩
  · skip
    refine ox 2 ?_
    refine X.retL [] Try.func44 (res1 Try.results44 rfl) ⟨_, rfl, congrArg Value.bool (by simp; try omega), rfl⟩
theorem withinT_ok (n l m : Int) : CallF Try.prog G 46 [.int .i64 n, .int .i64 l, .int .i64 m] ([]) (Ret fun v q' => v = .bool (decide (l ≤ n ∧ n ≤ m)) ∧ q' = []) := by
  refine CallF.of Try.func46 Try.ntmps46 rfl (fun F cs => ?_)
  refine xo 10 ?_
  refine XO.sb [10, 6, 0, 2] ?_
  apply XO.cutAnd 4 14 10 rfl
  · skip
    intro g1 M1; have h1 := sp g1
    refine oo 4 ?_
    exact XO.fin M1 ⟨andT g1, subB⟩
  · skip
    intro g1 M1; have h1 := sp g1
    refine oo 4 ?_
    exact XO.fin M1 ⟨andF g1, subB⟩
  · skip
    refine ox 2 ?_
    refine X.retL [] Try.func46 (res1 Try.results46 rfl) ⟨_, rfl, congrArg Value.bool (by simp; try omega), rfl⟩
theorem threadMay_ok (n : Int) : CallF Try.prog G 43 [.int .i64 n] ([]) (Ret fun v q' => v = .bool (decide (0 ≤ n ∧ n ≤ 7)) ∧ q' = []) := by
  refine CallF.of Try.func43 Try.ntmps43 rfl (fun F cs => ?_)
  refine xo 7 ?_
  refine XO.cF Try.call44 (within_ok _ _ _) ?_
  rintro _ _ ⟨rfl, rfl⟩ _ e_; simp only [ca, na] at e_; subst e_
  refine ox 2 ?_
  refine X.retL [] Try.func43 (res1 Try.results43 rfl) ⟨_, rfl, rfl, rfl⟩
theorem endMay_ok (x : Outc) : CallF Try.prog G 42 [.agg (ocs x).toArray] ([]) (Ret fun v q' => v = .bool (decide (okE x)) ∧ q' = []) := by
  refine CallF.of Try.func42 Try.ntmps42 rfl (fun F cs => ?_)
  obtain ⟨k, tr, th, s⟩ := x; simp only [ocs]
  refine xo 2 ?_
  refine XO.ef (Ef.box rfl) ?_
  rintro _ _ ⟨n1, rfl, rfl⟩
  refine oo 6 ?_
  refine XO.ld Try.isAgg27 ?_
  refine ox 8 ?_
  refine X.part 5 rfl (fun h1 => ?_) (fun h1 => ?_)
  · skip
    replace h1 := sp h1
    refine xo 5 ?_
    refine XO.ldA Try.isAgg30 Try.sizeOf30 ?_
    refine oo 1 ?_
    refine XO.ld Try.isAgg27 ?_
    refine oo 1 ?_
    refine XO.pu (Pu.eqlA rfl rfl (by kernel_rfl) (EqV.struct Try.underlying30 (by kernel_rfl) (by kernel_rfl) ⟨_, _, _, _, rfl, rfl, Try.isAgg27, (EqV.int Try.underlying27 _ _), ⟨_, _, _, _, rfl, rfl, Try.isAgg28, (EqV.int Try.underlying28 _ _), ⟨_, _, _, _, rfl, rfl, Try.isAgg3, (EqV.int Try.underlying3 _ _), ⟨_, _, _, _, rfl, rfl, Try.isAgg3, (EqV.int Try.underlying3 _ _), rfl, rfl⟩, rfl⟩, rfl⟩, rfl⟩)) ?_
    refine ox 2 ?_
    refine X.retL [] Try.func42 (res1 Try.results42 rfl) ⟨_, rfl, congrArg Value.bool (by rw [Bool.eq_iff_iff, decide_eq_true_iff (p := okE _)]; unfold okE; simp; try omega), rfl⟩
  · skip
    replace h1 := sp h1
    refine xx 6 ?_
    refine X.part 5 rfl (fun h2 => ?_) (fun h2 => ?_)
    · skip
      replace h2 := sp h2
      refine xo 5 ?_
      refine XO.ldA Try.isAgg30 Try.sizeOf30 ?_
      refine oo 1 ?_
      refine XO.ld Try.isAgg27 ?_
      refine oo 1 ?_
      refine XO.pu (Pu.eqlA rfl rfl (by kernel_rfl) (EqV.struct Try.underlying30 (by kernel_rfl) (by kernel_rfl) ⟨_, _, _, _, rfl, rfl, Try.isAgg27, (EqV.int Try.underlying27 _ _), ⟨_, _, _, _, rfl, rfl, Try.isAgg28, (EqV.int Try.underlying28 _ _), ⟨_, _, _, _, rfl, rfl, Try.isAgg3, (EqV.int Try.underlying3 _ _), ⟨_, _, _, _, rfl, rfl, Try.isAgg3, (EqV.int Try.underlying3 _ _), rfl, rfl⟩, rfl⟩, rfl⟩, rfl⟩)) ?_
      refine ox 2 ?_
      refine X.retL [] Try.func42 (res1 Try.results42 rfl) ⟨_, rfl, congrArg Value.bool (by rw [Bool.eq_iff_iff, decide_eq_true_iff (p := okE _)]; unfold okE; simp; try omega), rfl⟩
    · skip
      replace h2 := sp h2
      refine xx 5 ?_
      refine X.part 5 rfl (fun h3 => ?_) (fun h3 => ?_)
      · skip
        replace h3 := sp h3
        refine xo 3 ?_
        refine XO.ldA Try.isAgg30 Try.sizeOf30 ?_
        refine oo 1 ?_
        refine XO.ld Try.isAgg27 ?_
        refine oo 1 ?_
        refine XO.pu (Pu.eqlA rfl rfl (by kernel_rfl) (EqV.struct Try.underlying30 (by kernel_rfl) (by kernel_rfl) ⟨_, _, _, _, rfl, rfl, Try.isAgg27, (EqV.int Try.underlying27 _ _), ⟨_, _, _, _, rfl, rfl, Try.isAgg28, (EqV.int Try.underlying28 _ _), ⟨_, _, _, _, rfl, rfl, Try.isAgg3, (EqV.int Try.underlying3 _ _), ⟨_, _, _, _, rfl, rfl, Try.isAgg3, (EqV.int Try.underlying3 _ _), rfl, rfl⟩, rfl⟩, rfl⟩, rfl⟩)) ?_
        refine ox 2 ?_
        refine X.sb [2] ?_
        refine X.retL [] Try.func42 (res1 Try.results42 rfl) ⟨_, rfl, congrArg Value.bool (by rw [Bool.eq_iff_iff, decide_eq_true_iff (p := okE _)]; unfold okE; simp; try omega), rfl⟩
      · skip
        replace h3 := sp h3
        refine xx 6 ?_
        refine X.part 14 rfl (fun h4 => ?_) (fun h4 => ?_)
        · skip
          replace h4 := sp h4
          refine xo 4 ?_
          refine XO.ld Try.isAgg28 ?_
          refine XO.cF Try.call46 (withinT_ok _ _ _) ?_
          rintro _ _ ⟨rfl, rfl⟩ _ e_; simp only [ca, na] at e_; subst e_
          refine oo 1 ?_
          refine XO.sb [19, 2, 1] ?_
          apply XO.cutAnd 4 23 19 rfl
          · skip
            intro g5 M5; have h5 := sp g5
            refine oo 1 ?_
            refine XO.ld Try.isAgg3 ?_
            refine XO.cF Try.call43 (threadMay_ok _) ?_
            rintro _ _ ⟨rfl, rfl⟩ _ e_; simp only [ca, na] at e_; subst e_
            refine oo 1 ?_
            exact XO.fin M5 ⟨andT g5, subB⟩
          · skip
            intro g5 M5; have h5 := sp g5
            refine oo 4 ?_
            exact XO.fin M5 ⟨andF g5, subB⟩
          · skip
            refine oo 1 ?_
            refine XO.sb [24, 2, 1] ?_
            apply XO.cutAnd 4 28 24 rfl
            · skip
              intro g5 M5; have h5 := sp g5
              refine oo 1 ?_
              refine XO.ld Try.isAgg3 ?_
              refine XO.cF Try.call44 (within_ok _ _ _) ?_
              rintro _ _ ⟨rfl, rfl⟩ _ e_; simp only [ca, na] at e_; subst e_
              refine oo 1 ?_
              exact XO.fin M5 ⟨andT g5, subB⟩
            · skip
              intro g5 M5; have h5 := sp g5
              refine oo 4 ?_
              exact XO.fin M5 ⟨andF g5, subB⟩
            · skip
              refine ox 2 ?_
              refine X.sb [2] ?_
              refine X.retL [] Try.func42 (res1 Try.results42 rfl) ⟨_, rfl, congrArg Value.bool (by rw [Bool.eq_iff_iff, decide_eq_true_iff (p := okE _)]; unfold okE; simp; try omega), rfl⟩
        · skip
          replace h4 := sp h4
          refine xx 7 ?_
          refine X.sb [2] ?_
          refine X.retL [] Try.func42 (res1 Try.results42 rfl) ⟨_, rfl, congrArg Value.bool (by rw [Bool.eq_iff_iff, decide_eq_true_iff (p := okE _)]; unfold okE; simp; try omega), rfl⟩
set_option maxHeartbeats 1000000 in
theorem Check_ok (hs : Sees q a (t.turns.flatMap tcs)) : CallF Try.prog G 22 [t.v a c] (q) (Ret fun v q' => v = .int .i64 (chk t) ∧ q' = q) := by
  refine CallF.of Try.func22 Try.ntmps22 rfl (fun F cs => ?_)
  unfold Tkn.v Tkn.cs
  refine xo 2 ?_
  refine XO.ef (Ef.box rfl) ?_
  rintro _ _ ⟨n1, rfl, rfl⟩
  refine oo 6 ?_
  refine XO.ld Try.isAgg26 ?_
  refine oo 3 ?_
  refine XO.sb [10, 2, 1] ?_
  apply XO.cutOr 5 15 10 rfl
  · skip
    intro g1 M1; have h1 := sp g1
    refine oo 1 ?_
    refine XO.ldA Try.isAgg30 Try.sizeOf30 ?_
    refine XO.cF Try.call42 (endMay_ok t.e) ?_
    rintro _ _ ⟨rfl, rfl⟩ _ e_; simp only [ca, na] at e_; subst e_
    refine XO.pu (Pu.not rfl) ?_
    refine oo 1 ?_
    exact XO.fin M1 ⟨orF g1, subB⟩
  · skip
    intro g1 M1; have h1 := sp g1
    refine oo 5 ?_
    exact XO.fin M1 ⟨orT g1, subB⟩
  · skip
    refine ox 1 ?_
    refine X.part 15 rfl (fun h1 => ?_) (fun h1 => ?_)
    · skip
      replace h1 := sp h1
      refine xx 5 ?_
      refine X.retL (q) Try.func22 (res1 Try.results22 rfl) ⟨_, rfl, by rw [chk, if_neg (by unfold okT; rintro ⟨x, y, _⟩; rcases h1 with h1 | h1; omega; exact h1 y)], rfl⟩
    · skip
      replace h1 := sp h1
      refine xo 10 ?_
      refine XO.ld Try.isAgg26 ?_
      refine ox 4 ?_
      have hl : t.turns.length ≤ 65536 := by omega
      have he : okE t.e := h1.2
      refine X.at (X.loop (fun (s : Nat × Int) => (s.1 ≤ t.turns.length ∧ 0 ≤ s.2 ∧ s.2 ≤ 2147483647) ∧ (goT none 0 t.turns ↔ goT (prevT t.turns s.1) s.2 (t.turns.drop s.1))) (fun s => [(19, .int .i64 (s.1 : Int)), (3, .int .i64 s.2), (1, .pointer (some ⟨n1, 0, none⟩)), (17, .slice a t.turns.length c), (18, .int .i64 (t.turns.length : Int))]) (fun s => pto n1 (.cells (t.cs a c).toArray 32 (0, 0)) :: (q ++ F)) (fun s => t.turns.length - s.1) (fun s hi_ ih => ?_) (0, 0) ⟨⟨by omega, by omega, by omega⟩, by simp [prevT_zero]⟩) subA leA
      try dsimp only at hi_ ih ⊢
      obtain ⟨⟨hi1, hi2, hi3⟩, hg⟩ := hi_
      obtain ⟨i, s⟩ := s; dsimp only at *
      have hlen := flatMap_len (f := tcs) (sz := 2) (fun _ => rfl) t.turns
      refine xx 5 ?_
      refine X.part 20 rfl (fun h0 => ?_) (fun h0 => ?_)
      · skip
        replace h0 := sp h0
        have hi0 : i < t.turns.length := by omega
        refine xo 7 ?_
        refine XO.adr hs (by rw [hlen]; omega) (fun b26 o26 e_ => ?_); subst e_
        refine oo 1 ?_
        refine XO.ldS (n := i) Try.isAgg45 Try.sizeOf45 hs (by omega) ?_
        refine XO.ef (Ef.alloc Try.zeroValue45) ?_
        rintro _ _ ⟨n2, rfl, rfl⟩
        refine oo 1 ?_
        refine XO.ef0 (Ef.stA Try.sizeOf45) ?_
        rintro _ _ ⟨rfl, rfl⟩
        refine ox 3 ?_
        refine X.draw [] Try.mixed (by kernel_rfl) (by kernel_rfl) rfl ?_
        refine dd [0] ?_
        refine XD.ld 1 Try.isAgg3 ?_
        refine XD.cF 2 Try.call43 (threadMay_ok _) ?_
        rintro _ _ ⟨rfl, rfl⟩ _ e_; simp only [ca, na] at e_; subst e_
        refine ⟨trivial, ?_⟩
        refine XD.pu 3 rfl (Pu.not rfl) ?_
        refine dd [4] ?_
        refine XD.sb [28, 4, 5, 19, 3, 1, 17, 18] ?_
        apply XD.cutOr 16 [0, 1, 2, 3, 4, 5, 6, 7, 8, 9, 10, 11] 35 28 rfl
        · skip
          intro g1 M1; have h1 := sp g1
          refine dd [5] ?_
          refine XD.ld 6 Try.isAgg3 ?_
          refine dd [7, 8] ?_
          refine XD.cF 9 Try.call44 (within_ok _ _ _) ?_
          rintro _ _ ⟨rfl, rfl⟩ _ e_; simp only [ca, na] at e_; subst e_
          refine ⟨trivial, ?_⟩
          refine XD.pu 10 rfl (Pu.not rfl) ?_
          refine dd [11] ?_
          exact XD.fin M1 ⟨orF g1, subB⟩
        · skip
          intro g1 M1; have h1 := sp g1
          refine dd [5, 6, 7, 8, 9, 10, 11] ?_
          exact XD.fin M1 ⟨orT g1, subB⟩
        · skip
          intro L_
          refine dd [12] ?_
          refine XD.sb [36, 4, 5, 19, 3, 1, 17, 18] ?_
          apply XD.cutOr 0 [0, 1, 2, 3, 4, 5, 6, 7, 8, 9, 10, 11, 12, 13, 14, 15, 16, 17, 18, 19, 20, 21, 22, 23, 24, 25, 26, 27] 51 36 rfl
          · skip
            intro g1 M1; have h1 := sp g1
            refine dd [13, 14, 15] ?_
            refine XD.sb [39, 36, 4, 5, 19, 3, 1, 17, 18] ?_
            apply XD.cutAnd 1 [0, 1, 2, 3, 4, 5, 6, 7, 8, 9, 10, 11, 12, 13, 14, 15, 16, 17, 18, 19, 20, 21, 22, 23, 24, 25, 26] 50 39 rfl
            · skip
              intro g2 M2; have h2 := sp g2
              refine dd [16] ?_
              refine XD.ld 17 Try.isAgg26 ?_
              refine dd [18, 19, 20, 21] ?_
              refine XD.ld 22 Try.isAgg3 ?_
              refine dd [23] ?_
              refine XD.ld 24 Try.isAgg3 ?_
              refine dd [25, 26] ?_
              exact XD.fin M2 ⟨andT g2, subB⟩
            · skip
              intro g2 M2; have h2 := sp g2
              refine dd [16, 17, 18, 19, 20, 21, 22, 23, 24, 25, 26] ?_
              exact XD.fin M2 ⟨andF g2, subB⟩
            · skip
              intro L_
              refine dd [27] ?_
              exact XD.fin M1 ⟨orF g1, subB⟩
          · skip
            intro g1 M1; have h1 := sp g1
            refine dd [13, 14, 15, 16, 17, 18, 19, 20, 21, 22, 23, 24, 25, 26, 27] ?_
            exact XD.fin M1 ⟨orT g1, subB⟩
          · skip
            intro L_
            refine XD.nil ?_
            refine X.part 51 rfl (fun h1 => ?_) (fun h1 => ?_)
            · skip
              replace h1 := sp h1
              refine xx 5 ?_
              have hst := goT_step (p := prevT t.turns i) (s := s) (show i < t.turns.length by omega)
              refine X.retL (q) Try.func22 (res1 Try.results22 rfl) ⟨_, rfl, by rw [chk, if_neg]; rintro ⟨_, _, g⟩; rw [hg, hst] at g; obtain ⟨⟨g1, g2, g3, g4, g5⟩, _⟩ := g; first | omega | (exact g5 (by rw [prevT_pos (by omega) (by omega)]; exact congrArg some (by omega))), rfl⟩
            · skip
              replace h1 := sp h1
              refine xo 5 ?_
              refine XO.ld Try.isAgg3 ?_
              refine ox 8 ?_
              refine X.sb [19, 3, 1, 17, 18] ?_
              have hst := goT_step (p := prevT t.turns i) (s := s) (show i < t.turns.length by omega)
              refine X.at (ih (i + 1, s + t.turns[i].2) ⟨⟨by dsimp only; omega, by dsimp only; omega, by dsimp only; omega⟩, hg.trans (hst.trans ⟨fun h => h.2, fun h => ⟨⟨by omega, by omega, by omega, by omega, by rcases Nat.eq_zero_or_pos i with e | e; exact (by subst e; simp [prevT_zero]); rw [prevT_pos (by omega) e]; simp only [ne_eq, Option.some.injEq]; omega⟩, h⟩⟩)⟩ (by dsimp only; omega)) subA leA
      · skip
        replace h0 := sp h0
        refine xx 6 ?_
        refine X.retL (q) Try.func22 (res1 Try.results22 rfl) ⟨_, rfl, by rw [chk, if_pos ⟨hl, he, hg.2 (goT_end (by omega))⟩], rfl⟩
set_option maxHeartbeats 1000000 in
theorem RCheck_ok (hs : Sees q a (t.turns.flatMap tcs)) : CallF Try.prog G 15 [t.v a c] (q) (Ret fun v q' => v = .int .i64 (chk t) ∧ q' = q) := by
  refine CallF.of Try.func15 Try.ntmps15 rfl (fun F cs => ?_)
  unfold Tkn.v Tkn.cs
  refine xo 2 ?_
  refine XO.ef (Ef.box rfl) ?_
  rintro _ _ ⟨n1, rfl, rfl⟩
  refine oo 6 ?_
  refine XO.ld Try.isAgg26 ?_
  refine ox 3 ?_
  refine X.part 11 rfl (fun h1 => ?_) (fun h1 => ?_)
  · skip
    replace h1 := sp h1
    refine xx 5 ?_
    refine X.retL (q) Try.func15 (res1 Try.results15 rfl) ⟨_, rfl, by rw [chk, if_neg (by rintro ⟨x, _, _⟩; omega)], rfl⟩
  · skip
    replace h1 := sp h1
    refine xx 12 ?_
    have hl : t.turns.length ≤ 65536 := by omega
    refine X.at (X.loop (fun (s : Nat × Int) => (s.1 ≤ t.turns.length ∧ 0 ≤ s.2 ∧ s.2 ≤ 2147483647) ∧ (goT none 0 t.turns ↔ goT (prevT t.turns s.1) s.2 (t.turns.drop s.1))) (fun s => [(4, .int .i64 (s.1 : Int)), (3, .int .i64 s.2), (1, .pointer (some ⟨n1, 0, none⟩))]) (fun s => pto n1 (.cells (t.cs a c).toArray 32 (0, 0)) :: (q ++ F)) (fun s => t.turns.length - s.1) (fun s hi_ ih => ?_) (0, 0) ⟨⟨by omega, by omega, by omega⟩, by simp [prevT_zero]⟩) subA leA
    try dsimp only at hi_ ih ⊢
    obtain ⟨⟨hi1, hi2, hi3⟩, hg⟩ := hi_
    obtain ⟨i, s⟩ := s; dsimp only at *
    have hlen := flatMap_len (f := tcs) (sz := 2) (fun _ => rfl) t.turns
    refine xo 5 ?_
    refine XO.ld Try.isAgg26 ?_
    refine ox 3 ?_
    refine X.part 16 rfl (fun h0 => ?_) (fun h0 => ?_)
    · skip
      replace h0 := sp h0
      have hi0 : i < t.turns.length := by omega
      refine xo 7 ?_
      refine XO.ld Try.isAgg26 ?_
      refine oo 1 ?_
      refine XO.adr hs (by rw [hlen]; omega) (fun b26 o26 e_ => ?_); subst e_
      refine oo 1 ?_
      refine XO.ldS (n := i) Try.isAgg45 Try.sizeOf45 hs (by omega) ?_
      refine XO.ef (Ef.alloc Try.zeroValue45) ?_
      rintro _ _ ⟨n2, rfl, rfl⟩
      refine XO.ef0 (Ef.stA Try.sizeOf45) ?_
      rintro _ _ ⟨rfl, rfl⟩
      refine ox 3 ?_
      refine X.draw [] Try.mixed (by kernel_rfl) (by kernel_rfl) rfl ?_
      refine dd [0] ?_
      refine XD.ld 1 Try.isAgg3 ?_
      refine XD.cF 2 Try.call37 (within64_ok _ _ _) ?_
      rintro _ _ ⟨rfl, rfl⟩ _ e_; simp only [ca, na] at e_; subst e_
      refine ⟨trivial, ?_⟩
      refine XD.pu 3 rfl (Pu.not rfl) ?_
      refine dd [4] ?_
      refine XD.sb [28, 5, 4, 3, 1] ?_
      apply XD.cutOr 16 [0, 1, 2, 3, 4, 5, 6, 7, 8, 9] 33 28 rfl
      · skip
        intro g1 M1; have h1 := sp g1
        refine dd [5] ?_
        refine XD.ld 6 Try.isAgg3 ?_
        refine XD.cF 7 Try.call37 (within64_ok _ _ _) ?_
        rintro _ _ ⟨rfl, rfl⟩ _ e_; simp only [ca, na] at e_; subst e_
        refine ⟨trivial, ?_⟩
        refine XD.pu 8 rfl (Pu.not rfl) ?_
        refine dd [9] ?_
        exact XD.fin M1 ⟨orF g1, subB⟩
      · skip
        intro g1 M1; have h1 := sp g1
        refine dd [5, 6, 7, 8, 9] ?_
        exact XD.fin M1 ⟨orT g1, subB⟩
      · skip
        intro L_
        refine dd [10] ?_
        refine XD.sb [34, 5, 4, 3, 1] ?_
        apply XD.cutOr 0 [0, 1, 2, 3, 4, 5, 6, 7, 8, 9, 10, 11, 12, 13, 14, 15, 16, 17, 18, 19, 20, 21, 22, 23, 24, 25] 49 34 rfl
        · skip
          intro g1 M1; have h1 := sp g1
          refine dd [11, 12, 13] ?_
          refine XD.sb [37, 34, 5, 4, 3, 1] ?_
          apply XD.cutAnd 1 [0, 1, 2, 3, 4, 5, 6, 7, 8, 9, 10, 11, 12, 13, 14, 15, 16, 17, 18, 19, 20, 21, 22, 23, 24] 48 37 rfl
          · skip
            intro g2 M2; have h2 := sp g2
            refine dd [14] ?_
            refine XD.ld 15 Try.isAgg26 ?_
            refine dd [16, 17, 18, 19] ?_
            refine XD.ld 20 Try.isAgg3 ?_
            refine dd [21] ?_
            refine XD.ld 22 Try.isAgg3 ?_
            refine dd [23, 24] ?_
            exact XD.fin M2 ⟨andT g2, subB⟩
          · skip
            intro g2 M2; have h2 := sp g2
            refine dd [14, 15, 16, 17, 18, 19, 20, 21, 22, 23, 24] ?_
            exact XD.fin M2 ⟨andF g2, subB⟩
          · skip
            intro L_
            refine dd [25] ?_
            exact XD.fin M1 ⟨orF g1, subB⟩
        · skip
          intro g1 M1; have h1 := sp g1
          refine dd [11, 12, 13, 14, 15, 16, 17, 18, 19, 20, 21, 22, 23, 24, 25] ?_
          exact XD.fin M1 ⟨orT g1, subB⟩
        · skip
          intro L_
          refine XD.nil ?_
          refine X.part 49 rfl (fun h1 => ?_) (fun h1 => ?_)
          · skip
            replace h1 := sp h1
            refine xx 5 ?_
            refine X.sb [2, 5, 4, 3, 1] ?_
            have hst := goT_step (p := prevT t.turns i) (s := s) (show i < t.turns.length by omega)
            refine X.retL (q) Try.func15 (res1 Try.results15 rfl) ⟨_, rfl, by rw [chk, if_neg]; rintro ⟨_, _, g⟩; rw [hg, hst] at g; obtain ⟨⟨g1, g2, g3, g4, g5⟩, _⟩ := g; first | omega | (exact g5 (by rw [prevT_pos (by omega) (by omega)]; exact congrArg some (by omega))), rfl⟩
          · skip
            replace h1 := sp h1
            refine xo 6 ?_
            refine XO.ld Try.isAgg3 ?_
            refine ox 8 ?_
            refine X.sb [55, 3, 4, 1] ?_
            refine X.part 55 rfl (fun h2 => ?_) (fun h2 => ?_)
            · skip
              replace h2 := sp h2
              refine xx 5 ?_
              have hst := goT_step (p := prevT t.turns i) (s := s) (show i < t.turns.length by omega)
              refine X.retL (q) Try.func15 (res1 Try.results15 rfl) ⟨_, rfl, by rw [chk, if_neg]; rintro ⟨_, _, g⟩; rw [hg, hst] at g; obtain ⟨⟨g1, g2, g3, g4, g5⟩, _⟩ := g; first | omega | (exact g5 (by rw [prevT_pos (by omega) (by omega)]; exact congrArg some (by omega))), rfl⟩
            · skip
              replace h2 := sp h2
              refine xx 8 ?_
              have hst := goT_step (p := prevT t.turns i) (s := s) (show i < t.turns.length by omega)
              refine X.at (ih (i + 1, s + t.turns[i].2) ⟨⟨by dsimp only; omega, by dsimp only; omega, by dsimp only; omega⟩, hg.trans (hst.trans ⟨fun h => h.2, fun h => ⟨⟨by omega, by omega, by omega, by omega, by rcases Nat.eq_zero_or_pos i with e | e; exact (by subst e; simp [prevT_zero]); rw [prevT_pos (by omega) e]; simp only [ne_eq, Option.some.injEq]; omega⟩, h⟩⟩)⟩ (by dsimp only; omega)) subA leA
    · skip
      replace h0 := sp h0
      refine xo 5 ?_
      refine XO.ldA Try.isAgg30 Try.sizeOf30 ?_
      refine XO.ef (Ef.alloc Try.zeroValue30) ?_
      rintro _ _ ⟨n3, rfl, rfl⟩
      refine XO.ef0 (Ef.stA Try.sizeOf30) ?_
      rintro _ _ ⟨rfl, rfl⟩
      refine oo 4 ?_
      refine XO.ld Try.isAgg27 ?_
      refine oo 8 ?_
      refine XO.sb [62, 7, 6] ?_
      apply XO.cutAnd 3 65 62 rfl
      · skip
        intro g1 M1; have h1 := sp g1
        refine oo 3 ?_
        exact XO.fin M1 ⟨andT g1, subB⟩
      · skip
        intro g1 M1; have h1 := sp g1
        refine oo 3 ?_
        exact XO.fin M1 ⟨andF g1, subB⟩
      · skip
        refine oo 1 ?_
        refine XO.sb [66, 7, 6] ?_
        apply XO.cutAnd 6 72 66 rfl
        · skip
          intro g1 M1; have h1 := sp g1
          refine XO.ldA Try.isAgg30 Try.sizeOf30 ?_
          refine oo 1 ?_
          refine XO.ld Try.isAgg27 ?_
          refine oo 1 ?_
          refine XO.pu (Pu.eqlA rfl rfl (by kernel_rfl) (EqV.struct Try.underlying30 (by kernel_rfl) (by kernel_rfl) ⟨_, _, _, _, rfl, rfl, Try.isAgg27, (EqV.int Try.underlying27 _ _), ⟨_, _, _, _, rfl, rfl, Try.isAgg28, (EqV.int Try.underlying28 _ _), ⟨_, _, _, _, rfl, rfl, Try.isAgg3, (EqV.int Try.underlying3 _ _), ⟨_, _, _, _, rfl, rfl, Try.isAgg3, (EqV.int Try.underlying3 _ _), rfl, rfl⟩, rfl⟩, rfl⟩, rfl⟩)) ?_
          refine oo 1 ?_
          exact XO.fin M1 ⟨andT g1, subB⟩
        · skip
          intro g1 M1; have h1 := sp g1
          refine oo 6 ?_
          exact XO.fin M1 ⟨andF g1, subB⟩
        · skip
          refine ox 1 ?_
          refine X.part 72 rfl (fun h1 => ?_) (fun h1 => ?_)
          · skip
            replace h1 := sp h1
            refine xx 5 ?_
            refine X.sb [2, 7, 6] ?_
            have hG := hg.2 (goT_end (by omega))
            refine X.retL (q) Try.func15 (res1 Try.results15 rfl) ⟨_, rfl, by rw [chk, if_pos ⟨hl, (by unfold okE; omega), hG⟩], rfl⟩
          · skip
            replace h1 := sp h1
            refine xo 8 ?_
            refine XO.sb [75, 6] ?_
            apply XO.cutAnd 4 79 75 rfl
            · skip
              intro g2 M2; have h2 := sp g2
              refine oo 1 ?_
              refine XO.ld Try.isAgg28 ?_
              refine XO.cF Try.call37 (within64_ok _ _ _) ?_
              rintro _ _ ⟨rfl, rfl⟩ _ e_; simp only [ca, na] at e_; subst e_
              refine oo 1 ?_
              exact XO.fin M2 ⟨andT g2, subB⟩
            · skip
              intro g2 M2; have h2 := sp g2
              refine oo 4 ?_
              exact XO.fin M2 ⟨andF g2, subB⟩
            · skip
              refine oo 1 ?_
              refine XO.sb [80, 6] ?_
              apply XO.cutAnd 4 84 80 rfl
              · skip
                intro g2 M2; have h2 := sp g2
                refine oo 1 ?_
                refine XO.ld Try.isAgg3 ?_
                refine XO.cF Try.call37 (within64_ok _ _ _) ?_
                rintro _ _ ⟨rfl, rfl⟩ _ e_; simp only [ca, na] at e_; subst e_
                refine oo 1 ?_
                exact XO.fin M2 ⟨andT g2, subB⟩
              · skip
                intro g2 M2; have h2 := sp g2
                refine oo 4 ?_
                exact XO.fin M2 ⟨andF g2, subB⟩
              · skip
                refine oo 1 ?_
                refine XO.sb [85, 6] ?_
                apply XO.cutAnd 4 89 85 rfl
                · skip
                  intro g2 M2; have h2 := sp g2
                  refine oo 1 ?_
                  refine XO.ld Try.isAgg3 ?_
                  refine XO.cF Try.call37 (within64_ok _ _ _) ?_
                  rintro _ _ ⟨rfl, rfl⟩ _ e_; simp only [ca, na] at e_; subst e_
                  refine oo 1 ?_
                  exact XO.fin M2 ⟨andT g2, subB⟩
                · skip
                  intro g2 M2; have h2 := sp g2
                  refine oo 4 ?_
                  exact XO.fin M2 ⟨andF g2, subB⟩
                · skip
                  refine ox 1 ?_
                  refine X.sb [89] ?_
                  refine X.part 89 rfl (fun h2 => ?_) (fun h2 => ?_)
                  · skip
                    replace h2 := sp h2
                    refine xx 5 ?_
                    have hG := hg.2 (goT_end (by omega))
                    refine X.retL (q) Try.func15 (res1 Try.results15 rfl) ⟨_, rfl, by rw [chk, if_pos ⟨hl, (by unfold okE; omega), hG⟩], rfl⟩
                  · skip
                    replace h2 := sp h2
                    refine xx 6 ?_
                    have hG := hg.2 (goT_end (by omega))
                    refine X.retL (q) Try.func15 (res1 Try.results15 rfl) ⟨_, rfl, by rw [chk, if_neg]; rintro ⟨_, he, _⟩; unfold okE at he; omega, rfl⟩
end
end Go.Proofs.Ytjkkefgkhafmfaa

