/- What functions of package ops, of its references and of its laws do: contracts of calls, proved by walking their code. -/
import Derived.Test.YtbeeplmgcdnadaaDoorA
import Derived.KernelRfl
set_option maxRecDepth 100000
set_option linter.unusedVariables false
set_option linter.unusedSimpArgs false
namespace Go.Proofs.YtbeeplmgcdnadaaDoor
open Go Go.RowKit Wx
attribute [local irreducible] Wx.lsH Wx.rsH Wx.lsM Wx.rsM Wx.stars

/-- What is read of the codes' table. -/
def GC (q : List HP) : Prop := ∃ L : List (ByteArray × Int), L.map (·.2) = whatL ∧ Sees q (some ⟨1, 0, none⟩) (L.flatMap cdC)
theorem GC.le {q q' : List HP} (h : GC q') (k : Le q q') : GC q := let ⟨L, h1, h2⟩ := h; ⟨L, h1, h2.le k⟩
section
variable {G : World} {q : List HP} {a b A : Option Addr} {c d C p p0 p1 p2 i : Nat} {lo hi n : Int} {fv : Value}
theorem within1_ok (h1 : Cl q ⟨p1, 0, none⟩ (.int .i64 lo)) (h2 : Cl q ⟨p2, 0, none⟩ (.int .i64 hi)) : CallF Tryd.prog G 62 [.int .i64 n, .pointer (some ⟨p1, 0, none⟩), .pointer (some ⟨p2, 0, none⟩)] (q) (Ret fun v q' => v = .bool (decide (within n lo hi)) ∧ q' = q) := by
 refine CallF.of Tryd.func62 Tryd.ntmps62 rfl (fun F cs => ?_)
 refine xo 6 ?_
 refine ld ?_ (hc := (h1.le leA))
 refine oo 3 ?_
 refine XO.sb [8, 4, 0, 2] ?_
 apply XO.cutAnd 4 12 8 rfl
 · skip
   intro g1 M1; have h1 := sp g1
   refine oo 1 ?_
   refine ld ?_ (hc := (h2.le leA))
   refine oo 2 ?_
   exact XO.fin M1 ⟨andT g1, subB⟩
 · skip
   intro g1 M1; have h1 := sp g1
   refine oo 4 ?_
   exact XO.fin M1 ⟨andF g1, subB⟩
 · skip
   refine ox 2 ?_
   refine X.retL (q) Tryd.func62 (res1 Tryd.results62 rfl) ⟨_, rfl, congrArg Value.bool (by rw [Bool.eq_iff_iff, decide_eq_true_iff]; unfold within; simp), rfl⟩
theorem within_ok  : CallF Tryd.prog G 45 [.int .i64 lo, .int .i64 hi] ([]) (Ret fun v q' => ∃ p1 p2, v = .func (.func 62) [].toArray [.pointer (some ⟨p1, 0, none⟩), .pointer (some ⟨p2, 0, none⟩)].toArray ∧ q' = [pto p1 (.cells [.int .i64 lo].toArray 3 (0, 0)), pto p2 (.cells [.int .i64 hi].toArray 3 (0, 0))]) := by
 refine CallF.of Tryd.func45 Tryd.ntmps45 rfl (fun F cs => ?_)
 refine xo 2 ?_
 refine XO.bx fun n1 => ?_
 refine XO.bx fun n2 => ?_
 refine ox 7 ?_
 refine X.retL [pto n1 (.cells [.int .i64 lo].toArray 3 (0, 0)), pto n2 (.cells [.int .i64 hi].toArray 3 (0, 0))] Tryd.func45 (res1 Tryd.results45 rfl) ⟨_, rfl, n1, n2, rfl, rfl⟩
theorem within_rdr {l : List Int} (h1 : Cl q ⟨p1, 0, none⟩ (.int .i64 lo)) (h2 : Cl q ⟨p2, 0, none⟩ (.int .i64 hi)) : Rdr Tryd.prog G (.func (.func 62) [].toArray [.pointer (some ⟨p1, 0, none⟩), .pointer (some ⟨p2, 0, none⟩)].toArray) I64 (fun x => .bool (decide (within x lo hi))) q l :=
  fun q1 h x _ => CallV.c12 Tryd.call62 (within1_ok (h1.le h) (h2.le h))
theorem valueMay_ok  : CallF Tryd.prog G 47 [.int .i64 n] (q) (Ret fun v q' => v = .bool (decide (within n (-2147483648) 2147483647)) ∧ q' = q) := by
 refine CallF.of Tryd.func47 Tryd.ntmps47 rfl (fun F cs => ?_)
 refine xo 9 ?_
 refine XO.sb [5, 2, 0] ?_
 apply XO.cutAnd 3 8 5 rfl
 · skip
   intro g1 M1; have h1 := sp g1
   refine oo 3 ?_
   exact XO.fin M1 ⟨andT g1, subB⟩
 · skip
   intro g1 M1; have h1 := sp g1
   refine oo 3 ?_
   exact XO.fin M1 ⟨andF g1, subB⟩
 · skip
   refine ox 2 ?_
   refine X.retL (q) Tryd.func47 (res1 Tryd.results47 rfl) ⟨_, rfl, congrArg Value.bool (by rw [Bool.eq_iff_iff, decide_eq_true_iff]; unfold within; simp), rfl⟩
theorem valueMay_rdr {l : List Int} : Rdr Tryd.prog G (.func (.func 47) #[] #[]) I64 (fun x => .bool (decide (within x (-2147483648) 2147483647))) q l :=
  fun q1 h x _ => CallV.c10 Tryd.call47 valueMay_ok
set_option maxHeartbeats 1000000 in
theorem indexFint64_ok {l : List Int} {u : Int → Bool} (hs : Sees q a (l.map I64)) (hn : l.length ≤ 9223372036854775807) (hp : Rdr Tryd.prog G fv I64 (fun x => .bool (u x)) q l) : CallF Tryd.prog G 80 [.slice a l.length c, fv] (q) (Ret fun v q' => ∃ k : Int, v = .int .i64 k ∧ decide (0 ≤ k) = l.any u ∧ q' = q) := by
 refine CallF.of Tryd.func80 Tryd.ntmps80 rfl (fun F cs => ?_)
 have hlen : (l.map I64).length = l.length := by simp
 refine xx 12 ?_
 refine X.at (X.loop (fun (s : Nat × Option Addr) => s.1 ≤ l.length ∧ s.2 = a ∧ (l.take s.1).any u = false) (fun s => [(0, .slice s.2 l.length c), (1, fv), (7, .int .i64 (l.length : Int)), (8, .int .i64 (s.1 : Int))]) (fun s => q ++ F) (fun s => l.length - s.1) (fun s hi_ ih => ?_) (0, a) ⟨by dsimp only; omega, rfl, rfl⟩) subA leA
 try dsimp only at hi_ ih ⊢
 obtain ⟨hi1, rfl, hi2⟩ := hi_
 obtain ⟨s, a⟩ := s; dsimp only at *
 refine xx 5 ?_
 refine X.part 9 rfl (fun h0 => ?_) (fun h0 => ?_)
 · skip
   replace h0 := sp h0
   have hi0 : s < l.length := by omega
   refine X.adr hs (by rw [hlen]; omega) (fun b1 o1 e_ => ?_); subst e_
   refine xo 15 ?_
   refine ld ?_
   refine XO.cRV (hp _ leA _ (List.getElem_mem hi0)) ?_
   refine ox 1 ?_
   refine X.part 16 rfl (fun h1 => ?_) (fun h1 => ?_)
   · skip
     replace h1 := sp h1
     refine xx 6 ?_
     refine X.retL (q) Tryd.func80 (res1 Tryd.results80 rfl) ⟨_, rfl, _, rfl, by rw [any_at hi0 h1]; exact decide_eq_true (by omega), rfl⟩
   · skip
     replace h1 := sp h1
     refine xx 7 ?_
     refine X.at (ih (s + 1, some ⟨b1, o1, none⟩) ⟨by dsimp only; omega, rfl, by dsimp only; rw [any_take hi0, hi2, h1]; rfl⟩ (by dsimp only; omega)) subA leA
 · skip
   replace h0 := sp h0
   refine xx 6 ?_
   rw [List.take_of_length_le (show l.length ≤ s by omega)] at hi2
   refine X.retL (q) Tryd.func80 (res1 Tryd.results80 rfl) ⟨_, rfl, _, rfl, by rw [hi2]; rfl, rfl⟩
theorem contFint64_ok {l : List Int} {u : Int → Bool} (hs : Sees q a (l.map I64)) (hn : l.length ≤ 9223372036854775807) (hp : Rdr Tryd.prog G fv I64 (fun x => .bool (u x)) q l) : CallF Tryd.prog G 63 [.slice a l.length c, fv] (q) (Ret fun v q' => v = .bool (l.any u) ∧ q' = q) := by
 refine CallF.of Tryd.func63 Tryd.ntmps63 rfl (fun F cs => ?_)
 refine xo 8 ?_
 refine XO.cX Tryd.call80 (Le.refl _) (indexFint64_ok (hs.le leA) hn (hp.le leA)) ?_
 rintro _ _ ⟨k, rfl, hk, rfl⟩
 refine ox 3 ?_
 refine X.retL (q) Tryd.func63 (res1 Tryd.results63 rfl) ⟨_, rfl, congrArg Value.bool hk, rfl⟩
theorem all1int64_ok {l : List Int} {x : Int} {u : Int → Bool} (hx : x ∈ l) (h1 : Cl q ⟨p, 0, none⟩ fv) (hp : Rdr Tryd.prog G fv I64 (fun x => .bool (u x)) q l) : CallF Tryd.prog G 64 [.int .i64 x, .pointer (some ⟨p, 0, none⟩)] (q) (Ret fun v q' => v = .bool (!u x) ∧ q' = q) := by
 refine CallF.of Tryd.func64 Tryd.ntmps64 rfl (fun F cs => ?_)
 refine xo 6 ?_
 refine ld ?_ (hc := (h1.le leA))
 refine oo 1 ?_
 refine XO.cRV (hp _ leA _ hx) ?_
 refine XO.pu (Pu.not rfl) ?_
 refine ox 2 ?_
 refine X.retL (q) Tryd.func64 (res1 Tryd.results64 rfl) ⟨_, rfl, rfl, rfl⟩
theorem allint64_ok {l : List Int} {u : Int → Bool} (hs : Sees q a (l.map I64)) (hn : l.length ≤ 9223372036854775807) (hp : Rdr Tryd.prog G fv I64 (fun x => .bool (u x)) q l) (ho : fv.cells = #[fv]) : CallF Tryd.prog G 46 [.slice a l.length c, .int .i64 hi, fv] (q) (Ret fun v q' => v = .bool (decide ((l.length : Int) ≤ hi ∧ ∀ x ∈ l, u x = true)) ∧ q' = q) := by
 refine CallF.of Tryd.func46 Tryd.ntmps46 rfl (fun F cs => ?_)
 refine xo 2 ?_
 refine XO.bx fun n1 => ?_
 rw [ho]
 refine oo 9 ?_
 refine XO.sb [11, 6, 5, 0] ?_
 apply XO.cutAnd 5 16 11 rfl
 · skip
   intro g1 M1; have h1 := sp g1
   refine oo 2 ?_
   refine XO.cR Tryd.call63 (contFint64_ok (u := fun x => !u x) (hs.le leA) hn (fun q1 h1 x hx => CallV.c11 Tryd.call64 (all1int64_ok hx ((Cl.of (l := [fv]) hasA rfl).le h1) (hp.le (h1.trans leA))))) ?_
   refine XO.pu (Pu.not rfl) ?_
   refine oo 1 ?_
   exact XO.fin M1 ⟨andT g1, subB⟩
 · skip
   intro g1 M1; have h1 := sp g1
   refine oo 5 ?_
   exact XO.fin M1 ⟨andF g1, subB⟩
 · skip
   refine ox 2 ?_
   refine X.retL (q) Tryd.func46 (res1 Tryd.results46 rfl) ⟨_, rfl, congrArg Value.bool (by rw [Bool.eq_iff_iff]; simp), rfl⟩
set_option maxHeartbeats 1000000 in
theorem indexFint_ok {l : List Int} {u : Int → Bool} (hs : Sees q a (l.map I64)) (hn : l.length ≤ 9223372036854775807) (hp : Rdr Tryd.prog G fv I64 (fun x => .bool (u x)) q l) : CallF Tryd.prog G 81 [.slice a l.length c, fv] (q) (Ret fun v q' => ∃ k : Int, v = .int .i64 k ∧ decide (0 ≤ k) = l.any u ∧ q' = q) := by
 refine CallF.of Tryd.func81 Tryd.ntmps81 rfl (fun F cs => ?_)
 have hlen : (l.map I64).length = l.length := by simp
 refine xx 12 ?_
 refine X.at (X.loop (fun (s : Nat × Option Addr) => s.1 ≤ l.length ∧ s.2 = a ∧ (l.take s.1).any u = false) (fun s => [(0, .slice s.2 l.length c), (1, fv), (7, .int .i64 (l.length : Int)), (8, .int .i64 (s.1 : Int))]) (fun s => q ++ F) (fun s => l.length - s.1) (fun s hi_ ih => ?_) (0, a) ⟨by dsimp only; omega, rfl, rfl⟩) subA leA
 try dsimp only at hi_ ih ⊢
 obtain ⟨hi1, rfl, hi2⟩ := hi_
 obtain ⟨s, a⟩ := s; dsimp only at *
 refine xx 5 ?_
 refine X.part 9 rfl (fun h0 => ?_) (fun h0 => ?_)
 · skip
   replace h0 := sp h0
   have hi0 : s < l.length := by omega
   refine X.adr hs (by rw [hlen]; omega) (fun b1 o1 e_ => ?_); subst e_
   refine xo 15 ?_
   refine ld ?_
   refine XO.cRV (hp _ leA _ (List.getElem_mem hi0)) ?_
   refine ox 1 ?_
   refine X.part 16 rfl (fun h1 => ?_) (fun h1 => ?_)
   · skip
     replace h1 := sp h1
     refine xx 6 ?_
     refine X.retL (q) Tryd.func81 (res1 Tryd.results81 rfl) ⟨_, rfl, _, rfl, by rw [any_at hi0 h1]; exact decide_eq_true (by omega), rfl⟩
   · skip
     replace h1 := sp h1
     refine xx 7 ?_
     refine X.at (ih (s + 1, some ⟨b1, o1, none⟩) ⟨by dsimp only; omega, rfl, by dsimp only; rw [any_take hi0, hi2, h1]; rfl⟩ (by dsimp only; omega)) subA leA
 · skip
   replace h0 := sp h0
   refine xx 6 ?_
   rw [List.take_of_length_le (show l.length ≤ s by omega)] at hi2
   refine X.retL (q) Tryd.func81 (res1 Tryd.results81 rfl) ⟨_, rfl, _, rfl, by rw [hi2]; rfl, rfl⟩
theorem contFint_ok {l : List Int} {u : Int → Bool} (hs : Sees q a (l.map I64)) (hn : l.length ≤ 9223372036854775807) (hp : Rdr Tryd.prog G fv I64 (fun x => .bool (u x)) q l) : CallF Tryd.prog G 65 [.slice a l.length c, fv] (q) (Ret fun v q' => v = .bool (l.any u) ∧ q' = q) := by
 refine CallF.of Tryd.func65 Tryd.ntmps65 rfl (fun F cs => ?_)
 refine xo 8 ?_
 refine XO.cX Tryd.call81 (Le.refl _) (indexFint_ok (hs.le leA) hn (hp.le leA)) ?_
 rintro _ _ ⟨k, rfl, hk, rfl⟩
 refine ox 3 ?_
 refine X.retL (q) Tryd.func65 (res1 Tryd.results65 rfl) ⟨_, rfl, congrArg Value.bool hk, rfl⟩
theorem all1int_ok {l : List Int} {x : Int} {u : Int → Bool} (hx : x ∈ l) (h1 : Cl q ⟨p, 0, none⟩ fv) (hp : Rdr Tryd.prog G fv I64 (fun x => .bool (u x)) q l) : CallF Tryd.prog G 66 [.int .i64 x, .pointer (some ⟨p, 0, none⟩)] (q) (Ret fun v q' => v = .bool (!u x) ∧ q' = q) := by
 refine CallF.of Tryd.func66 Tryd.ntmps66 rfl (fun F cs => ?_)
 refine xo 6 ?_
 refine ld ?_ (hc := (h1.le leA))
 refine oo 1 ?_
 refine XO.cRV (hp _ leA _ hx) ?_
 refine XO.pu (Pu.not rfl) ?_
 refine ox 2 ?_
 refine X.retL (q) Tryd.func66 (res1 Tryd.results66 rfl) ⟨_, rfl, rfl, rfl⟩
theorem allint_ok {l : List Int} {u : Int → Bool} (hs : Sees q a (l.map I64)) (hn : l.length ≤ 9223372036854775807) (hp : Rdr Tryd.prog G fv I64 (fun x => .bool (u x)) q l) (ho : fv.cells = #[fv]) : CallF Tryd.prog G 48 [.slice a l.length c, .int .i64 hi, fv] (q) (Ret fun v q' => v = .bool (decide ((l.length : Int) ≤ hi ∧ ∀ x ∈ l, u x = true)) ∧ q' = q) := by
 refine CallF.of Tryd.func48 Tryd.ntmps48 rfl (fun F cs => ?_)
 refine xo 2 ?_
 refine XO.bx fun n1 => ?_
 rw [ho]
 refine oo 9 ?_
 refine XO.sb [11, 6, 5, 0] ?_
 apply XO.cutAnd 5 16 11 rfl
 · skip
   intro g1 M1; have h1 := sp g1
   refine oo 2 ?_
   refine XO.cR Tryd.call65 (contFint_ok (u := fun x => !u x) (hs.le leA) hn (fun q1 h1 x hx => CallV.c11 Tryd.call66 (all1int_ok hx ((Cl.of (l := [fv]) hasA rfl).le h1) (hp.le (h1.trans leA))))) ?_
   refine XO.pu (Pu.not rfl) ?_
   refine oo 1 ?_
   exact XO.fin M1 ⟨andT g1, subB⟩
 · skip
   intro g1 M1; have h1 := sp g1
   refine oo 5 ?_
   exact XO.fin M1 ⟨andF g1, subB⟩
 · skip
   refine ox 2 ?_
   refine X.retL (q) Tryd.func48 (res1 Tryd.results48 rfl) ⟨_, rfl, congrArg Value.bool (by rw [Bool.eq_iff_iff]; simp), rfl⟩
set_option maxHeartbeats 1000000 in
theorem indexFCode_ok {l : List Cod} {u : Cod → Bool} (hs : Sees q a (l.flatMap codC)) (hn : l.length ≤ 9223372036854775807) (hp : Rdr Tryd.prog G fv (fun x => .agg (codC x).toArray) (fun x => .bool (u x)) q l) : CallF Tryd.prog G 82 [.slice a l.length c, fv] (q) (Ret fun v q' => ∃ k : Int, v = .int .i64 k ∧ decide (0 ≤ k) = l.any u ∧ q' = q) := by
 refine CallF.of Tryd.func82 Tryd.ntmps82 rfl (fun F cs => ?_)
 have hlen := flatMap_len (f := codC) (sz := 4) (fun _ => rfl) l
 refine xx 12 ?_
 refine X.at (X.loop (fun (s : Nat × Option Addr) => s.1 ≤ l.length ∧ s.2 = a ∧ (l.take s.1).any u = false) (fun s => [(0, .slice s.2 l.length c), (1, fv), (7, .int .i64 (l.length : Int)), (8, .int .i64 (s.1 : Int))]) (fun s => q ++ F) (fun s => l.length - s.1) (fun s hi_ ih => ?_) (0, a) ⟨by dsimp only; omega, rfl, rfl⟩) subA leA
 try dsimp only at hi_ ih ⊢
 obtain ⟨hi1, rfl, hi2⟩ := hi_
 obtain ⟨s, a⟩ := s; dsimp only at *
 refine xx 5 ?_
 refine X.part 9 rfl (fun h0 => ?_) (fun h0 => ?_)
 · skip
   replace h0 := sp h0
   have hi0 : s < l.length := by omega
   refine X.adr hs (by rw [hlen]; omega) (fun b1 o1 e_ => ?_); subst e_
   refine xo 15 ?_
   refine XO.ldS (n := s) Tryd.isAgg35 Tryd.sizeOf35 hs hi0 ?_
   refine XO.cRV (hp _ leA _ (List.getElem_mem hi0)) ?_
   refine ox 1 ?_
   refine X.part 16 rfl (fun h1 => ?_) (fun h1 => ?_)
   · skip
     replace h1 := sp h1
     refine xx 6 ?_
     refine X.retL (q) Tryd.func82 (res1 Tryd.results82 rfl) ⟨_, rfl, _, rfl, by rw [any_at hi0 h1]; exact decide_eq_true (by omega), rfl⟩
   · skip
     replace h1 := sp h1
     refine xx 7 ?_
     refine X.at (ih (s + 1, some ⟨b1, o1, none⟩) ⟨by dsimp only; omega, rfl, by dsimp only; rw [any_take hi0, hi2, h1]; rfl⟩ (by dsimp only; omega)) subA leA
 · skip
   replace h0 := sp h0
   refine xx 6 ?_
   rw [List.take_of_length_le (show l.length ≤ s by omega)] at hi2
   refine X.retL (q) Tryd.func82 (res1 Tryd.results82 rfl) ⟨_, rfl, _, rfl, by rw [hi2]; rfl, rfl⟩
theorem contFCode_ok {l : List Cod} {u : Cod → Bool} (hs : Sees q a (l.flatMap codC)) (hn : l.length ≤ 9223372036854775807) (hp : Rdr Tryd.prog G fv (fun x => .agg (codC x).toArray) (fun x => .bool (u x)) q l) : CallF Tryd.prog G 67 [.slice a l.length c, fv] (q) (Ret fun v q' => v = .bool (l.any u) ∧ q' = q) := by
 refine CallF.of Tryd.func67 Tryd.ntmps67 rfl (fun F cs => ?_)
 refine xo 8 ?_
 refine XO.cX Tryd.call82 (Le.refl _) (indexFCode_ok (hs.le leA) hn (hp.le leA)) ?_
 rintro _ _ ⟨k, rfl, hk, rfl⟩
 refine ox 3 ?_
 refine X.retL (q) Tryd.func67 (res1 Tryd.results67 rfl) ⟨_, rfl, congrArg Value.bool hk, rfl⟩
theorem all1Code_ok {l : List Cod} {x : Cod} {u : Cod → Bool} (hx : x ∈ l) (h1 : Cl q ⟨p, 0, none⟩ fv) (hp : Rdr Tryd.prog G fv (fun x => .agg (codC x).toArray) (fun x => .bool (u x)) q l) : CallF Tryd.prog G 68 [.agg (codC x).toArray, .pointer (some ⟨p, 0, none⟩)] (q) (Ret fun v q' => v = .bool (!u x) ∧ q' = q) := by
 refine CallF.of Tryd.func68 Tryd.ntmps68 rfl (fun F cs => ?_)
 refine xo 2 ?_
 refine XO.bx fun n1 => ?_
 refine oo 4 ?_
 refine ld ?_ (hc := (h1.le leA))
 refine ldA ?_
 refine XO.cRV (hp _ leA _ hx) ?_
 refine XO.pu (Pu.not rfl) ?_
 refine ox 2 ?_
 refine X.retL (q) Tryd.func68 (res1 Tryd.results68 rfl) ⟨_, rfl, rfl, rfl⟩
theorem allCode_ok {l : List Cod} {u : Cod → Bool} (hs : Sees q a (l.flatMap codC)) (hn : l.length ≤ 9223372036854775807) (hp : Rdr Tryd.prog G fv (fun x => .agg (codC x).toArray) (fun x => .bool (u x)) q l) (ho : fv.cells = #[fv]) : CallF Tryd.prog G 49 [.slice a l.length c, .int .i64 hi, fv] (q) (Ret fun v q' => v = .bool (decide ((l.length : Int) ≤ hi ∧ ∀ x ∈ l, u x = true)) ∧ q' = q) := by
 refine CallF.of Tryd.func49 Tryd.ntmps49 rfl (fun F cs => ?_)
 refine xo 2 ?_
 refine XO.bx fun n1 => ?_
 rw [ho]
 refine oo 9 ?_
 refine XO.sb [11, 6, 5, 0] ?_
 apply XO.cutAnd 5 16 11 rfl
 · skip
   intro g1 M1; have h1 := sp g1
   refine oo 2 ?_
   refine XO.cR Tryd.call67 (contFCode_ok (u := fun x => !u x) (hs.le leA) hn (fun q1 h1 x hx => CallV.c11 Tryd.call68 (all1Code_ok hx ((Cl.of (l := [fv]) hasA rfl).le h1) (hp.le (h1.trans leA))))) ?_
   refine XO.pu (Pu.not rfl) ?_
   refine oo 1 ?_
   exact XO.fin M1 ⟨andT g1, subB⟩
 · skip
   intro g1 M1; have h1 := sp g1
   refine oo 5 ?_
   exact XO.fin M1 ⟨andF g1, subB⟩
 · skip
   refine ox 2 ?_
   refine X.retL (q) Tryd.func49 (res1 Tryd.results49 rfl) ⟨_, rfl, congrArg Value.bool (by rw [Bool.eq_iff_iff]; simp), rfl⟩
set_option maxHeartbeats 1000000 in
theorem indexFIns_ok {l : List Ins} {u : Ins → Bool} (hs : Sees q a (l.flatMap insC)) (hn : l.length ≤ 9223372036854775807) (hp : Rdr Tryd.prog G fv (fun x => .agg (insC x).toArray) (fun x => .bool (u x)) q l) : CallF Tryd.prog G 98 [.slice a l.length c, fv] (q) (Ret fun v q' => ∃ k : Int, v = .int .i64 k ∧ decide (0 ≤ k) = l.any u ∧ q' = q) := by
 refine CallF.of Tryd.func98 Tryd.ntmps98 rfl (fun F cs => ?_)
 have hlen := flatMap_len (f := insC) (sz := 4) (fun _ => rfl) l
 refine xx 12 ?_
 refine X.at (X.loop (fun (s : Nat × Option Addr) => s.1 ≤ l.length ∧ s.2 = a ∧ (l.take s.1).any u = false) (fun s => [(0, .slice s.2 l.length c), (1, fv), (7, .int .i64 (l.length : Int)), (8, .int .i64 (s.1 : Int))]) (fun s => q ++ F) (fun s => l.length - s.1) (fun s hi_ ih => ?_) (0, a) ⟨by dsimp only; omega, rfl, rfl⟩) subA leA
 try dsimp only at hi_ ih ⊢
 obtain ⟨hi1, rfl, hi2⟩ := hi_
 obtain ⟨s, a⟩ := s; dsimp only at *
 refine xx 5 ?_
 refine X.part 9 rfl (fun h0 => ?_) (fun h0 => ?_)
 · skip
   replace h0 := sp h0
   have hi0 : s < l.length := by omega
   refine X.adr hs (by rw [hlen]; omega) (fun b1 o1 e_ => ?_); subst e_
   refine xo 15 ?_
   refine XO.ldS (n := s) Tryd.isAgg53 Tryd.sizeOf53 hs hi0 ?_
   refine XO.cRV (hp _ leA _ (List.getElem_mem hi0)) ?_
   refine ox 1 ?_
   refine X.part 16 rfl (fun h1 => ?_) (fun h1 => ?_)
   · skip
     replace h1 := sp h1
     refine xx 6 ?_
     refine X.retL (q) Tryd.func98 (res1 Tryd.results98 rfl) ⟨_, rfl, _, rfl, by rw [any_at hi0 h1]; exact decide_eq_true (by omega), rfl⟩
   · skip
     replace h1 := sp h1
     refine xx 7 ?_
     refine X.at (ih (s + 1, some ⟨b1, o1, none⟩) ⟨by dsimp only; omega, rfl, by dsimp only; rw [any_take hi0, hi2, h1]; rfl⟩ (by dsimp only; omega)) subA leA
 · skip
   replace h0 := sp h0
   refine xx 6 ?_
   rw [List.take_of_length_le (show l.length ≤ s by omega)] at hi2
   refine X.retL (q) Tryd.func98 (res1 Tryd.results98 rfl) ⟨_, rfl, _, rfl, by rw [hi2]; rfl, rfl⟩
theorem contFIns_ok {l : List Ins} {u : Ins → Bool} (hs : Sees q a (l.flatMap insC)) (hn : l.length ≤ 9223372036854775807) (hp : Rdr Tryd.prog G fv (fun x => .agg (insC x).toArray) (fun x => .bool (u x)) q l) : CallF Tryd.prog G 83 [.slice a l.length c, fv] (q) (Ret fun v q' => v = .bool (l.any u) ∧ q' = q) := by
 refine CallF.of Tryd.func83 Tryd.ntmps83 rfl (fun F cs => ?_)
 refine xo 8 ?_
 refine XO.cX Tryd.call98 (Le.refl _) (indexFIns_ok (hs.le leA) hn (hp.le leA)) ?_
 rintro _ _ ⟨k, rfl, hk, rfl⟩
 refine ox 3 ?_
 refine X.retL (q) Tryd.func83 (res1 Tryd.results83 rfl) ⟨_, rfl, congrArg Value.bool hk, rfl⟩
theorem all1Ins_ok {l : List Ins} {x : Ins} {u : Ins → Bool} (hx : x ∈ l) (h1 : Cl q ⟨p, 0, none⟩ fv) (hp : Rdr Tryd.prog G fv (fun x => .agg (insC x).toArray) (fun x => .bool (u x)) q l) : CallF Tryd.prog G 84 [.agg (insC x).toArray, .pointer (some ⟨p, 0, none⟩)] (q) (Ret fun v q' => v = .bool (!u x) ∧ q' = q) := by
 refine CallF.of Tryd.func84 Tryd.ntmps84 rfl (fun F cs => ?_)
 refine xo 2 ?_
 refine XO.bx fun n1 => ?_
 refine oo 4 ?_
 refine ld ?_ (hc := (h1.le leA))
 refine ldA ?_
 refine XO.cRV (hp _ leA _ hx) ?_
 refine XO.pu (Pu.not rfl) ?_
 refine ox 2 ?_
 refine X.retL (q) Tryd.func84 (res1 Tryd.results84 rfl) ⟨_, rfl, rfl, rfl⟩
theorem allIns_ok {l : List Ins} {u : Ins → Bool} (hs : Sees q a (l.flatMap insC)) (hn : l.length ≤ 9223372036854775807) (hp : Rdr Tryd.prog G fv (fun x => .agg (insC x).toArray) (fun x => .bool (u x)) q l) (ho : fv.cells = #[fv]) : CallF Tryd.prog G 69 [.slice a l.length c, .int .i64 hi, fv] (q) (Ret fun v q' => v = .bool (decide ((l.length : Int) ≤ hi ∧ ∀ x ∈ l, u x = true)) ∧ q' = q) := by
 refine CallF.of Tryd.func69 Tryd.ntmps69 rfl (fun F cs => ?_)
 refine xo 2 ?_
 refine XO.bx fun n1 => ?_
 rw [ho]
 refine oo 9 ?_
 refine XO.sb [11, 6, 5, 0] ?_
 apply XO.cutAnd 5 16 11 rfl
 · skip
   intro g1 M1; have h1 := sp g1
   refine oo 2 ?_
   refine XO.cR Tryd.call83 (contFIns_ok (u := fun x => !u x) (hs.le leA) hn (fun q1 h1 x hx => CallV.c11 Tryd.call84 (all1Ins_ok hx ((Cl.of (l := [fv]) hasA rfl).le h1) (hp.le (h1.trans leA))))) ?_
   refine XO.pu (Pu.not rfl) ?_
   refine oo 1 ?_
   exact XO.fin M1 ⟨andT g1, subB⟩
 · skip
   intro g1 M1; have h1 := sp g1
   refine oo 5 ?_
   exact XO.fin M1 ⟨andF g1, subB⟩
 · skip
   refine ox 2 ?_
   refine X.retL (q) Tryd.func69 (res1 Tryd.results69 rfl) ⟨_, rfl, congrArg Value.bool (by rw [Bool.eq_iff_iff]; simp), rfl⟩
end
end Go.Proofs.YtbeeplmgcdnadaaDoor

