/- What functions of package sync, of its references and of its laws do: contracts of calls, proved by walking their code. -/
import Derived.Test.YtlgnnhpbomfdiaaE
import Derived.KernelRfl
set_option maxRecDepth 100000
set_option linter.unusedVariables false
set_option linter.unusedSimpArgs false
namespace Go.Proofs.Ytlgnnhpbomfdiaa
open Go Go.RowKit Wx

theorem flatMap_at {α β : Type} (f : α → List β) : ∀ (l : List α) (i n : Nat) (hi : i < l.length) (hn : n < (f l[i]).length), (l.flatMap f)[((l.take i).flatMap f).length + n]? = some (f l[i])[n]
  | [], _, _, hi, _ => by simp at hi
  | x :: r, 0, n, _, hn => by
    simp only [List.getElem_cons_zero] at hn
    simp [List.getElem?_append_left, hn]
  | x :: r, i + 1, n, hi, hn => by
    have := flatMap_at f r i n (by simpa using hi) (by simpa using hn)
    simp only [List.take_succ_cons, List.flatMap_cons, List.length_append, List.getElem_cons_succ]
    rw [List.getElem?_append_right (by omega), ← this]
    congr 1; omega
theorem flatMap_step {α β : Type} (f : α → List β) {l : List α} {i : Nat} (hi : i < l.length) : ((l.take (i + 1)).flatMap f).length = ((l.take i).flatMap f).length + (f l[i]).length := by
  rw [List.take_succ_eq_append_getElem hi, List.flatMap_append, List.length_append]; simp
def wl (σ : SyC) : List Int := σ.conds.flatMap (·.l)
def wK (σ : SyC) (i : Nat) : Nat := ((σ.conds.take i).flatMap (·.l)).length
theorem wK_get {σ : SyC} {i n : Nat} (hi : i < σ.conds.length) (hn : n < σ.conds[i].l.length) : wK σ i + n < (wl σ).length ∧ (wl σ)[wK σ i + n]? = some σ.conds[i].l[n] := by
  have := flatMap_at (fun x : SlV Int => x.l) σ.conds i n hi hn
  exact ⟨(List.getElem?_eq_some_iff.1 this).1, this⟩
theorem wK_step {σ : SyC} {i : Nat} (hi : i < σ.conds.length) : wK σ (i + 1) = wK σ i + σ.conds[i].l.length := flatMap_step _ hi
def w1 (x : Int) : List Value := [I64 x]
section
variable {G : World} {q : List HP} {a b : Option Addr} {c d g p b0 i n : Nat} {σ : SyC} {s : Sy} {k t v m at_ number : Int}
theorem waitingF_ok {y : Nat} {J : Nat → HP} {Jf : HP → Prop} (hC : σ.conds.length ≤ 1000) (hL : ∀ x ∈ σ.conds, x.l.length ≤ 100000)
    (hy : ∀ i (h : i < ((wl σ).map w1).length), CallV Try.prog G (.func (.yield y) #[] #[]) ((wl σ).map w1)[i] (J i :: [pto b0 (.cells [.pointer (some ⟨p, 0, none⟩)].toArray 24 (0, 0)), pto p (.cells [.bool true, .slice σ.ao σ.owners.length σ.co, .slice σ.ac σ.conds.length σ.cc, .slice σ.ah σ.chans.length σ.ch].toArray 74 (0, 0)), lsH I64 3 σ.ao σ.co σ.owners, rsH cqs 1 89 σ.ac σ.cc σ.conds, stars (σ.conds.map (lsV 3)), rsH chs 3 78 σ.ah σ.ch σ.chans, stars (σ.chans.map fun x => lsV 2 x.q)]) (Ret fun v q => (v = .bool true ∧ q = J (i + 1) :: [pto b0 (.cells [.pointer (some ⟨p, 0, none⟩)].toArray 24 (0, 0)), pto p (.cells [.bool true, .slice σ.ao σ.owners.length σ.co, .slice σ.ac σ.conds.length σ.cc, .slice σ.ah σ.chans.length σ.ch].toArray 74 (0, 0)), lsH I64 3 σ.ao σ.co σ.owners, rsH cqs 1 89 σ.ac σ.cc σ.conds, stars (σ.conds.map (lsV 3)), rsH chs 3 78 σ.ah σ.ch σ.chans, stars (σ.chans.map fun x => lsV 2 x.q)]) ∨ (v = .bool false ∧ ∃ A, Jf A ∧ q = A :: [pto b0 (.cells [.pointer (some ⟨p, 0, none⟩)].toArray 24 (0, 0)), pto p (.cells [.bool true, .slice σ.ao σ.owners.length σ.co, .slice σ.ac σ.conds.length σ.cc, .slice σ.ah σ.chans.length σ.ch].toArray 74 (0, 0)), lsH I64 3 σ.ao σ.co σ.owners, rsH cqs 1 89 σ.ac σ.cc σ.conds, stars (σ.conds.map (lsV 3)), rsH chs 3 78 σ.ah σ.ch σ.chans, stars (σ.chans.map fun x => lsV 2 x.q)]))) :
    CallF Try.prog G 67 [.func (.yield y) #[] #[], .pointer (some ⟨b0, 0, none⟩)] (J 0 :: [pto b0 (.cells [.pointer (some ⟨p, 0, none⟩)].toArray 24 (0, 0)), pto p (.cells [.bool true, .slice σ.ao σ.owners.length σ.co, .slice σ.ac σ.conds.length σ.cc, .slice σ.ah σ.chans.length σ.ch].toArray 74 (0, 0)), lsH I64 3 σ.ao σ.co σ.owners, rsH cqs 1 89 σ.ac σ.cc σ.conds, stars (σ.conds.map (lsV 3)), rsH chs 3 78 σ.ah σ.ch σ.chans, stars (σ.chans.map fun x => lsV 2 x.q)]) (Ret fun _ q => q = J (wl σ).length :: [pto b0 (.cells [.pointer (some ⟨p, 0, none⟩)].toArray 24 (0, 0)), pto p (.cells [.bool true, .slice σ.ao σ.owners.length σ.co, .slice σ.ac σ.conds.length σ.cc, .slice σ.ah σ.chans.length σ.ch].toArray 74 (0, 0)), lsH I64 3 σ.ao σ.co σ.owners, rsH cqs 1 89 σ.ac σ.cc σ.conds, stars (σ.conds.map (lsV 3)), rsH chs 3 78 σ.ah σ.ch σ.chans, stars (σ.chans.map fun x => lsV 2 x.q)] ∨ ∃ A, Jf A ∧ q = A :: [pto b0 (.cells [.pointer (some ⟨p, 0, none⟩)].toArray 24 (0, 0)), pto p (.cells [.bool true, .slice σ.ao σ.owners.length σ.co, .slice σ.ac σ.conds.length σ.cc, .slice σ.ah σ.chans.length σ.ch].toArray 74 (0, 0)), lsH I64 3 σ.ao σ.co σ.owners, rsH cqs 1 89 σ.ac σ.cc σ.conds, stars (σ.conds.map (lsV 3)), rsH chs 3 78 σ.ah σ.ch σ.chans, stars (σ.chans.map fun x => lsV 2 x.q)]) := by
  refine CallF.of Try.func67 Try.ntmps67 rfl (fun F cs => ?_)
  refine X.sub (p' := [(0, _), (1, _)]) ⟨rfl, rfl, trivial⟩ ?_
  change X _ _ _ _ _ _ _ _ (J 0 :: pto b0 (.cells [.pointer (some ⟨p, 0, none⟩)].toArray 24 (0, 0)) :: pto p (.cells [.bool true, .slice σ.ao σ.owners.length σ.co, .slice σ.ac σ.conds.length σ.cc, .slice σ.ah σ.chans.length σ.ch].toArray 74 (0, 0)) :: lsH I64 3 σ.ao σ.co σ.owners :: rsH cqs 1 89 σ.ac σ.cc σ.conds :: stars (σ.conds.map (lsV 3)) :: rsH chs 3 78 σ.ah σ.ch σ.chans :: stars (σ.chans.map fun x => lsV 2 x.q) :: F)
  have hlen := flatMap_len (f := cqs) (sz := 1) (fun _ => rfl) σ.conds
  have hsc : Sees (pto b0 (.cells [.pointer (some ⟨p, 0, none⟩)].toArray 24 (0, 0)) :: pto p (.cells [.bool true, .slice σ.ao σ.owners.length σ.co, .slice σ.ac σ.conds.length σ.cc, .slice σ.ah σ.chans.length σ.ch].toArray 74 (0, 0)) :: lsH I64 3 σ.ao σ.co σ.owners :: rsH cqs 1 89 σ.ac σ.cc σ.conds :: stars (σ.conds.map (lsV 3)) :: rsH chs 3 78 σ.ah σ.ch σ.chans :: stars (σ.chans.map fun x => lsV 2 x.q) :: F) σ.ac (σ.conds.flatMap cqs) := (Sees.rsH _).le leA
  have hsl : ∀ i (h : i < σ.conds.length), Sees (pto b0 (.cells [.pointer (some ⟨p, 0, none⟩)].toArray 24 (0, 0)) :: pto p (.cells [.bool true, .slice σ.ao σ.owners.length σ.co, .slice σ.ac σ.conds.length σ.cc, .slice σ.ah σ.chans.length σ.ch].toArray 74 (0, 0)) :: lsH I64 3 σ.ao σ.co σ.owners :: rsH cqs 1 89 σ.ac σ.cc σ.conds :: stars (σ.conds.map (lsV 3)) :: rsH chs 3 78 σ.ah σ.ch σ.chans :: stars (σ.chans.map fun x => lsV 2 x.q) :: F) σ.conds[i].a (σ.conds[i].l.map I64) := fun i h => ((Sees.lsH _).le (Le.focV (ty := 3) h))
  refine X.seq ?_
  refine X.region ?_
  refine XO.ld Try.isAgg24 ?_
  refine XO.pu (Pu.nilCheck rfl) ?_
  refine XO.pu (Pu.fieldAddr 71 2 0 rfl Try.underlying74 rfl Try.sizeOf71) ?_
  refine XO.ld Try.isAgg71 ?_
  refine XO.pu (Pu.len rfl Try.underlying71) ?_
  refine XO.pu (Pu.move rfl) ?_
  refine XO.nil ?_
  refine X.sub (p' := [(12, _), (11, _), (10, _), (0, _)]) ⟨rfl, rfl, rfl, rfl, trivial⟩ ?_
  refine X.block ?_
  refine X.at (X.loop (fun (s : Nat) => s ≤ σ.conds.length) (fun s => [(0, .func (.yield y) #[] #[]), (10, .slice σ.ac σ.conds.length σ.cc), (11, .int .i64 (σ.conds.length : Int)), (12, .int .i64 (s : Int))]) (fun s => J (wK σ s) :: pto b0 (.cells [.pointer (some ⟨p, 0, none⟩)].toArray 24 (0, 0)) :: pto p (.cells [.bool true, .slice σ.ao σ.owners.length σ.co, .slice σ.ac σ.conds.length σ.cc, .slice σ.ah σ.chans.length σ.ch].toArray 74 (0, 0)) :: lsH I64 3 σ.ao σ.co σ.owners :: rsH cqs 1 89 σ.ac σ.cc σ.conds :: stars (σ.conds.map (lsV 3)) :: rsH chs 3 78 σ.ah σ.ch σ.chans :: stars (σ.chans.map fun x => lsV 2 x.q) :: F) (fun s => σ.conds.length - s) (fun s hi_ ih => ?_) 0 (by omega)) ⟨(by first | rfl | exact congrArg some (congrArg (Value.int _) (by omega)) | (show some _ = some _; simp; done) | (show some _ = some _; simp; omega)), (by first | rfl | exact congrArg some (congrArg (Value.int _) (by omega)) | (show some _ = some _; simp; done) | (show some _ = some _; simp; omega)), (by first | rfl | exact congrArg some (congrArg (Value.int _) (by omega)) | (show some _ = some _; simp; done) | (show some _ = some _; simp; omega)), (by first | rfl | exact congrArg some (congrArg (Value.int _) (by omega)) | (show some _ = some _; simp; done) | (show some _ = some _; simp; omega)), trivial⟩ leA
  try dsimp only at hi_ ih ⊢
  obtain hi := hi_
  refine X.seq ?_
  refine X.region ?_
  refine XO.pu (Pu.lss rfl rfl) ?_
  refine XO.nil ?_
  refine X.sub (p' := [(13, _), (0, _), (10, _), (11, _), (12, _)]) ⟨rfl, rfl, rfl, rfl, rfl, trivial⟩ ?_
  refine X.seq ?_
  refine X.part 13 rfl (fun h0 => ?_) (fun h0 => ?_)
  · skip
    have h0 := of_decide_eq_true h0; have hi0 : s < σ.conds.length := (by omega); have hx2 := hL _ (List.getElem_mem hi0)
    refine X.adr (hsc.le (leA)) (by rw [hlen]; omega) (fun b1 o1 e_ => ?_)
    rw [e_] at hsc; rw [e_]
    refine X.condT rfl ?_
    refine X.skip ?_
    refine X.seq ?_
    refine X.block ?_
    refine X.seq ?_
    refine X.region ?_
    refine XO.pu (Pu.indexAddr rfl rfl Try.underlying71 Try.sizeOf89 (by omega) (by omega)) ?_
    refine XO.ldS (n := s) Try.isAgg89 Try.sizeOf89 hsc hi0 ?_
    refine XO.ef (Ef.alloc Try.zeroValue89) ?_
    rintro _ _ ⟨n1, rfl, rfl⟩
    refine XO.ef0 (Ef.stA Try.sizeOf89) ?_
    rintro _ _ ⟨rfl, rfl⟩
    refine XO.nil ?_
    refine X.sub (p' := [(4, _), (0, _), (10, _), (11, _), (12, _)]) ⟨rfl, rfl, rfl, rfl, rfl, trivial⟩ ?_
    refine X.seq ?_
    refine X.region ?_
    refine XO.pu (Pu.fieldAddr 87 0 0 rfl Try.underlying89 rfl Try.sizeOf87) ?_
    refine XO.pu (Pu.fieldAddr 29 0 0 rfl Try.underlying87 rfl Try.sizeOf29) ?_
    refine XO.ld Try.isAgg29 ?_
    refine XO.pu (Pu.len rfl Try.underlying29) ?_
    refine XO.pu (Pu.move rfl) ?_
    refine XO.nil ?_
    refine X.sub (p' := [(20, _), (19, _), (18, _), (0, _), (10, _), (11, _), (12, _)]) ⟨rfl, rfl, rfl, rfl, rfl, rfl, rfl, trivial⟩ ?_
    refine X.block ?_
    refine X.at (X.loop (fun (n : Nat) => n ≤ σ.conds[s].l.length) (fun n => [(0, .func (.yield y) #[] #[]), (10, .slice (some ⟨b1, o1, none⟩) σ.conds.length σ.cc), (11, .int .i64 (σ.conds.length : Int)), (12, .int .i64 (s : Int)), (18, .slice σ.conds[s].a σ.conds[s].l.length σ.conds[s].c), (19, .int .i64 (σ.conds[s].l.length : Int)), (20, .int .i64 (n : Int))]) (fun n => J (wK σ s + n) :: pto b0 (.cells [.pointer (some ⟨p, 0, none⟩)].toArray 24 (0, 0)) :: pto p (.cells [.bool true, .slice σ.ao σ.owners.length σ.co, .slice (some ⟨b1, o1, none⟩) σ.conds.length σ.cc, .slice σ.ah σ.chans.length σ.ch].toArray 74 (0, 0)) :: lsH I64 3 σ.ao σ.co σ.owners :: rsH cqs 1 89 (some ⟨b1, o1, none⟩) σ.cc σ.conds :: stars (σ.conds.map (lsV 3)) :: rsH chs 3 78 σ.ah σ.ch σ.chans :: stars (σ.chans.map fun x => lsV 2 x.q) :: F) (fun n => σ.conds[s].l.length - n) (fun n hi_ ih2 => ?_) 0 (by omega)) ⟨(by first | rfl | exact congrArg some (congrArg (Value.int _) (by omega)) | (show some _ = some _; simp; done) | (show some _ = some _; simp; omega)), (by first | rfl | exact congrArg some (congrArg (Value.int _) (by omega)) | (show some _ = some _; simp; done) | (show some _ = some _; simp; omega)), (by first | rfl | exact congrArg some (congrArg (Value.int _) (by omega)) | (show some _ = some _; simp; done) | (show some _ = some _; simp; omega)), (by first | rfl | exact congrArg some (congrArg (Value.int _) (by omega)) | (show some _ = some _; simp; done) | (show some _ = some _; simp; omega)), (by first | rfl | exact congrArg some (congrArg (Value.int _) (by omega)) | (show some _ = some _; simp; done) | (show some _ = some _; simp; omega)), (by first | rfl | exact congrArg some (congrArg (Value.int _) (by omega)) | (show some _ = some _; simp; done) | (show some _ = some _; simp; omega)), (by first | rfl | exact congrArg some (congrArg (Value.int _) (by omega)) | (show some _ = some _; simp; done) | (show some _ = some _; simp; omega)), trivial⟩ leA
    try dsimp only at hi_ ih2 ⊢
    obtain hn1 := hi_
    refine X.seq ?_
    refine X.region ?_
    refine XO.pu (Pu.lss rfl rfl) ?_
    refine XO.nil ?_
    refine X.sub (p' := [(21, _), (0, _), (10, _), (11, _), (12, _), (18, _), (19, _), (20, _)]) ⟨rfl, rfl, rfl, rfl, rfl, rfl, rfl, rfl, trivial⟩ ?_
    refine X.seq ?_
    refine X.part 21 rfl (fun h1 => ?_) (fun h1 => ?_)
    · skip
      have h1 := of_decide_eq_true h1; have hn2 : n < σ.conds[s].l.length := (by omega)
      obtain ⟨hk, hg⟩ := wK_get hi0 hn2
      have hy2 := hy (wK σ s + n) (by simpa using hk)
      rw [show ((wl σ).map w1)[wK σ s + n]'(by simpa using hk) = w1 σ.conds[s].l[n] by rw [List.getElem_map]; congr 1; exact Option.some.inj ((List.getElem?_eq_getElem hk).symm.trans hg)] at hy2
      rw [e_] at hy2; have hsi := hsl s hi0; rw [e_] at hsi
      refine X.adr (hsi.le leA) (by simp; omega) (fun b2 o2 e2 => ?_); rw [e2] at hsi; rw [e2]
      refine X.condT rfl ?_
      refine X.skip ?_
      refine X.seq ?_
      refine X.block ?_
      refine X.seq ?_
      refine X.region ?_
      refine XO.pu (Pu.indexAddr rfl rfl Try.underlying29 Try.sizeOf3 (by omega) (by omega)) ?_
      refine XO.ld Try.isAgg3 ?_
      refine XO.pu (Pu.assign rfl) ?_
      refine XO.nil ?_
      refine X.sub (p' := [(6, _), (0, _), (10, _), (11, _), (12, _), (18, _), (19, _), (20, _)]) ⟨rfl, rfl, rfl, rfl, rfl, rfl, rfl, rfl, trivial⟩ ?_
      refine X.seq ?_
      refine X.region ?_
      refine XO.pu (Pu.move rfl) ?_
      refine XO.pu (Pu.move rfl) ?_
      refine XO.cV hy2 ?_
      rintro _ _ (⟨rfl, rfl⟩ | ⟨rfl, A, hA, rfl⟩) _ e_1 <;> simp only [ca, na] at e_1 <;> subst e_1
      · skip
        refine XO.pu (Pu.not rfl) ?_
        refine XO.nil ?_
        refine X.sub (p' := [(27, _), (0, _), (10, _), (11, _), (12, _), (18, _), (19, _), (20, _)]) ⟨rfl, rfl, rfl, rfl, rfl, rfl, rfl, rfl, trivial⟩ ?_
        refine X.know 27 (.bool false) rfl (congrArg Value.bool (rfl)) ?_
        refine X.condF rfl ?_
        refine X.skip ?_
        refine X.inBlock ?_
        refine X.region ?_
        refine XO.pu (Pu.add rfl rfl (by omega) (by omega)) ?_
        refine XO.pu (Pu.move rfl) ?_
        refine XO.nil ?_
        refine X.sub (p' := [(20, _), (0, _), (10, _), (11, _), (12, _), (18, _), (19, _)]) ⟨rfl, rfl, rfl, rfl, rfl, rfl, rfl, trivial⟩ ?_
        rw [← e2]
        refine X.at (ih2 (n + 1) (by omega) (by omega)) ⟨(by first | rfl | exact congrArg some (congrArg (Value.int _) (by omega)) | (show some _ = some _; simp; done) | (show some _ = some _; simp; omega)), (by first | rfl | exact congrArg some (congrArg (Value.int _) (by omega)) | (show some _ = some _; simp; done) | (show some _ = some _; simp; omega)), (by first | rfl | exact congrArg some (congrArg (Value.int _) (by omega)) | (show some _ = some _; simp; done) | (show some _ = some _; simp; omega)), (by first | rfl | exact congrArg some (congrArg (Value.int _) (by omega)) | (show some _ = some _; simp; done) | (show some _ = some _; simp; omega)), (by first | rfl | exact congrArg some (congrArg (Value.int _) (by omega)) | (show some _ = some _; simp; done) | (show some _ = some _; simp; omega)), (by first | rfl | exact congrArg some (congrArg (Value.int _) (by omega)) | (show some _ = some _; simp; done) | (show some _ = some _; simp; omega)), (by first | rfl | exact congrArg some (congrArg (Value.int _) (by omega)) | (show some _ = some _; simp; done) | (show some _ = some _; simp; omega)), trivial⟩ leA
      · skip
        refine XO.pu (Pu.not rfl) ?_
        refine XO.nil ?_
        refine X.sub (p' := [(27, _), (0, _), (10, _), (11, _), (12, _), (18, _), (19, _), (20, _)]) ⟨rfl, rfl, rfl, rfl, rfl, rfl, rfl, rfl, trivial⟩ ?_
        refine X.know 27 (.bool true) rfl (congrArg Value.bool (rfl)) ?_
        refine X.condT rfl ?_
        refine X.retL (A :: [pto b0 (.cells [.pointer (some ⟨p, 0, none⟩)].toArray 24 (0, 0)), pto p (.cells [.bool true, .slice σ.ao σ.owners.length σ.co, .slice (some ⟨b1, o1, none⟩) σ.conds.length σ.cc, .slice σ.ah σ.chans.length σ.ch].toArray 74 (0, 0)), lsH I64 3 σ.ao σ.co σ.owners, rsH cqs 1 89 (some ⟨b1, o1, none⟩) σ.cc σ.conds, stars (σ.conds.map (lsV 3)), rsH chs 3 78 σ.ah σ.ch σ.chans, stars (σ.chans.map fun x => lsV 2 x.q)]) Try.func67 (res0 Try.results67) ⟨_, rfl, .inr ⟨A, hA, rfl⟩⟩
    · skip
      have h1 := of_decide_eq_false h1; obtain rfl : n = σ.conds[s].l.length := by omega
      refine X.condF rfl ?_
      refine X.exit rfl ?_
      refine X.inBlock ?_
      refine X.region ?_
      refine XO.pu (Pu.add rfl rfl (by omega) (by omega)) ?_
      refine XO.pu (Pu.move rfl) ?_
      refine XO.nil ?_
      refine X.sub (p' := [(12, _), (0, _), (10, _), (11, _)]) ⟨rfl, rfl, rfl, rfl, trivial⟩ ?_
      rw [← wK_step hi0, ← e_]
      refine X.at (ih (s + 1) (by omega) (by omega)) ⟨(by first | rfl | exact congrArg some (congrArg (Value.int _) (by omega)) | (show some _ = some _; simp; done) | (show some _ = some _; simp; omega)), (by first | rfl | exact congrArg some (congrArg (Value.int _) (by omega)) | (show some _ = some _; simp; done) | (show some _ = some _; simp; omega)), (by first | rfl | exact congrArg some (congrArg (Value.int _) (by omega)) | (show some _ = some _; simp; done) | (show some _ = some _; simp; omega)), (by first | rfl | exact congrArg some (congrArg (Value.int _) (by omega)) | (show some _ = some _; simp; done) | (show some _ = some _; simp; omega)), trivial⟩ leA
  · skip
    have h0 := of_decide_eq_false h0; obtain rfl : s = σ.conds.length := by omega
    refine X.condF rfl ?_
    refine X.exit rfl ?_
    rw [show wK σ σ.conds.length = (wl σ).length by unfold wK wl; rw [List.take_length]]
    refine X.fallL (J (wl σ).length :: [pto b0 (.cells [.pointer (some ⟨p, 0, none⟩)].toArray 24 (0, 0)), pto p (.cells [.bool true, .slice σ.ao σ.owners.length σ.co, .slice σ.ac σ.conds.length σ.cc, .slice σ.ah σ.chans.length σ.ch].toArray 74 (0, 0)), lsH I64 3 σ.ao σ.co σ.owners, rsH cqs 1 89 σ.ac σ.cc σ.conds, stars (σ.conds.map (lsV 3)), rsH chs 3 78 σ.ah σ.ch σ.chans, stars (σ.chans.map fun x => lsV 2 x.q)]) Try.func67 (res0 Try.results67) ⟨_, rfl, .inl rfl⟩
theorem waiting_iter (hC : σ.conds.length ≤ 1000) (hL : ∀ x ∈ σ.conds, x.l.length ≤ 100000) : Iter Try.prog G (.func (.func 67) [].toArray [.pointer (some ⟨b0, 0, none⟩)].toArray) ((wl σ).map w1) [pto b0 (.cells [.pointer (some ⟨p, 0, none⟩)].toArray 24 (0, 0)), pto p (.cells [.bool true, .slice σ.ao σ.owners.length σ.co, .slice σ.ac σ.conds.length σ.cc, .slice σ.ah σ.chans.length σ.ch].toArray 74 (0, 0)), lsH I64 3 σ.ao σ.co σ.owners, rsH cqs 1 89 σ.ac σ.cc σ.conds, stars (σ.conds.map (lsV 3)), rsH chs 3 78 σ.ah σ.ch σ.chans, stars (σ.chans.map fun x => lsV 2 x.q)] := by
  intro y J Jf hy
  have := CallV.c11 Try.call67 (waitingF_ok (G := G) (b0 := b0) (p := p) (σ := σ) (J := J) (Jf := Jf) hC hL hy)
  rw [List.length_map]; exact this
theorem waiting_ok  : CallF Try.prog G 38 [.pointer (some ⟨p, 0, none⟩)] q (Ret fun v q' => ∃ b0, v = .func (.func 67) [].toArray [.pointer (some ⟨b0, 0, none⟩)].toArray ∧ q' = pto b0 (.cells [.pointer (some ⟨p, 0, none⟩)].toArray 24 (0, 0)) :: q) := by
  refine CallF.of Try.func38 Try.ntmps38 rfl (fun F cs => ?_)
  refine X.sub (p' := [(0, _)]) ⟨rfl, trivial⟩ ?_
  refine X.seq ?_
  refine X.region ?_
  refine XO.ef (Ef.box rfl) ?_
  rintro _ _ ⟨n1, rfl, rfl⟩
  refine XO.pu (Pu.assign rfl) ?_
  refine XO.nil ?_
  refine X.sub (p' := [(2, _), (1, _)]) ⟨rfl, rfl, trivial⟩ ?_
  refine X.seq ?_
  refine X.region ?_
  refine XO.pu (Pu.makeFunc rfl rfl) ?_
  refine XO.pu (Pu.assign rfl) ?_
  refine XO.nil ?_
  refine X.sub (p' := [(2, _)]) ⟨rfl, trivial⟩ ?_
  refine X.retL (pto n1 (.cells [.pointer (some ⟨p, 0, none⟩)].toArray 24 (0, 0)) :: q) Try.func38 (res1 Try.results38 rfl) ⟨_, rfl, n1, rfl, rfl⟩
theorem Real.wl_mem {σ : SyC} {s : Sy} (hR : Real σ s) (t : Int) : t ∈ wl σ ↔ ∃ l ∈ s.conds, t ∈ l := by
  rw [← hR.c]; unfold wl; simp only [List.mem_flatMap, List.mem_map]
  exact ⟨fun ⟨x, hx, h⟩ => ⟨_, ⟨x, hx, rfl⟩, h⟩, fun ⟨_, ⟨x, hx, rfl⟩, h⟩ => ⟨x, hx, h⟩⟩
theorem Wait_ok (hR : Real σ s) {N : Nat} (hs : s.ok N) (hN : N ≤ 1000) : CallF Try.prog G 16 [.pointer (some ⟨p, 0, none⟩), .int .i64 k, .int .i64 t] (syL p σ) (Ret fun v q' => ∃ σ', Real σ' (waitS s k t).1 ∧ v = .int .i64 (waitS s k t).2 ∧ q' = syL p σ') := by
  refine CallF.of Try.func16 Try.ntmps16 rfl (fun F cs => ?_)
  refine X.sub (p' := [(0, _), (1, _), (2, _)]) ⟨rfl, rfl, rfl, trivial⟩ ?_
  have ho := hR.lo; have hc := hR.lc; have hh := hR.lh; have hno := hs.no; have hnc := hs.nc; have hnh := hs.nh
  change X _ _ _ _ _ _ _ _ (pto p (.cells [.bool true, .slice σ.ao σ.owners.length σ.co, .slice σ.ac σ.conds.length σ.cc, .slice σ.ah σ.chans.length σ.ch].toArray 74 (0, 0)) :: lsH I64 3 σ.ao σ.co σ.owners :: rsH cqs 1 89 σ.ac σ.cc σ.conds :: stars (σ.conds.map (lsV 3)) :: rsH chs 3 78 σ.ah σ.ch σ.chans :: stars (σ.chans.map fun x => lsV 2 x.q) :: F)
  rcases Decidable.em (inR k σ.conds.length) with hr | hr
  · skip
    have hr' : inR k s.conds.length := by rw [← hc]; exact hr
    obtain ⟨i, rfl⟩ := Int.eq_ofNat_of_zero_le hr.1; have hi : i < σ.conds.length := (by have := hr.2; omega)
    rcases Decidable.em (thr t) with hg | hg
    · skip
      have hlen := hs.lenC hR hi hN; have hcl := hR.cl hi
      refine X.rsadr (l := σ.conds) (by omega) (fun g e_ => ?_); rw [e_]
      refine X.seq ?_
      refine X.region ?_
      refine XO.ef (Ef.box rfl) ?_
      rintro _ _ ⟨n1, rfl, rfl⟩
      refine XO.ef (Ef.alloc Try.zeroValue25) ?_
      rintro _ _ ⟨n2, rfl, rfl⟩
      refine XO.nil ?_
      refine X.sub (p' := [(6, _), (5, _), (0, _), (1, _)]) ⟨rfl, rfl, rfl, rfl, trivial⟩ ?_
      refine X.seq ?_
      refine X.draw [] Try.mixed (by kernel_rfl) (by kernel_rfl) rfl ?_
      refine XD.pu 0 rfl (Pu.move rfl) ?_
      refine XD.pu 1 rfl (Pu.move rfl) ?_
      refine XD.pu 3 rfl (Pu.move rfl) ?_
      refine XD.ld 4 Try.isAgg3 ?_
      refine XD.cRL 2 Try.call37 (condList_ok (p := p) (a := (some ⟨g, 0, none⟩)) (n := σ.conds.length) (c := σ.cc) clA clA) ?_
      refine XD.cRL 5 Try.call36 (findC1_ok (p := p) clA (by omega) hi hg) ?_
      refine XD.pu 6 rfl (Pu.move rfl) ?_
      refine XD.pu 7 rfl (Pu.extract rfl rfl) ?_
      refine XD.pu 8 rfl (Pu.extract rfl rfl) ?_
      refine XD.pu 9 rfl (Pu.assign rfl) ?_
      refine XD.pu 10 rfl (Pu.assign rfl) ?_
      refine XD.nil ?_
      refine X.sub (p' := [(8, _), (7, _), (6, _), (5, _), (0, _)]) ⟨rfl, rfl, rfl, rfl, rfl, trivial⟩ ?_
      refine X.seq ?_
      refine X.seq ?_
      refine X.region ?_
      refine XO.pu (Pu.move rfl) ?_
      refine XO.pu (Pu.neq rfl rfl) ?_
      refine XO.nil ?_
      refine X.sub (p' := [(20, _), (8, _), (7, _), (6, _), (5, _), (0, _)]) ⟨rfl, rfl, rfl, rfl, rfl, rfl, trivial⟩ ?_
      refine X.know 20 (.bool false) rfl (congrArg Value.bool (rfl)) ?_
      refine X.condF rfl ?_
      refine X.skip ?_
      refine X.seq ?_
      refine X.seq ?_
      refine X.region ?_
      refine XO.pu (Pu.move rfl) ?_
      refine XO.cF Try.call38 (waiting_ok (q := []) (p := p)) ?_
      rintro _ _ ⟨b0, rfl, rfl⟩ _ e_; simp only [ca, na] at e_; subst e_
      refine XO.nil ?_
      refine X.sub (p' := [(23, _), (7, _), (6, _), (5, _)]) ⟨rfl, rfl, rfl, rfl, trivial⟩ ?_
      refine X.block ?_
      have hLC : ∀ x ∈ σ.conds, x.l.length ≤ 100000 := fun x hx => by obtain ⟨j, hj, rfl⟩ := List.mem_iff_getElem.1 hx; have := hs.lenC hR hj hN; omega
      refine X.range [pto b0 (.cells [.pointer (some ⟨p, 0, none⟩)].toArray 24 (0, 0)), pto p (.cells [.bool true, .slice σ.ao σ.owners.length σ.co, .slice (some ⟨g, 0, none⟩) σ.conds.length σ.cc, .slice σ.ah σ.chans.length σ.ch].toArray 74 (0, 0)), lsH I64 3 σ.ao σ.co σ.owners, rsH cqs 1 89 (some ⟨g, 0, none⟩) σ.cc σ.conds, stars (σ.conds.map (lsV 3)), rsH chs 3 78 σ.ah σ.ch σ.chans, stars (σ.chans.map fun x => lsV 2 x.q)] (fun k : Nat => [Wx.pure (∀ m (h : m < (wl σ).length), m < k → (wl σ)[m] ≠ t), pto n1 (.cells [.int .i64 t].toArray 3 (0, 0)), pto n2 (.cells [.int .i64 0].toArray 25 (0, 0))]) (fun e qs => e = .ret ∧ t ∈ wl σ ∧ qs = [pto n1 (.cells [.int .i64 t].toArray 3 (0, 0)), pto n2 (.cells [.int .i64 141].toArray 25 (0, 0))]) (F := F) (waiting_iter (σ := { σ with ac := (some ⟨g, 0, none⟩) }) (by show σ.conds.length ≤ _; omega) hLC) rfl ?_ (by intro x hx; obtain ⟨y, _, rfl⟩ := List.mem_map.1 hx; rfl) rfl (by rw [Try.func16]; rfl) rfl (fun j hj l2 rec F0 cs0 => ?_) (fun r => ?_) (fun r c2 qs2 hJ => ?_)
      · simp only [ca, na]; refine Le.trans ?_ (Le.add_pure (fun j h hj => by omega) _); exact leA
      · skip
        have hjl : j < (wl σ).length := by have h := hj; rw [List.length_map] at h; exact h
        rw [show ((wl { σ with ac := some ⟨g, 0, none⟩ }).map w1)[j]'hj = w1 (wl σ)[j] from List.getElem_map ..]
        refine X.sub (p' := [(24, _), (23, _), (7, _), (6, _), (5, _)]) ⟨rfl, rfl, rfl, rfl, rfl, trivial⟩ ?_
        simp only [ca, na]
        refine X.le (q' := Wx.pure (∀ m (h : m < (wl σ).length), m < j → (wl σ)[m] ≠ t) :: lp rec l2 .ready none :: _) leA (X.pure (fun hP => ?_))
        refine X.region ?_
        refine XO.pu (Pu.assign rfl) ?_
        refine XO.nil ?_
        refine X.sub (p' := [(9, _), (6, _), (5, _)]) ⟨rfl, rfl, rfl, trivial⟩ ?_
        refine X.beginRound rfl leA ?_
        refine X.block ?_
        refine X.seq ?_
        refine X.region ?_
        refine XO.pu (Pu.move rfl) ?_
        refine XO.ld Try.isAgg3 ?_
        refine XO.pu (Pu.eql rfl rfl) ?_
        refine XO.nil ?_
        refine X.sub (p' := [(27, _), (6, _)]) ⟨rfl, rfl, trivial⟩ ?_
        refine X.part 27 rfl (fun h0 => ?_) (fun h0 => ?_)
        · skip
          have h0 : (wl σ)[j] = t := by simpa using h0
          refine X.condT rfl ?_
          refine X.seq ?_
          refine X.region ?_
          refine XO.ef0 (Ef.st Try.sizeOf25) ?_
          rintro _ _ ⟨rfl, rfl⟩
          refine XO.nil ?_
          refine X.sub (p' := []) trivial ?_
          refine X.ret ⟨rfl, rfl, _, ⟨rfl, h0 ▸ List.getElem_mem hjl, rfl⟩, ?_⟩
          simp only [ca, na]
          exact leA
        · skip
          have h0 : (wl σ)[j] ≠ t := by simpa using h0
          refine X.condF rfl ?_
          refine X.skip ?_
          refine X.inBlock ?_
          refine X.fall ⟨rfl, rfl, ?_⟩
          simp only [ca, na]
          have hP2 : (∀ m (h : m < (wl σ).length), m < (j + 1) → (wl σ)[m] ≠ t) := fun k h hk => (Nat.lt_or_ge k j).elim (hP k h) (fun h1 => by have hkj : k = j := (by omega); subst hkj; exact h0)
          refine Le.pick fndA (Le.trans ?_ (Le.add_pure hP2 _))
          exact leA
      · skip
        simp only [ca, na, List.length_map]
        refine X.le (q' := Wx.pure (∀ m (h : m < (wl σ).length), m < (wl σ).length → (wl σ)[m] ≠ t) :: _) fndA (X.pure (fun hP => ?_))
        have hno : ¬ ∃ l ∈ s.conds, t ∈ l := by rw [← hR.wl_mem]; intro hm; obtain ⟨j, hj, e⟩ := List.mem_iff_getElem.1 hm; exact hP j hj hj e
        refine X.le (Le.focV (l := σ.conds) hi) ?_
        refine X.inBlock ?_
        refine X.seq ?_
        refine X.draw [] Try.mixed (by kernel_rfl) (by kernel_rfl) rfl ?_
        refine XD.pu 0 rfl (Pu.move rfl) ?_
        refine XD.pu 1 rfl (Pu.nilCheck rfl) ?_
        refine XD.pu 2 rfl (Pu.fieldAddr 87 0 0 rfl Try.underlying89 rfl Try.sizeOf87) ?_
        refine XD.ld 3 Try.isAgg3 ?_
        refine XD.know 30 (.pointer (some ⟨g, i * 1, none⟩)) rfl (by simp) ?_
        refine XD.cF 4 Try.call39 (put_ok (f := cqs) (sz := 1) (ty := 89) (l := σ.conds) (i := i) (t := t) (m := σ.conds[i].l) (a := σ.conds[i].a) (c := σ.conds[i].c) (u := fun a c => ⟨a, c, σ.conds[i].l ++ [t]⟩) hi (fun _ => rfl) rfl rfl (by omega) (fun _ _ => rfl)) ?_
        rintro _ _ ⟨a2, c2, rfl⟩ _ e_; simp only [ca, na] at e_; subst e_
        refine ⟨trivial, ?_⟩
        refine XD.nil ?_
        refine X.sub (p' := [(6, _)]) ⟨rfl, trivial⟩ ?_
        refine X.seq ?_
        refine X.region ?_
        refine XO.ef0 (Ef.st Try.sizeOf25) ?_
        rintro _ _ ⟨rfl, rfl⟩
        refine XO.nil ?_
        refine X.sub (p' := [(6, _)]) ⟨rfl, trivial⟩ ?_
        refine X.le (Le.unfV hi (a := a2) (c := c2) (m := σ.conds[i].l ++ [t])) ?_
        rw [show waitS s (i : Int) t = ({ s with conds := s.conds.set i (σ.conds[i].l ++ [t]) }, 0) from (if_pos hr').trans ((if_pos hg).trans ((if_neg hno).trans (by rw [← hcl]; rfl)))]
        refine X.ret ⟨rfl, Lv.marks ?_⟩
        exact Lv.ret (q' := [pto p (.cells [.bool true, .slice σ.ao σ.owners.length σ.co, .slice (some ⟨g, 0, none⟩) σ.conds.length σ.cc, .slice σ.ah σ.chans.length σ.ch].toArray 74 (0, 0)), lsH I64 3 σ.ao σ.co σ.owners, rsH cqs 1 89 (some ⟨g, 0, none⟩) σ.cc (σ.conds.set i ⟨a2, c2, σ.conds[i].l ++ [t]⟩), stars ((σ.conds.set i ⟨a2, c2, σ.conds[i].l ++ [t]⟩).map (lsV 3)), rsH chs 3 78 σ.ah σ.ch σ.chans, stars (σ.chans.map fun x => lsV 2 x.q)]) Try.func16 (resC1 Try.results16 (ResOk.cell rfl (LV.cell Try.isAgg25 clA) ResOk.nil)) ⟨_, rfl, { σ with ac := (some ⟨g, 0, none⟩), conds := σ.conds.set i ⟨a2, c2, σ.conds[i].l ++ [t]⟩ }, hR.setC i ⟨a2, c2, σ.conds[i].l ++ [t]⟩ _, rfl, by unfold syL; simp⟩ leA
      · skip
        obtain ⟨rfl, hm, rfl⟩ := hJ; simp only [ca, na]
        rw [show waitS s (i : Int) t = (s, 141) from (if_pos hr').trans ((if_pos hg).trans (if_pos ((hR.wl_mem t).1 hm)))]
        refine X.ret ⟨rfl, Lv.marks ?_⟩
        exact Lv.ret (q' := [pto p (.cells [.bool true, .slice σ.ao σ.owners.length σ.co, .slice (some ⟨g, 0, none⟩) σ.conds.length σ.cc, .slice σ.ah σ.chans.length σ.ch].toArray 74 (0, 0)), lsH I64 3 σ.ao σ.co σ.owners, rsH cqs 1 89 (some ⟨g, 0, none⟩) σ.cc σ.conds, stars (σ.conds.map (lsV 3)), rsH chs 3 78 σ.ah σ.ch σ.chans, stars (σ.chans.map fun x => lsV 2 x.q)]) Try.func16 (resC1 Try.results16 (ResOk.cell rfl (LV.cell Try.isAgg25 clA) ResOk.nil)) ⟨_, rfl, σ, hR, rfl, by unfold syL; rw [e_]⟩ leA
    · skip
      refine X.seq ?_
      refine X.region ?_
      refine XO.ef (Ef.box rfl) ?_
      rintro _ _ ⟨n3, rfl, rfl⟩
      refine XO.ef (Ef.alloc Try.zeroValue25) ?_
      rintro _ _ ⟨n4, rfl, rfl⟩
      refine XO.nil ?_
      refine X.sub (p' := [(6, _), (5, _), (0, _), (1, _)]) ⟨rfl, rfl, rfl, rfl, trivial⟩ ?_
      refine X.seq ?_
      refine X.draw [] Try.mixed (by kernel_rfl) (by kernel_rfl) rfl ?_
      refine XD.pu 0 rfl (Pu.move rfl) ?_
      refine XD.pu 1 rfl (Pu.move rfl) ?_
      refine XD.pu 3 rfl (Pu.move rfl) ?_
      refine XD.ld 4 Try.isAgg3 ?_
      refine XD.cRL 2 Try.call37 (condList_ok (p := p) (a := σ.ac) (n := σ.conds.length) (c := σ.cc) clA clA) ?_
      refine XD.cRL 5 Try.call36 (findC1_arg (p := p) clA (by omega) hi hg) ?_
      refine XD.pu 6 rfl (Pu.move rfl) ?_
      refine XD.pu 7 rfl (Pu.extract rfl rfl) ?_
      refine XD.pu 8 rfl (Pu.extract rfl rfl) ?_
      refine XD.pu 9 rfl (Pu.assign rfl) ?_
      refine XD.pu 10 rfl (Pu.assign rfl) ?_
      refine XD.nil ?_
      refine X.sub (p' := [(8, _), (7, _), (6, _), (5, _), (0, _)]) ⟨rfl, rfl, rfl, rfl, rfl, trivial⟩ ?_
      refine X.seq ?_
      refine X.seq ?_
      refine X.region ?_
      refine XO.pu (Pu.move rfl) ?_
      refine XO.pu (Pu.neq rfl rfl) ?_
      refine XO.nil ?_
      refine X.sub (p' := [(20, _), (8, _), (7, _), (6, _), (5, _), (0, _)]) ⟨rfl, rfl, rfl, rfl, rfl, rfl, trivial⟩ ?_
      refine X.know 20 (.bool true) rfl (congrArg Value.bool (rfl)) ?_
      refine X.condT rfl ?_
      refine X.seq ?_
      refine X.region ?_
      refine XO.pu (Pu.move rfl) ?_
      refine XO.ef0 (Ef.st Try.sizeOf25) ?_
      rintro _ _ ⟨rfl, rfl⟩
      refine XO.nil ?_
      refine X.sub (p' := [(7, _), (6, _), (5, _), (0, _)]) ⟨rfl, rfl, rfl, rfl, trivial⟩ ?_
      rw [show waitS s _ t = (s, 2) from (if_pos hr').trans (if_neg hg)]
      refine X.retL [pto p (.cells [.bool true, .slice σ.ao σ.owners.length σ.co, .slice σ.ac σ.conds.length σ.cc, .slice σ.ah σ.chans.length σ.ch].toArray 74 (0, 0)), lsH I64 3 σ.ao σ.co σ.owners, rsH cqs 1 89 σ.ac σ.cc σ.conds, stars (σ.conds.map (lsV 3)), rsH chs 3 78 σ.ah σ.ch σ.chans, stars (σ.chans.map fun x => lsV 2 x.q)] Try.func16 (resC1 Try.results16 (ResOk.cell rfl (LV.cell Try.isAgg25 clA) ResOk.nil)) ⟨_, rfl, σ, hR, rfl, rfl⟩
  · skip
    have hr' : ¬ inR k s.conds.length := by rw [← hc]; exact hr
    refine X.seq ?_
    refine X.region ?_
    refine XO.ef (Ef.box rfl) ?_
    rintro _ _ ⟨n5, rfl, rfl⟩
    refine XO.ef (Ef.alloc Try.zeroValue25) ?_
    rintro _ _ ⟨n6, rfl, rfl⟩
    refine XO.nil ?_
    refine X.sub (p' := [(6, _), (5, _), (0, _), (1, _)]) ⟨rfl, rfl, rfl, rfl, trivial⟩ ?_
    refine X.seq ?_
    refine X.draw [] Try.mixed (by kernel_rfl) (by kernel_rfl) rfl ?_
    refine XD.pu 0 rfl (Pu.move rfl) ?_
    refine XD.pu 1 rfl (Pu.move rfl) ?_
    refine XD.pu 3 rfl (Pu.move rfl) ?_
    refine XD.ld 4 Try.isAgg3 ?_
    refine XD.cRL 2 Try.call37 (condList_ok (p := p) (a := σ.ac) (n := σ.conds.length) (c := σ.cc) clA clA) ?_
    refine XD.cRL 5 Try.call36 (findC1_rng (p := p) clA (by omega) hr) ?_
    refine XD.pu 6 rfl (Pu.move rfl) ?_
    refine XD.pu 7 rfl (Pu.extract rfl rfl) ?_
    refine XD.pu 8 rfl (Pu.extract rfl rfl) ?_
    refine XD.pu 9 rfl (Pu.assign rfl) ?_
    refine XD.pu 10 rfl (Pu.assign rfl) ?_
    refine XD.nil ?_
    refine X.sub (p' := [(8, _), (7, _), (6, _), (5, _), (0, _)]) ⟨rfl, rfl, rfl, rfl, rfl, trivial⟩ ?_
    refine X.seq ?_
    refine X.seq ?_
    refine X.region ?_
    refine XO.pu (Pu.move rfl) ?_
    refine XO.pu (Pu.neq rfl rfl) ?_
    refine XO.nil ?_
    refine X.sub (p' := [(20, _), (8, _), (7, _), (6, _), (5, _), (0, _)]) ⟨rfl, rfl, rfl, rfl, rfl, rfl, trivial⟩ ?_
    refine X.know 20 (.bool true) rfl (congrArg Value.bool (rfl)) ?_
    refine X.condT rfl ?_
    refine X.seq ?_
    refine X.region ?_
    refine XO.pu (Pu.move rfl) ?_
    refine XO.ef0 (Ef.st Try.sizeOf25) ?_
    rintro _ _ ⟨rfl, rfl⟩
    refine XO.nil ?_
    refine X.sub (p' := [(7, _), (6, _), (5, _), (0, _)]) ⟨rfl, rfl, rfl, rfl, trivial⟩ ?_
    rw [show waitS s _ t = (s, 4) from if_neg hr']
    refine X.retL [pto p (.cells [.bool true, .slice σ.ao σ.owners.length σ.co, .slice σ.ac σ.conds.length σ.cc, .slice σ.ah σ.chans.length σ.ch].toArray 74 (0, 0)), lsH I64 3 σ.ao σ.co σ.owners, rsH cqs 1 89 σ.ac σ.cc σ.conds, stars (σ.conds.map (lsV 3)), rsH chs 3 78 σ.ah σ.ch σ.chans, stars (σ.chans.map fun x => lsV 2 x.q)] Try.func16 (resC1 Try.results16 (ResOk.cell rfl (LV.cell Try.isAgg25 clA) ResOk.nil)) ⟨_, rfl, σ, hR, rfl, rfl⟩
end
end Go.Proofs.Ytlgnnhpbomfdiaa

