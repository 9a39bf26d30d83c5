/- What functions of package log, of its references and of its laws do: contracts of calls, proved by walking their code. -/
import Derived.Test.YtiehcgmbkjdagaaK
import Derived.Test.YtiehcgmbkjdagaaWx21
import Derived.KernelRfl
set_option maxRecDepth 100000
set_option linter.unusedVariables false
set_option linter.unusedSimpArgs false
namespace Go.Proofs.Ytiehcgmbkjdagaa
open Go Go.RowKit Wx

/-! ### the steps of turns, one behind the other -/
def stepsAt (i : Nat) : List Turn → List (Int × Int)
  | [] => []
  | x :: r => List.replicate x.2.toNat ((i : Int), x.1) ++ stepsAt (i + 1) r
def stepsL (l : List Turn) : List (Int × Int) := stepsAt 0 l
def cntL (l : List Turn) (i : Nat) : Nat := ((l.take i).map fun x => x.2.toNat).sum
theorem stepsAt_len (i : Nat) (l : List Turn) : (stepsAt i l).length = (l.map fun x => x.2.toNat).sum := by
  induction l generalizing i with
  | nil => rfl
  | cons x r ih => simp [stepsAt, ih]
theorem stepsL_len (l : List Turn) : (stepsL l).length = cntL l l.length := by unfold stepsL cntL; rw [stepsAt_len, List.take_length]
theorem cntL_succ {l : List Turn} {i : Nat} (h : i < l.length) : cntL l (i + 1) = cntL l i + l[i].2.toNat := by
  unfold cntL; rw [List.take_succ_eq_append_getElem h, List.map_append, List.sum_append]; simp only [List.map_cons, List.map_nil, List.sum_cons, List.sum_nil, Nat.add_zero]
theorem cntL_le {l : List Turn} {i : Nat} (h : i ≤ l.length) : cntL l i ≤ cntL l l.length := by
  unfold cntL
  rw [List.take_length]
  conv => rhs; rw [← List.take_append_drop i l, List.map_append, List.sum_append]
  omega
theorem stepsAt_get : ∀ (l : List Turn) (k i n : Nat) (h : i < l.length), n < l[i].2.toNat → (stepsAt k l)[cntL l i + n]? = some (((k + i : Nat) : Int), l[i].1)
  | [], _, _, _, h, _ => by simp at h
  | x :: r, k, 0, n, h, hn => by
    simp only [List.getElem_cons_zero] at hn
    simp [stepsAt, cntL, List.getElem?_append_left, List.getElem?_replicate, hn]
  | x :: r, k, i + 1, n, h, hn => by
    have h' : i < r.length := by simpa using h
    have hc : cntL (x :: r) (i + 1) = x.2.toNat + cntL r i := by simp [cntL]
    have := stepsAt_get r (k + 1) i n h' (by simpa using hn)
    rw [hc, stepsAt, List.getElem?_append_right (by simp; omega)]
    simp only [List.length_replicate]
    rw [show x.2.toNat + cntL r i + n - x.2.toNat = cntL r i + n by omega, this]
    simp; omega
theorem stepsL_get {l : List Turn} {i n : Nat} (h : i < l.length) (hn : n < l[i].2.toNat) : cntL l i + n < (stepsL l).length ∧ (stepsL l)[cntL l i + n]? = some ((i : Int), l[i].1) := by
  have := stepsAt_get l 0 i n h hn
  rw [Nat.zero_add] at this
  exact ⟨(List.getElem?_eq_some_iff.1 this).1, this⟩
def svs (y : Int × Int) : List Value := [.int .i64 y.1, .int .i64 y.2]
section
variable {G : World} {q : List HP} {a b : Option Addr} {c d p n2 n3 i0 : Nat} {l : List Turn}
theorem threadsF_ok {y : Nat} {J : Nat → HP} {Jf : HP → Prop} (hL : l.length ≤ 100000) (hR : ∀ x ∈ l, x.2 ≤ 9223372036854775807)
    (hy : ∀ i (h : i < ((stepsL l).map svs).length), CallV Try.prog G (.func (.yield y) #[] #[]) ((stepsL l).map svs)[i] (J i :: [im p (.cells [.slice a l.length c].toArray 23 (0, 0)), rsM tcs 2 57 a c l]) (Ret fun v q => (v = .bool true ∧ q = J (i + 1) :: [im p (.cells [.slice a l.length c].toArray 23 (0, 0)), rsM tcs 2 57 a c l]) ∨ (v = .bool false ∧ ∃ A, Jf A ∧ q = A :: [im p (.cells [.slice a l.length c].toArray 23 (0, 0)), rsM tcs 2 57 a c l]))) :
    CallF Try.prog G 42 [.func (.yield y) #[] #[], .pointer (some ⟨p, 0, none⟩)] (J 0 :: [im p (.cells [.slice a l.length c].toArray 23 (0, 0)), rsM tcs 2 57 a c l]) (Ret fun _ q => q = J (stepsL l).length :: [im p (.cells [.slice a l.length c].toArray 23 (0, 0)), rsM tcs 2 57 a c l] ∨ ∃ A, Jf A ∧ q = A :: [im p (.cells [.slice a l.length c].toArray 23 (0, 0)), rsM tcs 2 57 a c l]) := by
  refine CallF.of Try.func42 Try.ntmps42 rfl (fun F cs => ?_)
  refine X.sub (p' := [(0, _), (1, _)]) ⟨rfl, rfl, trivial⟩ ?_
  have hlen := flatMap_len (f := tcs) (sz := 2) (fun _ => rfl) l; have hs : Sees [rsM tcs 2 57 a c l] a (l.flatMap tcs) := Sees.rsM []
  refine X.seq ?_
  refine X.region ?_
  refine XO.ld Try.isAgg23 ?_
  refine XO.pu (Pu.len rfl Try.underlying23) ?_
  refine XO.pu (Pu.move rfl) ?_
  refine XO.nil ?_
  refine X.sub (p' := [(7, _), (6, _), (5, _), (0, _)]) ⟨rfl, rfl, rfl, rfl, trivial⟩ ?_
  refine X.block ?_
  refine X.at (X.loop (fun (s : Nat) => s ≤ l.length) (fun s => [(0, .func (.yield y) #[] #[]), (5, .slice a l.length c), (6, .int .i64 (l.length : Int)), (7, .int .i64 (s : Int))]) (fun s => J (cntL l s) :: im p (.cells [.slice a l.length c].toArray 23 (0, 0)) :: rsM tcs 2 57 a c l :: F) (fun s => l.length - s) (fun s hi_ ih => ?_) 0 (by omega)) ⟨(by first | rfl | exact congrArg some (congrArg (Value.int _) (by omega)) | (show some _ = some _; simp; done) | (show some _ = some _; simp; omega)), (by first | rfl | exact congrArg some (congrArg (Value.int _) (by omega)) | (show some _ = some _; simp; done) | (show some _ = some _; simp; omega)), (by first | rfl | exact congrArg some (congrArg (Value.int _) (by omega)) | (show some _ = some _; simp; done) | (show some _ = some _; simp; omega)), (by first | rfl | exact congrArg some (congrArg (Value.int _) (by omega)) | (show some _ = some _; simp; done) | (show some _ = some _; simp; omega)), trivial⟩ leA
  try dsimp only at hi_ ih ⊢
  obtain hi := hi_
  refine X.seq ?_
  refine X.region ?_
  refine XO.pu (Pu.lss rfl rfl) ?_
  refine XO.nil ?_
  refine X.sub (p' := [(8, _), (0, _), (5, _), (6, _), (7, _)]) ⟨rfl, rfl, rfl, rfl, rfl, trivial⟩ ?_
  refine X.seq ?_
  refine X.part 8 rfl (fun h0 => ?_) (fun h0 => ?_)
  · skip
    have h0 := of_decide_eq_true h0; have hi0 : s < l.length := (by omega); have hx2 := hR _ (List.getElem_mem hi0)
    refine X.adr hs (by rw [hlen]; omega) (fun b1 o1 e_ => ?_); subst e_
    refine X.condT rfl ?_
    refine X.skip ?_
    refine X.seq ?_
    refine X.block ?_
    refine X.seq ?_
    refine X.region ?_
    refine XO.pu (Pu.move rfl) ?_
    refine XO.pu (Pu.indexAddr rfl rfl Try.underlying23 Try.sizeOf57 (by omega) (by omega)) ?_
    refine XO.ldS (n := s) Try.isAgg57 Try.sizeOf57 hs hi0 ?_
    refine XO.ef (Ef.alloc Try.zeroValue57) ?_
    rintro _ _ ⟨n1, rfl, rfl⟩
    refine XO.pu (Pu.assign rfl) ?_
    refine XO.ef0 (Ef.stA Try.sizeOf57) ?_
    rintro _ _ ⟨rfl, rfl⟩
    refine XO.nil ?_
    refine X.sub (p' := [(3, _), (4, _), (0, _), (5, _), (6, _), (7, _)]) ⟨rfl, rfl, rfl, rfl, rfl, rfl, trivial⟩ ?_
    refine X.seq ?_
    refine X.region ?_
    refine XO.pu (Pu.fieldAddr 3 1 0 rfl Try.underlying57 rfl Try.sizeOf3) ?_
    refine XO.ld Try.isAgg3 ?_
    refine XO.pu (Pu.move rfl) ?_
    refine XO.nil ?_
    refine X.sub (p' := [(14, _), (13, _), (3, _), (4, _), (0, _), (5, _), (6, _), (7, _)]) ⟨rfl, rfl, rfl, rfl, rfl, rfl, rfl, rfl, trivial⟩ ?_
    refine X.block ?_
    refine X.at (X.loop (fun (n : Nat) => n ≤ l[s].2.toNat) (fun n => [(0, .func (.yield y) #[] #[]), (3, .int .i64 (s : Int)), (4, .pointer (some ⟨n1, 0, none⟩)), (5, .slice (some ⟨b1, o1, none⟩) l.length c), (6, .int .i64 (l.length : Int)), (7, .int .i64 (s : Int)), (13, .int .i64 l[s].2), (14, .int .i64 (n : Int))]) (fun n => J (cntL l s + n) :: pto n1 (.cells [.int .i64 l[s].1, .int .i64 l[s].2].toArray 57 (0, 0)) :: im p (.cells [.slice (some ⟨b1, o1, none⟩) l.length c].toArray 23 (0, 0)) :: rsM tcs 2 57 (some ⟨b1, o1, none⟩) c l :: F) (fun n => l[s].2.toNat - n) (fun n hi_ ih2 => ?_) 0 (by omega)) ⟨(by first | rfl | exact congrArg some (congrArg (Value.int _) (by omega)) | (show some _ = some _; simp; done) | (show some _ = some _; simp; omega)), (by first | rfl | exact congrArg some (congrArg (Value.int _) (by omega)) | (show some _ = some _; simp; done) | (show some _ = some _; simp; omega)), (by first | rfl | exact congrArg some (congrArg (Value.int _) (by omega)) | (show some _ = some _; simp; done) | (show some _ = some _; simp; omega)), (by first | rfl | exact congrArg some (congrArg (Value.int _) (by omega)) | (show some _ = some _; simp; done) | (show some _ = some _; simp; omega)), (by first | rfl | exact congrArg some (congrArg (Value.int _) (by omega)) | (show some _ = some _; simp; done) | (show some _ = some _; simp; omega)), (by first | rfl | exact congrArg some (congrArg (Value.int _) (by omega)) | (show some _ = some _; simp; done) | (show some _ = some _; simp; omega)), (by first | rfl | exact congrArg some (congrArg (Value.int _) (by omega)) | (show some _ = some _; simp; done) | (show some _ = some _; simp; omega)), (by first | rfl | exact congrArg some (congrArg (Value.int _) (by omega)) | (show some _ = some _; simp; done) | (show some _ = some _; simp; omega)), trivial⟩ leA
    try dsimp only at hi_ ih2 ⊢
    obtain hn1 := hi_
    refine X.seq ?_
    refine X.region ?_
    refine XO.pu (Pu.lss rfl rfl) ?_
    refine XO.nil ?_
    refine X.sub (p' := [(15, _), (0, _), (3, _), (4, _), (5, _), (6, _), (7, _), (13, _), (14, _)]) ⟨rfl, rfl, rfl, rfl, rfl, rfl, rfl, rfl, rfl, trivial⟩ ?_
    refine X.seq ?_
    refine X.part 15 rfl (fun h1 => ?_) (fun h1 => ?_)
    · skip
      have h1 := of_decide_eq_true h1; have hn2 : n < l[s].2.toNat := (by omega)
      obtain ⟨hk, hg⟩ := stepsL_get hi0 hn2
      have hy2 := hy (cntL l s + n) (by simpa using hk)
      rw [show ((stepsL l).map svs)[cntL l s + n]'(by simpa using hk) = svs ((s : Int), l[s].1) by rw [List.getElem_map]; congr 1; exact Option.some.inj ((List.getElem?_eq_getElem hk).symm.trans hg)] at hy2
      refine X.condT rfl ?_
      refine X.skip ?_
      refine X.seq ?_
      refine X.block ?_
      refine X.seq ?_
      refine X.region ?_
      refine XO.pu (Pu.move rfl) ?_
      refine XO.pu (Pu.move rfl) ?_
      refine XO.pu (Pu.fieldAddr 3 0 0 rfl Try.underlying57 rfl Try.sizeOf3) ?_
      refine XO.ld Try.isAgg3 ?_
      refine XO.cV hy2 ?_
      rintro _ _ (⟨rfl, rfl⟩ | ⟨rfl, A, hA, rfl⟩) _ e_ <;> simp only [ca, na] at e_ <;> subst e_
      · skip
        refine XO.pu (Pu.not rfl) ?_
        refine XO.nil ?_
        refine X.sub (p' := [(21, _), (0, _), (3, _), (4, _), (5, _), (6, _), (7, _), (13, _), (14, _)]) ⟨rfl, rfl, rfl, rfl, rfl, rfl, rfl, rfl, rfl, trivial⟩ ?_
        refine X.know 21 (.bool false) rfl (congrArg Value.bool (rfl)) ?_
        refine X.condF rfl ?_
        refine X.skip ?_
        refine X.inBlock ?_
        refine X.region ?_
        refine XO.pu (Pu.add rfl rfl (by omega) (by omega)) ?_
        refine XO.pu (Pu.move rfl) ?_
        refine XO.nil ?_
        refine X.sub (p' := [(14, _), (0, _), (3, _), (4, _), (5, _), (6, _), (7, _), (13, _)]) ⟨rfl, rfl, rfl, rfl, rfl, rfl, rfl, rfl, trivial⟩ ?_
        refine X.at (ih2 (n + 1) (by omega) (by omega)) ⟨(by first | rfl | exact congrArg some (congrArg (Value.int _) (by omega)) | (show some _ = some _; simp; done) | (show some _ = some _; simp; omega)), (by first | rfl | exact congrArg some (congrArg (Value.int _) (by omega)) | (show some _ = some _; simp; done) | (show some _ = some _; simp; omega)), (by first | rfl | exact congrArg some (congrArg (Value.int _) (by omega)) | (show some _ = some _; simp; done) | (show some _ = some _; simp; omega)), (by first | rfl | exact congrArg some (congrArg (Value.int _) (by omega)) | (show some _ = some _; simp; done) | (show some _ = some _; simp; omega)), (by first | rfl | exact congrArg some (congrArg (Value.int _) (by omega)) | (show some _ = some _; simp; done) | (show some _ = some _; simp; omega)), (by first | rfl | exact congrArg some (congrArg (Value.int _) (by omega)) | (show some _ = some _; simp; done) | (show some _ = some _; simp; omega)), (by first | rfl | exact congrArg some (congrArg (Value.int _) (by omega)) | (show some _ = some _; simp; done) | (show some _ = some _; simp; omega)), (by first | rfl | exact congrArg some (congrArg (Value.int _) (by omega)) | (show some _ = some _; simp; done) | (show some _ = some _; simp; omega)), trivial⟩ leA
      · skip
        refine XO.pu (Pu.not rfl) ?_
        refine XO.nil ?_
        refine X.sub (p' := [(21, _), (0, _), (3, _), (4, _), (5, _), (6, _), (7, _), (13, _), (14, _)]) ⟨rfl, rfl, rfl, rfl, rfl, rfl, rfl, rfl, rfl, trivial⟩ ?_
        refine X.know 21 (.bool true) rfl (congrArg Value.bool (rfl)) ?_
        refine X.condT rfl ?_
        refine X.retL (A :: [im p (.cells [.slice (some ⟨b1, o1, none⟩) l.length c].toArray 23 (0, 0)), rsM tcs 2 57 (some ⟨b1, o1, none⟩) c l]) Try.func42 (res0 Try.results42) ⟨_, rfl, .inr ⟨A, hA, rfl⟩⟩
    · skip
      have h1 := of_decide_eq_false h1; obtain rfl : n = l[s].2.toNat := by omega
      refine X.condF rfl ?_
      refine X.exit rfl ?_
      refine X.inBlock ?_
      refine X.region ?_
      refine XO.pu (Pu.add rfl rfl (by omega) (by omega)) ?_
      refine XO.pu (Pu.move rfl) ?_
      refine XO.nil ?_
      refine X.sub (p' := [(7, _), (0, _), (5, _), (6, _)]) ⟨rfl, rfl, rfl, rfl, trivial⟩ ?_
      rw [← cntL_succ hi0]
      refine X.at (ih (s + 1) (by omega) (by omega)) ⟨(by first | rfl | exact congrArg some (congrArg (Value.int _) (by omega)) | (show some _ = some _; simp; done) | (show some _ = some _; simp; omega)), (by first | rfl | exact congrArg some (congrArg (Value.int _) (by omega)) | (show some _ = some _; simp; done) | (show some _ = some _; simp; omega)), (by first | rfl | exact congrArg some (congrArg (Value.int _) (by omega)) | (show some _ = some _; simp; done) | (show some _ = some _; simp; omega)), (by first | rfl | exact congrArg some (congrArg (Value.int _) (by omega)) | (show some _ = some _; simp; done) | (show some _ = some _; simp; omega)), trivial⟩ leA
  · skip
    have h0 := of_decide_eq_false h0; obtain rfl : s = l.length := by omega
    refine X.condF rfl ?_
    refine X.exit rfl ?_
    rw [← stepsL_len]
    refine X.fallL (J (stepsL l).length :: [im p (.cells [.slice a l.length c].toArray 23 (0, 0)), rsM tcs 2 57 a c l]) Try.func42 (res0 Try.results42) ⟨_, rfl, .inl rfl⟩
theorem threads_iter (hL : l.length ≤ 100000) (hR : ∀ x ∈ l, x.2 ≤ 9223372036854775807) : Iter Try.prog G (.func (.func 42) [].toArray [.pointer (some ⟨p, 0, none⟩)].toArray) ((stepsL l).map svs) [im p (.cells [.slice a l.length c].toArray 23 (0, 0)), rsM tcs 2 57 a c l] := by
  intro y J Jf hy
  have := CallV.c11 Try.call42 (threadsF_ok (G := G) (p := p) (a := a) (c := c) (l := l) (J := J) (Jf := Jf) hL hR hy)
  rw [List.length_map]; exact this
theorem threads_ok (hs : Sees q a (l.flatMap tcs)) (hL : l.length ≤ 1000000) : CallF Try.prog G 28 [.slice a l.length c] q (Ret fun v q' => ∃ p a' c', v = .func (.func 42) [].toArray [.pointer (some ⟨p, 0, none⟩)].toArray ∧ q' = pto p (.cells [.slice a' l.length c'].toArray 23 (0, 0)) :: rsH tcs 2 57 a' c' l :: q) := by
  refine CallF.of Try.func28 Try.ntmps28 rfl (fun F cs => ?_)
  refine X.sub (p' := [(0, _)]) ⟨rfl, trivial⟩ ?_
  refine X.seq ?_
  refine X.region ?_
  refine XO.pu (Pu.assign rfl) ?_
  refine XO.nil ?_
  refine X.sub (p' := [(2, _), (0, _)]) ⟨rfl, rfl, trivial⟩ ?_
  refine X.seq ?_
  refine X.region ?_
  refine XO.pu (Pu.move rfl) ?_
  refine XO.cX Try.call41 (Le.refl _) (Clone_ok (l := l) (hs.le leA) (by omega)) ?_
  rintro _ _ ⟨a1, c1, rfl, rfl⟩
  refine XO.ef (Ef.alloc Try.zeroValue23) ?_
  rintro _ _ ⟨n1, rfl, rfl⟩
  refine XO.ef0 (Ef.st Try.sizeOf23) ?_
  rintro _ _ ⟨rfl, rfl⟩
  refine XO.nil ?_
  refine X.sub (p' := [(3, _), (2, _)]) ⟨rfl, rfl, trivial⟩ ?_
  refine X.seq ?_
  refine X.region ?_
  refine XO.pu (Pu.makeFunc rfl rfl) ?_
  refine XO.pu (Pu.assign rfl) ?_
  refine XO.nil ?_
  refine X.sub (p' := [(2, _)]) ⟨rfl, trivial⟩ ?_
  refine X.retL (pto n1 (.cells [.slice a1 l.length c1].toArray 23 (0, 0)) :: rsH tcs 2 57 a1 c1 l :: q) Try.func28 (res1 Try.results28 rfl) ⟨_, rfl, n1, a1, c1, rfl, rfl⟩
end
end Go.Proofs.Ytiehcgmbkjdagaa

