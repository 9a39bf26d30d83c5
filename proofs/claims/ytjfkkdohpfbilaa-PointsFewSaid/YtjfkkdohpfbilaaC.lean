/- What functions of package points, and of its laws, do: contracts of calls, proved by walking their code. -/
import Derived.Test.YtjfkkdohpfbilaaB
import Derived.KernelRfl
set_option maxRecDepth 100000
set_option linter.unusedVariables false
set_option linter.unusedSimpArgs false
namespace Go.Proofs.Ytjfkkdohpfbilaa
open Go Go.RowKit Wx

def gap (k : List Int) (i : Nat) : Int := k.getD (i + 1) 0 - k.getD (i - 1) 0
/-- Of the places 1 .. n the first one whose gap is least. -/
def argm (k : List Int) : Nat → Nat
  | 0 => 1
  | n + 1 => if gap k (n + 1) < gap k (argm k n) then n + 1 else argm k n
theorem argm_le (k : List Int) (n : Nat) : 1 ≤ argm k n ∧ (argm k n ≤ n ∨ argm k n = 1) := by
  induction n with
  | zero => simp [argm]
  | succ n ih => simp only [argm]; split <;> omega
def far (k : List Int) (i : Nat) : Int := if i ≤ 1 then 0 else gap k (argm k (i - 1))
def sof (k : List Int) (i : Nat) : Int := if i ≤ 1 then 0 else (argm k (i - 1) : Nat)
theorem oneI (x : Int) : (I x).oneCell' = true := rfl
section
variable {G : World} {every most gone last : Int} {came : Bool} {a : Option Addr} {c b bx by' : Nat} {k : List Int}
abbrev bxO (b : Nat) : Obj := .cells [.pointer (some ⟨b, 0, none⟩)].toArray 25 (0, 0)
theorem getD_bd {k : List Int} (hk : ∀ x ∈ k, 0 ≤ x ∧ x ≤ 1099511627776) (i : Nat) : 0 ≤ k.getD i 0 ∧ k.getD i 0 ≤ 1099511627776 := by
  by_cases h : i < k.length
  · rw [List.getD_eq_getElem?_getD, List.getElem?_eq_getElem h]; exact hk _ (List.getElem_mem h)
  · rw [List.getD_eq_getElem?_getD, List.getElem?_eq_none (by omega)]; simp
theorem getD_at {k : List Int} {i : Nat} (h : i < k.length) : k[i] = k.getD i 0 := by simp [List.getD_eq_getElem?_getD, h]
theorem gapF_ok {i : Nat} (h1 : 1 ≤ i) (h2 : i + 1 < k.length) (hk : ∀ x ∈ k, 0 ≤ x ∧ x ≤ 1099511627776) (hn : k.length ≤ 5000) :
    CallF Try.prog G 32 [.int .i64 i, .pointer (some ⟨bx, 0, none⟩)] [pto bx (bxO b), pto b (ptsO every most (.slice a k.length c) gone last came), lsH I 3 a c k]
    (Ret fun v q => v = .int .i64 (gap k i) ∧ q = [pto bx (bxO b), pto b (ptsO every most (.slice a k.length c) gone last came), lsH I 3 a c k]) := by
  have g1 := hk k[i + 1] (List.getElem_mem _)
  have g2 := hk k[i - 1] (List.getElem_mem _)
  refine CallF.of Try.func32 Try.ntmps32 rfl (fun F cs => ?_)
  refine X.sub (p' := [(0, _), (1, _)]) ⟨rfl, rfl, trivial⟩ ?_
  have hs : Sees (pto bx (bxO b) :: pto b (ptsO every most (.slice a k.length c) gone last came) :: lsH I 3 a c k :: F) a (k.map I) := (Sees.lsH _).there.there
  refine X.addr hs (by simp; omega) (fun ba oa ea => ?_); subst ea
  refine X.seq ?_
  refine X.region ?_
  refine XO.pu (Pu.assign rfl) ?_
  refine XO.nil ?_
  refine X.sub (p' := [(3, _), (0, _), (1, _)]) ⟨rfl, rfl, rfl, trivial⟩ ?_
  refine X.seq ?_
  refine X.draw [] Try.mixed (by kernel_rfl) (by kernel_rfl) rfl ?_
  refine XD.load 0 rfl rfl Try.isAgg25 (by first | exact Cl.of (by repeat first | exact Has.pto _ _ _ | exact Has.im _ _ _ | refine Has.there ?_) (by rfl) | exact hs.at (n := i + 1) (by omega) (by omega) | exact hs.at (n := i - 1) (by omega) (by omega)) ?_
  refine XD.pu 1 rfl (Pu.nilCheck rfl) ?_
  refine XD.pu 2 rfl (Pu.fieldAddr 22 2 0 rfl Try.underlying60 rfl Try.sizeOf22) ?_
  refine XD.load 3 rfl rfl Try.isAgg22 (by first | exact Cl.of (by repeat first | exact Has.pto _ _ _ | exact Has.im _ _ _ | refine Has.there ?_) (by rfl) | exact hs.at (n := i + 1) (by omega) (by omega) | exact hs.at (n := i - 1) (by omega) (by omega)) ?_
  refine XD.pu 4 rfl (Pu.move rfl) ?_
  refine XD.pu 5 rfl (Pu.add rfl rfl (by omega) (by omega)) ?_
  refine XD.pu 6 rfl (Pu.indexAddr rfl rfl Try.underlying22 Try.sizeOf3 (by omega) (by omega)) ?_
  refine XD.load 7 rfl rfl Try.isAgg3 (by first | exact Cl.of (by repeat first | exact Has.pto _ _ _ | exact Has.im _ _ _ | refine Has.there ?_) (by rfl) | exact hs.at (n := i + 1) (by omega) (by omega) | exact hs.at (n := i - 1) (by omega) (by omega)) ?_
  refine XD.load 8 rfl rfl Try.isAgg25 (by first | exact Cl.of (by repeat first | exact Has.pto _ _ _ | exact Has.im _ _ _ | refine Has.there ?_) (by rfl) | exact hs.at (n := i + 1) (by omega) (by omega) | exact hs.at (n := i - 1) (by omega) (by omega)) ?_
  refine XD.pu 9 rfl (Pu.nilCheck rfl) ?_
  refine XD.pu 10 rfl (Pu.fieldAddr 22 2 0 rfl Try.underlying60 rfl Try.sizeOf22) ?_
  refine XD.load 11 rfl rfl Try.isAgg22 (by first | exact Cl.of (by repeat first | exact Has.pto _ _ _ | exact Has.im _ _ _ | refine Has.there ?_) (by rfl) | exact hs.at (n := i + 1) (by omega) (by omega) | exact hs.at (n := i - 1) (by omega) (by omega)) ?_
  refine XD.pu 12 rfl (Pu.move rfl) ?_
  refine XD.pu 13 rfl (Pu.sub rfl rfl (by omega) (by omega)) ?_
  refine XD.pu 14 rfl (Pu.indexAddr rfl rfl Try.underlying22 Try.sizeOf3 (by omega) (by omega)) ?_
  refine XD.load 15 rfl rfl Try.isAgg3 (by first | exact Cl.of (by repeat first | exact Has.pto _ _ _ | exact Has.im _ _ _ | refine Has.there ?_) (by rfl) | exact hs.at (n := i + 1) (by omega) (by omega) | exact hs.at (n := i - 1) (by omega) (by omega)) ?_
  refine XD.pu 16 rfl (Pu.sub rfl rfl (by omega) (by omega)) ?_
  refine XD.pu 17 rfl (Pu.assign rfl) ?_
  refine XD.nil ?_
  refine X.sub (p' := [(3, _)]) ⟨rfl, trivial⟩ ?_
  refine X.ret ⟨rfl, Lv.ret (q' := [_, _, _]) Try.func32 (res1 Try.results32 rfl) ⟨_, rfl, congrArg (Value.int .i64) (by unfold gap; rw [← getD_at (k := k) (i := i + 1) (by omega), ← getD_at (k := k) (i := i - 1) (by omega)]), rfl⟩ (by repeat (first | exact Le.refl _ | refine Le.pick (by repeat first | exact Le.here _ _ | apply Le.there) ?_ | refine Le.lose ?_))⟩
abbrev SH (b : Nat) (every most gone last : Int) (came : Bool) (a : Option Addr) (c : Nat) (k : List Int) : HP := pto b (ptsO every most (.slice a k.length c) gone last came)
theorem iter_ok {l : Nat} {J : Nat → HP} (hn : k.length ≤ 5000)
    (hy : ∀ i : Nat, 1 ≤ i → i + 1 < k.length → CallV Try.prog G (.func (.yield l) #[] #[]) [.int .i64 i] [SH b every most gone last came a c k, lsH I 3 a c k, J i]
      (Ret fun v q => v = .bool true ∧ q = [SH b every most gone last came a c k, lsH I 3 a c k, J (i + 1)])) :
    CallF Try.prog G 36 [.func (.yield l) #[] #[], .pointer (some ⟨bx, 0, none⟩)] [pto bx (bxO b), SH b every most gone last came a c k, lsH I 3 a c k, J 1]
      (Ret fun v q => q = [SH b every most gone last came a c k, lsH I 3 a c k, J (max 1 (k.length - 1))]) := by
  refine CallF.of Try.func36 Try.ntmps36 rfl (fun F cs => ?_)
  refine X.sub (p' := [(0, _), (1, _)]) ⟨rfl, rfl, trivial⟩ ?_
  refine X.seq ?_
  refine X.region ?_
  refine XO.pu (Pu.assign rfl) ?_
  refine XO.nil ?_
  refine X.sub (p' := [(3, _), (0, _), (1, _)]) ⟨rfl, rfl, rfl, trivial⟩ ?_
  refine X.block ?_
  refine X.at (X.loop (fun (s : Nat) => 1 ≤ s ∧ s ≤ max 1 (k.length - 1)) (fun s => [(3, .int .i64 (s : Int)), (0, .func (.yield l) #[] #[]), (1, .pointer (some ⟨bx, 0, none⟩))]) (fun s => pto bx (bxO b) :: SH b every most gone last came a c k :: lsH I 3 a c k :: J s :: F) (fun s => k.length - s) (fun s hi_ ih => ?_) 1 ⟨by omega, by omega⟩) ⟨(by first | rfl | exact congrArg some (congrArg (Value.int _) (by omega))), (by first | rfl | exact congrArg some (congrArg (Value.int _) (by omega))), (by first | rfl | exact congrArg some (congrArg (Value.int _) (by omega))), trivial⟩ (by repeat (first | exact Le.refl _ | refine Le.pick (by repeat first | exact Le.here _ _ | apply Le.there) ?_ | refine Le.lose ?_))
  try dsimp only at hi_ ih ⊢
  obtain ⟨h1, h2⟩ := hi_
  refine X.seq ?_
  refine X.seq ?_
  refine X.region ?_
  refine XO.pu (Pu.move rfl) ?_
  refine XO.rd (Rd.load rfl Try.isAgg25 (Cl.of (by repeat first | exact Has.pto _ _ _ | exact Has.im _ _ _ | refine Has.there ?_) (by rfl))) ?_
  refine XO.pu (Pu.nilCheck rfl) ?_
  refine XO.pu (Pu.fieldAddr 22 2 0 rfl Try.underlying60 rfl Try.sizeOf22) ?_
  refine XO.rd (Rd.load rfl Try.isAgg22 (Cl.of (by repeat first | exact Has.pto _ _ _ | exact Has.im _ _ _ | refine Has.there ?_) (by rfl))) ?_
  refine XO.pu (Pu.len rfl Try.underlying22) ?_
  refine XO.pu (Pu.sub rfl rfl (by omega) (by omega)) ?_
  refine XO.pu (Pu.lss rfl rfl) ?_
  refine XO.nil ?_
  refine X.sub (p' := [(11, _), (3, _), (0, _), (1, _)]) ⟨rfl, rfl, rfl, rfl, trivial⟩ ?_
  refine X.cond rfl (fun h3 => ?_) (fun h3 => ?_)
  · skip
    have h4 : s + 1 < k.length := by have := of_decide_eq_true h3; omega
    refine X.skip ?_
    refine X.seq ?_
    refine X.block ?_
    refine X.seq ?_
    refine X.region ?_
    refine XO.pu (Pu.move rfl) ?_
    refine XO.pu (Pu.move rfl) ?_
    refine XO.call rfl rfl (hy s h1 h4) (by repeat (first | exact Le.refl _ | refine Le.pick (by repeat first | exact Le.here _ _ | apply Le.there) ?_ | refine Le.lose ?_)) ?_
    rintro _ _ ⟨rfl, rfl⟩ q_ hq_
    simp only [List.cons_append, List.nil_append] at hq_; subst hq_
    refine XO.pu (Pu.not rfl) ?_
    refine XO.nil ?_
    refine X.sub (p' := [(17, _), (3, _), (0, _), (1, _)]) ⟨rfl, rfl, rfl, rfl, trivial⟩ ?_
    refine X.condF rfl ?_
    refine X.skip ?_
    refine X.inBlock ?_
    refine X.region ?_
    refine XO.pu (Pu.move rfl) ?_
    refine XO.pu (Pu.add rfl rfl (by omega) (by omega)) ?_
    refine XO.pu (Pu.assign rfl) ?_
    refine XO.nil ?_
    refine X.sub (p' := [(3, _), (0, _), (1, _)]) ⟨rfl, rfl, rfl, trivial⟩ ?_
    refine X.at (ih (s + 1) ⟨by omega, by omega⟩ (by omega)) ⟨(by first | rfl | exact congrArg some (congrArg (Value.int _) (by omega))), (by first | rfl | exact congrArg some (congrArg (Value.int _) (by omega))), (by first | rfl | exact congrArg some (congrArg (Value.int _) (by omega))), trivial⟩ (by repeat (first | exact Le.refl _ | refine Le.pick (by repeat first | exact Le.here _ _ | apply Le.there) ?_ | refine Le.lose ?_))
  · skip
    have h4 : s = max 1 (k.length - 1) := by have := of_decide_eq_false h3; omega
    subst h4
    refine X.exit rfl ?_
    refine X.fall ⟨rfl, Lv.ret (q' := [_, _, _]) Try.func36 (res0 Try.results36) ⟨_, rfl, rfl⟩ (by repeat (first | exact Le.refl _ | refine Le.pick (by repeat first | exact Le.here _ _ | apply Le.there) ?_ | refine Le.lose ?_))⟩
theorem inner_ok : CallF Try.prog G 31 [.pointer (some ⟨b, 0, none⟩)] [] (Ret fun v q => ∃ bx, v = .func (.func 36) #[] #[.pointer (some ⟨bx, 0, none⟩)] ∧ q = [pto bx (bxO b)]) := by
  refine CallF.of Try.func31 Try.ntmps31 rfl (fun F cs => ?_)
  refine X.sub (p' := [(0, _)]) ⟨rfl, trivial⟩ ?_
  refine X.seq ?_
  refine X.region ?_
  refine XO.ef (Ef.box rfl) ?_
  rintro _ _ ⟨n3, rfl, rfl⟩
  refine XO.pu (Pu.assign rfl) ?_
  refine XO.nil ?_
  refine X.sub (p' := [(2, _), (1, _)]) ⟨rfl, rfl, trivial⟩ ?_
  refine X.seq ?_
  refine X.region ?_
  refine XO.pu (Pu.makeFunc rfl rfl) ?_
  refine XO.pu (Pu.assign rfl) ?_
  refine XO.nil ?_
  refine X.sub (p' := [(2, _)]) ⟨rfl, trivial⟩ ?_
  refine X.ret ⟨rfl, Lv.ret (q' := [_]) Try.func31 (res1 Try.results31 rfl) ⟨_, rfl, n3, rfl, rfl⟩ (by repeat (first | exact Le.refl _ | refine Le.pick (by repeat first | exact Le.here _ _ | apply Le.there) ?_ | refine Le.lose ?_))⟩
end
end Go.Proofs.Ytjfkkdohpfbilaa

