/-
  Plain program logic, part 40: a slice that has its whole block, as the block.
-/
import Derived.Test.YtcklgodcjnnllaaGreatDoorWd
set_option linter.unusedVariables false
set_option linter.unusedSimpArgs false
namespace Wx
open Go Go.RowKit
theorem Le.slH_pto {g n ty sz : Nat} {vs : List Value} (q : List HP) : Le (slH (some ⟨g, 0, none⟩) n ty sz n vs :: q) (pto g (.cells vs.toArray ty (0, 0)) :: q) :=
  .one fun M x p => by
    obtain ⟨p1, p2⟩ := p
    rcases p2 with ⟨h, _⟩ | ⟨g', cur, e, h1, h2, h3, h4, h5⟩
    · cases h
    · cases e
      have e1 : cur.toList = vs := by rw [← h4]; exact (List.take_of_length_le (by rw [Array.length_toList, h3]; exact Nat.le_refl _)).symm
      have e2 : cur = vs.toArray := by rw [← e1]
      rw [← e2]; exact h5
theorem Le.pto_slH {g n ty sz : Nat} {vs : List Value} (h : vs.length = n * sz) (hm : n ≤ maxLen) (q : List HP) : Le (pto g (.cells vs.toArray ty (0, 0)) :: q) (slH (some ⟨g, 0, none⟩) n ty sz n vs :: q) :=
  Le.slH_intro (Nat.le_refl _) hm (by simpa using h) (by rw [← h]; simp) q
theorem XO.lscap {P : Program} {G : World} {f : Fc} {Q : Post} {ops : List Oper} {k : List Item} {rest : List Oper} {p : PE} {ds : List Deferred} {cs : List Frame} {q r : List HP} {α : Type} {fl : α → Value} {ty : TypeId} {a : Option Addr} {c : Nat} {l : List α} (x : l.length ≤ c → XO P G f Q ops.toArray k rest p ds cs q) (hq : Le q (Wx.lsH fl ty a c l :: r) := by exact fndA) : XO P G f Q ops.toArray k rest p ds cs q :=
  .fact (fun w s => (s.le hq).lsCap) fun h => x h
end Wx

