/- What functions of package points, and of its laws, do: contracts of calls, proved by walking their code. -/
import Derived.Test.YtjfkkdohpfbilaaRows
import Derived.Test.YtjfkkdohpfbilaaWx7
import Derived.KernelRfl
set_option maxRecDepth 100000
set_option linter.unusedVariables false
set_option linter.unusedSimpArgs false
namespace Go.Proofs.Ytjfkkdohpfbilaa
open Go Go.RowKit Wx

theorem Try.mixed : Try.prog.follows .mixedOrders = true := by kernel_rfl
theorem Try.info3 : (Try.prog.info? 3).map (fun i => (i.zero, i.size, i.bytes)) = some (some (.int .i64 0), 1, 8) := by kernel_rfl
/-- The object behind *Points. -/
abbrev ptsO (every most : Int) (kept : Value) (gone last : Int) (came : Bool) : Obj := .cells [.int .i64 every, .int .i64 most, kept, .int .i64 gone, .int .i64 last, .bool came].toArray 60 (0, 0)
def vints (l : List Int) : List Value := l.map (Value.int .i64)
theorem vints_len (l : List Int) : (vints l).length = l.length := by simp [vints]
theorem vints_get {l : List Int} {i : Nat} (h : i < l.length) : (vints l)[i]? = some (.int .i64 l[i]) := by simp [vints, h]
section
variable {G : World}
theorem there_nil : CallF Try.prog G 29 [.pointer none] [] (Ret fun v q => v = .bool false ∧ q = []) := by
  refine CallF.of Try.func29 Try.ntmps29 rfl (fun F cs => ?_)
  refine X.sub (p' := [(0, _)]) ⟨rfl, trivial⟩ ?_
  refine X.seq ?_
  refine X.region ?_
  refine XO.pu (Pu.assign rfl) ?_
  refine XO.nil ?_
  refine X.sub (p' := [(2, _), (0, _)]) ⟨rfl, rfl, trivial⟩ ?_
  refine X.seq ?_
  refine X.region ?_
  refine XO.pu (Pu.move rfl) ?_
  refine XO.pu (Pu.neqNil rfl Try.underlying25) ?_
  refine XO.pu (Pu.move rfl) ?_
  refine XO.know 5 (.bool false) rfl (congrArg Value.bool (rfl)) ?_
  refine XO.pass rfl ?_
  refine XO.pass rfl ?_
  refine XO.pass rfl ?_
  refine XO.pass rfl ?_
  refine XO.pass rfl ?_
  refine XO.pass rfl ?_
  refine XO.pu (Pu.pickF rfl rfl) ?_
  refine XO.pu (Pu.assign rfl) ?_
  refine XO.nil ?_
  refine X.sub (p' := [(2, _)]) ⟨rfl, trivial⟩ ?_
  refine X.ret ⟨rfl, Lv.ret (q' := []) Try.func29 (res1 Try.results29 rfl) ⟨_, rfl, rfl, rfl⟩ (by repeat (first | exact Le.refl _ | refine Le.pick (by repeat first | exact Le.here _ _ | apply Le.there) ?_ | refine Le.lose ?_))⟩
theorem there_some {b : Nat} {every most gone last : Int} {kept : Value} {came : Bool} (h : 1 ≤ every) : CallF Try.prog G 29 [.pointer (some ⟨b, 0, none⟩)] [pto b (ptsO every most kept gone last came)]
    (Ret fun v q => v = .bool true ∧ q = [pto b (ptsO every most kept gone last came)]) := by
  refine CallF.of Try.func29 Try.ntmps29 rfl (fun F cs => ?_)
  refine X.sub (p' := [(0, _)]) ⟨rfl, trivial⟩ ?_
  refine X.seq ?_
  refine X.region ?_
  refine XO.pu (Pu.assign rfl) ?_
  refine XO.nil ?_
  refine X.sub (p' := [(2, _), (0, _)]) ⟨rfl, rfl, trivial⟩ ?_
  refine X.seq ?_
  refine X.region ?_
  refine XO.pu (Pu.move rfl) ?_
  refine XO.pu (Pu.neqNil rfl Try.underlying25) ?_
  refine XO.pu (Pu.move rfl) ?_
  refine XO.know 5 (.bool true) rfl (congrArg Value.bool (rfl)) ?_
  refine XO.pu (Pu.move rfl) ?_
  refine XO.pu (Pu.nilCheck rfl) ?_
  refine XO.pu (Pu.fieldAddr 58 0 1 rfl Try.underlying60 rfl Try.sizeOf58) ?_
  refine XO.pu (Pu.fieldAddr 3 0 0 rfl Try.underlying58 rfl Try.sizeOf3) ?_
  refine XO.rd (Rd.load rfl Try.isAgg3 (Cl.of (by repeat first | exact Has.pto _ _ _ | exact Has.im _ _ _ | refine Has.there ?_) (by rfl))) ?_
  refine XO.pu (Pu.gtr rfl rfl) ?_
  refine XO.pu (Pu.pickT rfl rfl) ?_
  refine XO.pu (Pu.assign rfl) ?_
  refine XO.nil ?_
  refine X.sub (p' := [(2, _)]) ⟨rfl, trivial⟩ ?_
  refine X.ret ⟨rfl, Lv.ret (q' := [_]) Try.func29 (res1 Try.results29 rfl) ⟨_, rfl, congrArg Value.bool (decide_eq_true (by omega)), rfl⟩ (by repeat (first | exact Le.refl _ | refine Le.pick (by repeat first | exact Le.here _ _ | apply Le.there) ?_ | refine Le.lose ?_))⟩
theorem num_ok (n : Int) : CallF Try.prog G 20 [.int .i64 n] [] (Ret fun v q => v = .int .i64 n ∧ q = []) := by
  refine CallF.of Try.func20 Try.ntmps20 rfl (fun F cs => ?_)
  refine X.sub (p' := [(0, _)]) ⟨rfl, trivial⟩ ?_
  refine X.seq ?_
  refine X.region ?_
  refine XO.pu (Pu.assign rfl) ?_
  refine XO.nil ?_
  refine X.sub (p' := [(2, _), (0, _)]) ⟨rfl, rfl, trivial⟩ ?_
  refine X.seq ?_
  refine X.region ?_
  refine XO.pu (Pu.move rfl) ?_
  refine XO.pu (Pu.assign rfl) ?_
  refine XO.nil ?_
  refine X.sub (p' := [(2, _)]) ⟨rfl, trivial⟩ ?_
  refine X.ret ⟨rfl, Lv.ret (q' := []) Try.func20 (res1 Try.results20 rfl) ⟨_, rfl, rfl, rfl⟩ (by repeat (first | exact Le.refl _ | refine Le.pick (by repeat first | exact Le.here _ _ | apply Le.there) ?_ | refine Le.lose ?_))⟩
theorem ints_ok {a b : Option Addr} {c c' : Nat} {l m : List Int} {q : List HP} (ha : Sees q a (vints l)) (hb : Sees q b (vints m)) (hl : l.length ≤ 1000000) (hm : m.length ≤ 1000000) :
    CallF Try.prog G 28 [.slice a l.length c, .slice b m.length c'] q (Ret fun v q' => v = .bool (decide (l = m)) ∧ q' = q) := by
  refine CallF.of Try.func28 Try.ntmps28 rfl (fun F cs => ?_)
  refine X.sub (p' := [(0, _), (1, _)]) ⟨rfl, rfl, trivial⟩ ?_
  refine X.seq ?_
  refine X.region ?_
  refine XO.pu (Pu.assign rfl) ?_
  refine XO.nil ?_
  refine X.sub (p' := [(4, _), (0, _), (1, _)]) ⟨rfl, rfl, rfl, trivial⟩ ?_
  refine X.seq ?_
  refine X.seq ?_
  refine X.region ?_
  refine XO.pu (Pu.move rfl) ?_
  refine XO.pu (Pu.len rfl Try.underlying22) ?_
  refine XO.pu (Pu.move rfl) ?_
  refine XO.pu (Pu.len rfl Try.underlying22) ?_
  refine XO.pu (Pu.neq rfl rfl) ?_
  refine XO.nil ?_
  refine X.sub (p' := [(10, _), (4, _), (0, _), (1, _)]) ⟨rfl, rfl, rfl, rfl, trivial⟩ ?_
  refine X.cond rfl (fun h => ?_) (fun h => ?_)
  · skip
    refine X.seq ?_
    refine X.region ?_
    refine XO.pu (Pu.assign rfl) ?_
    refine XO.nil ?_
    refine X.sub (p' := [(4, _), (0, _), (1, _)]) ⟨rfl, rfl, rfl, trivial⟩ ?_
    refine X.ret ⟨rfl, Lv.ret (q' := q) Try.func28 (res1 Try.results28 rfl) ⟨_, rfl, congrArg Value.bool (decide_eq_false (fun e => by subst e; simp at h)).symm, rfl⟩ (by repeat (first | exact Le.refl _ | refine Le.pick (by repeat first | exact Le.here _ _ | apply Le.there) ?_ | refine Le.lose ?_))⟩
  · skip
    refine X.skip ?_
    refine X.seq ?_
    refine X.seq ?_
    refine X.region ?_
    refine XO.pu (Pu.assign rfl) ?_
    refine XO.nil ?_
    refine X.sub (p' := [(5, _), (4, _), (0, _), (1, _)]) ⟨rfl, rfl, rfl, rfl, trivial⟩ ?_
    refine X.block ?_
    have hlen : l.length = m.length := by simp at h; omega
    have ha' : Sees (q ++ F) a (vints l) := ha.le (Le.app_left q F)
    have hb' : Sees (q ++ F) b (vints m) := hb.le (Le.app_left q F)
    refine X.at (X.loop (fun (s : Nat) => s ≤ l.length ∧ l.take s = m.take s) (fun s => [(5, .int .i64 (s : Int)), (0, .slice a l.length c), (1, .slice b m.length c')]) (fun s => q ++ F) (fun s => l.length - s) (fun s hi_ ih => ?_) 0 ⟨by omega, by simp⟩) ⟨(by first | rfl | exact congrArg some (congrArg (Value.int _) (by omega))), (by first | rfl | exact congrArg some (congrArg (Value.int _) (by omega))), (by first | rfl | exact congrArg some (congrArg (Value.int _) (by omega))), trivial⟩ (Le.refl _)
    try dsimp only at hi_ ih ⊢
    obtain ⟨hi, hpre⟩ := hi_
    refine X.seq ?_
    refine X.seq ?_
    refine X.region ?_
    refine XO.pu (Pu.move rfl) ?_
    refine XO.pu (Pu.move rfl) ?_
    refine XO.pu (Pu.len rfl Try.underlying22) ?_
    refine XO.pu (Pu.lss rfl rfl) ?_
    refine XO.nil ?_
    refine X.sub (p' := [(14, _), (5, _), (0, _), (1, _)]) ⟨rfl, rfl, rfl, rfl, trivial⟩ ?_
    refine X.cond rfl (fun h2 => ?_) (fun h2 => ?_)
    · skip
      have hlt : s < l.length := by have := of_decide_eq_true h2; omega
      refine X.addr ha' (by rw [vints_len]; omega) (fun ba oa ea => ?_); subst ea
      refine X.addr hb' (by rw [vints_len]; omega) (fun bb ob eb => ?_); subst eb
      refine X.skip ?_
      refine X.seq ?_
      refine X.block ?_
      refine X.seq ?_
      refine X.draw [] Try.mixed (by kernel_rfl) (by kernel_rfl) rfl ?_
      refine XD.pu 0 rfl (Pu.move rfl) ?_
      refine XD.pu 1 rfl (Pu.move rfl) ?_
      refine XD.pu 2 rfl (Pu.indexAddr rfl rfl Try.underlying22 Try.sizeOf3 (by omega) (by omega)) ?_
      refine XD.load 3 rfl rfl Try.isAgg3 (by first | exact ha'.cl (by rw [Int.toNat_natCast, Nat.mul_one]; exact vints_get hlt) | exact hb'.cl (by rw [Int.toNat_natCast, Nat.mul_one]; exact vints_get (by omega))) ?_
      refine XD.pu 4 rfl (Pu.move rfl) ?_
      refine XD.pu 5 rfl (Pu.move rfl) ?_
      refine XD.pu 6 rfl (Pu.indexAddr rfl rfl Try.underlying22 Try.sizeOf3 (by omega) (by omega)) ?_
      refine XD.load 7 rfl rfl Try.isAgg3 (by first | exact ha'.cl (by rw [Int.toNat_natCast, Nat.mul_one]; exact vints_get hlt) | exact hb'.cl (by rw [Int.toNat_natCast, Nat.mul_one]; exact vints_get (by omega))) ?_
      refine XD.pu 8 rfl (Pu.neq rfl rfl) ?_
      refine XD.nil ?_
      refine X.sub (p' := [(25, _), (5, _), (0, _), (1, _)]) ⟨rfl, rfl, rfl, rfl, trivial⟩ ?_
      refine X.cond rfl (fun h3 => ?_) (fun h3 => ?_)
      · skip
        refine X.seq ?_
        refine X.region ?_
        refine XO.pu (Pu.assign rfl) ?_
        refine XO.nil ?_
        refine X.sub (p' := [(4, _), (5, _), (0, _), (1, _)]) ⟨rfl, rfl, rfl, rfl, trivial⟩ ?_
        refine X.ret ⟨rfl, Lv.ret (q' := q) Try.func28 (res1 Try.results28 rfl) ⟨_, rfl, congrArg Value.bool (decide_eq_false (fun e => by subst e; simp at h3)).symm, rfl⟩ (by repeat (first | exact Le.refl _ | refine Le.pick (by repeat first | exact Le.here _ _ | apply Le.there) ?_ | refine Le.lose ?_))⟩
      · skip
        refine X.skip ?_
        refine X.inBlock ?_
        refine X.region ?_
        refine XO.pu (Pu.move rfl) ?_
        refine XO.pu (Pu.add rfl rfl (by omega) (by omega)) ?_
        refine XO.pu (Pu.assign rfl) ?_
        refine XO.nil ?_
        refine X.sub (p' := [(5, _), (0, _), (1, _)]) ⟨rfl, rfl, rfl, trivial⟩ ?_
        have heq : l[s] = m[s] := by simpa using h3
        refine X.at (ih (s + 1) ⟨by omega, by rw [List.take_succ_eq_append_getElem hlt, List.take_succ_eq_append_getElem (by omega), hpre, heq]⟩ (by omega)) ⟨(by first | rfl | exact congrArg some (congrArg (Value.int _) (by omega))), (by first | rfl | exact congrArg some (congrArg (Value.int _) (by omega))), (by first | rfl | exact congrArg some (congrArg (Value.int _) (by omega))), trivial⟩ (Le.refl _)
    · skip
      have hge : s = l.length := by have := of_decide_eq_false h2; omega
      have heq : l = m := by have := hpre; rw [hge, List.take_length, hlen, List.take_length] at this; exact this
      refine X.exit rfl ?_
      refine X.seq ?_
      refine X.region ?_
      refine XO.pu (Pu.assign rfl) ?_
      refine XO.nil ?_
      refine X.sub (p' := [(4, _)]) ⟨rfl, trivial⟩ ?_
      refine X.ret ⟨rfl, Lv.ret (q' := q) Try.func28 (res1 Try.results28 rfl) ⟨_, rfl, congrArg Value.bool (decide_eq_true heq).symm, rfl⟩ (by repeat (first | exact Le.refl _ | refine Le.pick (by repeat first | exact Le.here _ _ | apply Le.there) ?_ | refine Le.lose ?_))⟩
end
end Go.Proofs.Ytjfkkdohpfbilaa

