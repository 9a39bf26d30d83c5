/- What functions of package points, and of its laws, do: contracts of calls, proved by walking their code. -/
import Derived.Test.YtjfkkdohpfbilaaG
import Derived.KernelRfl
set_option maxRecDepth 100000
set_option linter.unusedVariables false
set_option linter.unusedSimpArgs false
namespace Go.Proofs.Ytjfkkdohpfbilaa
open Go Go.RowKit Wx

def Pt.rl (p : Pt) : Int := if p.came then p.last else -1
def refC (p : Pt) (a : Option Addr) (c : Nat) : List Value := [.int .i64 p.every, .int .i64 p.most, .slice a p.kept.length c, .int .i64 p.gone, .int .i64 p.rl]
/-- The slow Points, by value. -/
def refV (p : Pt) (a : Option Addr) (c : Nat) : Value := .agg (refC p a c).toArray
abbrev refO (every most : Int) (kept : Value) (gone rl : Int) : Obj := .cells [.int .i64 every, .int .i64 most, kept, .int .i64 gone, .int .i64 rl].toArray 27 (0, 0)
theorem erase_at {k : List Int} {s : Nat} (h : s < k.length) : (k.take (s + 1)).eraseIdx s = (k.take s).eraseIdx s := by
  rw [List.eraseIdx_of_length_le (l := k.take s) (by simp; omega), List.eraseIdx_eq_take_drop_succ, List.take_take, Nat.min_eq_left (by omega), List.drop_eq_nil_of_le (by simp; omega), List.append_nil]
section
variable {G : World} {p p2 : Pt} {b b2 : Nat} {t : Int} {q : List HP} {a a' : Option Addr} {c c' : Nat} {l m : List Int}
theorem RNew_yes {every most : Int} (h1 : 1 ≤ every) (h2 : every ≤ 1073741824) (h3 : 2 ≤ most) (h4 : most ≤ 4096) : CallF Try.prog G 26 [.int .i64 every, .int .i64 most] [] (Ret fun v q => v = .tuple [refV ⟨every, most, [], 0, 0, false⟩ none 0, .int .i64 0].toArray ∧ q = []) := by
  refine CallF.of Try.func26 Try.ntmps26 rfl (fun F cs => ?_)
  refine X.sub (p' := [(0, _), (1, _)]) ⟨rfl, rfl, trivial⟩ ?_
  refine X.seq ?_
  refine X.region ?_
  refine XO.ef (Ef.alloc Try.zeroValue27) ?_
  rintro _ _ ⟨n1, rfl, rfl⟩
  refine XO.pu (Pu.assign rfl) ?_
  refine XO.nil ?_
  refine X.sub (p' := [(5, _), (4, _), (0, _), (1, _)]) ⟨rfl, rfl, rfl, rfl, trivial⟩ ?_
  refine X.seq ?_
  refine X.seq ?_
  refine X.region ?_
  refine XO.pu (Pu.move rfl) ?_
  refine XO.pu (Pu.lss rfl rfl) ?_
  refine XO.pu (Pu.move rfl) ?_
  refine XO.know 8 (.bool false) rfl (congrArg Value.bool (decide_eq_false (by omega))) ?_
  refine XO.pu (Pu.move rfl) ?_
  refine XO.pu (Pu.gtr rfl rfl) ?_
  refine XO.pu (Pu.pickF rfl rfl) ?_
  refine XO.pu (Pu.move rfl) ?_
  refine XO.know 12 (.bool false) rfl (congrArg Value.bool (decide_eq_false (by omega))) ?_
  refine XO.pu (Pu.move rfl) ?_
  refine XO.pu (Pu.lss rfl rfl) ?_
  refine XO.pu (Pu.pickF rfl rfl) ?_
  refine XO.pu (Pu.move rfl) ?_
  refine XO.know 16 (.bool false) rfl (congrArg Value.bool (decide_eq_false (by omega))) ?_
  refine XO.pu (Pu.move rfl) ?_
  refine XO.pu (Pu.gtr rfl rfl) ?_
  refine XO.pu (Pu.pickF rfl rfl) ?_
  refine XO.nil ?_
  refine X.sub (p' := [(19, _), (5, _), (4, _), (0, _), (1, _)]) ⟨rfl, rfl, rfl, rfl, rfl, trivial⟩ ?_
  refine X.know 19 (.bool false) rfl (congrArg Value.bool (decide_eq_false (by omega))) ?_
  refine X.condF rfl ?_
  refine X.skip ?_
  refine X.seq ?_
  refine X.region ?_
  refine XO.pu (Pu.move rfl) ?_
  refine XO.pu (Pu.move rfl) ?_
  refine XO.pu (Pu.build (cells := [_, _, _, _, _]) [(0, 1), (1, 1), (2, 1), (3, 1), (4, 1)] Try.zeroValue27 Try.underlying27 (by kernel_rfl) rfl rfl) ?_
  refine XO.ef0 (Ef.storeA rfl rfl Try.sizeOf27 rfl rfl (by repeat first | exact Le.here _ _ | apply Le.there) rfl) ?_
  rintro _ _ ⟨rfl, rfl⟩
  refine XO.pu (Pu.assign rfl) ?_
  refine XO.nil ?_
  refine X.sub (p' := [(5, _), (4, _)]) ⟨rfl, rfl, trivial⟩ ?_
  refine X.ret ⟨rfl, Lv.ret (q' := []) Try.func26 (resC Try.results26 (ResOk.cell rfl (LV.agg Try.isAgg27 Try.sizeOf27 (by repeat first | exact Has.pto _ _ _ | exact Has.im _ _ _ | refine Has.there ?_) rfl) (ResOk.tmp rfl ResOk.nil))) ⟨_, rfl, rfl, rfl⟩ (by repeat (first | exact Le.refl _ | refine Le.pick (by repeat first | exact Le.here _ _ | apply Le.there) ?_ | refine Le.lose ?_))⟩
theorem RNew_no {every most : Int} (h : ¬ (1 ≤ every ∧ every ≤ 1073741824 ∧ 2 ≤ most ∧ most ≤ 4096)) : CallF Try.prog G 26 [.int .i64 every, .int .i64 most] [] (Ret fun v q => v = .tuple [.agg [.int .i64 0, .int .i64 0, .slice none 0 0, .int .i64 0, .int .i64 0].toArray, .int .i64 2].toArray ∧ q = []) := by
  refine CallF.of Try.func26 Try.ntmps26 rfl (fun F cs => ?_)
  refine X.sub (p' := [(0, _), (1, _)]) ⟨rfl, rfl, trivial⟩ ?_
  refine X.seq ?_
  refine X.region ?_
  refine XO.ef (Ef.alloc Try.zeroValue27) ?_
  rintro _ _ ⟨n2, rfl, rfl⟩
  refine XO.pu (Pu.assign rfl) ?_
  refine XO.nil ?_
  refine X.sub (p' := [(5, _), (4, _), (0, _), (1, _)]) ⟨rfl, rfl, rfl, rfl, trivial⟩ ?_
  refine X.seq ?_
  refine X.seq ?_
  refine X.region ?_
  refine XO.pu (Pu.move rfl) ?_
  refine XO.pu (Pu.lss rfl rfl) ?_
  refine XO.pu (Pu.move rfl) ?_
  refine XO.part 8 rfl (fun h1 => ?_) (fun h1 => ?_)
  · skip
    try simp only [decide_eq_true_eq, decide_eq_false_iff_not, bne_iff_ne, beq_iff_eq, ne_eq, bne_eq_false_iff_eq, beq_eq_false_iff_ne, Bool.not_eq_true', Bool.not_eq_false', Int.not_lt, Int.not_le, Bool.not_not] at h1
    refine XO.pass rfl ?_
    refine XO.pass rfl ?_
    refine XO.pu (Pu.pickT rfl rfl) ?_
    refine XO.pu (Pu.move rfl) ?_
    refine XO.pass rfl ?_
    refine XO.pass rfl ?_
    refine XO.pu (Pu.pickT rfl rfl) ?_
    refine XO.pu (Pu.move rfl) ?_
    refine XO.pass rfl ?_
    refine XO.pass rfl ?_
    refine XO.pu (Pu.pickT rfl rfl) ?_
    refine XO.nil ?_
    refine X.sub (p' := [(19, _), (5, _), (4, _), (0, _), (1, _)]) ⟨rfl, rfl, rfl, rfl, rfl, trivial⟩ ?_
    refine X.condT rfl ?_
    refine X.seq ?_
    refine X.region ?_
    refine XO.pu (Pu.build (cells := [_, _, _, _, _]) [(0, 1), (1, 1), (2, 1), (3, 1), (4, 1)] Try.zeroValue27 Try.underlying27 (by kernel_rfl) rfl rfl) ?_
    refine XO.ef0 (Ef.storeA rfl rfl Try.sizeOf27 rfl rfl (by repeat first | exact Le.here _ _ | apply Le.there) rfl) ?_
    rintro _ _ ⟨rfl, rfl⟩
    refine XO.pu (Pu.assign rfl) ?_
    refine XO.nil ?_
    refine X.sub (p' := [(5, _), (4, _), (0, _), (1, _)]) ⟨rfl, rfl, rfl, rfl, trivial⟩ ?_
    refine X.ret ⟨rfl, Lv.ret (q' := []) Try.func26 (resC Try.results26 (ResOk.cell rfl (LV.agg Try.isAgg27 Try.sizeOf27 (by repeat first | exact Has.pto _ _ _ | exact Has.im _ _ _ | refine Has.there ?_) rfl) (ResOk.tmp rfl ResOk.nil))) ⟨_, rfl, rfl, rfl⟩ (by repeat (first | exact Le.refl _ | refine Le.pick (by repeat first | exact Le.here _ _ | apply Le.there) ?_ | refine Le.lose ?_))⟩
  · skip
    try simp only [decide_eq_true_eq, decide_eq_false_iff_not, bne_iff_ne, beq_iff_eq, ne_eq, bne_eq_false_iff_eq, beq_eq_false_iff_ne, Bool.not_eq_true', Bool.not_eq_false', Int.not_lt, Int.not_le, Bool.not_not] at h1
    refine XO.pu (Pu.move rfl) ?_
    refine XO.pu (Pu.gtr rfl rfl) ?_
    refine XO.pu (Pu.pickF rfl rfl) ?_
    refine XO.pu (Pu.move rfl) ?_
    refine XO.part 12 rfl (fun h2 => ?_) (fun h2 => ?_)
    · skip
      try simp only [decide_eq_true_eq, decide_eq_false_iff_not, bne_iff_ne, beq_iff_eq, ne_eq, bne_eq_false_iff_eq, beq_eq_false_iff_ne, Bool.not_eq_true', Bool.not_eq_false', Int.not_lt, Int.not_le, Bool.not_not] at h2
      refine XO.pass rfl ?_
      refine XO.pass rfl ?_
      refine XO.pu (Pu.pickT rfl rfl) ?_
      refine XO.pu (Pu.move rfl) ?_
      refine XO.pass rfl ?_
      refine XO.pass rfl ?_
      refine XO.pu (Pu.pickT rfl rfl) ?_
      refine XO.nil ?_
      refine X.sub (p' := [(19, _), (5, _), (4, _), (0, _), (1, _)]) ⟨rfl, rfl, rfl, rfl, rfl, trivial⟩ ?_
      refine X.condT rfl ?_
      refine X.seq ?_
      refine X.region ?_
      refine XO.pu (Pu.build (cells := [_, _, _, _, _]) [(0, 1), (1, 1), (2, 1), (3, 1), (4, 1)] Try.zeroValue27 Try.underlying27 (by kernel_rfl) rfl rfl) ?_
      refine XO.ef0 (Ef.storeA rfl rfl Try.sizeOf27 rfl rfl (by repeat first | exact Le.here _ _ | apply Le.there) rfl) ?_
      rintro _ _ ⟨rfl, rfl⟩
      refine XO.pu (Pu.assign rfl) ?_
      refine XO.nil ?_
      refine X.sub (p' := [(5, _), (4, _), (0, _), (1, _)]) ⟨rfl, rfl, rfl, rfl, trivial⟩ ?_
      refine X.ret ⟨rfl, Lv.ret (q' := []) Try.func26 (resC Try.results26 (ResOk.cell rfl (LV.agg Try.isAgg27 Try.sizeOf27 (by repeat first | exact Has.pto _ _ _ | exact Has.im _ _ _ | refine Has.there ?_) rfl) (ResOk.tmp rfl ResOk.nil))) ⟨_, rfl, rfl, rfl⟩ (by repeat (first | exact Le.refl _ | refine Le.pick (by repeat first | exact Le.here _ _ | apply Le.there) ?_ | refine Le.lose ?_))⟩
    · skip
      try simp only [decide_eq_true_eq, decide_eq_false_iff_not, bne_iff_ne, beq_iff_eq, ne_eq, bne_eq_false_iff_eq, beq_eq_false_iff_ne, Bool.not_eq_true', Bool.not_eq_false', Int.not_lt, Int.not_le, Bool.not_not] at h2
      refine XO.pu (Pu.move rfl) ?_
      refine XO.pu (Pu.lss rfl rfl) ?_
      refine XO.pu (Pu.pickF rfl rfl) ?_
      refine XO.pu (Pu.move rfl) ?_
      refine XO.part 16 rfl (fun h3 => ?_) (fun h3 => ?_)
      · skip
        try simp only [decide_eq_true_eq, decide_eq_false_iff_not, bne_iff_ne, beq_iff_eq, ne_eq, bne_eq_false_iff_eq, beq_eq_false_iff_ne, Bool.not_eq_true', Bool.not_eq_false', Int.not_lt, Int.not_le, Bool.not_not] at h3
        refine XO.pass rfl ?_
        refine XO.pass rfl ?_
        refine XO.pu (Pu.pickT rfl rfl) ?_
        refine XO.nil ?_
        refine X.sub (p' := [(19, _), (5, _), (4, _), (0, _), (1, _)]) ⟨rfl, rfl, rfl, rfl, rfl, trivial⟩ ?_
        refine X.condT rfl ?_
        refine X.seq ?_
        refine X.region ?_
        refine XO.pu (Pu.build (cells := [_, _, _, _, _]) [(0, 1), (1, 1), (2, 1), (3, 1), (4, 1)] Try.zeroValue27 Try.underlying27 (by kernel_rfl) rfl rfl) ?_
        refine XO.ef0 (Ef.storeA rfl rfl Try.sizeOf27 rfl rfl (by repeat first | exact Le.here _ _ | apply Le.there) rfl) ?_
        rintro _ _ ⟨rfl, rfl⟩
        refine XO.pu (Pu.assign rfl) ?_
        refine XO.nil ?_
        refine X.sub (p' := [(5, _), (4, _), (0, _), (1, _)]) ⟨rfl, rfl, rfl, rfl, trivial⟩ ?_
        refine X.ret ⟨rfl, Lv.ret (q' := []) Try.func26 (resC Try.results26 (ResOk.cell rfl (LV.agg Try.isAgg27 Try.sizeOf27 (by repeat first | exact Has.pto _ _ _ | exact Has.im _ _ _ | refine Has.there ?_) rfl) (ResOk.tmp rfl ResOk.nil))) ⟨_, rfl, rfl, rfl⟩ (by repeat (first | exact Le.refl _ | refine Le.pick (by repeat first | exact Le.here _ _ | apply Le.there) ?_ | refine Le.lose ?_))⟩
      · skip
        try simp only [decide_eq_true_eq, decide_eq_false_iff_not, bne_iff_ne, beq_iff_eq, ne_eq, bne_eq_false_iff_eq, beq_eq_false_iff_ne, Bool.not_eq_true', Bool.not_eq_false', Int.not_lt, Int.not_le, Bool.not_not] at h3
        refine XO.pu (Pu.move rfl) ?_
        refine XO.pu (Pu.gtr rfl rfl) ?_
        refine XO.pu (Pu.pickF rfl rfl) ?_
        refine XO.nil ?_
        refine X.sub (p' := [(19, _), (5, _), (4, _), (0, _), (1, _)]) ⟨rfl, rfl, rfl, rfl, rfl, trivial⟩ ?_
        refine X.cond rfl (fun h4 => ?_) (fun h4 => ?_)
        · skip
          try simp only [decide_eq_true_eq, decide_eq_false_iff_not, bne_iff_ne, beq_iff_eq, ne_eq, bne_eq_false_iff_eq, beq_eq_false_iff_ne, Bool.not_eq_true', Bool.not_eq_false', Int.not_lt, Int.not_le, Bool.not_not] at h4
          refine X.seq ?_
          refine X.region ?_
          refine XO.pu (Pu.build (cells := [_, _, _, _, _]) [(0, 1), (1, 1), (2, 1), (3, 1), (4, 1)] Try.zeroValue27 Try.underlying27 (by kernel_rfl) rfl rfl) ?_
          refine XO.ef0 (Ef.storeA rfl rfl Try.sizeOf27 rfl rfl (by repeat first | exact Le.here _ _ | apply Le.there) rfl) ?_
          rintro _ _ ⟨rfl, rfl⟩
          refine XO.pu (Pu.assign rfl) ?_
          refine XO.nil ?_
          refine X.sub (p' := [(5, _), (4, _), (0, _), (1, _)]) ⟨rfl, rfl, rfl, rfl, trivial⟩ ?_
          refine X.ret ⟨rfl, Lv.ret (q' := []) Try.func26 (resC Try.results26 (ResOk.cell rfl (LV.agg Try.isAgg27 Try.sizeOf27 (by repeat first | exact Has.pto _ _ _ | exact Has.im _ _ _ | refine Has.there ?_) rfl) (ResOk.tmp rfl ResOk.nil))) ⟨_, rfl, rfl, rfl⟩ (by repeat (first | exact Le.refl _ | refine Le.pick (by repeat first | exact Le.here _ _ | apply Le.there) ?_ | refine Le.lose ?_))⟩
        · skip
          try simp only [decide_eq_true_eq, decide_eq_false_iff_not, bne_iff_ne, beq_iff_eq, ne_eq, bne_eq_false_iff_eq, beq_eq_false_iff_ne, Bool.not_eq_true', Bool.not_eq_false', Int.not_lt, Int.not_le, Bool.not_not] at h4
          refine X.skip ?_
          refine X.seq ?_
          refine X.region ?_
          refine XO.pu (Pu.move rfl) ?_
          refine XO.pu (Pu.move rfl) ?_
          refine XO.pu (Pu.build (cells := [_, _, _, _, _]) [(0, 1), (1, 1), (2, 1), (3, 1), (4, 1)] Try.zeroValue27 Try.underlying27 (by kernel_rfl) rfl rfl) ?_
          refine XO.ef0 (Ef.storeA rfl rfl Try.sizeOf27 rfl rfl (by repeat first | exact Le.here _ _ | apply Le.there) rfl) ?_
          rintro _ _ ⟨rfl, rfl⟩
          refine XO.pu (Pu.assign rfl) ?_
          refine XO.nil ?_
          refine X.sub (p' := [(5, _), (4, _)]) ⟨rfl, rfl, trivial⟩ ?_
          exfalso; omega
theorem RBest_ok (g : p.Good) : CallF Try.prog G 23 [refV p a c, .int .i64 t] [lsM I 3 a c p.kept] (Ret fun v q => v = .int .i64 (bst p.kept t) ∧ q = [lsM I 3 a c p.kept]) := by
  refine CallF.of Try.func23 Try.ntmps23 rfl (fun F cs => ?_)
  refine X.sub (p' := [(0, _), (1, _)]) ⟨rfl, rfl, trivial⟩ ?_
  have ok := g.ok; have k1 := ok.k1; have m2 := ok.m2
  obtain ⟨every, most, kept, gone, last, came⟩ := p
  dsimp only at *
  refine X.know 0 (.agg [.int .i64 every, .int .i64 most, .slice a kept.length c, .int .i64 gone, .int .i64 (Pt.rl ⟨every, most, kept, gone, last, came⟩)].toArray) rfl (rfl) ?_
  refine X.seq ?_
  refine X.region ?_
  refine XO.ef (Ef.box rfl) ?_
  rintro _ _ ⟨n3, rfl, rfl⟩
  refine XO.pu (Pu.assign rfl) ?_
  refine XO.nil ?_
  refine X.sub (p' := [(4, _), (2, _), (1, _)]) ⟨rfl, rfl, rfl, trivial⟩ ?_
  refine X.seq ?_
  refine X.region ?_
  refine XO.pu (Pu.assign rfl) ?_
  refine XO.nil ?_
  refine X.sub (p' := [(5, _), (4, _), (2, _), (1, _)]) ⟨rfl, rfl, rfl, rfl, trivial⟩ ?_
  refine X.seq ?_
  refine X.seq ?_
  refine X.region ?_
  refine XO.pu (Pu.assign rfl) ?_
  refine XO.nil ?_
  refine X.sub (p' := [(6, _), (5, _), (4, _), (2, _), (1, _)]) ⟨rfl, rfl, rfl, rfl, rfl, trivial⟩ ?_
  refine X.block ?_
  have hs : Sees (pto n3 (refO every most (.slice a kept.length c) gone (Pt.rl ⟨every, most, kept, gone, last, came⟩)) :: lsM I 3 a c kept :: F) a (kept.map I) := (Sees.lsM _).there
  refine X.at (X.loop (fun (s : Nat) => s ≤ kept.length) (fun s => [(6, .int .i64 (s : Int)), (2, .pointer (some ⟨n3, 0, none⟩)), (1, .int .i64 t), (5, .int .i64 (bst (kept.take s) t))]) (fun s => pto n3 (refO every most (.slice a kept.length c) gone (Pt.rl ⟨every, most, kept, gone, last, came⟩)) :: lsM I 3 a c kept :: F) (fun s => kept.length - s) (fun s hi_ ih => ?_) 0 (by omega)) ⟨(by first | rfl | exact congrArg some (congrArg (Value.int _) (by omega))), (by first | rfl | exact congrArg some (congrArg (Value.int _) (by omega))), (by first | rfl | exact congrArg some (congrArg (Value.int _) (by omega))), (by first | rfl | exact congrArg some (congrArg (Value.int _) (by omega))), trivial⟩ (Le.refl _)
  try dsimp only at hi_ ih ⊢
  obtain hi := hi_
  refine X.seq ?_
  refine X.seq ?_
  refine X.region ?_
  refine XO.pu (Pu.move rfl) ?_
  refine XO.pu (Pu.fieldAddr 22 2 0 rfl Try.underlying27 rfl Try.sizeOf22) ?_
  refine XO.rd (Rd.load rfl Try.isAgg22 (Cl.of (by repeat first | exact Has.pto _ _ _ | exact Has.im _ _ _ | refine Has.there ?_) (by rfl))) ?_
  refine XO.pu (Pu.len rfl Try.underlying22) ?_
  refine XO.pu (Pu.lss rfl rfl) ?_
  refine XO.nil ?_
  refine X.sub (p' := [(11, _), (6, _), (2, _), (1, _), (5, _)]) ⟨rfl, rfl, rfl, rfl, rfl, trivial⟩ ?_
  refine X.cond rfl (fun h2 => ?_) (fun h2 => ?_)
  · skip
    have hlt : s < kept.length := by have := of_decide_eq_true h2; omega
    refine X.addr hs (by simp; omega) (fun ba oa ea => ?_); subst ea
    have hnx : bst (kept.take (s + 1)) t = if kept[s] ≤ t then kept[s] else bst (kept.take s) t := by
      unfold bst
      rw [List.take_succ_eq_append_getElem hlt, List.filter_append]
      split
      · rename_i h; rw [List.filter_cons_of_pos (by simpa using h), List.filter_nil, List.getLast?_concat]; rfl
      · rename_i h; rw [List.filter_cons_of_neg (by simpa using h), List.filter_nil, List.append_nil]
    refine X.skip ?_
    refine X.seq ?_
    refine X.block ?_
    refine X.seq ?_
    refine X.region ?_
    refine XO.pu (Pu.fieldAddr 22 2 0 rfl Try.underlying27 rfl Try.sizeOf22) ?_
    refine XO.rd (Rd.load rfl Try.isAgg22 (by first | exact Cl.of (by repeat first | exact Has.pto _ _ _ | exact Has.im _ _ _ | refine Has.there ?_) (by rfl) | exact hs.at (n := s) (by omega) hlt)) ?_
    refine XO.pu (Pu.move rfl) ?_
    refine XO.pu (Pu.indexAddr rfl rfl Try.underlying22 Try.sizeOf3 (by omega) (by omega)) ?_
    refine XO.rd (Rd.load rfl Try.isAgg3 (by first | exact Cl.of (by repeat first | exact Has.pto _ _ _ | exact Has.im _ _ _ | refine Has.there ?_) (by rfl) | exact hs.at (n := s) (by omega) hlt)) ?_
    refine XO.pu (Pu.move rfl) ?_
    refine XO.pu (Pu.leq rfl rfl) ?_
    refine XO.nil ?_
    refine X.sub (p' := [(20, _), (6, _), (2, _), (1, _), (5, _)]) ⟨rfl, rfl, rfl, rfl, rfl, trivial⟩ ?_
    refine X.cond rfl (fun h3 => ?_) (fun h3 => ?_)
    · skip
      have h3 := of_decide_eq_true h3
      refine X.region ?_
      refine XO.pu (Pu.fieldAddr 22 2 0 rfl Try.underlying27 rfl Try.sizeOf22) ?_
      refine XO.rd (Rd.load rfl Try.isAgg22 (by first | exact Cl.of (by repeat first | exact Has.pto _ _ _ | exact Has.im _ _ _ | refine Has.there ?_) (by rfl) | exact hs.at (n := s) (by omega) hlt)) ?_
      refine XO.pu (Pu.move rfl) ?_
      refine XO.pu (Pu.indexAddr rfl rfl Try.underlying22 Try.sizeOf3 (by omega) (by omega)) ?_
      refine XO.rd (Rd.load rfl Try.isAgg3 (by first | exact Cl.of (by repeat first | exact Has.pto _ _ _ | exact Has.im _ _ _ | refine Has.there ?_) (by rfl) | exact hs.at (n := s) (by omega) hlt)) ?_
      refine XO.pu (Pu.assign rfl) ?_
      refine XO.nil ?_
      refine X.sub (p' := [(5, _), (6, _), (2, _), (1, _)]) ⟨rfl, rfl, rfl, rfl, trivial⟩ ?_
      refine X.inBlock ?_
      refine X.region ?_
      refine XO.pu (Pu.move rfl) ?_
      refine XO.pu (Pu.add rfl rfl (by omega) (by omega)) ?_
      refine XO.pu (Pu.assign rfl) ?_
      refine XO.nil ?_
      refine X.sub (p' := [(6, _), (5, _), (2, _), (1, _)]) ⟨rfl, rfl, rfl, rfl, trivial⟩ ?_
      refine X.know 5 (.int .i64 (bst (kept.take (s + 1)) t)) rfl (by rw [hnx, if_pos h3]) ?_
      refine X.at (ih (s + 1) (by omega) (by omega)) ⟨(by first | rfl | exact congrArg some (congrArg (Value.int _) (by omega))), (by first | rfl | exact congrArg some (congrArg (Value.int _) (by omega))), (by first | rfl | exact congrArg some (congrArg (Value.int _) (by omega))), (by first | rfl | exact congrArg some (congrArg (Value.int _) (by omega))), trivial⟩ (Le.refl _)
    · skip
      have h3 := of_decide_eq_false h3
      refine X.skip ?_
      refine X.inBlock ?_
      refine X.region ?_
      refine XO.pu (Pu.move rfl) ?_
      refine XO.pu (Pu.add rfl rfl (by omega) (by omega)) ?_
      refine XO.pu (Pu.assign rfl) ?_
      refine XO.nil ?_
      refine X.sub (p' := [(6, _), (2, _), (1, _), (5, _)]) ⟨rfl, rfl, rfl, rfl, trivial⟩ ?_
      refine X.know 5 (.int .i64 (bst (kept.take (s + 1)) t)) rfl (by rw [hnx, if_neg h3]) ?_
      refine X.at (ih (s + 1) (by omega) (by omega)) ⟨(by first | rfl | exact congrArg some (congrArg (Value.int _) (by omega))), (by first | rfl | exact congrArg some (congrArg (Value.int _) (by omega))), (by first | rfl | exact congrArg some (congrArg (Value.int _) (by omega))), (by first | rfl | exact congrArg some (congrArg (Value.int _) (by omega))), trivial⟩ (Le.refl _)
  · skip
    have hge : s = kept.length := by have := of_decide_eq_false h2; omega
    subst hge
    refine X.exit rfl ?_
    refine X.seq ?_
    refine X.region ?_
    refine XO.pu (Pu.move rfl) ?_
    refine XO.pu (Pu.assign rfl) ?_
    refine XO.nil ?_
    refine X.sub (p' := [(4, _)]) ⟨rfl, trivial⟩ ?_
    refine X.ret ⟨rfl, Lv.ret (q' := [lsM I 3 a c kept]) Try.func23 (res1 Try.results23 rfl) ⟨_, rfl, by rw [List.take_length], rfl⟩ (by repeat (first | exact Le.refl _ | refine Le.pick (by repeat first | exact Le.here _ _ | apply Le.there) ?_ | refine Le.lose ?_))⟩
theorem RCome_ok (ok : p.Ok) (hl : p.came = true → 0 ≤ p.last) (hg : 0 ≤ p.gone ∧ p.gone ≤ 2199023255552) (ht : -9223372036854775808 ≤ t ∧ t ≤ 9223372036854775807) : CallF Try.prog G 15 [refV p a c, .int .i64 t] [lsM I 3 a c p.kept]
    (Ret fun v q => ∃ a' c', v = .tuple [refV (p.come t).1 a' c', .bool (p.come t).2.1, .int .i64 (p.come t).2.2.1, .int .i64 (p.come t).2.2.2].toArray ∧ q = [lsM I 3 a' c' (p.come t).1.kept, lsM I 3 a c p.kept]) := by
  have oe1 := ok.e1; have oe2 := ok.e2; have om1 := ok.m1; have om2 := ok.m2; have ok1 := ok.k1; have ok2 := ok.k2
  refine CallF.of Try.func15 Try.ntmps15 rfl (fun F cs => ?_)
  refine X.sub (p' := [(0, _), (1, _)]) ⟨rfl, rfl, trivial⟩ ?_
  obtain ⟨every, most, kept, gone, last, came⟩ := p
  dsimp only at *
  refine X.know 0 (.agg [.int .i64 every, .int .i64 most, .slice a kept.length c, .int .i64 gone, .int .i64 (Pt.rl ⟨every, most, kept, gone, last, came⟩)].toArray) rfl (rfl) ?_
  refine X.seq ?_
  refine X.region ?_
  refine XO.ef (Ef.box rfl) ?_
  rintro _ _ ⟨n4, rfl, rfl⟩
  refine XO.ef (Ef.alloc Try.zeroValue27) ?_
  rintro _ _ ⟨n5, rfl, rfl⟩
  refine XO.pu (Pu.assign rfl) ?_
  refine XO.pu (Pu.assign rfl) ?_
  refine XO.pu (Pu.assign rfl) ?_
  refine XO.nil ?_
  refine X.sub (p' := [(7, _), (6, _), (5, _), (4, _), (2, _), (1, _)]) ⟨rfl, rfl, rfl, rfl, rfl, rfl, trivial⟩ ?_
  refine X.seq ?_
  refine X.seq ?_
  refine X.region ?_
  refine XO.pu (Pu.move rfl) ?_
  refine XO.pu (Pu.lss rfl rfl) ?_
  refine XO.pu (Pu.move rfl) ?_
  refine XO.part 15 rfl (fun h1 => ?_) (fun h1 => ?_)
  · skip
    have h1 := of_decide_eq_true h1
    refine XO.pass rfl ?_
    refine XO.pass rfl ?_
    refine XO.pu (Pu.pickT rfl rfl) ?_
    refine XO.pu (Pu.move rfl) ?_
    refine XO.pass rfl ?_
    refine XO.pass rfl ?_
    refine XO.pass rfl ?_
    refine XO.pass rfl ?_
    refine XO.pu (Pu.pickT rfl rfl) ?_
    refine XO.nil ?_
    refine X.sub (p' := [(24, _), (7, _), (6, _), (5, _), (4, _), (2, _), (1, _)]) ⟨rfl, rfl, rfl, rfl, rfl, rfl, rfl, trivial⟩ ?_
    refine X.condT rfl ?_
    refine X.seq ?_
    refine X.region ?_
    refine XO.rd (Rd.loadA rfl Try.isAgg27 Try.sizeOf27 (by repeat first | exact Has.pto _ _ _ | exact Has.im _ _ _ | refine Has.there ?_) (by rfl)) ?_
    refine XO.ef0 (Ef.storeA rfl rfl Try.sizeOf27 rfl rfl (by repeat first | exact Le.here _ _ | apply Le.there) rfl) ?_
    rintro _ _ ⟨rfl, rfl⟩
    refine XO.pu (Pu.assign rfl) ?_
    refine XO.pu (Pu.assign rfl) ?_
    refine XO.pu (Pu.assign rfl) ?_
    refine XO.nil ?_
    refine X.sub (p' := [(7, _), (6, _), (5, _), (4, _), (2, _), (1, _)]) ⟨rfl, rfl, rfl, rfl, rfl, rfl, trivial⟩ ?_
    refine X.ret ⟨rfl, Lv.ret (q' := [lsM I 3 a c (Pt.kept ⟨every, most, kept, gone, last, came⟩), lsM I 3 a c kept]) Try.func15 (resC Try.results15 (ResOk.cell rfl (LV.agg Try.isAgg27 Try.sizeOf27 (by repeat first | exact Has.pto _ _ _ | exact Has.im _ _ _ | refine Has.there ?_) rfl) (ResOk.tmp rfl (ResOk.tmp rfl (ResOk.tmp rfl ResOk.nil))))) ⟨_, rfl, a, c, by rw [come_1 (p := ⟨every, most, kept, gone, last, came⟩) (.inl h1)]; rfl, by rw [come_1 (p := ⟨every, most, kept, gone, last, came⟩) (.inl h1)]⟩ (Le.trans (by repeat (first | exact Le.refl _ | refine Le.pick (by repeat first | exact Le.here _ _ | apply Le.there) ?_ | refine Le.lose ?_)) (Le.dup (lasts_lsM _ _ _ _ _) _))⟩
  · skip
    have h1 := of_decide_eq_false h1
    refine XO.pu (Pu.move rfl) ?_
    refine XO.pu (Pu.gtr rfl rfl) ?_
    refine XO.pu (Pu.pickF rfl rfl) ?_
    refine XO.pu (Pu.move rfl) ?_
    refine XO.part 19 rfl (fun h2 => ?_) (fun h2 => ?_)
    · skip
      have h2 := of_decide_eq_true h2
      refine XO.pass rfl ?_
      refine XO.pass rfl ?_
      refine XO.pass rfl ?_
      refine XO.pass rfl ?_
      refine XO.pu (Pu.pickT rfl rfl) ?_
      refine XO.nil ?_
      refine X.sub (p' := [(24, _), (7, _), (6, _), (5, _), (4, _), (2, _), (1, _)]) ⟨rfl, rfl, rfl, rfl, rfl, rfl, rfl, trivial⟩ ?_
      refine X.condT rfl ?_
      refine X.seq ?_
      refine X.region ?_
      refine XO.rd (Rd.loadA rfl Try.isAgg27 Try.sizeOf27 (by repeat first | exact Has.pto _ _ _ | exact Has.im _ _ _ | refine Has.there ?_) (by rfl)) ?_
      refine XO.ef0 (Ef.storeA rfl rfl Try.sizeOf27 rfl rfl (by repeat first | exact Le.here _ _ | apply Le.there) rfl) ?_
      rintro _ _ ⟨rfl, rfl⟩
      refine XO.pu (Pu.assign rfl) ?_
      refine XO.pu (Pu.assign rfl) ?_
      refine XO.pu (Pu.assign rfl) ?_
      refine XO.nil ?_
      refine X.sub (p' := [(7, _), (6, _), (5, _), (4, _), (2, _), (1, _)]) ⟨rfl, rfl, rfl, rfl, rfl, rfl, trivial⟩ ?_
      refine X.ret ⟨rfl, Lv.ret (q' := [lsM I 3 a c (Pt.kept ⟨every, most, kept, gone, last, came⟩), lsM I 3 a c kept]) Try.func15 (resC Try.results15 (ResOk.cell rfl (LV.agg Try.isAgg27 Try.sizeOf27 (by repeat first | exact Has.pto _ _ _ | exact Has.im _ _ _ | refine Has.there ?_) rfl) (ResOk.tmp rfl (ResOk.tmp rfl (ResOk.tmp rfl ResOk.nil))))) ⟨_, rfl, a, c, by rw [come_1 (p := ⟨every, most, kept, gone, last, came⟩) (.inr (.inl h2))]; rfl, by rw [come_1 (p := ⟨every, most, kept, gone, last, came⟩) (.inr (.inl h2))]⟩ (Le.trans (by repeat (first | exact Le.refl _ | refine Le.pick (by repeat first | exact Le.here _ _ | apply Le.there) ?_ | refine Le.lose ?_)) (Le.dup (lasts_lsM _ _ _ _ _) _))⟩
    · skip
      have h2 := of_decide_eq_false h2
      refine XO.pu (Pu.move rfl) ?_
      refine XO.pu (Pu.fieldAddr 3 4 0 rfl Try.underlying27 rfl Try.sizeOf3) ?_
      refine XO.rd (Rd.load rfl Try.isAgg3 (Cl.of (by repeat first | exact Has.pto _ _ _ | exact Has.im _ _ _ | refine Has.there ?_) (by rfl))) ?_
      refine XO.pu (Pu.leq rfl rfl) ?_
      refine XO.pu (Pu.pickF rfl rfl) ?_
      refine XO.nil ?_
      refine X.sub (p' := [(24, _), (7, _), (6, _), (5, _), (4, _), (2, _), (1, _)]) ⟨rfl, rfl, rfl, rfl, rfl, rfl, rfl, trivial⟩ ?_
      refine X.cond rfl (fun h4 => ?_) (fun h4 => ?_)
      · skip
        have h4 := of_decide_eq_true h4
        have h5 : came = true ∧ t ≤ last := by cases came with
        | true => exact ⟨rfl, h4⟩
        | false => exact absurd h4 (by show ¬ t ≤ -1; omega)
        refine X.seq ?_
        refine X.region ?_
        refine XO.rd (Rd.loadA rfl Try.isAgg27 Try.sizeOf27 (by repeat first | exact Has.pto _ _ _ | exact Has.im _ _ _ | refine Has.there ?_) (by rfl)) ?_
        refine XO.ef0 (Ef.storeA rfl rfl Try.sizeOf27 rfl rfl (by repeat first | exact Le.here _ _ | apply Le.there) rfl) ?_
        rintro _ _ ⟨rfl, rfl⟩
        refine XO.pu (Pu.assign rfl) ?_
        refine XO.pu (Pu.assign rfl) ?_
        refine XO.pu (Pu.assign rfl) ?_
        refine XO.nil ?_
        refine X.sub (p' := [(7, _), (6, _), (5, _), (4, _), (2, _), (1, _)]) ⟨rfl, rfl, rfl, rfl, rfl, rfl, trivial⟩ ?_
        refine X.ret ⟨rfl, Lv.ret (q' := [lsM I 3 a c (Pt.kept ⟨every, most, kept, gone, last, came⟩), lsM I 3 a c kept]) Try.func15 (resC Try.results15 (ResOk.cell rfl (LV.agg Try.isAgg27 Try.sizeOf27 (by repeat first | exact Has.pto _ _ _ | exact Has.im _ _ _ | refine Has.there ?_) rfl) (ResOk.tmp rfl (ResOk.tmp rfl (ResOk.tmp rfl ResOk.nil))))) ⟨_, rfl, a, c, by rw [come_1 (p := ⟨every, most, kept, gone, last, came⟩) (.inr (.inr h5))]; rfl, by rw [come_1 (p := ⟨every, most, kept, gone, last, came⟩) (.inr (.inr h5))]⟩ (Le.trans (by repeat (first | exact Le.refl _ | refine Le.pick (by repeat first | exact Le.here _ _ | apply Le.there) ?_ | refine Le.lose ?_)) (Le.dup (lasts_lsM _ _ _ _ _) _))⟩
      · skip
        have h4 := of_decide_eq_false h4
        have hc : ¬ (t < 0 ∨ 1099511627776 < t ∨ (came = true ∧ t ≤ last)) := by intro x; rcases x with x | x | ⟨x, y⟩; exact h1 x; exact h2 x; subst x; exact h4 y
        refine X.skip ?_
        refine X.seq ?_
        refine X.region ?_
        refine XO.pu (Pu.move rfl) ?_
        refine XO.pu (Pu.fieldAddr 3 4 0 rfl Try.underlying27 rfl Try.sizeOf3) ?_
        refine XO.ef0 (Ef.store rfl rfl Try.sizeOf3 rfl rfl (by repeat first | exact Le.here _ _ | apply Le.there) rfl) ?_
        rintro _ _ ⟨rfl, rfl⟩
        refine XO.nil ?_
        refine X.sub (p' := [(7, _), (6, _), (5, _), (4, _), (2, _), (1, _)]) ⟨rfl, rfl, rfl, rfl, rfl, rfl, trivial⟩ ?_
        refine X.seq ?_
        refine X.seq ?_
        refine X.region ?_
        refine XO.pu (Pu.move rfl) ?_
        refine XO.pu (Pu.fieldAddr 3 0 0 rfl Try.underlying27 rfl Try.sizeOf3) ?_
        refine XO.rd (Rd.load rfl Try.isAgg3 (Cl.of (by repeat first | exact Has.pto _ _ _ | exact Has.im _ _ _ | refine Has.there ?_) (by rfl))) ?_
        refine XO.pu (Pu.rem rfl rfl (by omega)) ?_
        refine XO.pu (Pu.neq rfl rfl) ?_
        refine XO.nil ?_
        refine X.sub (p' := [(32, _), (7, _), (6, _), (5, _), (4, _), (2, _), (1, _)]) ⟨rfl, rfl, rfl, rfl, rfl, rfl, rfl, trivial⟩ ?_
        refine X.cond rfl (fun h5 => ?_) (fun h5 => ?_)
        · skip
          have h5 : t.tmod every ≠ 0 := by simpa using h5
          refine X.seq ?_
          refine X.region ?_
          refine XO.rd (Rd.loadA rfl Try.isAgg27 Try.sizeOf27 (by repeat first | exact Has.pto _ _ _ | exact Has.im _ _ _ | refine Has.there ?_) (by rfl)) ?_
          refine XO.ef0 (Ef.storeA rfl rfl Try.sizeOf27 rfl rfl (by repeat first | exact Le.here _ _ | apply Le.there) rfl) ?_
          rintro _ _ ⟨rfl, rfl⟩
          refine XO.pu (Pu.assign rfl) ?_
          refine XO.pu (Pu.assign rfl) ?_
          refine XO.pu (Pu.assign rfl) ?_
          refine XO.nil ?_
          refine X.sub (p' := [(7, _), (6, _), (5, _), (4, _), (2, _), (1, _)]) ⟨rfl, rfl, rfl, rfl, rfl, rfl, trivial⟩ ?_
          refine X.ret ⟨rfl, Lv.ret (q' := [lsM I 3 a c (Pt.kept ⟨every, most, kept, gone, t, true⟩), lsM I 3 a c kept]) Try.func15 (resC Try.results15 (ResOk.cell rfl (LV.agg Try.isAgg27 Try.sizeOf27 (by repeat first | exact Has.pto _ _ _ | exact Has.im _ _ _ | refine Has.there ?_) rfl) (ResOk.tmp rfl (ResOk.tmp rfl (ResOk.tmp rfl ResOk.nil))))) ⟨_, rfl, a, c, by rw [come_2 (p := ⟨every, most, kept, gone, last, came⟩) hc h5]; rfl, by rw [come_2 (p := ⟨every, most, kept, gone, last, came⟩) hc h5]⟩ (Le.trans (by repeat (first | exact Le.refl _ | refine Le.pick (by repeat first | exact Le.here _ _ | apply Le.there) ?_ | refine Le.lose ?_)) (Le.dup (lasts_lsM _ _ _ _ _) _))⟩
        · skip
          have h5 : ¬ t.tmod every ≠ 0 := by simpa using h5
          refine X.skip ?_
          refine X.seq ?_
          refine X.region ?_
          refine XO.ef (Ef.lit0 I Try.underlying22 Try.info3) ?_
          rintro _ _ ⟨g0, rfl, rfl⟩
          refine XO.pu (Pu.fieldAddr 22 2 0 rfl Try.underlying27 rfl Try.sizeOf22) ?_
          refine XO.rd (Rd.load rfl Try.isAgg22 (Cl.of (by repeat first | exact Has.pto _ _ _ | exact Has.im _ _ _ | refine Has.there ?_) (by rfl))) ?_
          refine XO.ef (Ef.appA (f := I) (l := []) (m := kept) Try.underlying22 Try.info3 rfl rfl rfl (by repeat first | exact Le.here _ _ | apply Le.there) (Sees.le (Sees.lsM _) (by repeat first | exact Le.here _ _ | apply Le.there)) (fun _ => rfl) (by simp; omega) (by simp; omega)) ?_
          rintro _ _ ⟨a1, c1, rfl, rfl⟩
          refine XO.pu (Pu.move rfl) ?_
          refine XO.ef (Ef.lit1 I Try.underlying22 Try.info3 rfl rfl) ?_
          rintro _ _ ⟨g, rfl, rfl⟩
          refine XO.ef (Ef.appA (f := I) (l := kept) (m := [t]) Try.underlying22 Try.info3 rfl rfl rfl (by repeat first | exact Le.here _ _ | apply Le.there) (Sees.lsH _) (fun _ => rfl) (by simp; omega) (by simp; omega)) ?_
          rintro _ _ ⟨a2, c2, rfl, rfl⟩
          have hkl : (kept ++ [t]).length = kept.length + 1 := by simp
          have hk2 : ∀ x ∈ kept ++ [t], 0 ≤ x ∧ x ≤ 1099511627776 := by intro x hx; rcases List.mem_append.1 hx with hx | hx; exact ok2 x hx; rw [List.mem_singleton.1 hx]; omega
          generalize ek : kept ++ [t] = k at hkl hk2 ⊢
          refine XO.lsFreeze ?_
          refine XO.pu (Pu.fieldAddr 22 2 0 rfl Try.underlying27 rfl Try.sizeOf22) ?_
          refine XO.ef0 (Ef.store rfl rfl Try.sizeOf22 rfl rfl (by repeat first | exact Le.here _ _ | apply Le.there) rfl) ?_
          rintro _ _ ⟨rfl, rfl⟩
          refine XO.nil ?_
          refine X.sub (p' := [(7, _), (6, _), (5, _), (4, _), (2, _)]) ⟨rfl, rfl, rfl, rfl, rfl, trivial⟩ ?_
          refine X.seq ?_
          refine X.seq ?_
          refine X.region ?_
          refine XO.pu (Pu.fieldAddr 22 2 0 rfl Try.underlying27 rfl Try.sizeOf22) ?_
          refine XO.rd (Rd.load rfl Try.isAgg22 (Cl.of (by repeat first | exact Has.pto _ _ _ | exact Has.im _ _ _ | refine Has.there ?_) (by rfl))) ?_
          refine XO.pu (Pu.len rfl Try.underlying22) ?_
          refine XO.pu (Pu.fieldAddr 3 1 0 rfl Try.underlying27 rfl Try.sizeOf3) ?_
          refine XO.rd (Rd.load rfl Try.isAgg3 (Cl.of (by repeat first | exact Has.pto _ _ _ | exact Has.im _ _ _ | refine Has.there ?_) (by rfl))) ?_
          refine XO.pu (Pu.leq rfl rfl) ?_
          refine XO.nil ?_
          refine X.sub (p' := [(47, _), (7, _), (6, _), (5, _), (4, _), (2, _)]) ⟨rfl, rfl, rfl, rfl, rfl, rfl, trivial⟩ ?_
          refine X.cond rfl (fun h6 => ?_) (fun h6 => ?_)
          · skip
            have h6 := of_decide_eq_true h6
            refine X.seq ?_
            refine X.region ?_
            refine XO.rd (Rd.loadA rfl Try.isAgg27 Try.sizeOf27 (by repeat first | exact Has.pto _ _ _ | exact Has.im _ _ _ | refine Has.there ?_) (by rfl)) ?_
            refine XO.ef0 (Ef.storeA rfl rfl Try.sizeOf27 rfl rfl (by repeat first | exact Le.here _ _ | apply Le.there) rfl) ?_
            rintro _ _ ⟨rfl, rfl⟩
            refine XO.pu (Pu.assign rfl) ?_
            refine XO.pu (Pu.assign rfl) ?_
            refine XO.pu (Pu.assign rfl) ?_
            refine XO.nil ?_
            refine X.sub (p' := [(7, _), (6, _), (5, _), (4, _), (2, _)]) ⟨rfl, rfl, rfl, rfl, rfl, trivial⟩ ?_
            refine X.ret ⟨rfl, Lv.ret (q' := [lsM I 3 a2 c2 k, lsM I 3 a c kept]) Try.func15 (resC Try.results15 (ResOk.cell rfl (LV.agg Try.isAgg27 Try.sizeOf27 (by repeat first | exact Has.pto _ _ _ | exact Has.im _ _ _ | refine Has.there ?_) rfl) (ResOk.tmp rfl (ResOk.tmp rfl (ResOk.tmp rfl ResOk.nil))))) ⟨_, rfl, a2, c2, by rw [come_3 (p := ⟨every, most, kept, gone, last, came⟩) hc h5 (by dsimp only; rw [ek]; omega)]; dsimp only; rw [ek]; rfl, by rw [come_3 (p := ⟨every, most, kept, gone, last, came⟩) hc h5 (by dsimp only; rw [ek]; omega)]; dsimp only; rw [ek]⟩ (by repeat (first | exact Le.refl _ | refine Le.pick (by repeat first | exact Le.here _ _ | apply Le.there) ?_ | refine Le.lose ?_))⟩
          · skip
            have h6 := of_decide_eq_false h6
            refine X.skip ?_
            refine X.seq ?_
            refine X.region ?_
            refine XO.pu (Pu.assign rfl) ?_
            refine XO.nil ?_
            refine X.sub (p' := [(8, _), (7, _), (6, _), (5, _), (4, _), (2, _)]) ⟨rfl, rfl, rfl, rfl, rfl, rfl, trivial⟩ ?_
            refine X.seq ?_
            refine X.seq ?_
            refine X.region ?_
            refine XO.pu (Pu.assign rfl) ?_
            refine XO.nil ?_
            refine X.sub (p' := [(9, _), (8, _), (7, _), (6, _), (5, _), (4, _), (2, _)]) ⟨rfl, rfl, rfl, rfl, rfl, rfl, rfl, trivial⟩ ?_
            refine X.block ?_
            have hs : Sees (pto n4 (refO every most (.slice a2 k.length c2) gone t) :: pto n5 (.cells [.int .i64 0, .int .i64 0, .slice none 0 0, .int .i64 0, .int .i64 0].toArray 27 (0, 0)) :: lsM I 3 a2 c2 k :: lsM I 3 a c kept :: F) a2 (k.map I) := (Sees.lsM _).there.there
            refine X.at (X.loop (fun (s : Nat) => 1 ≤ s ∧ s ≤ k.length - 1) (fun s => [(8, .int .i64 (argm k (s - 1) : Nat)), (9, .int .i64 (s : Int)), (2, .pointer (some ⟨n4, 0, none⟩)), (4, .pointer (some ⟨n5, 0, none⟩)), (5, .bool false), (6, .int .i64 0), (7, .int .i64 0)]) (fun s => pto n4 (refO every most (.slice a2 k.length c2) gone t) :: pto n5 (.cells [.int .i64 0, .int .i64 0, .slice none 0 0, .int .i64 0, .int .i64 0].toArray 27 (0, 0)) :: lsM I 3 a2 c2 k :: lsM I 3 a c kept :: F) (fun s => k.length - s) (fun s hi_ ih => ?_) 1 ⟨by omega, by omega⟩) ⟨(by first | rfl | exact congrArg some (congrArg (Value.int _) (by omega))), (by first | rfl | exact congrArg some (congrArg (Value.int _) (by omega))), (by first | rfl | exact congrArg some (congrArg (Value.int _) (by omega))), (by first | rfl | exact congrArg some (congrArg (Value.int _) (by omega))), (by first | rfl | exact congrArg some (congrArg (Value.int _) (by omega))), (by first | rfl | exact congrArg some (congrArg (Value.int _) (by omega))), (by first | rfl | exact congrArg some (congrArg (Value.int _) (by omega))), trivial⟩ (by repeat (first | exact Le.refl _ | refine Le.pick (by repeat first | exact Le.here _ _ | apply Le.there) ?_ | refine Le.lose ?_))
            try dsimp only at hi_ ih ⊢
            obtain ⟨hi1, hi2⟩ := hi_
            refine X.seq ?_
            refine X.seq ?_
            refine X.region ?_
            refine XO.pu (Pu.move rfl) ?_
            refine XO.pu (Pu.fieldAddr 22 2 0 rfl Try.underlying27 rfl Try.sizeOf22) ?_
            refine XO.rd (Rd.load rfl Try.isAgg22 (Cl.of (by repeat first | exact Has.pto _ _ _ | exact Has.im _ _ _ | refine Has.there ?_) (by rfl))) ?_
            refine XO.pu (Pu.len rfl Try.underlying22) ?_
            refine XO.pu (Pu.sub rfl rfl (by omega) (by omega)) ?_
            refine XO.pu (Pu.lss rfl rfl) ?_
            refine XO.nil ?_
            refine X.sub (p' := [(54, _), (8, _), (9, _), (2, _), (4, _), (5, _), (6, _), (7, _)]) ⟨rfl, rfl, rfl, rfl, rfl, rfl, rfl, rfl, trivial⟩ ?_
            refine X.cond rfl (fun h7 => ?_) (fun h7 => ?_)
            · skip
              have h7 := of_decide_eq_true h7
              have hm := argm_le k (s - 1)
              have g1 := hk2 _ (List.getElem_mem (l := k) (n := s + 1) (by omega))
              have g2 := hk2 _ (List.getElem_mem (l := k) (n := s - 1) (by omega))
              have g3 := hk2 _ (List.getElem_mem (l := k) (n := argm k (s - 1) + 1) (by omega))
              have g4 := hk2 _ (List.getElem_mem (l := k) (n := argm k (s - 1) - 1) (by omega))
              refine X.addr hs (by simp; omega) (fun ba oa ea => ?_); subst ea
              refine X.skip ?_
              refine X.seq ?_
              refine X.block ?_
              refine X.seq ?_
              refine X.draw [] Try.mixed (by kernel_rfl) (by kernel_rfl) rfl ?_
              refine XD.pu 0 rfl (Pu.fieldAddr 22 2 0 rfl Try.underlying27 rfl Try.sizeOf22) ?_
              refine XD.load 1 rfl rfl Try.isAgg22 (by first | exact Cl.of (by repeat first | exact Has.pto _ _ _ | exact Has.im _ _ _ | refine Has.there ?_) (by rfl) | exact hs.at (n := s + 1) (by omega) (by omega) | exact hs.at (n := s - 1) (by omega) (by omega) | exact hs.at (n := argm k (s - 1) + 1) (by omega) (by omega) | exact hs.at (n := argm k (s - 1) - 1) (by omega) (by omega)) ?_
              refine XD.pu 2 rfl (Pu.move rfl) ?_
              refine XD.pu 3 rfl (Pu.add rfl rfl (by omega) (by omega)) ?_
              refine XD.pu 4 rfl (Pu.indexAddr rfl rfl Try.underlying22 Try.sizeOf3 (by omega) (by omega)) ?_
              refine XD.load 5 rfl rfl Try.isAgg3 (by first | exact Cl.of (by repeat first | exact Has.pto _ _ _ | exact Has.im _ _ _ | refine Has.there ?_) (by rfl) | exact hs.at (n := s + 1) (by omega) (by omega) | exact hs.at (n := s - 1) (by omega) (by omega) | exact hs.at (n := argm k (s - 1) + 1) (by omega) (by omega) | exact hs.at (n := argm k (s - 1) - 1) (by omega) (by omega)) ?_
              refine XD.pu 6 rfl (Pu.fieldAddr 22 2 0 rfl Try.underlying27 rfl Try.sizeOf22) ?_
              refine XD.load 7 rfl rfl Try.isAgg22 (by first | exact Cl.of (by repeat first | exact Has.pto _ _ _ | exact Has.im _ _ _ | refine Has.there ?_) (by rfl) | exact hs.at (n := s + 1) (by omega) (by omega) | exact hs.at (n := s - 1) (by omega) (by omega) | exact hs.at (n := argm k (s - 1) + 1) (by omega) (by omega) | exact hs.at (n := argm k (s - 1) - 1) (by omega) (by omega)) ?_
              refine XD.pu 8 rfl (Pu.move rfl) ?_
              refine XD.pu 9 rfl (Pu.sub rfl rfl (by omega) (by omega)) ?_
              refine XD.pu 10 rfl (Pu.indexAddr rfl rfl Try.underlying22 Try.sizeOf3 (by omega) (by omega)) ?_
              refine XD.load 11 rfl rfl Try.isAgg3 (by first | exact Cl.of (by repeat first | exact Has.pto _ _ _ | exact Has.im _ _ _ | refine Has.there ?_) (by rfl) | exact hs.at (n := s + 1) (by omega) (by omega) | exact hs.at (n := s - 1) (by omega) (by omega) | exact hs.at (n := argm k (s - 1) + 1) (by omega) (by omega) | exact hs.at (n := argm k (s - 1) - 1) (by omega) (by omega)) ?_
              refine XD.pu 12 rfl (Pu.sub rfl rfl (by omega) (by omega)) ?_
              refine XD.pu 13 rfl (Pu.fieldAddr 22 2 0 rfl Try.underlying27 rfl Try.sizeOf22) ?_
              refine XD.load 14 rfl rfl Try.isAgg22 (by first | exact Cl.of (by repeat first | exact Has.pto _ _ _ | exact Has.im _ _ _ | refine Has.there ?_) (by rfl) | exact hs.at (n := s + 1) (by omega) (by omega) | exact hs.at (n := s - 1) (by omega) (by omega) | exact hs.at (n := argm k (s - 1) + 1) (by omega) (by omega) | exact hs.at (n := argm k (s - 1) - 1) (by omega) (by omega)) ?_
              refine XD.pu 15 rfl (Pu.move rfl) ?_
              refine XD.pu 16 rfl (Pu.add rfl rfl (by omega) (by omega)) ?_
              refine XD.pu 17 rfl (Pu.indexAddr rfl rfl Try.underlying22 Try.sizeOf3 (by omega) (by omega)) ?_
              refine XD.load 18 rfl rfl Try.isAgg3 (by first | exact Cl.of (by repeat first | exact Has.pto _ _ _ | exact Has.im _ _ _ | refine Has.there ?_) (by rfl) | exact hs.at (n := s + 1) (by omega) (by omega) | exact hs.at (n := s - 1) (by omega) (by omega) | exact hs.at (n := argm k (s - 1) + 1) (by omega) (by omega) | exact hs.at (n := argm k (s - 1) - 1) (by omega) (by omega)) ?_
              refine XD.pu 19 rfl (Pu.fieldAddr 22 2 0 rfl Try.underlying27 rfl Try.sizeOf22) ?_
              refine XD.load 20 rfl rfl Try.isAgg22 (by first | exact Cl.of (by repeat first | exact Has.pto _ _ _ | exact Has.im _ _ _ | refine Has.there ?_) (by rfl) | exact hs.at (n := s + 1) (by omega) (by omega) | exact hs.at (n := s - 1) (by omega) (by omega) | exact hs.at (n := argm k (s - 1) + 1) (by omega) (by omega) | exact hs.at (n := argm k (s - 1) - 1) (by omega) (by omega)) ?_
              refine XD.pu 21 rfl (Pu.move rfl) ?_
              refine XD.pu 22 rfl (Pu.sub rfl rfl (by omega) (by omega)) ?_
              refine XD.pu 23 rfl (Pu.indexAddr rfl rfl Try.underlying22 Try.sizeOf3 (by omega) (by omega)) ?_
              refine XD.load 24 rfl rfl Try.isAgg3 (by first | exact Cl.of (by repeat first | exact Has.pto _ _ _ | exact Has.im _ _ _ | refine Has.there ?_) (by rfl) | exact hs.at (n := s + 1) (by omega) (by omega) | exact hs.at (n := s - 1) (by omega) (by omega) | exact hs.at (n := argm k (s - 1) + 1) (by omega) (by omega) | exact hs.at (n := argm k (s - 1) - 1) (by omega) (by omega)) ?_
              refine XD.pu 25 rfl (Pu.sub rfl rfl (by omega) (by omega)) ?_
              refine XD.pu 26 rfl (Pu.lss rfl rfl) ?_
              refine XD.nil ?_
              refine X.sub (p' := [(83, _), (8, _), (9, _), (2, _), (4, _), (5, _), (6, _), (7, _)]) ⟨rfl, rfl, rfl, rfl, rfl, rfl, rfl, rfl, trivial⟩ ?_
              rw [getD_at (k := k) (i := s + 1) (by omega), getD_at (k := k) (i := s - 1) (by omega), getD_at (k := k) (i := argm k (s - 1) + 1) (by omega), getD_at (k := k) (i := argm k (s - 1) - 1) (by omega)]
              have hnx : argm k s = if gap k s < gap k (argm k (s - 1)) then s else argm k (s - 1) := by
                obtain ⟨m, rfl⟩ : ∃ m, s = m + 1 := ⟨s - 1, by omega⟩
                rfl
              refine X.cond rfl (fun h8 => ?_) (fun h8 => ?_)
              · skip
                have h8 : gap k s < gap k (argm k (s - 1)) := of_decide_eq_true h8
                rw [if_pos h8] at hnx
                refine X.region ?_
                refine XO.pu (Pu.move rfl) ?_
                refine XO.pu (Pu.assign rfl) ?_
                refine XO.nil ?_
                refine X.sub (p' := [(8, _), (9, _), (2, _), (4, _), (5, _), (6, _), (7, _)]) ⟨rfl, rfl, rfl, rfl, rfl, rfl, rfl, trivial⟩ ?_
                refine X.inBlock ?_
                refine X.region ?_
                refine XO.pu (Pu.move rfl) ?_
                refine XO.pu (Pu.add rfl rfl (by omega) (by omega)) ?_
                refine XO.pu (Pu.assign rfl) ?_
                refine XO.nil ?_
                refine X.sub (p' := [(9, _), (8, _), (2, _), (4, _), (5, _), (6, _), (7, _)]) ⟨rfl, rfl, rfl, rfl, rfl, rfl, rfl, trivial⟩ ?_
                refine X.know 8 (.int .i64 (argm k (s + 1 - 1) : Nat)) rfl (by rw [Nat.add_sub_cancel, hnx]) ?_
                refine X.at (ih (s + 1) ⟨by omega, by omega⟩ (by omega)) ⟨(by first | rfl | exact congrArg some (congrArg (Value.int _) (by omega))), (by first | rfl | exact congrArg some (congrArg (Value.int _) (by omega))), (by first | rfl | exact congrArg some (congrArg (Value.int _) (by omega))), (by first | rfl | exact congrArg some (congrArg (Value.int _) (by omega))), (by first | rfl | exact congrArg some (congrArg (Value.int _) (by omega))), (by first | rfl | exact congrArg some (congrArg (Value.int _) (by omega))), (by first | rfl | exact congrArg some (congrArg (Value.int _) (by omega))), trivial⟩ (by repeat (first | exact Le.refl _ | refine Le.pick (by repeat first | exact Le.here _ _ | apply Le.there) ?_ | refine Le.lose ?_))
              · skip
                have h8 : ¬ gap k s < gap k (argm k (s - 1)) := of_decide_eq_false h8
                rw [if_neg h8] at hnx
                refine X.skip ?_
                refine X.inBlock ?_
                refine X.region ?_
                refine XO.pu (Pu.move rfl) ?_
                refine XO.pu (Pu.add rfl rfl (by omega) (by omega)) ?_
                refine XO.pu (Pu.assign rfl) ?_
                refine XO.nil ?_
                refine X.sub (p' := [(9, _), (8, _), (2, _), (4, _), (5, _), (6, _), (7, _)]) ⟨rfl, rfl, rfl, rfl, rfl, rfl, rfl, trivial⟩ ?_
                refine X.know 8 (.int .i64 (argm k (s + 1 - 1) : Nat)) rfl (by rw [Nat.add_sub_cancel, hnx]) ?_
                refine X.at (ih (s + 1) ⟨by omega, by omega⟩ (by omega)) ⟨(by first | rfl | exact congrArg some (congrArg (Value.int _) (by omega))), (by first | rfl | exact congrArg some (congrArg (Value.int _) (by omega))), (by first | rfl | exact congrArg some (congrArg (Value.int _) (by omega))), (by first | rfl | exact congrArg some (congrArg (Value.int _) (by omega))), (by first | rfl | exact congrArg some (congrArg (Value.int _) (by omega))), (by first | rfl | exact congrArg some (congrArg (Value.int _) (by omega))), (by first | rfl | exact congrArg some (congrArg (Value.int _) (by omega))), trivial⟩ (by repeat (first | exact Le.refl _ | refine Le.pick (by repeat first | exact Le.here _ _ | apply Le.there) ?_ | refine Le.lose ?_))
            · skip
              have h7 := of_decide_eq_false h7
              have hse : s = k.length - 1 := by omega
              subst hse
              rw [show k.length - 1 - 1 = k.length - 2 from by omega]
              have hm := argm_le k (k.length - 2)
              have hml : argm k (k.length - 2) < k.length := by omega
              generalize ei : argm k (k.length - 2) = i at hm hml ⊢
              have hil : i + 1 ≤ k.length := hml
              refine X.addr hs (by simp; omega) (fun ba oa ea => ?_); subst ea
              refine X.exit rfl ?_
              refine X.seq ?_
              refine X.region ?_
              refine XO.pu (Pu.fieldAddr 22 2 0 rfl Try.underlying27 rfl Try.sizeOf22) ?_
              refine XO.rd (Rd.load rfl Try.isAgg22 (by first | exact Cl.of (by repeat first | exact Has.pto _ _ _ | exact Has.im _ _ _ | refine Has.there ?_) (by rfl) | exact hs.at (n := i) (by omega) hml)) ?_
              refine XO.pu (Pu.move rfl) ?_
              refine XO.pu (Pu.indexAddr rfl rfl Try.underlying22 Try.sizeOf3 (by omega) (by omega)) ?_
              refine XO.rd (Rd.load rfl Try.isAgg3 (by first | exact Cl.of (by repeat first | exact Has.pto _ _ _ | exact Has.im _ _ _ | refine Has.there ?_) (by rfl) | exact hs.at (n := i) (by omega) hml)) ?_
              refine XO.pu (Pu.assign rfl) ?_
              refine XO.nil ?_
              refine X.sub (p' := [(10, _), (8, _), (2, _), (4, _), (5, _), (6, _), (7, _)]) ⟨rfl, rfl, rfl, rfl, rfl, rfl, rfl, trivial⟩ ?_
              refine X.seq ?_
              refine X.region ?_
              refine XO.pu (Pu.assign rfl) ?_
              refine XO.nil ?_
              refine X.sub (p' := [(11, _), (10, _), (8, _), (2, _), (4, _), (5, _), (6, _), (7, _)]) ⟨rfl, rfl, rfl, rfl, rfl, rfl, rfl, rfl, trivial⟩ ?_
              refine X.seq ?_
              refine X.seq ?_
              refine X.region ?_
              refine XO.pu (Pu.assign rfl) ?_
              refine XO.nil ?_
              refine X.sub (p' := [(12, _), (11, _), (10, _), (8, _), (2, _), (4, _), (5, _), (6, _), (7, _)]) ⟨rfl, rfl, rfl, rfl, rfl, rfl, rfl, rfl, rfl, trivial⟩ ?_
              refine X.block ?_
              rw [getD_at (k := k) hml]
              -- the second loop: its slice is where it is
              refine X.at (X.loop (fun (s : Nat × Option Addr × Nat) => s.1 ≤ k.length) (fun s => [(12, .int .i64 (s.1 : Int)), (2, .pointer (some ⟨n4, 0, none⟩)), (4, .pointer (some ⟨n5, 0, none⟩)), (10, .int .i64 (k.getD i 0)), (8, .int .i64 (i : Int)), (11, .slice s.2.1 ((k.take s.1).eraseIdx i).length s.2.2)]) (fun s => lsH I 3 s.2.1 s.2.2 ((k.take s.1).eraseIdx i) :: pto n4 (refO every most (.slice (some ⟨ba, oa, none⟩) k.length c2) gone t) :: pto n5 (.cells [.int .i64 0, .int .i64 0, .slice none 0 0, .int .i64 0, .int .i64 0].toArray 27 (0, 0)) :: lsM I 3 (some ⟨ba, oa, none⟩) c2 k :: lsM I 3 a c kept :: F) (fun s => k.length - s.1) (fun s hi_ ih => ?_) (0, none, 0) (by simp)) ⟨(by first | rfl | exact congrArg some (congrArg (Value.int _) (by omega))), (by first | rfl | exact congrArg some (congrArg (Value.int _) (by omega))), (by first | rfl | exact congrArg some (congrArg (Value.int _) (by omega))), (by first | rfl | exact congrArg some (congrArg (Value.int _) (by omega))), (by first | rfl | exact congrArg some (congrArg (Value.int _) (by omega))), (by first | rfl | exact congrArg some (congrArg (Value.int _) (by omega))), trivial⟩ (Le.trans (by repeat (first | exact Le.refl _ | refine Le.pick (by repeat first | exact Le.here _ _ | apply Le.there) ?_ | refine Le.lose ?_)) (Le.lsH_nil I 3 _))
              try dsimp only at hi_ ih ⊢
              obtain hi := hi_
              obtain ⟨s, a3, c3⟩ := s
              dsimp only at *
              refine X.seq ?_
              refine X.seq ?_
              refine X.region ?_
              refine XO.pu (Pu.move rfl) ?_
              refine XO.pu (Pu.fieldAddr 22 2 0 rfl Try.underlying27 rfl Try.sizeOf22) ?_
              refine XO.rd (Rd.load rfl Try.isAgg22 (Cl.of (by repeat first | exact Has.pto _ _ _ | exact Has.im _ _ _ | refine Has.there ?_) (by rfl))) ?_
              refine XO.pu (Pu.len rfl Try.underlying22) ?_
              refine XO.pu (Pu.lss rfl rfl) ?_
              refine XO.nil ?_
              refine X.sub (p' := [(94, _), (12, _), (2, _), (4, _), (10, _), (8, _), (11, _)]) ⟨rfl, rfl, rfl, rfl, rfl, rfl, rfl, trivial⟩ ?_
              refine X.cond rfl (fun h9 => ?_) (fun h9 => ?_)
              · skip
                have h9 : s < k.length := by have := of_decide_eq_true h9; omega
                refine X.skip ?_
                refine X.seq ?_
                refine X.block ?_
                refine X.seq ?_
                refine X.region ?_
                refine XO.pu (Pu.move rfl) ?_
                refine XO.pu (Pu.move rfl) ?_
                refine XO.pu (Pu.neq rfl rfl) ?_
                refine XO.nil ?_
                refine X.sub (p' := [(99, _), (12, _), (2, _), (4, _), (10, _), (8, _), (11, _)]) ⟨rfl, rfl, rfl, rfl, rfl, rfl, rfl, trivial⟩ ?_
                refine X.cond rfl (fun h10 => ?_) (fun h10 => ?_)
                · skip
                  have h10 : s ≠ i := by intro e; subst e; simp at h10
                  have hnx : (k.take (s + 1)).eraseIdx i = (k.take s).eraseIdx i ++ [k[s]] := by
                    rw [List.take_succ_eq_append_getElem h9]
                    by_cases e : i < s
                    · rw [List.eraseIdx_append_of_lt_length (by simp; omega)]
                    · rw [List.eraseIdx_of_length_le (by simp; omega), List.eraseIdx_of_length_le (by simp; omega)]
                  have hel : ((k.take s).eraseIdx i).length ≤ 5000 := by have := List.length_eraseIdx_le (k.take s) i; simp at this; omega
                  have hs3 : Sees (lsH I 3 a3 c3 ((k.take s).eraseIdx i) :: pto n4 (refO every most (.slice (some ⟨ba, oa, none⟩) k.length c2) gone t) :: pto n5 (.cells [.int .i64 0, .int .i64 0, .slice none 0 0, .int .i64 0, .int .i64 0].toArray 27 (0, 0)) :: lsM I 3 (some ⟨ba, oa, none⟩) c2 k :: lsM I 3 a c kept :: F) (some ⟨ba, oa, none⟩) (k.map I) := hs.there
                  refine X.region ?_
                  refine XO.pu (Pu.move rfl) ?_
                  refine XO.pu (Pu.fieldAddr 22 2 0 rfl Try.underlying27 rfl Try.sizeOf22) ?_
                  refine XO.rd (Rd.load rfl Try.isAgg22 (by first | exact Cl.of (by repeat first | exact Has.pto _ _ _ | exact Has.im _ _ _ | refine Has.there ?_) (by rfl) | exact hs3.at (n := s) (by omega) h9)) ?_
                  refine XO.pu (Pu.move rfl) ?_
                  refine XO.pu (Pu.indexAddr rfl rfl Try.underlying22 Try.sizeOf3 (by omega) (by omega)) ?_
                  refine XO.rd (Rd.load rfl Try.isAgg3 (by first | exact Cl.of (by repeat first | exact Has.pto _ _ _ | exact Has.im _ _ _ | refine Has.there ?_) (by rfl) | exact hs3.at (n := s) (by omega) h9)) ?_
                  refine XO.ef (Ef.lit1 I Try.underlying22 Try.info3 rfl rfl) ?_
                  rintro _ _ ⟨g9, rfl, rfl⟩
                  refine XO.ef (Ef.appA (f := I) (l := (k.take s).eraseIdx i) (m := [k[s]]) Try.underlying22 Try.info3 rfl rfl rfl (by repeat first | exact Le.here _ _ | apply Le.there) (Sees.lsH _) (fun _ => rfl) (by simp; omega) (by simp; omega)) ?_
                  rintro _ _ ⟨a4, c4, rfl, rfl⟩
                  rw [← hnx]
                  refine XO.pu (Pu.assign rfl) ?_
                  refine XO.nil ?_
                  refine X.sub (p' := [(11, _), (12, _), (2, _), (4, _), (10, _), (8, _)]) ⟨rfl, rfl, rfl, rfl, rfl, rfl, trivial⟩ ?_
                  refine X.inBlock ?_
                  refine X.region ?_
                  refine XO.pu (Pu.move rfl) ?_
                  refine XO.pu (Pu.add rfl rfl (by omega) (by omega)) ?_
                  refine XO.pu (Pu.assign rfl) ?_
                  refine XO.nil ?_
                  refine X.sub (p' := [(12, _), (11, _), (2, _), (4, _), (10, _), (8, _)]) ⟨rfl, rfl, rfl, rfl, rfl, rfl, trivial⟩ ?_
                  refine X.at (ih (s + 1, a4, c4) (by dsimp only; omega) (by dsimp only; omega)) ⟨(by first | rfl | exact congrArg some (congrArg (Value.int _) (by omega))), (by first | rfl | exact congrArg some (congrArg (Value.int _) (by omega))), (by first | rfl | exact congrArg some (congrArg (Value.int _) (by omega))), (by first | rfl | exact congrArg some (congrArg (Value.int _) (by omega))), (by first | rfl | exact congrArg some (congrArg (Value.int _) (by omega))), (by first | rfl | exact congrArg some (congrArg (Value.int _) (by omega))), trivial⟩ (by repeat (first | exact Le.refl _ | refine Le.pick (by repeat first | exact Le.here _ _ | apply Le.there) ?_ | refine Le.lose ?_))
                · skip
                  have h10 : s = i := by have : ((s : Int) != (i : Int)) = false := h10; simp at this; omega
                  subst h10
                  have hnx := erase_at h9
                  refine X.skip ?_
                  refine X.inBlock ?_
                  refine X.region ?_
                  refine XO.pu (Pu.move rfl) ?_
                  refine XO.pu (Pu.add rfl rfl (by omega) (by omega)) ?_
                  refine XO.pu (Pu.assign rfl) ?_
                  refine XO.nil ?_
                  refine X.sub (p' := [(12, _), (2, _), (4, _), (10, _), (8, _), (11, _)]) ⟨rfl, rfl, rfl, rfl, rfl, rfl, trivial⟩ ?_
                  rw [← hnx]
                  refine X.at (ih (s + 1, a3, c3) (by dsimp only; omega) (by dsimp only; omega)) ⟨(by first | rfl | exact congrArg some (congrArg (Value.int _) (by omega))), (by first | rfl | exact congrArg some (congrArg (Value.int _) (by omega))), (by first | rfl | exact congrArg some (congrArg (Value.int _) (by omega))), (by first | rfl | exact congrArg some (congrArg (Value.int _) (by omega))), (by first | rfl | exact congrArg some (congrArg (Value.int _) (by omega))), (by first | rfl | exact congrArg some (congrArg (Value.int _) (by omega))), trivial⟩ (by repeat (first | exact Le.refl _ | refine Le.pick (by repeat first | exact Le.here _ _ | apply Le.there) ?_ | refine Le.lose ?_))
              · skip
                have h9 : s = k.length := by have := of_decide_eq_false h9; omega
                subst h9
                rw [List.take_length]
                refine X.lsFreeze ?_
                refine X.exit rfl ?_
                refine X.seq ?_
                refine X.region ?_
                refine XO.pu (Pu.move rfl) ?_
                refine XO.pu (Pu.fieldAddr 3 3 0 rfl Try.underlying27 rfl Try.sizeOf3) ?_
                refine XO.rd (Rd.load rfl Try.isAgg3 (Cl.of (by repeat first | exact Has.pto _ _ _ | exact Has.im _ _ _ | refine Has.there ?_) (by rfl))) ?_
                refine XO.pu (Pu.add rfl rfl (by omega) (by omega)) ?_
                refine XO.pu (Pu.fieldAddr 22 2 0 rfl Try.underlying27 rfl Try.sizeOf22) ?_
                refine XO.ef0 (Ef.store rfl rfl Try.sizeOf22 rfl rfl (by repeat first | exact Le.here _ _ | apply Le.there) rfl) ?_
                rintro _ _ ⟨rfl, rfl⟩
                refine XO.pu (Pu.fieldAddr 3 3 0 rfl Try.underlying27 rfl Try.sizeOf3) ?_
                refine XO.ef0 (Ef.store rfl rfl Try.sizeOf3 rfl rfl (by repeat first | exact Le.here _ _ | apply Le.there) rfl) ?_
                rintro _ _ ⟨rfl, rfl⟩
                refine XO.nil ?_
                refine X.sub (p' := [(2, _), (4, _), (10, _)]) ⟨rfl, rfl, rfl, trivial⟩ ?_
                refine X.seq ?_
                refine X.region ?_
                refine XO.rd (Rd.loadA rfl Try.isAgg27 Try.sizeOf27 (by repeat first | exact Has.pto _ _ _ | exact Has.im _ _ _ | refine Has.there ?_) (by rfl)) ?_
                refine XO.pu (Pu.move rfl) ?_
                refine XO.ef0 (Ef.storeA rfl rfl Try.sizeOf27 rfl rfl (by repeat first | exact Le.here _ _ | apply Le.there) rfl) ?_
                rintro _ _ ⟨rfl, rfl⟩
                refine XO.pu (Pu.assign rfl) ?_
                refine XO.pu (Pu.assign rfl) ?_
                refine XO.pu (Pu.assign rfl) ?_
                refine XO.nil ?_
                refine X.sub (p' := [(7, _), (6, _), (5, _), (4, _)]) ⟨rfl, rfl, rfl, rfl, trivial⟩ ?_
                refine X.ret ⟨rfl, Lv.ret (q' := [lsM I 3 a3 c3 (k.eraseIdx i), lsM I 3 a c kept]) Try.func15 (resC Try.results15 (ResOk.cell rfl (LV.agg Try.isAgg27 Try.sizeOf27 (by repeat first | exact Has.pto _ _ _ | exact Has.im _ _ _ | refine Has.there ?_) rfl) (ResOk.tmp rfl (ResOk.tmp rfl (ResOk.tmp rfl ResOk.nil))))) ⟨_, rfl, a3, c3, by rw [come_4 (p := ⟨every, most, kept, gone, last, came⟩) ek hc h5 (by dsimp only; omega)]; dsimp only; rw [ei, ← List.eraseIdx_eq_take_drop_succ]; rfl, by rw [come_4 (p := ⟨every, most, kept, gone, last, came⟩) ek hc h5 (by dsimp only; omega)]; dsimp only; rw [ei, ← List.eraseIdx_eq_take_drop_succ]⟩ (by repeat (first | exact Le.refl _ | refine Le.pick (by repeat first | exact Le.here _ _ | apply Le.there) ?_ | refine Le.lose ?_))⟩
end
end Go.Proofs.Ytjfkkdohpfbilaa

