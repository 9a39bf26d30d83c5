/- Contracts of functions, proved by walking their code, and the logic that they need: what the last text reaches. -/
import Derived.Test.YtbeeplmgcdnadaaGreatDoorPi
import Derived.KernelRfl
set_option maxRecDepth 100000
set_option linter.unusedVariables false
set_option linter.unusedSimpArgs false
namespace Go.Proofs.YtbeeplmgcdnadaaGreatDoor
open Go Go.RowKit Wx
attribute [local irreducible] Wx.lsH Wx.rsH Wx.stars
theorem lettI (c : UInt8) : (decide (97 ≤ (c.toNat : Int)) && decide ((c.toNat : Int) ≤ 122)) = letS c := by rw [Bool.eq_iff_iff]; simp [letS]; omega
theorem digI (c : UInt8) : (decide (48 ≤ (c.toNat : Int)) && decide ((c.toNat : Int) ≤ 57)) = digS c := by rw [Bool.eq_iff_iff]; simp [digS]; omega
theorem runS_at {l : Bs} {n : Nat} (h : n < l.length) : runS (l.drop n) = if alnS (l.getD n 0) = true then runS (l.drop (n + 1)) + 1 else 0 := by
 rw [List.drop_eq_getElem_cons h, gD h]; unfold runS
 rw [List.takeWhile_cons]; split <;> simp
theorem runS_end {l : Bs} {n : Nat} (h : l.length ≤ n) : runS (l.drop n) = 0 := by rw [List.drop_eq_nil_of_le h]; rfl
theorem runS_le (l : Bs) : runS l ≤ l.length := by unfold runS; exact (List.takeWhile_sublist _).length_le
section
variable {G : World} {q : List HP} {s : ByteArray} {c : UInt8} {n : Nat}
theorem letter_ok  : CallF Tryz.prog G 185 [.int .u8 (c.toNat : Int)] (q) (Ret fun v q' => v = .bool (letS c) ∧ q' = q) := by
 refine CallF.of Tryz.func185 Tryz.ntmps185 rfl (fun F cs => ?_)
 refine xo 9 ?_; refine XO.sb [5, 2, 0] ?_
 apply XO.cutAnd 3 8 5 rfl
 · intro g1 M1; have h1 := sp g1
   refine oo 3 ?_; exact XO.fin M1 ⟨andT g1, subB⟩
 · intro g1 M1; have h1 := sp g1
   refine oo 3 ?_; exact XO.fin M1 ⟨andF g1, subB⟩
 refine ox 2 ?_; refine X.retL (q) Tryz.func185 (res1 Tryz.results185 rfl) ⟨_, rfl, congrArg Value.bool (lettI c), rfl⟩
theorem digit_ok  : CallF Tryz.prog G 180 [.int .u8 (c.toNat : Int)] (q) (Ret fun v q' => v = .bool (digS c) ∧ q' = q) := by
 refine CallF.of Tryz.func180 Tryz.ntmps180 rfl (fun F cs => ?_)
 refine xo 9 ?_; refine XO.sb [5, 2, 0] ?_
 apply XO.cutAnd 3 8 5 rfl
 · intro g1 M1; have h1 := sp g1
   refine oo 3 ?_; exact XO.fin M1 ⟨andT g1, subB⟩
 · intro g1 M1; have h1 := sp g1
   refine oo 3 ?_; exact XO.fin M1 ⟨andF g1, subB⟩
 refine ox 2 ?_; refine X.retL (q) Tryz.func180 (res1 Tryz.results180 rfl) ⟨_, rfl, congrArg Value.bool (digI c), rfl⟩
theorem run_ok (hn : n ≤ s.size) (h63 : s.size ≤ 65536) : CallF Tryz.prog G 179 [.string s, .int .i64 (n : Int)] (q) (Ret fun v q' => v = .int .i64 (runS ((bs s).drop n) : Nat) ∧ q' = q) := by
 refine CallF.of Tryz.func179 Tryz.ntmps179 rfl (fun F cs => ?_)
 refine xx 10 ?_; refine X.at (X.loop (fun (k : Nat) => n + k ≤ s.size ∧ runS ((bs s).drop n) = k + runS ((bs s).drop (n + k))) (fun k => [(5, .int .i64 (k : Int)), (0, .string s), (1, .int .i64 (n : Int)), (4, .int .i64 0)]) (fun k => (q ++ F)) (fun k => s.size - k) (fun k hi_ ih => ?_) 0 ⟨hn, by rw [Nat.zero_add]; rfl⟩) subA leA
 try dsimp only at hi_ ih ⊢
 obtain ⟨hk1, hk2⟩ := hi_
 have hbl := bs_size s
 refine xo 10 ?_; refine XO.sb [12, 5, 0, 1, 4] ?_
 apply XO.cutAnd 15 27 12 rfl
 · intro g1 M1; have h1 := sp g1
   refine oo 4 ?_; refine XO.pu (Pu.indexS rfl rfl Tryz.underlying9 (by omega) (by omega)) ?_
   refine XO.know 17 (.int .u8 (((bs s).getD (n + k) 0).toNat : Int)) rfl (rfl) ?_; refine XO.cR Tryz.call185 (letter_ok (c := (bs s).getD (n + k) 0)) ?_
   refine oo 1 ?_; refine XO.sb [19, 12, 5, 0, 1, 4] ?_
   apply XO.cutOr 7 26 19 rfl
   · intro g2 M2; have h2 := sp g2
     refine oo 4 ?_; refine XO.pu (Pu.indexS rfl rfl Tryz.underlying9 (by omega) (by omega)) ?_
     refine XO.know 24 (.int .u8 (((bs s).getD (n + k) 0).toNat : Int)) rfl (rfl) ?_; refine XO.cR Tryz.call180 (digit_ok (c := (bs s).getD (n + k) 0)) ?_
     refine oo 1 ?_; exact XO.fin M2 ⟨orF g2, subB⟩
   · intro g2 M2; have h2 := sp g2
     refine oo 7 ?_; exact XO.fin M2 ⟨orT g2, subB⟩
   refine oo 1 ?_; exact XO.fin M1 ⟨andT g1, subB⟩
 · intro g1 M1; have h1 := sp g1
   refine oo 15 ?_; exact XO.fin M1 ⟨andF g1, subB⟩
 refine ox 1 ?_; refine X.part 27 rfl (fun h1 => ?_) (fun h1 => ?_)
 · replace h1 := sp h1
   refine xx 9 ?_; refine X.at (ih (k + 1) ⟨by omega, by rw [hk2, runS_at (n := n + k) (by omega), if_pos (by unfold alnS; simp_all), show n + (k + 1) = n + k + 1 from rfl]; omega⟩ (by omega)) subA leA
 replace h1 := sp h1
 refine xx 7 ?_; refine X.retL (q) Tryz.func179 (res1 Tryz.results179 rfl) ⟨_, rfl, by rw [hk2]; rcases Nat.lt_or_ge (n + k) s.size with hl | hl; rw [runS_at (n := n + k) (by omega), if_neg (fun ha => by unfold alnS at ha; rcases h1 with h1 | h1; omega; simp_all)]; rfl; rw [runS_end (by omega)]; rfl, rfl⟩
theorem valS_succ {l : Bs} {i : Nat} (h : i < l.length) : valS (l.take (i + 1)) = valS (l.take i) * 10 + ((l.getD i 0).toNat - 48) := by
 rw [List.take_succ_eq_append_getElem h, gD h]; unfold valS; rw [List.foldl_append]; rfl
theorem valS_bd {l : Bs} (h : l.all digS = true) : 0 ≤ valS l ∧ valS l < 10 ^ l.length := by
 have key : ∀ (l : Bs) (a : Int), 0 ≤ a → l.all digS = true → 0 ≤ l.foldl (fun n c => n * 10 + ((c.toNat : Int) - 48)) a ∧ l.foldl (fun n c => n * 10 + ((c.toNat : Int) - 48)) a < (a + 1) * 10 ^ l.length := by
  intro l
  induction l with
  | nil => intro a ha _; exact ⟨ha, by simp; omega⟩
  | cons c r ih =>
   intro a ha h
   rw [List.all_cons, Bool.and_eq_true] at h
   have hc : 48 ≤ c.toNat ∧ c.toNat ≤ 57 := by have := h.1; simp [digS] at this; exact this
   obtain ⟨h1, h2⟩ := ih (a * 10 + ((c.toNat : Int) - 48)) (by omega) h.2
   refine ⟨h1, Int.lt_of_lt_of_le h2 ?_⟩
   rw [List.length_cons, Int.pow_succ, Int.mul_comm (10 ^ r.length) 10, ← Int.mul_assoc]
   exact Int.mul_le_mul_of_nonneg_right (by omega) (Int.pow_nonneg (by decide))
 have h1 := key l 0 (by decide) h
 simpa [valS] using h1
theorem numS_eq {w : Bs} (ha : w.all digS = true) (hl : w.length ≤ 10) : numS w = if (decide (valS w ≤ 2147483647) && (decide (w.length = 1) || decide (((w.getD 0 0).toNat : Int) ≠ 48))) = true then some (valS w) else none := by
 unfold numS
 rw [if_pos (by rw [ha]; simpa using hl)]
 have e : (w.getD 0 0 ≠ 48) ↔ ((w.getD 0 0).toNat : Int) ≠ 48 := by rw [Ne, Ne, ← UInt8.toNat_inj]; simp; omega
 simp only [e, Bool.and_eq_true, Bool.or_eq_true, decide_eq_true_eq]
theorem numS_no {w : Bs} {k : Nat} (hlt : k < w.length) (h : digS (w.getD k 0) = false ∨ 10 ≤ k) : numS w = none := by
 unfold numS
 rw [if_neg]
 rw [Bool.and_eq_true, List.all_eq_true]
 rintro ⟨ha, hb⟩
 rcases h with h | h
 · have := ha _ (List.getElem_mem hlt); rw [← gD (d := 0) hlt, h] at this; cases this
 simp at hb; omega
theorem all_take {l : Bs} {i : Nat} (h : i < l.length) (ha : (l.take i).all digS = true) : (l.take (i + 1)).all digS = digS (l.getD i 0) := by
 rw [List.take_succ_eq_append_getElem h, List.all_append, ha, gD h]; simp
set_option maxHeartbeats 1000000 in
theorem number_ok1 (h0s : 0 < s.size) (h63 : s.size ≤ 65536) : CallF Tryz.prog G 181 [.string s] (q) (Ret fun v q' => ∃ (x : Int) (ok : Bool), v = .tuple [.int .i64 x, .bool ok].toArray ∧ q' = q ∧ numS (bs s) = (if ok = true then some x else none)) := by
 refine CallF.of Tryz.func181 Tryz.ntmps181 rfl (fun F cs => ?_)
 have hbl := bs_size s
 refine xx 15 ?_; refine X.at (X.loop (fun (k : Nat) => k ≤ s.size ∧ k ≤ 10 ∧ ((bs s).take k).all digS = true) (fun k => [(5, .int .i64 (k : Int)), (0, .string s), (4, .int .i64 (valS ((bs s).take k))), (2, .int .i64 0), (3, .bool false)]) (fun k => (q ++ F)) (fun k => s.size - k) (fun k hi_ ih => ?_) 0 ⟨Nat.zero_le _, by omega, rfl⟩) subA leA
 try dsimp only at hi_ ih ⊢
 obtain ⟨hk1, hk2, hk3⟩ := hi_
 have hbd := valS_bd hk3; rw [List.length_take] at hbd
 have hp : (10 : Int) ^ min k (bs s).length ≤ 10 ^ 10 := by have : (10 : Nat) ^ min k (bs s).length ≤ 10 ^ 10 := Nat.pow_le_pow_right (by decide) (by omega); exact_mod_cast this
 refine xx 8 ?_; refine X.part 9 rfl (fun h0 => ?_) (fun h0 => ?_)
 · replace h0 := sp h0; have hlt : k < (bs s).length := by omega
   refine xo 9 ?_; refine XO.pu (Pu.indexS rfl rfl Tryz.underlying9 (by omega) (by omega)) ?_
   refine XO.know 14 (.int .u8 (((bs s).getD k 0).toNat : Int)) rfl (rfl) ?_; refine XO.cR Tryz.call180 (digit_ok (c := (bs s).getD k 0)) ?_
   refine XO.pu (Pu.not rfl) ?_; refine oo 1 ?_; refine XO.sb [17, 5, 0, 4, 2, 3] ?_
   apply XO.cutOr 3 20 17 rfl
   · intro g1 M1; have h1 := sp g1
     refine oo 3 ?_; exact XO.fin M1 ⟨orF g1, subB⟩
   · intro g1 M1; have h1 := sp g1
     refine oo 3 ?_; exact XO.fin M1 ⟨orT g1, subB⟩
   refine ox 1 ?_; refine X.part 20 rfl (fun h1 => ?_) (fun h1 => ?_)
   · replace h1 := sp h1
     refine xx 6 ?_; refine X.retL (q) Tryz.func181 (res2 Tryz.results181 rfl rfl) ⟨_, rfl, 0, false, rfl, rfl, by rw [if_neg (by decide)]; exact numS_no hlt (by rcases h1 with h1 | h1; exact .inl (by simpa using h1); exact .inr (by omega))⟩
   replace h1 := sp h1
   refine xo 7 ?_; refine XO.pu (Pu.indexS rfl rfl Tryz.underlying9 (by omega) (by omega)) ?_
   refine XO.know 25 (.int .u8 (((bs s).getD k 0).toNat : Int)) rfl (rfl) ?_
   have hdg : digS ((bs s).getD k 0) = true := by simpa using h1.1
   have hdb : 48 ≤ ((bs s).getD k 0).toNat ∧ ((bs s).getD k 0).toNat ≤ 57 := by have h := hdg; simp only [digS, Bool.and_eq_true, decide_eq_true_eq] at h; exact h
   have hk10 : k < 10 := by omega
   have hbd2 : valS ((bs s).take k) < 10 ^ 9 * 10 := by omega
   refine oo 1 ?_; refine XO.know 26 (.int .u8 ((((bs s).getD k 0).toNat : Int) - 48)) rfl (congrArg (Value.int .u8) (by rw [wu8]; omega)) ?_
   refine ox 10 ?_; refine X.sb [5, 4, 0, 2, 3] ?_
   have hv := valS_succ hlt
   refine X.at (ih (k + 1) ⟨by omega, by omega, by rw [all_take hlt hk3]; exact hdg⟩ (by omega)) subA leA
 replace h0 := sp h0; obtain rfl : k = s.size := by omega
 have htk : (bs s).take s.size = bs s := List.take_of_length_le (by omega)
 rw [htk] at hk3
 refine X.know 4 (.int .i64 (valS (bs s))) rfl (by rw [htk]) ?_
 refine xx 3 ?_; refine drw ?_; refine dd [0, 1, 2, 3] ?_; refine XD.part 32 rfl (fun h1 => ?_) (fun h1 => ?_)
 · replace h1 := sp h1
   refine dd [4, 5, 6, 7, 13] ?_; refine XD.part 36 rfl (fun h2 => ?_) (fun h2 => ?_)
   · replace h2 := sp h2
     refine dd [8, 9, 10, 11, 12, 14] ?_; refine XD.nil ?_; refine X.retL (q) Tryz.func181 (res2 Tryz.results181 rfl rfl) ⟨_, rfl, valS (bs s), _, rfl, rfl, by rw [numS_eq hk3 (by omega)]; have hl : (bs s).length = 1 := (by omega); simp [h1, hl]⟩
   replace h2 := sp h2
   refine dd [8] ?_; refine XD.pu 9 rfl (Pu.indexS rfl rfl Tryz.underlying9 (by omega) (by show 0 < _; omega)) ?_
   refine XD.know 38 (.int .u8 (((bs s).getD 0 0).toNat : Int)) rfl (rfl) ?_; refine dd [10, 11, 12, 14] ?_; refine XD.nil ?_; refine X.retL (q) Tryz.func181 (res2 Tryz.results181 rfl rfl) ⟨_, rfl, valS (bs s), _, rfl, rfl, by rw [numS_eq hk3 (by omega)]; have hl : ¬ (bs s).length = 1 := (by omega); simp [h1, hl]⟩
 replace h1 := sp h1
 refine dd [4, 5, 6, 7, 13, 8, 9, 10, 11, 12, 14] ?_; refine XD.nil ?_; refine X.retL (q) Tryz.func181 (res2 Tryz.results181 rfl rfl) ⟨_, rfl, valS (bs s), _, rfl, rfl, by rw [numS_eq hk3 (by omega)]; have hl : ¬ valS (bs s) ≤ 2147483647 := (by omega); simp [hl]⟩
theorem words_ok  : CallF Tryz.prog G 198 [] ([]) (Ret fun v q' => ∃ g, v = .slice (some ⟨g, 0, none⟩) 20 20 ∧ q' = [lsH (fun w : Bs => Value.string (ba w)) 9 (some ⟨g, 0, none⟩) 20 wordsS]) := by
 refine CallF.of Tryz.func198 Tryz.ntmps198 rfl (fun F cs => ?_)
 refine xo 6 ?_; refine XO.ef (Ef.litL (fun w : Bs => Value.string (ba w)) wordsS Tryz.underlying34 tinfo9 rfl rfl rfl rfl rfl rfl (fun _ => rfl)) ?_
 rintro _ _ ⟨g, rfl, rfl⟩
 refine ox 2 ?_; refine X.retL [lsH (fun w : Bs => Value.string (ba w)) 9 (some ⟨g, 0, none⟩) 20 wordsS] Tryz.func198 (res1 Tryz.results198 rfl) ⟨_, rfl, g, rfl, rfl⟩
theorem signs_ok  : CallF Tryz.prog G 183 [] ([]) (Ret fun v q' => ∃ g, v = .slice (some ⟨g, 0, none⟩) 20 20 ∧ q' = [lsH (fun w : Bs => Value.string (ba w)) 9 (some ⟨g, 0, none⟩) 20 signsS]) := by
 refine CallF.of Tryz.func183 Tryz.ntmps183 rfl (fun F cs => ?_)
 refine xo 6 ?_; refine XO.ef (Ef.litL (fun w : Bs => Value.string (ba w)) signsS Tryz.underlying34 tinfo9 rfl rfl rfl rfl rfl rfl (fun _ => rfl)) ?_
 rintro _ _ ⟨g, rfl, rfl⟩
 refine ox 2 ?_; refine X.retL [lsH (fun w : Bs => Value.string (ba w)) 9 (some ⟨g, 0, none⟩) 20 signsS] Tryz.func183 (res1 Tryz.results183 rfl) ⟨_, rfl, g, rfl, rfl⟩
theorem keyword_ok  : CallF Tryz.prog G 182 [.string s] (q) (Ret fun v q' => v = .bool (kwS (bs s)) ∧ q' = q) := by
 refine CallF.of Tryz.func182 Tryz.ntmps182 rfl (fun F cs => ?_)
 refine xo 6 ?_; refine XO.cF Tryz.call198 (words_ok) ?_; rintro _ _ ⟨g, rfl, rfl⟩ _ e_; simp only [ca, na] at e_; subst e_
 refine ox 8 ?_; refine X.at (X.loop (fun (k : Nat) => k ≤ 20 ∧ kwS (bs s) = (wordsS.drop k).any (· == bs s)) (fun k => [(4, .int .i64 (k : Int)), (3, .slice (some ⟨g, 0, none⟩) 20 20), (0, .string s), (2, .bool false)]) (fun k => lsH (fun w : Bs => Value.string (ba w)) 9 (some ⟨g, 0, none⟩) 20 wordsS :: (q ++ F)) (fun k => 20 - k) (fun k hi_ ih => ?_) 0 ⟨Nat.zero_le _, rfl⟩) subA leA
 try dsimp only at hi_ ih ⊢
 obtain ⟨hk1, hk2⟩ := hi_
 refine xx 8 ?_; refine X.part 9 rfl (fun h0 => ?_) (fun h0 => ?_)
 · replace h0 := sp h0; have hlt : k < wordsS.length := by show k < 20; omega
   refine xo 9 ?_; refine ld ?_ (hc := (Cl.e1 (n := k) (Sees.lsH _) fndA hlt rfl))
   refine ox 3 ?_; refine X.part 17 rfl (fun h1 => ?_) (fun h1 => ?_)
   · replace h1 := sp h1
     refine xx 5 ?_
     have hd : wordsS.drop k = wordsS[k] :: wordsS.drop (k + 1) := List.drop_eq_getElem_cons hlt
     refine X.retL (q) Tryz.func182 (res1 Tryz.results182 rfl) ⟨_, rfl, by rw [hk2, hd, List.any_cons, ← bs_ba wordsS[k], sTr h1]; rfl, rfl⟩
   replace h1 := sp h1
   refine xx 8 ?_
   have hd : wordsS.drop k = wordsS[k] :: wordsS.drop (k + 1) := List.drop_eq_getElem_cons hlt
   refine X.at (ih (k + 1) ⟨by omega, by rw [hk2, hd, List.any_cons, ← bs_ba wordsS[k], sNe h1]; rfl⟩ (by omega)) subA leA
 replace h0 := sp h0; obtain rfl : k = 20 := by omega
 refine xx 6 ?_; refine X.retL (q) Tryz.func182 (res1 Tryz.results182 rfl) ⟨_, rfl, by rw [hk2]; rfl, rfl⟩
def OneOut (l : Bs) (v : Value) : Prop := (∃ k w z, oneW l = some (k, w, z) ∧ 0 < w.length ∧ w.length ≤ l.length ∧ v = .tuple [.agg [.int .i64 k, .string (ba w), .int .i64 z, .int .i64 0, .int .i64 0].toArray, .int .i64 (w.length : Nat), .int .i64 0].toArray) ∨ (oneW l = none ∧ ∃ t z e, e ≠ 0 ∧ v = .tuple [.agg (tkC t).toArray, .int .i64 z, .int .i64 e].toArray)
theorem find_drop {l : Bs} {k : Nat} (h : k < signsS.length) : (signsS.drop k).find? (fun s => s == l.take s.length) = if (signsS[k] == l.take signsS[k].length) = true then some signsS[k] else (signsS.drop (k + 1)).find? (fun s => s == l.take s.length) := by
 rw [List.drop_eq_getElem_cons h, List.find?_cons]; cases signsS[k] == l.take signsS[k].length <;> rfl
theorem oneW_eq {s : ByteArray} {n r : Nat} {W : Bs} (hr : runS ((bs s).drop n) = r) (hW : ((bs s).drop n).take r = W) : oneW ((bs s).drop n) = if 0 < r ∧ digS ((bs s).getD n 0) = true then (match numS W with | some x => some ((2 : Int), W, x) | none => none) else if 0 < r ∧ kwS W = true then some (3, W, 0) else if 16 < r then none else if 0 < r then some (1, W, 0) else match signsS.find? (fun z => z == ((bs s).drop n).take z.length) with | some z => some (4, z, 0) | none => none := by
 unfold oneW; rw [hr, hW, show ((bs s).drop n).getD 0 0 = (bs s).getD n 0 by simp [List.getD]]; rfl
theorem signs_pos : ∀ k, (h : k < 20) → 0 < (signsS[k]'h).length ∧ (signsS[k]'h).length ≤ 2 := by decide
theorem extr {s : ByteArray} {n m : Nat} : s.extract n (n + m) = ba (((bs s).drop n).take m) := by rw [← ba_bs (s.extract n (n + m)), bs_extract]; congr 2; omega
set_option maxHeartbeats 2000000 in
theorem lxone_ok (hn : n < s.size) (h63 : s.size ≤ 65536) : CallF Tryz.prog G 140 [.string s, .int .i64 (n : Int)] (q) (Ret fun v q' => OneOut ((bs s).drop n) v ∧ q' = q) := by
 refine CallF.of Tryz.func140 Tryz.ntmps140 rfl (fun F cs => ?_)
 have hbl := bs_size s; have hrl := runS_le ((bs s).drop n); rw [List.length_drop] at hrl
 obtain ⟨r, hr⟩ : ∃ r, runS ((bs s).drop n) = r := ⟨_, rfl⟩; rw [hr] at hrl
 obtain ⟨W, hW⟩ : ∃ W, ((bs s).drop n).take r = W := ⟨_, rfl⟩
 have hWl : W.length = r := by rw [← hW, List.length_take, List.length_drop]; omega
 have hO := oneW_eq hr hW; obtain ⟨O, hOO⟩ : ∃ O, oneW ((bs s).drop n) = O := ⟨_, rfl⟩; rw [hOO] at hO
 have hcl : (0 < r ∧ digS ((bs s).getD n 0) = true) ∨ (0 < r ∧ digS ((bs s).getD n 0) = false ∧ kwS W = true) ∨ (16 < r ∧ digS ((bs s).getD n 0) = false ∧ kwS W = false) ∨ ((0 < r ∧ r ≤ 16) ∧ digS ((bs s).getD n 0) = false ∧ kwS W = false) ∨ r = 0 := by
  cases digS ((bs s).getD n 0) <;> cases kwS W <;> simp <;> omega
 rcases hcl with hcl | hcl | hcl | hcl | hcl
 · refine xo 2 ?_; refine XO.al Tryz.zeroValue193 fun n1 => ?_
   refine oo 7 ?_; refine XO.cR Tryz.call179 (run_ok (n := n) (by omega) h63) ?_
   refine XO.know 16 (.int .i64 (r : Int)) rfl (by rw [hr]) ?_
   refine oo 9 ?_; refine XO.pu (Pu.sliceS rfl rfl rfl Tryz.underlying9 (by omega) (by omega) (by omega)) ?_
   refine XO.know 22 (.string (ba W)) rfl (by rw [show ((n : Int) + r).toNat = n + r by omega, Int.toNat_natCast, extr, hW]) ?_
   refine oo 9 ?_; refine XO.sb [26, 8, 7, 6, 5, 4, 0, 1] ?_
   apply XO.cutAnd 5 31 26 rfl
   · intro g1 M1; have h1 := sp g1
     refine oo 2 ?_; refine XO.pu (Pu.indexS rfl rfl Tryz.underlying9 (by omega) (by omega)) ?_
     refine XO.know 29 (.int .u8 (((bs s).getD n 0).toNat : Int)) rfl (rfl) ?_; refine XO.cR Tryz.call180 (digit_ok (c := (bs s).getD n 0)) ?_
     refine oo 1 ?_; exact XO.fin M1 ⟨andT g1, subB⟩
   · intro g1 M1; have h1 := sp g1
     refine oo 5 ?_; exact XO.fin M1 ⟨andF g1, subB⟩
   refine ox 2 ?_; refine X.sb [23, 8, 7, 6, 5, 4, 0, 1] ?_; refine X.know 23 (.bool true) rfl (congrArg Value.bool (by rw [hcl.2]; simp [hcl.1])) ?_
   refine xo 4 ?_
   have hbw : (ba W).size = r := hWl
   refine XO.cX Tryz.call181 (Le.refl _) (number_ok1 (s := ba W) (by omega) (by omega)) ?_
   rintro _ _ ⟨x, ok, rfl, rfl, hnum⟩
   rw [bs_ba] at hnum
   refine oo 10 ?_; refine XO.pu (Pu.not rfl) ?_; refine ox 1 ?_; refine X.part 38 rfl (fun h1 => ?_) (fun h1 => ?_)
   · replace h1 := sp h1
     refine xo 4 ?_; refine stA ?_; refine ox 3 ?_
     rw [if_pos hcl, hnum] at hO
     refine X.retL (q) Tryz.func140 (resC Tryz.results140 (ResOk.cell rfl (LV.agg Tryz.isAgg193 Tryz.sizeOf193 hasA rfl) (ResOk.tmp rfl (ResOk.tmp rfl ResOk.nil)))) ⟨_, rfl, .inr ⟨by rw [hOO, hO, if_neg (by simp_all)], ⟨0, ⟨#[]⟩, 0, 0, 0⟩, 0, 112, by decide, rfl⟩, rfl⟩
   replace h1 := sp h1
   refine xo 8 ?_; refine stA ?_; refine ox 3 ?_; refine X.sb [6, 5, 4, 0, 1] ?_
   rw [if_pos hcl, hnum] at hO
   refine X.retL (q) Tryz.func140 (resC Tryz.results140 (ResOk.cell rfl (LV.agg Tryz.isAgg193 Tryz.sizeOf193 hasA rfl) (ResOk.tmp rfl (ResOk.tmp rfl ResOk.nil)))) ⟨_, rfl, .inl ⟨2, W, x, by rw [hOO, hO, if_pos (by simpa using h1)], by omega, by rw [List.length_drop]; omega, by rw [hWl]; rfl⟩, rfl⟩
 · refine xo 2 ?_; refine XO.al Tryz.zeroValue193 fun n2 => ?_
   refine oo 7 ?_; refine XO.cR Tryz.call179 (run_ok (n := n) (by omega) h63) ?_
   refine XO.know 16 (.int .i64 (r : Int)) rfl (by rw [hr]) ?_
   refine oo 9 ?_; refine XO.pu (Pu.sliceS rfl rfl rfl Tryz.underlying9 (by omega) (by omega) (by omega)) ?_
   refine XO.know 22 (.string (ba W)) rfl (by rw [show ((n : Int) + r).toNat = n + r by omega, Int.toNat_natCast, extr, hW]) ?_
   refine oo 9 ?_; refine XO.sb [26, 8, 7, 6, 5, 4, 0, 1] ?_
   apply XO.cutAnd 5 31 26 rfl
   · intro g1 M1; have h1 := sp g1
     refine oo 2 ?_; refine XO.pu (Pu.indexS rfl rfl Tryz.underlying9 (by omega) (by omega)) ?_
     refine XO.know 29 (.int .u8 (((bs s).getD n 0).toNat : Int)) rfl (rfl) ?_; refine XO.cR Tryz.call180 (digit_ok (c := (bs s).getD n 0)) ?_
     refine oo 1 ?_; exact XO.fin M1 ⟨andT g1, subB⟩
   · intro g1 M1; have h1 := sp g1
     refine oo 5 ?_; exact XO.fin M1 ⟨andF g1, subB⟩
   refine ox 2 ?_; refine X.sb [23, 8, 7, 6, 5, 4, 0, 1] ?_; refine X.know 23 (.bool false) rfl (congrArg Value.bool (by rw [hcl.2.1]; simp)) ?_
   refine xo 6 ?_; refine XO.sb [47, 8, 7, 6, 5, 4, 0, 1] ?_
   apply XO.cutAnd 3 50 47 rfl
   · intro g1 M1; have h1 := sp g1
     refine oo 1 ?_; refine XO.cR Tryz.call182 (keyword_ok (s := ba W)) ?_
     refine XO.know 49 (.bool (kwS W)) rfl (by rw [bs_ba]) ?_
     refine oo 1 ?_; exact XO.fin M1 ⟨andT g1, subB⟩
   · intro g1 M1; have h1 := sp g1
     refine oo 3 ?_; exact XO.fin M1 ⟨andF g1, subB⟩
   refine ox 2 ?_; refine X.know 44 (.bool true) rfl (congrArg Value.bool (by rw [hcl.2.2]; simp [hcl.1])) ?_
   refine xo 6 ?_; refine stA ?_; refine ox 3 ?_
   rw [if_neg (by rw [hcl.2.1]; simp), if_pos ⟨hcl.1, hcl.2.2⟩] at hO
   refine X.retL (q) Tryz.func140 (resC Tryz.results140 (ResOk.cell rfl (LV.agg Tryz.isAgg193 Tryz.sizeOf193 hasA rfl) (ResOk.tmp rfl (ResOk.tmp rfl ResOk.nil)))) ⟨_, rfl, .inl ⟨3, W, 0, by rw [hOO, hO], by omega, by rw [List.length_drop]; omega, by rw [hWl]; rfl⟩, rfl⟩
 · refine xo 2 ?_; refine XO.al Tryz.zeroValue193 fun n3 => ?_
   refine oo 7 ?_; refine XO.cR Tryz.call179 (run_ok (n := n) (by omega) h63) ?_
   refine XO.know 16 (.int .i64 (r : Int)) rfl (by rw [hr]) ?_
   refine oo 9 ?_; refine XO.pu (Pu.sliceS rfl rfl rfl Tryz.underlying9 (by omega) (by omega) (by omega)) ?_
   refine XO.know 22 (.string (ba W)) rfl (by rw [show ((n : Int) + r).toNat = n + r by omega, Int.toNat_natCast, extr, hW]) ?_
   refine oo 9 ?_; refine XO.sb [26, 8, 7, 6, 5, 4, 0, 1] ?_
   apply XO.cutAnd 5 31 26 rfl
   · intro g1 M1; have h1 := sp g1
     refine oo 2 ?_; refine XO.pu (Pu.indexS rfl rfl Tryz.underlying9 (by omega) (by omega)) ?_
     refine XO.know 29 (.int .u8 (((bs s).getD n 0).toNat : Int)) rfl (rfl) ?_; refine XO.cR Tryz.call180 (digit_ok (c := (bs s).getD n 0)) ?_
     refine oo 1 ?_; exact XO.fin M1 ⟨andT g1, subB⟩
   · intro g1 M1; have h1 := sp g1
     refine oo 5 ?_; exact XO.fin M1 ⟨andF g1, subB⟩
   refine ox 2 ?_; refine X.sb [23, 8, 7, 6, 5, 4, 0, 1] ?_; refine X.know 23 (.bool false) rfl (congrArg Value.bool (by rw [hcl.2.1]; simp)) ?_
   refine xo 6 ?_; refine XO.sb [47, 8, 7, 6, 5, 4, 0, 1] ?_
   apply XO.cutAnd 3 50 47 rfl
   · intro g1 M1; have h1 := sp g1
     refine oo 1 ?_; refine XO.cR Tryz.call182 (keyword_ok (s := ba W)) ?_
     refine XO.know 49 (.bool (kwS W)) rfl (by rw [bs_ba]) ?_
     refine oo 1 ?_; exact XO.fin M1 ⟨andT g1, subB⟩
   · intro g1 M1; have h1 := sp g1
     refine oo 3 ?_; exact XO.fin M1 ⟨andF g1, subB⟩
   refine ox 2 ?_; refine X.know 44 (.bool false) rfl (congrArg Value.bool (by rw [hcl.2.2]; simp)) ?_
   refine xx 7 ?_; refine X.know 54 (.bool true) rfl (congrArg Value.bool (by simp; omega)) ?_
   refine xo 4 ?_; refine stA ?_; refine ox 3 ?_
   rw [if_neg (by rw [hcl.2.1]; simp), if_neg (by rw [hcl.2.2]; simp), if_pos hcl.1] at hO
   refine X.retL (q) Tryz.func140 (resC Tryz.results140 (ResOk.cell rfl (LV.agg Tryz.isAgg193 Tryz.sizeOf193 hasA rfl) (ResOk.tmp rfl (ResOk.tmp rfl ResOk.nil)))) ⟨_, rfl, .inr ⟨by rw [hOO, hO], ⟨0, ⟨#[]⟩, 0, 0, 0⟩, 0, 111, by decide, rfl⟩, rfl⟩
 · refine xo 2 ?_; refine XO.al Tryz.zeroValue193 fun n4 => ?_
   refine oo 7 ?_; refine XO.cR Tryz.call179 (run_ok (n := n) (by omega) h63) ?_
   refine XO.know 16 (.int .i64 (r : Int)) rfl (by rw [hr]) ?_
   refine oo 9 ?_; refine XO.pu (Pu.sliceS rfl rfl rfl Tryz.underlying9 (by omega) (by omega) (by omega)) ?_
   refine XO.know 22 (.string (ba W)) rfl (by rw [show ((n : Int) + r).toNat = n + r by omega, Int.toNat_natCast, extr, hW]) ?_
   refine oo 9 ?_; refine XO.sb [26, 8, 7, 6, 5, 4, 0, 1] ?_
   apply XO.cutAnd 5 31 26 rfl
   · intro g1 M1; have h1 := sp g1
     refine oo 2 ?_; refine XO.pu (Pu.indexS rfl rfl Tryz.underlying9 (by omega) (by omega)) ?_
     refine XO.know 29 (.int .u8 (((bs s).getD n 0).toNat : Int)) rfl (rfl) ?_; refine XO.cR Tryz.call180 (digit_ok (c := (bs s).getD n 0)) ?_
     refine oo 1 ?_; exact XO.fin M1 ⟨andT g1, subB⟩
   · intro g1 M1; have h1 := sp g1
     refine oo 5 ?_; exact XO.fin M1 ⟨andF g1, subB⟩
   refine ox 2 ?_; refine X.sb [23, 8, 7, 6, 5, 4, 0, 1] ?_; refine X.know 23 (.bool false) rfl (congrArg Value.bool (by rw [hcl.2.1]; simp)) ?_
   refine xo 6 ?_; refine XO.sb [47, 8, 7, 6, 5, 4, 0, 1] ?_
   apply XO.cutAnd 3 50 47 rfl
   · intro g1 M1; have h1 := sp g1
     refine oo 1 ?_; refine XO.cR Tryz.call182 (keyword_ok (s := ba W)) ?_
     refine XO.know 49 (.bool (kwS W)) rfl (by rw [bs_ba]) ?_
     refine oo 1 ?_; exact XO.fin M1 ⟨andT g1, subB⟩
   · intro g1 M1; have h1 := sp g1
     refine oo 3 ?_; exact XO.fin M1 ⟨andF g1, subB⟩
   refine ox 2 ?_; refine X.know 44 (.bool false) rfl (congrArg Value.bool (by rw [hcl.2.2]; simp)) ?_
   refine xx 7 ?_; refine X.know 54 (.bool false) rfl (congrArg Value.bool (by simp; omega)) ?_
   refine xx 7 ?_; refine X.know 58 (.bool true) rfl (congrArg Value.bool (by simp; omega)) ?_
   refine xo 6 ?_; refine stA ?_; refine ox 3 ?_; refine X.sb [6, 5, 4, 0, 1] ?_
   rw [if_neg (by rw [hcl.2.1]; simp), if_neg (by rw [hcl.2.2]; simp), if_neg (by omega), if_pos hcl.1.1] at hO
   refine X.retL (q) Tryz.func140 (resC Tryz.results140 (ResOk.cell rfl (LV.agg Tryz.isAgg193 Tryz.sizeOf193 hasA rfl) (ResOk.tmp rfl (ResOk.tmp rfl ResOk.nil)))) ⟨_, rfl, .inl ⟨1, W, 0, by rw [hOO, hO], by omega, by rw [List.length_drop]; omega, by rw [hWl]; rfl⟩, rfl⟩
 refine xo 2 ?_; refine XO.al Tryz.zeroValue193 fun n5 => ?_
 refine oo 7 ?_; refine XO.cR Tryz.call179 (run_ok (n := n) (by omega) h63) ?_
 refine XO.know 16 (.int .i64 (r : Int)) rfl (by rw [hr]) ?_
 refine oo 9 ?_; refine XO.pu (Pu.sliceS rfl rfl rfl Tryz.underlying9 (by omega) (by omega) (by omega)) ?_
 refine XO.know 22 (.string (ba W)) rfl (by rw [show ((n : Int) + r).toNat = n + r by omega, Int.toNat_natCast, extr, hW]) ?_
 refine oo 9 ?_; refine XO.sb [26, 8, 7, 6, 5, 4, 0, 1] ?_
 apply XO.cutAnd 5 31 26 rfl
 · intro g1 M1; have h1 := sp g1
   refine oo 2 ?_; refine XO.pu (Pu.indexS rfl rfl Tryz.underlying9 (by omega) (by omega)) ?_
   refine XO.know 29 (.int .u8 (((bs s).getD n 0).toNat : Int)) rfl (rfl) ?_; refine XO.cR Tryz.call180 (digit_ok (c := (bs s).getD n 0)) ?_
   refine oo 1 ?_; exact XO.fin M1 ⟨andT g1, subB⟩
 · intro g1 M1; have h1 := sp g1
   refine oo 5 ?_; exact XO.fin M1 ⟨andF g1, subB⟩
 refine ox 2 ?_; refine X.sb [23, 8, 7, 6, 5, 4, 0, 1] ?_; refine X.know 23 (.bool false) rfl (congrArg Value.bool (by simp [hcl])) ?_
 refine xo 6 ?_; refine XO.sb [47, 8, 7, 6, 5, 4, 0, 1] ?_
 apply XO.cutAnd 3 50 47 rfl
 · intro g1 M1; have h1 := sp g1
   refine oo 1 ?_; refine XO.cR Tryz.call182 (keyword_ok (s := ba W)) ?_
   refine XO.know 49 (.bool (kwS W)) rfl (by rw [bs_ba]) ?_
   refine oo 1 ?_; exact XO.fin M1 ⟨andT g1, subB⟩
 · intro g1 M1; have h1 := sp g1
   refine oo 3 ?_; exact XO.fin M1 ⟨andF g1, subB⟩
 refine ox 2 ?_; refine X.know 44 (.bool false) rfl (congrArg Value.bool (by simp [hcl])) ?_
 refine xx 7 ?_; refine X.know 54 (.bool false) rfl (congrArg Value.bool (by simp [hcl])) ?_
 refine xx 7 ?_; refine X.know 58 (.bool false) rfl (congrArg Value.bool (by simp [hcl])) ?_
 refine xo 5 ?_; refine XO.cF Tryz.call183 (signs_ok) ?_; rintro _ _ ⟨g, rfl, rfl⟩ _ e_; simp only [ca, na] at e_; subst e_
 refine ox 8 ?_; refine X.sb [12, 11, 6, 5, 4, 0, 1] ?_
 rw [if_neg (by omega), if_neg (by omega), if_neg (by omega), if_neg (by omega)] at hO
 refine X.at (X.loop (fun (k : Nat) => k ≤ 20 ∧ signsS.find? (fun z => z == ((bs s).drop n).take z.length) = (signsS.drop k).find? (fun z => z == ((bs s).drop n).take z.length)) (fun k => [(12, .int .i64 (k : Int)), (11, .slice (some ⟨g, 0, none⟩) 20 20), (0, .string s), (1, .int .i64 (n : Int)), (4, .pointer (some ⟨n5, 0, none⟩)), (5, .int .i64 0), (6, .int .i64 0)]) (fun k => lsH (fun w : Bs => Value.string (ba w)) 9 (some ⟨g, 0, none⟩) 20 signsS :: pto n5 (.cells [.int .i64 0, .string ⟨#[]⟩, .int .i64 0, .int .i64 0, .int .i64 0].toArray 193 (0, 0)) :: (q ++ F)) (fun k => 20 - k) (fun k hi_ ih => ?_) 0 ⟨Nat.zero_le _, rfl⟩) subA leA
 try dsimp only at hi_ ih ⊢
 obtain ⟨hk1, hk2⟩ := hi_
 refine xx 8 ?_; refine X.part 68 rfl (fun h0 => ?_) (fun h0 => ?_)
 · replace h0 := sp h0; have hlt : k < signsS.length := by show k < 20; omega
   have hf := find_drop (l := (bs s).drop n) hlt; have hsp := signs_pos k hlt; obtain ⟨Z, hZ⟩ : ∃ Z, signsS[k] = Z := ⟨_, rfl⟩; rw [hZ] at hf hsp
   have hzl : (ba Z).size = Z.length := rfl
   refine xo 9 ?_; refine ld ?_ (hc := (Cl.e1 (n := k) (Sees.lsH _) fndA hlt rfl))
   refine XO.know 74 (.string (ba Z)) rfl (by rw [hZ]) ?_
   refine ox 4 ?_; refine drw ?_; refine dd [0, 1, 2, 3, 4, 5, 6] ?_; refine XD.part 82 rfl (fun h1 => ?_) (fun h1 => ?_)
   · replace h1 := sp h1
     refine dd [7, 8, 9, 10, 11] ?_; refine XD.pu 12 rfl (Pu.sliceS rfl rfl rfl Tryz.underlying9 (by omega) (by omega) (by omega)) ?_
     refine XD.know 88 (.string (ba (((bs s).drop n).take Z.length))) rfl (by rw [show ((n : Int) + (ba Z).size).toNat = n + Z.length by omega, Int.toNat_natCast, extr]) ?_
     refine dd [13, 14, 15] ?_; refine ldD 16 ?_ (hc := (Cl.e1 (n := k) (Sees.lsH _) fndA hlt rfl))
     refine XD.know 92 (.string (ba Z)) rfl (by rw [hZ]) ?_
     refine dd [17, 18] ?_; refine XD.nil ?_; refine X.part 94 rfl (fun h2 => ?_) (fun h2 => ?_)
     · replace h2 := sp h2
       refine xo 6 ?_; refine ld ?_ (hc := (Cl.e1 (n := k) (Sees.lsH _) fndA hlt rfl))
       refine XO.know 98 (.string (ba Z)) rfl (by rw [hZ]) ?_
       refine oo 2 ?_; refine stA ?_; refine ox 3 ?_; refine X.sb [6, 5, 12, 11, 0, 1, 4] ?_; refine X.retL (q) Tryz.func140 (resC Tryz.results140 (ResOk.cell rfl (LV.agg Tryz.isAgg193 Tryz.sizeOf193 hasA rfl) (ResOk.tmp rfl (ResOk.tmp rfl ResOk.nil)))) ⟨_, rfl, .inl ⟨4, Z, 0, by have h := sTr h2; rw [bs_ba, bs_ba] at h; rw [hOO, hO, hk2, hf, if_pos (by rw [beq_iff_eq] at h ⊢; exact h.symm)], hsp.1, by rw [List.length_drop]; omega, rfl⟩, rfl⟩
     replace h2 := sp h2
     refine xx 8 ?_; refine X.sb [12, 11, 0, 1, 4, 5, 6] ?_; refine X.at (ih (k + 1) ⟨by omega, by have h := sNe h2; rw [bs_ba, bs_ba] at h; rw [hk2, hf, if_neg (by rw [beq_iff_eq]; intro e; rw [← e] at h; simp at h)]⟩ (by omega)) subA leA
   replace h1 := sp h1
   refine dd [7, 8, 9, 10, 11, 12, 13, 14, 15, 16, 17, 18] ?_; refine XD.nil ?_; refine xx 8 ?_; refine X.sb [12, 11, 0, 1, 4, 5, 6] ?_; refine X.at (ih (k + 1) ⟨by omega, by have h := h1; rw [hk2, hf, if_neg (by rw [beq_iff_eq]; intro e; have := congrArg List.length e; rw [List.length_take, List.length_drop] at this; omega)]⟩ (by omega)) subA leA
 replace h0 := sp h0; obtain rfl : k = 20 := by omega
 refine xo 5 ?_; refine stA ?_; refine ox 3 ?_; refine X.retL (q) Tryz.func140 (resC Tryz.results140 (ResOk.cell rfl (LV.agg Tryz.isAgg193 Tryz.sizeOf193 hasA rfl) (ResOk.tmp rfl (ResOk.tmp rfl ResOk.nil)))) ⟨_, rfl, .inr ⟨by rw [hOO, hO, hk2]; rfl, ⟨0, ⟨#[]⟩, 0, 0, 0⟩, 0, 110, by decide, rfl⟩, rfl⟩
end
theorem lex_at {l : Bs} {k g : Nat} {ln cl : Int} (h : k < l.length) : lexS (g + 1) (l.drop k) ln cl =
 if l.getD k 0 = 10 then lexS g (l.drop (k + 1)) (ln + 1) 1
 else if l.getD k 0 = 32 ∨ l.getD k 0 = 9 ∨ l.getD k 0 = 13 then lexS g (l.drop (k + 1)) ln (cl + 1)
 else if l.getD k 0 = 35 then lexS g ((l.drop k).dropWhile (· != 10)) ln (cl + ((l.drop k).takeWhile (· != 10)).length)
 else match oneW (l.drop k) with
  | none => none
  | some (c, w, n) => (lexS g (l.drop (k + w.length)) ln (cl + w.length)).map (⟨c, ba w, n, ln, cl⟩ :: ·) := by
 rw [gD h, ← List.drop_drop, List.drop_eq_getElem_cons h, lexS]
 split; rfl; split; rfl; split; rfl
 cases oneW (l[k] :: l.drop (k + 1)) with
 | none => rfl
 | some x =>
  have e : List.drop x.2.1.length (l[k] :: l.drop (k + 1)) = l.drop (k + x.2.1.length) := by rw [← List.drop_eq_getElem_cons h, List.drop_drop]
  simp only [e]
theorem lex_end {l : Bs} {k g : Nat} {ln cl : Int} (h : l.length ≤ k) : lexS (g + 1) (l.drop k) ln cl = some [] := by rw [List.drop_eq_nil_of_le h]; rfl
theorem skip_at {l : Bs} {k : Nat} (h : k < l.length) (hc : l.getD k 0 ≠ 10) : (l.drop k).dropWhile (· != 10) = (l.drop (k + 1)).dropWhile (· != 10) ∧ ((l.drop k).takeWhile (· != 10)).length = ((l.drop (k + 1)).takeWhile (· != 10)).length + 1 := by
 rw [gD h] at hc
 rw [List.drop_eq_getElem_cons h, List.dropWhile_cons, List.takeWhile_cons, if_pos (by simpa using hc), if_pos (by simpa using hc)]
 exact ⟨rfl, rfl⟩
theorem skip_end {l : Bs} {k : Nat} (h : l.length ≤ k ∨ l.getD k 0 = 10) : (l.drop k).dropWhile (· != 10) = l.drop k ∧ ((l.drop k).takeWhile (· != 10)).length = 0 := by
 rcases Nat.lt_or_ge k l.length with hk | hk
 · have hc := h.resolve_left (by omega)
   rw [gD hk] at hc
   rw [List.drop_eq_getElem_cons hk, List.dropWhile_cons, List.takeWhile_cons, if_neg (by simp [hc]), if_neg (by simp [hc])]
   exact ⟨rfl, rfl⟩
 rw [List.drop_eq_nil_of_le hk]; exact ⟨rfl, rfl⟩
theorem c8 {c d : UInt8} : ((c.toNat : Int) = d.toNat) ↔ c = d := by rw [← UInt8.toNat_inj]; omega
def lexO (l : Bs) : Option (List Tk) := if 65536 < l.length then none else lexS (l.length + 1) l 1 1
section
variable {G : World} {q : List HP} {s : ByteArray}
theorem spT {x : UInt8} (h : x = 32 ∨ x = 9 ∨ x = 13) : ((x.toNat : Int) == 32 || (x.toNat : Int) == 9 || (x.toNat : Int) == 13) = true := by rcases h with rfl | rfl | rfl <;> rfl
theorem spF {x : UInt8} (h : ¬ (x = 32 ∨ x = 9 ∨ x = 13)) : ((x.toNat : Int) == 32 || (x.toNat : Int) == 9 || (x.toNat : Int) == 13) = false := by
 simp only [not_or] at h
 rw [Bool.or_eq_false_iff, Bool.or_eq_false_iff, beq_eq_false_iff_ne, beq_eq_false_iff_ne, beq_eq_false_iff_ne]
 exact ⟨⟨fun e => h.1 (c8.1 e), fun e => h.2.1 (c8.1 e)⟩, fun e => h.2.2 (c8.1 e)⟩
theorem tinfo193 : (Tryz.prog.info? 193).map (fun i => (i.zero, i.size, i.bytes)) = some (some (.agg #[.int .i64 0, .string ⟨#[]⟩, .int .i64 0, .int .i64 0, .int .i64 0]), 5, 48) := by kernel_rfl
set_option maxHeartbeats 4000000 in
theorem Lex_ok  : CallF Tryz.prog G 94 [.string s] (q) (Ret fun v q' => (∃ ts a c, lexO (bs s) = some ts ∧ v = .tuple [.slice a ts.length c, .agg [.int .i64 0, .int .i64 0].toArray, .int .i64 0].toArray ∧ q' = rsH tkC 5 193 a c ts :: q) ∨ (lexO (bs s) = none ∧ ∃ (y z e : Int), e ≠ 0 ∧ v = .tuple [.slice none 0 0, .agg [.int .i64 y, .int .i64 z].toArray, .int .i64 e].toArray ∧ q' = q)) := by
 refine CallF.of Tryz.func94 Tryz.ntmps94 rfl (fun F cs => ?_)
 have hbl := bs_size s
 refine xo 3 ?_; refine XO.al Tryz.zeroValue87 fun n1 => ?_
 refine ox 9 ?_; refine X.part 14 rfl (fun h0 => ?_) (fun h0 => ?_)
 · replace h0 := sp h0
   refine xo 5 ?_; refine stA ?_; refine ox 2 ?_; refine X.retL (q) Tryz.func94 (resC Tryz.results94 (ResOk.tmp rfl (ResOk.cell rfl (LV.agg Tryz.isAgg87 Tryz.sizeOf87 hasA rfl) (ResOk.tmp rfl ResOk.nil)))) ⟨_, rfl, .inr ⟨by unfold lexO; rw [if_pos (by omega)], 0, 0, 3, by decide, rfl, rfl⟩⟩
 replace h0 := sp h0; have h63 : s.size ≤ 65536 := by omega
 obtain ⟨S, hS⟩ : ∃ S, lexO (bs s) = S := ⟨_, rfl⟩; have hS0 : S = (lexS (s.size + 1) ((bs s).drop 0) 1 1).map ([] ++ ·) := by rw [← hS]; unfold lexO; rw [if_neg (by omega), hbl, List.drop_zero]; cases lexS (s.size + 1) (bs s) 1 1 <;> rfl
 rw [hS]
 refine xo 9 ?_; refine XO.al Tryz.zeroValue87 fun n2 => ?_
 refine stA ?_; refine ox 7 ?_; refine X.at (X.loop (fun (s_ : (Option Addr × Nat × List Tk) × Nat × Int × Int × Nat) => s_.2.1 ≤ s.size ∧ s.size - s_.2.1 < s_.2.2.2.2 ∧ (1 ≤ s_.2.2.1 ∧ s_.2.2.1 ≤ s_.2.1 + 1 ∧ 1 ≤ s_.2.2.2.1 ∧ s_.2.2.2.1 ≤ s_.2.1 + 1 ∧ s_.1.2.2.length ≤ s_.2.1) ∧ S = (lexS s_.2.2.2.2 ((bs s).drop s_.2.1) s_.2.2.1 s_.2.2.2.1).map (s_.1.2.2 ++ ·)) (fun s_ => [(5, .slice s_.1.1 s_.1.2.2.length s_.1.2.1), (7, .int .i64 (s_.2.1 : Int)), (0, .string s), (6, .pointer (some ⟨n2, 0, none⟩)), (2, .slice none 0 0), (3, .pointer (some ⟨n1, 0, none⟩)), (4, .int .i64 0)]) (fun s_ => pto n2 (.cells [.int .i64 s_.2.2.1, .int .i64 s_.2.2.2.1].toArray 87 (0, 0)) :: pto n1 (.cells [.int .i64 0, .int .i64 0].toArray 87 (0, 0)) :: rsH tkC 5 193 s_.1.1 s_.1.2.1 (s_.1.2.2) :: (q ++ F)) (fun s_ => s.size - s_.2.1) (fun s_ hi_ ih => ?_) ((none, 0, []), 0, 1, 1, s.size + 1) ⟨Nat.zero_le _, by dsimp only; omega, ⟨by dsimp only; omega, by dsimp only; omega, by dsimp only; omega, by dsimp only; omega, Nat.le_refl _⟩, hS0⟩) subA (Le.trans leA (Le.trans (Le.rsH_nil tkC 5 193 _) leA))
 try dsimp only at hi_ ih ⊢
 obtain ⟨hi1, hi2, ⟨hi3, hi4, hi5, hi6, hi7⟩, hi8⟩ := hi_
 obtain ⟨⟨a, c, out⟩, k, ln, cl, g⟩ := s_; dsimp only at *; obtain ⟨g, rfl⟩ : ∃ g2, g = g2 + 1 := ⟨g - 1, by omega⟩; clear hS0
 refine xx 8 ?_; refine X.part 20 rfl (fun h1 => ?_) (fun h1 => ?_)
 · replace h1 := sp h1; have hlt : k < (bs s).length := by omega
   have hL := lex_at (g := g) (ln := ln) (cl := cl) hlt; obtain ⟨x, hx⟩ : ∃ x, (bs s).getD k 0 = x := ⟨_, rfl⟩; rw [hx] at hL
   rcases Classical.em (x = 10) with hx1 | hx1
   · refine xo 7 ?_; refine XO.pu (Pu.indexS rfl rfl Tryz.underlying9 (by omega) (by omega)) ?_
     refine XO.know 23 (.int .u8 (x.toNat : Int)) rfl (by rw [← hx]; rfl) ?_
     refine ox 8 ?_; refine X.know 25 (.bool true) rfl (congrArg Value.bool (beq_iff_eq.2 (by rw [hx1]; rfl))) ?_
     refine xo 4 ?_; refine ld ?_; refine oo 4 ?_; refine st ?_; refine oo 1 ?_; refine st ?_; refine ox 3 ?_; refine X.sb [7, 5, 0, 6, 2, 3, 4] ?_; refine X.at (ih ((a, c, out), k + 1, ln + 1, 1, g) ⟨by dsimp only; omega, by dsimp only; omega, ⟨by dsimp only; omega, by dsimp only; omega, by dsimp only; omega, by dsimp only; omega, by dsimp only; omega⟩, by rw [hi8, hL, if_pos hx1]⟩ (by dsimp only; omega)) subA leA
   rcases Classical.em (x = 32 ∨ x = 9 ∨ x = 13) with hx2 | hx2
   · refine xo 7 ?_; refine XO.pu (Pu.indexS rfl rfl Tryz.underlying9 (by omega) (by omega)) ?_
     refine XO.know 23 (.int .u8 (x.toNat : Int)) rfl (by rw [← hx]; rfl) ?_
     refine ox 8 ?_; refine X.know 25 (.bool false) rfl (congrArg Value.bool (beq_eq_false_iff_ne.2 (fun e => hx1 (c8.1 e)))) ?_
     refine xo 8 ?_; refine XO.sb [35, 8, 5, 7, 0, 6, 2, 3, 4] ?_
     apply XO.cutOr 3 38 35 rfl
     · intro g1 M1; have h1 := sp g1
       refine oo 3 ?_; exact XO.fin M1 ⟨orF g1, subB⟩
     · intro g1 M1; have h1 := sp g1
       refine oo 3 ?_; exact XO.fin M1 ⟨orT g1, subB⟩
     refine oo 1 ?_; refine XO.sb [39, 8, 5, 7, 0, 6, 2, 3, 4] ?_
     apply XO.cutOr 3 42 39 rfl
     · intro g1 M1; have h1 := sp g1
       refine oo 3 ?_; exact XO.fin M1 ⟨orF g1, subB⟩
     · intro g1 M1; have h1 := sp g1
       refine oo 3 ?_; exact XO.fin M1 ⟨orT g1, subB⟩
     refine ox 1 ?_; refine X.sb [42, 8, 5, 7, 0, 6, 2, 3, 4] ?_; refine X.know 42 (.bool true) rfl (congrArg Value.bool (spT hx2)) ?_; refine xo 4 ?_; refine ld ?_; refine oo 4 ?_; refine st ?_; refine ox 3 ?_; refine X.at (ih ((a, c, out), k + 1, ln, cl + 1, g) ⟨by dsimp only; omega, by dsimp only; omega, ⟨by dsimp only; omega, by dsimp only; omega, by dsimp only; omega, by dsimp only; omega, by dsimp only; omega⟩, by rw [hi8, hL, if_neg hx1, if_pos hx2]⟩ (by dsimp only; omega)) subA leA
   rcases Classical.em (x = 35) with hx3 | hx3
   · refine xo 7 ?_; refine XO.pu (Pu.indexS rfl rfl Tryz.underlying9 (by omega) (by omega)) ?_
     refine XO.know 23 (.int .u8 (x.toNat : Int)) rfl (by rw [← hx]; rfl) ?_
     refine ox 8 ?_; refine X.know 25 (.bool false) rfl (congrArg Value.bool (beq_eq_false_iff_ne.2 (fun e => hx1 (c8.1 e)))) ?_
     refine xo 8 ?_; refine XO.sb [35, 8, 5, 7, 0, 6, 2, 3, 4] ?_
     apply XO.cutOr 3 38 35 rfl
     · intro g1 M1; have h1 := sp g1
       refine oo 3 ?_; exact XO.fin M1 ⟨orF g1, subB⟩
     · intro g1 M1; have h1 := sp g1
       refine oo 3 ?_; exact XO.fin M1 ⟨orT g1, subB⟩
     refine oo 1 ?_; refine XO.sb [39, 8, 5, 7, 0, 6, 2, 3, 4] ?_
     apply XO.cutOr 3 42 39 rfl
     · intro g1 M1; have h1 := sp g1
       refine oo 3 ?_; exact XO.fin M1 ⟨orF g1, subB⟩
     · intro g1 M1; have h1 := sp g1
       refine oo 3 ?_; exact XO.fin M1 ⟨orT g1, subB⟩
     refine ox 1 ?_; refine X.sb [42, 8, 5, 7, 0, 6, 2, 3, 4] ?_; refine X.know 42 (.bool false) rfl (congrArg Value.bool (spF hx2)) ?_; refine xx 8 ?_; refine X.know 50 (.bool true) rfl (congrArg Value.bool (beq_iff_eq.2 (by rw [hx3]; rfl))) ?_
     refine xx 3 ?_; refine X.at (X.loop (fun (j : Nat) => k ≤ j ∧ j ≤ s.size ∧ ((bs s).drop k).dropWhile (· != 10) = ((bs s).drop j).dropWhile (· != 10) ∧ (((bs s).drop k).takeWhile (· != 10)).length = (j - k) + (((bs s).drop j).takeWhile (· != 10)).length) (fun j => [(7, .int .i64 (j : Int)), (0, .string s), (5, .slice a out.length c), (6, .pointer (some ⟨n2, 0, none⟩)), (2, .slice none 0 0), (3, .pointer (some ⟨n1, 0, none⟩)), (4, .int .i64 0)]) (fun j => pto n2 (.cells [.int .i64 ln, .int .i64 (cl + (j - k : Nat))].toArray 87 (0, 0)) :: pto n1 (.cells [.int .i64 0, .int .i64 0].toArray 87 (0, 0)) :: rsH tkC 5 193 a c (out) :: (q ++ F)) (fun j => s.size - j) (fun j hi_ ihj => ?_) k ⟨Nat.le_refl _, by omega, rfl, by omega⟩) subA (by rw [Nat.sub_self, show (cl + ((0 : Nat) : Int)) = cl by omega]; exact leA)
     try dsimp only at hi_ ihj ⊢
     obtain ⟨hj1, hj2, hj3, hj4⟩ := hi_
     refine xo 8 ?_; refine XO.sb [55, 7, 0, 5, 6, 2, 3, 4] ?_
     apply XO.cutAnd 5 60 55 rfl
     · intro g1 M1; have h1 := sp g1
       refine oo 2 ?_; refine XO.pu (Pu.indexS rfl rfl Tryz.underlying9 (by omega) (by omega)) ?_
       refine XO.know 58 (.int .u8 (((bs s).getD j 0).toNat : Int)) rfl (rfl) ?_; refine oo 2 ?_; exact XO.fin M1 ⟨andT g1, subB⟩
     · intro g1 M1; have h1 := sp g1
       refine oo 5 ?_; exact XO.fin M1 ⟨andF g1, subB⟩
     refine ox 1 ?_; refine X.part 60 rfl (fun h1 => ?_) (fun h1 => ?_)
     · replace h1 := sp h1
       refine xo 5 ?_; refine ld ?_; refine oo 4 ?_; refine st ?_; refine ox 3 ?_
       have hsk := skip_at (l := bs s) (k := j) (by omega) (fun e => h1.2 (c8.2 e))
       refine X.at (ihj (j + 1) ⟨by omega, by omega, by rw [hj3, hsk.1], by rw [hj4, hsk.2]; omega⟩ (by omega)) subA (by rw [show (cl + ((j + 1 - k : Nat) : Int)) = cl + ((j - k : Nat) : Int) + 1 by omega]; exact leA)
     replace h1 := sp h1
     refine xx 3 ?_
     have hj : (bs s).length ≤ j ∨ (bs s).getD j 0 = 10 := by rcases h1 with h1 | h1; exact .inl (by omega); exact .inr (c8.1 (by first | exact h1.2 | exact h1))
     have hjk : k < j := by rcases Nat.lt_or_ge k j with h | h; exact h; obtain rfl : j = k := (by omega); rcases hj with h | h; omega; exact absurd (hx.symm.trans h) hx1
     refine X.at (ih ((a, c, out), j, ln, cl + (j - k : Nat), g) ⟨by dsimp only; omega, by dsimp only; omega, ⟨by dsimp only; omega, by dsimp only; omega, by dsimp only; omega, by dsimp only; omega, by dsimp only; omega⟩, by rw [hi8, hL, if_neg hx1, if_neg hx2, if_pos hx3, hj3, (skip_end hj).1, hj4, (skip_end hj).2, Nat.add_zero]⟩ (by dsimp only; omega)) subA leA
   refine xo 7 ?_; refine XO.pu (Pu.indexS rfl rfl Tryz.underlying9 (by omega) (by omega)) ?_
   refine XO.know 23 (.int .u8 (x.toNat : Int)) rfl (by rw [← hx]; rfl) ?_
   refine ox 8 ?_; refine X.know 25 (.bool false) rfl (congrArg Value.bool (beq_eq_false_iff_ne.2 (fun e => hx1 (c8.1 e)))) ?_
   refine xo 8 ?_; refine XO.sb [35, 8, 5, 7, 0, 6, 2, 3, 4] ?_
   apply XO.cutOr 3 38 35 rfl
   · intro g1 M1; have h1 := sp g1
     refine oo 3 ?_; exact XO.fin M1 ⟨orF g1, subB⟩
   · intro g1 M1; have h1 := sp g1
     refine oo 3 ?_; exact XO.fin M1 ⟨orT g1, subB⟩
   refine oo 1 ?_; refine XO.sb [39, 8, 5, 7, 0, 6, 2, 3, 4] ?_
   apply XO.cutOr 3 42 39 rfl
   · intro g1 M1; have h1 := sp g1
     refine oo 3 ?_; exact XO.fin M1 ⟨orF g1, subB⟩
   · intro g1 M1; have h1 := sp g1
     refine oo 3 ?_; exact XO.fin M1 ⟨orT g1, subB⟩
   refine ox 1 ?_; refine X.sb [42, 8, 5, 7, 0, 6, 2, 3, 4] ?_; refine X.know 42 (.bool false) rfl (congrArg Value.bool (spF hx2)) ?_; refine xx 8 ?_; refine X.know 50 (.bool false) rfl (congrArg Value.bool (beq_eq_false_iff_ne.2 (fun e => hx3 (c8.1 e)))) ?_
   refine xo 6 ?_; refine XO.cX Tryz.call140 (Le.refl _) (lxone_ok (n := k) (by omega) h63) ?_
   rintro _ _ ⟨⟨ck, W, z, hO, hW0, hWl, rfl⟩ | ⟨hO, t, z, e, he, rfl⟩, rfl⟩
   · refine oo 4 ?_; refine XO.al Tryz.zeroValue193 fun n3 => ?_
     refine stA ?_; refine ox 9 ?_; refine X.kf 75 ?_; refine xo 4 ?_; refine ldA ?_; refine oo 1 ?_; refine stA ?_; refine oo 4 ?_; refine ldA ?_
     rw [List.length_drop] at hWl
     obtain ⟨tk, htk⟩ : ∃ tk : Tk, tk = ⟨ck, ba W, z, ln, cl⟩ := ⟨_, rfl⟩
     refine XO.know 81 (.agg (tkC tk).toArray) rfl (by rw [htk]; rfl) ?_
     refine XO.ef (Ef.litR1 (u := tk) tkC Tryz.underlying180 tinfo193 rfl rfl (fun _ => rfl) rfl) ?_
     rintro _ _ ⟨g2, rfl, rfl⟩
     refine XO.ef (Ef.appRA (f := tkC) (l := out) (m := [tk]) Tryz.underlying180 tinfo193 rfl rfl (fun _ => rfl) rfl rfl fndA ((Sees.rsH _).le fndA) (fun _ => rfl) (by simp; omega) (by simp; omega)) ?_
     rintro _ _ ⟨a3, c3, rfl, rfl⟩
     refine oo 4 ?_; refine ld ?_; refine oo 6 ?_; refine st ?_; refine ox 3 ?_; refine X.sb [7, 5, 0, 6, 2, 3, 4] ?_; refine X.at (ih ((a3, c3, out ++ [tk]), k + W.length, ln, cl + W.length, g) ⟨by dsimp only; omega, by dsimp only; omega, ⟨by dsimp only; omega, by dsimp only; omega, by dsimp only; omega, by dsimp only; omega, by simp; omega⟩, by rw [hi8, hL, if_neg hx1, if_neg hx2, if_neg hx3, hO, htk]; simp only [Option.map_map]; congr 1; funext r; simp⟩ (by dsimp only; omega)) subA leA
   refine oo 4 ?_; refine XO.al Tryz.zeroValue193 fun n4 => ?_
   refine stA ?_; refine ox 9 ?_; refine X.know 75 (.bool true) rfl (congrArg Value.bool (by simpa using he)) ?_
   refine xx 2 ?_; refine X.sb [11, 10, 9, 5, 7, 0, 6, 2, 3, 4] ?_; refine drw ?_; refine ldAD 0 ?_; refine dd [1, 2] ?_; refine stAD 3 ?_; refine dd [4] ?_; refine XD.nil ?_; refine X.retL (q) Tryz.func94 (resC Tryz.results94 (ResOk.tmp rfl (ResOk.cell rfl (LV.agg Tryz.isAgg87 Tryz.sizeOf87 hasA rfl) (ResOk.tmp rfl ResOk.nil)))) ⟨_, rfl, .inr ⟨by rw [hi8, hL, if_neg hx1, if_neg hx2, if_neg hx3, hO]; rfl, ln, cl, e, he, rfl, rfl⟩⟩
 replace h1 := sp h1; obtain rfl : k = s.size := by omega
 refine xo 7 ?_; refine stA ?_; refine ox 2 ?_; refine X.retL (rsH tkC 5 193 a c (out) :: q) Tryz.func94 (resC Tryz.results94 (ResOk.tmp rfl (ResOk.cell rfl (LV.agg Tryz.isAgg87 Tryz.sizeOf87 hasA rfl) (ResOk.tmp rfl ResOk.nil)))) ⟨_, rfl, .inl ⟨out, a, c, by rw [hi8, lex_end (by omega)]; simp, rfl, rfl⟩⟩
end
mutual
def PEx.nd : PEx → Nat
 | .mk k _ _ _ _ _ args => (if k = 0 then 0 else 1) + PEx.nds args
def PEx.nds : List PEx → Nat
 | [] => 0
 | e :: r => e.nd + PEx.nds r
end
mutual
def PStm.nd : PStm → Nat
 | .mk _ _ _ _ _ e ix body els _ _ _ _ => 1 + e.nd + ix.nd + PStm.nds body + PStm.nds els
def PStm.nds : List PStm → Nat
 | [] => 0
 | s :: r => s.nd + PStm.nds r
end
theorem lex_fin : ∀ {g : Nat} {l : Bs} {ln cl : Int} {ts : List Tk}, lexS g l ln cl = some ts → ts.length ≤ l.length ∧ ∀ t ∈ ts, 0 ≤ t.n ∧ t.n ≤ 2147483647
 | 0, _, _, _, _, h => by cases h
 | g + 1, [], _, _, ts, h => by cases h; exact ⟨Nat.le_refl _, fun t ht => by cases ht⟩
 | g + 1, c :: r, ln, cl, ts, h => by
  rw [lexS] at h
  split at h
  · have := lex_fin h; exact ⟨by simp; omega, this.2⟩
  split at h
  · have := lex_fin h; exact ⟨by simp; omega, this.2⟩
  split at h
  · have := lex_fin h; refine ⟨Nat.le_trans this.1 ?_, this.2⟩; exact (List.dropWhile_sublist _).length_le
  split at h
  · cases h
  rename_i k w n ho
  cases hl : lexS g ((c :: r).drop w.length) ln (cl + w.length) with
  | none => rw [hl] at h; cases h
  | some us =>
   rw [hl] at h; cases h
   have := lex_fin hl
   have hw : 0 < w.length ∧ 0 ≤ n ∧ n ≤ 2147483647 := by
    unfold oneW at ho; dsimp only at ho
    have hp : ∀ s ∈ signsS, 0 < s.length := by decide
    split at ho
    · rename_i hc
      split at ho
      · rename_i x hx
        cases ho
        refine ⟨by rw [List.length_take]; have := runS_le (c :: r); omega, ?_⟩
        unfold numS at hx
        split at hx
        · rename_i ha
          split at hx
          · cases hx; rename_i hb
            rw [Bool.and_eq_true] at ha
            exact ⟨(valS_bd ha.1).1, hb.1⟩
          cases hx
        cases hx
      cases ho
    split at ho
    · rename_i hc; cases ho; exact ⟨by rw [List.length_take]; have := runS_le (c :: r); omega, by decide, by decide⟩
    split at ho
    · cases ho
    split at ho
    · cases ho; exact ⟨by rw [List.length_take]; have := runS_le (c :: r); omega, by decide, by decide⟩
    split at ho
    · rename_i hf; cases ho; exact ⟨hp _ (List.mem_of_find?_eq_some hf), by decide, by decide⟩
    cases ho
   refine ⟨?_, ?_⟩
   · have h1 := this.1; rw [List.length_drop] at h1; simp at h1 ⊢; omega
   intro t ht
   rcases List.mem_cons.1 ht with rfl | ht
   · exact hw.2
   exact this.2 t ht
theorem tkW_len {s : Bs} {ts r : List Tk} (h : tkW s ts = some r) : r.length + 1 ≤ ts.length := by
 unfold tkW at h
 split at h
 · cases h; rename_i hw; cases ts with
   | nil => cases hw
   | cons t r => simp
 cases h
theorem mustS_len {s : Bs} {ts r : List Tk} {u : Unit} (h : mustS s ts = some (u, r)) : r.length + 1 ≤ ts.length := tkW_len (mustS_tk.1 h)
theorem nameS_len {ts r : List Tk} {x : ByteArray} (h : nameS ts = some (x, r)) : r.length + 1 ≤ ts.length := by
 cases ts with
 | nil => cases h
 | cons t l => simp only [nameS] at h; split at h <;> cases h; simp
theorem numbS_len {ts r : List Tk} {x : Int} (h : numbS ts = some (x, r)) : r.length + 1 ≤ ts.length := by
 cases ts with
 | nil => cases h
 | cons t l => simp only [numbS] at h; split at h <;> cases h; simp
theorem nextO_len {n : Int} {ts : List Tk} (h : nextO n ts ≠ 0) : ts.tail.length + 1 = ts.length := by
 cases ts with
 | nil => exact absurd (by unfold nextO; simp [nextW, isW]) h
 | cons t r => simp
theorem expr_nd : ∀ f, (∀ n ts e r, exprS f n ts = some (e, r) → e.nd + r.length ≤ ts.length ∧ e.dep + r.length ≤ ts.length) ∧ (∀ n x ts e r, moreS f n x ts = some (e, r) → e.nd + r.length ≤ ts.length + x.nd ∧ (∀ B, x.dep + ts.length ≤ B → ts.length ≤ B → e.dep + r.length ≤ B)) ∧
 (∀ ts e r, unS f ts = some (e, r) → e.nd + r.length ≤ ts.length ∧ e.dep + r.length ≤ ts.length) ∧ (∀ ts e r, primS f ts = some (e, r) → e.nd + r.length ≤ ts.length ∧ e.dep + r.length ≤ ts.length) := by
 intro f
 induction f with
 | zero => exact ⟨fun _ _ _ _ h => (by cases h), fun _ _ _ _ _ h => (by cases h), fun _ _ _ h => (by cases h), fun _ _ _ h => by cases h⟩
 | succ f ih =>
  obtain ⟨ih1, ih2, ih3, ih4⟩ := ih
  refine ⟨fun n ts e r h => ?_, fun n x ts e r h => ?_, fun ts e r h => ?_, fun ts e r h => ?_⟩
  · rw [exprS] at h
    split at h
    · exact ih3 _ _ _ h
    split at h
    · cases h
    rename_i e1 r1 h1
    have k1 := ih1 _ _ _ _ h1
    have k2 := ih2 _ _ _ _ _ h
    exact ⟨by omega, k2.2 _ k1.2 (by omega)⟩
  · rw [moreS] at h
    split at h
    · cases h; exact ⟨by omega, fun B h1 _ => h1⟩
    rename_i hn
    have hl := nextO_len hn
    split at h
    · cases h
    rename_i x1 r1 h1
    have k1 := ih1 _ _ _ _ h1
    have hd : (PEx.mk 6 0 em 0 false (nextO n ts) [x, x1]).nd = 1 + (x.nd + (x1.nd + 0)) := rfl
    have he : (PEx.mk 6 0 em 0 false (nextO n ts) [x, x1]).dep = max x.dep (max x1.dep 0) + 1 := rfl
    split at h
    · cases h; exact ⟨by omega, fun B h1 h2 => by omega⟩
    have k2 := ih2 _ _ _ _ _ h
    exact ⟨by omega, fun B h1 h2 => k2.2 B (by omega) (by omega)⟩
  · rw [unS] at h
    split at h
    · rename_i r1 h1
      have hl := tkW_len h1
      split at h
      · cases h
      rename_i x1 r2 h2
      cases h
      have k1 := ih3 _ _ _ h2
      have hd : (PEx.mk 4 0 em 0 false 0 [x1]).nd = 1 + (x1.nd + 0) := rfl
      have he : (PEx.mk 4 0 em 0 false 0 [x1]).dep = max x1.dep 0 + 1 := rfl
      exact ⟨by omega, by omega⟩
    split at h
    · rename_i r1 h1
      have hl := tkW_len h1
      split at h
      · cases h
      rename_i x1 r2 h2
      cases h
      have k1 := ih3 _ _ _ h2
      have hd : (PEx.mk 5 0 em 0 false 0 [x1]).nd = 1 + (x1.nd + 0) := rfl
      have he : (PEx.mk 5 0 em 0 false 0 [x1]).dep = max x1.dep 0 + 1 := rfl
      exact ⟨by omega, by omega⟩
    exact ih4 _ _ _ h
  rw [primS] at h
  split at h
  · rename_i r1 h1
    have hl := tkW_len h1
    split at h
    · cases h
    rename_i x1 r2 h2
    have k1 := ih1 _ _ _ _ h2
    split at h
    · cases h
    rename_i r3 h3
    cases h
    have := tkW_len h3
    exact ⟨by omega, by omega⟩
  split at h
  · rename_i z r1 h1
    cases h
    have := numbS_len h1
    have hd : ∀ z, (PEx.mk 1 z em 0 false 0 []).nd = 1 + 0 := fun _ => rfl
    have he : ∀ z, (PEx.mk 1 z em 0 false 0 []).dep = 0 + 1 := fun _ => rfl
    exact ⟨by rw [hd]; omega, by rw [he]; omega⟩
  split at h
  · cases h
  rename_i nm r1 h1
  have hl := nameS_len h1
  split at h
  · cases h
    have hd : (PEx.mk 2 0 nm 0 false 0 []).nd = 1 + 0 := rfl
    have he : (PEx.mk 2 0 nm 0 false 0 []).dep = 0 + 1 := rfl
    exact ⟨by omega, by omega⟩
  rename_i r2 h2
  have hl2 := tkW_len h2
  split at h
  · cases h
  rename_i x1 r3 h3
  have k1 := ih1 _ _ _ _ h3
  split at h
  · cases h
  rename_i r4 h4
  cases h
  have := tkW_len h4
  have hd : (PEx.mk 3 0 nm 0 false 0 [x1]).nd = 1 + (x1.nd + 0) := rfl
  have he : (PEx.mk 3 0 nm 0 false 0 [x1]).dep = max x1.dep 0 + 1 := rfl
  exact ⟨by omega, by omega⟩
theorem bnd_some {α β : Type} {A : Option (α × List Tk)} {K : α → List Tk → Option β} {y : β} (h : bnd A K = some y) : ∃ x r, A = some (x, r) ∧ K x r = some y := by
 cases A with
 | none => cases h
 | some x => exact ⟨x.1, x.2, rfl, h⟩
mutual
theorem PStm.bdd_le {B C : Nat} (h : B ≤ C) : ∀ {s : PStm}, s.bdd B → s.bdd C
 | .mk _ _ _ _ _ _ _ _ _ _ _ _ _, ⟨h1, h2, h3, h4⟩ => ⟨Nat.le_trans h1 h, Nat.le_trans h2 h, PStm.bdds_le h h3, PStm.bdds_le h h4⟩
theorem PStm.bdds_le {B C : Nat} (h : B ≤ C) : ∀ {l : List PStm}, PStm.bdds B l → PStm.bdds C l
 | [], _ => trivial
 | _ :: _, ⟨h1, h2⟩ => ⟨PStm.bdd_le h h1, PStm.bdds_le h h2⟩
end
theorem z_nd : PEx.z.nd = 0 := rfl
theorem z_dep : PEx.z.dep = 1 := rfl
theorem st_nd {k ln cl : Int} {nm wt : ByteArray} {e ix : PEx} {b l : List PStm} {i s o : Int} {lo : Bool} : (PStm.mk k ln cl nm wt e ix b l i s o lo).nd = 1 + e.nd + ix.nd + PStm.nds b + PStm.nds l := rfl
theorem rest_nd {f : Nat} {k : Int} {p : Int × Int} {nm : ByteArray} {ts r : List Tk} {s : PStm} {B : Nat} (hB : ts.length + 1 ≤ B) (h : restS f k p nm ts = some (s, r)) : s.nd + r.length ≤ ts.length ∧ s.bdd B := by
 unfold restS at h
 split at h
 · split at h
   · rename_i hw
     have hl : ts.tail.length + 1 = ts.length := by cases ts with
      | nil => cases hw
      | cons t r => simp
     obtain ⟨ix, r1, h1, h⟩ := bnd_some h
     obtain ⟨_, r2, h2, h⟩ := bnd_some h
     obtain ⟨_, r3, h3, h⟩ := bnd_some h
     obtain ⟨e, r4, h4, h⟩ := bnd_some h
     obtain ⟨_, r5, h5, h⟩ := bnd_some h
     cases h
     have k1 := (expr_nd _).1 _ _ _ _ h1; have k2 := mustS_len h2; have k3 := mustS_len h3; have k4 := (expr_nd _).1 _ _ _ _ h4; have k5 := mustS_len h5
     exact ⟨by rw [st_nd]; simp only [PStm.nds]; omega, by omega, by omega, trivial, trivial⟩
   obtain ⟨_, r3, h3, h⟩ := bnd_some h
   obtain ⟨e, r4, h4, h⟩ := bnd_some h
   obtain ⟨_, r5, h5, h⟩ := bnd_some h
   cases h
   have k3 := mustS_len h3; have k4 := (expr_nd _).1 _ _ _ _ h4; have k5 := mustS_len h5
   exact ⟨by rw [st_nd, z_nd]; simp only [PStm.nds]; omega, by omega, by rw [z_dep]; omega, trivial, trivial⟩
 split at h
 · obtain ⟨_, r3, h3, h⟩ := bnd_some h
   obtain ⟨e, r4, h4, h⟩ := bnd_some h
   obtain ⟨_, r5, h5, h⟩ := bnd_some h
   cases h
   have k3 := mustS_len h3; have k4 := (expr_nd _).1 _ _ _ _ h4; have k5 := mustS_len h5
   exact ⟨by rw [st_nd, z_nd]; simp only [PStm.nds]; omega, by omega, by rw [z_dep]; omega, trivial, trivial⟩
 split at h
 · obtain ⟨wt, r3, h3, h⟩ := bnd_some h
   obtain ⟨_, r5, h5, h⟩ := bnd_some h
   cases h
   have k3 := nameS_len h3; have k5 := mustS_len h5
   exact ⟨by rw [st_nd, z_nd]; simp only [PStm.nds]; omega, by rw [z_dep]; omega, by rw [z_dep]; omega, trivial, trivial⟩
 split at h
 · obtain ⟨e, r4, h4, h⟩ := bnd_some h
   obtain ⟨_, r5, h5, h⟩ := bnd_some h
   cases h
   have k4 := (expr_nd _).1 _ _ _ _ h4; have k5 := mustS_len h5
   exact ⟨by rw [st_nd, z_nd]; simp only [PStm.nds]; omega, by omega, by rw [z_dep]; omega, trivial, trivial⟩
 obtain ⟨_, r5, h5, h⟩ := bnd_some h
 cases h
 have k5 := mustS_len h5
 exact ⟨by rw [st_nd, z_nd]; simp only [PStm.nds]; omega, by rw [z_dep]; omega, by rw [z_dep]; omega, trivial, trivial⟩
theorem kind_len {ts : List Tk} (h : kindS ts ≠ 0) : ts.tail.length + 1 = ts.length := by
 cases ts with
 | nil => exact absurd (by decide) h
 | cons t r => simp
theorem stmt_nd (B : Nat) : ∀ f, (∀ ts s r, ts.length + 1 ≤ B → stmtS f ts = some (s, r) → s.nd + r.length ≤ ts.length ∧ s.bdd B) ∧ (∀ ts l r, ts.length + 1 ≤ B → blockS f ts = some (l, r) → PStm.nds l + r.length ≤ ts.length ∧ PStm.bdds B l) ∧ (∀ ts l r, ts.length + 1 ≤ B → stmtsS f ts = some (l, r) → PStm.nds l + r.length ≤ ts.length ∧ PStm.bdds B l) := by
 intro f
 induction f with
 | zero => exact ⟨fun _ _ _ _ h => (by cases h), fun _ _ _ _ h => (by cases h), fun _ _ _ _ h => by cases h⟩
 | succ f ih =>
  obtain ⟨ih1, ih2, ih3⟩ := ih
  refine ⟨fun ts s r hB h => ?_, fun ts l r hB h => ?_, fun ts l r hB h => ?_⟩
  · rw [stmtS] at h
    split at h
    · rename_i hk
      have hl := kind_len (ts := ts) (by omega)
      obtain ⟨e, r1, h1, h⟩ := bnd_some h
      obtain ⟨b, r2, h2, h⟩ := bnd_some h
      have k1 := (expr_nd _).1 _ _ _ _ h1
      have k2 := ih2 _ _ _ (by omega) h2
      split at h
      · rename_i hw
        have hl2 : r2.tail.length + 1 = r2.length := by
         have := hw.2
         cases r2 with
         | nil => cases this
         | cons t r => simp
        obtain ⟨b2, r3, h3, h⟩ := bnd_some h
        cases h
        have k3 := ih2 _ _ _ (by omega) h3
        exact ⟨by rw [st_nd, z_nd]; omega, by omega, by rw [z_dep]; omega, k2.2, k3.2⟩
      cases h
      exact ⟨by rw [st_nd, z_nd]; simp only [PStm.nds]; omega, by omega, by rw [z_dep]; omega, k2.2, trivial⟩
    split at h
    · rename_i hk
      have hl := kind_len (ts := ts) (by omega)
      have := rest_nd (B := B) (by omega) h
      exact ⟨by omega, this.2⟩
    obtain ⟨nm, r1, h1, h⟩ := bnd_some h
    have k1 := nameS_len h1
    have hl : (if 0 < kindS ts then ts.tail else ts).length ≤ ts.length := by split <;> simp
    have := rest_nd (B := B) (by omega) h
    exact ⟨by omega, this.2⟩
  · rw [blockS] at h
    obtain ⟨_, r1, h1, h⟩ := bnd_some h
    obtain ⟨l1, r2, h2, h⟩ := bnd_some h
    obtain ⟨_, r3, h3, h⟩ := bnd_some h
    cases h
    have k1 := mustS_len h1
    have k2 := ih3 _ _ _ (by omega) h2
    have k3 := mustS_len h3
    exact ⟨by omega, k2.2⟩
  rw [stmtsS] at h
  split at h
  · cases h; exact ⟨by simp [PStm.nds], trivial⟩
  obtain ⟨s, r1, h1, h⟩ := bnd_some h
  obtain ⟨l1, r2, h2, h⟩ := bnd_some h
  cases h
  have k1 := ih1 _ _ _ hB h1
  have k2 := ih3 _ _ _ (by omega) h2
  exact ⟨by simp only [PStm.nds]; omega, k1.2, k2.2⟩
theorem decl_nd {f : Nat} {ts r : List Tk} {d : PDec} {B : Nat} (hB : ts.length + 1 ≤ B) (h : declS f ts = some (d, r)) : PStm.nds d.body + r.length + 1 ≤ ts.length ∧ PStm.bdds B d.body ∧ (1 ≤ d.k ∧ d.k ≤ 6) := by
 have hk6 : dkS ts ≤ 6 := lastW_le
 unfold declS at h
 split at h
 · cases h
 rename_i h0
 obtain ⟨nm, r1, h1, h⟩ := bnd_some h
 have k1 := nameS_len h1
 have hl : ts.tail.length + 1 = ts.length := by
  cases ts with
  | nil => exact absurd (show dkS [] = 0 by decide) h0
  | cons t r => simp
 split at h
 · obtain ⟨b, r2, h2, h⟩ := bnd_some h
   cases h
   have k2 := (stmt_nd B f).2.1 _ _ _ (by omega) h2
   exact ⟨by dsimp only; omega, k2.2, by dsimp only; omega⟩
 obtain ⟨n, r2, h2, h⟩ := bnd_some h
 obtain ⟨_, r3, h3, h⟩ := bnd_some h
 cases h
 have k3 := mustS_len h3
 have k2 : r2.length ≤ r1.length := by
  unfold numD at h2
  split at h2
  · obtain ⟨_, r4, h4, h2⟩ := bnd_some h2
    have := mustS_len h4
    split at h2
    · obtain ⟨z, r5, h5, h2⟩ := bnd_some h2
      cases h2
      have := numbS_len h5; have h6 : r4.tail.length ≤ r4.length := by simp
      omega
    have := numbS_len h2; omega
  split at h2
  · have := numbS_len h2; omega
  cases h2; exact Nat.le_refl _
 exact ⟨by simp only [PStm.nds]; omega, trivial, by dsimp only; omega⟩
theorem decls_nd {G : Nat} : ∀ {f : Nat} {ts : List Tk} {ds : List PDec} {B : Nat}, ts.length + 1 ≤ B → declsS G f ts = some ds → (ds.map fun d => PStm.nds d.body + 1).sum ≤ ts.length ∧ ∀ d ∈ ds, PStm.bdds B d.body ∧ (1 ≤ d.k ∧ d.k ≤ 6)
 | 0, _, _, _, _, h => by cases h
 | f + 1, ts, ds, B, hB, h => by
  rw [declsS] at h
  split at h
  · cases h; exact ⟨by simp, fun d hd => by cases hd⟩
  obtain ⟨d, r, h1, h⟩ := bnd_some h
  cases h2 : declsS G f r with
  | none => rw [h2] at h; cases h
  | some us =>
   rw [h2] at h; cases h
   have k1 := decl_nd hB h1
   have k2 := decls_nd (B := B) (by omega) h2
   refine ⟨by simp only [List.map_cons, List.sum_cons]; omega, fun d hd => ?_⟩
   rcases List.mem_cons.1 hd with rfl | hd
   · exact k1.2
   exact k2.2 d hd
def MoreD (L : List Tk) (S : Option (List PDec)) (G g : Nat) (l : List PDec) (n : Nat) (b : Bool) : Prop := (b = false ∧ S = (declsS G g (L.drop n)).map (l ++ ·)) ∨ (b = true ∧ S = none)
section
variable {L : List Tk} {S : Option (List PDec)} {G g n m : Nat} {l : List PDec} {d : PDec} {b : Bool}
theorem MoreD.go (h : MoreD L S G (g + 1) l n false) (hn : n < L.length) (ho : Out L false (declS G (L.drop n)) d m b) : MoreD L S G g (l ++ [d]) m b := by
 rcases h with ⟨_, e⟩ | ⟨e, _⟩
 · have hne : L.drop n ≠ [] := by rw [List.drop_eq_getElem_cons hn]; exact List.cons_ne_nil _ _
   rcases ho with ⟨k1, _, k3⟩ | ⟨k1, k2⟩
   · refine .inl ⟨k1, ?_⟩
     rw [e, declsS, if_neg hne, k3]; simp only [bnd]; cases declsS G g (L.drop m) <;> simp
   refine .inr ⟨k1, ?_⟩
   rw [e, declsS, if_neg hne, k2.resolve_left (by decide)]; rfl
 cases e
theorem MoreD.over (h : MoreD L S G (g + 1) l n false) (hn : L.length ≤ n) : S = some l := by
 rcases h with ⟨_, e⟩ | ⟨e, _⟩
 · rw [e, List.drop_eq_nil_of_le hn, declsS, if_pos rfl]; simp
 cases e
theorem MoreD.bad (h : MoreD L S G g l n true) : S = none := by
 rcases h with ⟨e, _⟩ | ⟨_, e⟩
 · cases e
 exact e
end
theorem parse_none {l : Bs} (h : lexO l = none) : parseS l = none := by
 unfold lexO at h; unfold parseS
 split
 · rfl
 rw [if_neg ‹_›] at h; rw [h]
theorem parse_some {l : Bs} {ts : List Tk} (h : lexO l = some ts) : parseS l = (match declsS (10 * ts.length + 20) (ts.length + 1) ts with | none => none | some ds => if ds.any (fun d => PStm.deeps d.body 1) = true then none else some ds) := by
 unfold lexO at h; unfold parseS
 split
 · rw [if_pos ‹_›] at h; cases h
 rw [if_neg ‹_›] at h; simp only [h]; rfl
theorem lexO_fin {l : Bs} {ts : List Tk} (h : lexO l = some ts) : ts.length ≤ 65536 ∧ ∀ t ∈ ts, 0 ≤ t.n ∧ t.n ≤ 2147483647 := by
 unfold lexO at h
 split at h
 · cases h
 have := lex_fin h; exact ⟨by omega, this.2⟩
def DcsAt (M : Hp) (a : Option Addr) (c : Nat) (l : List Dec) : Prop := SlAt M a c l.length (l.flatMap dcC) ∧ Decs.At M l
theorem DcsAt.mono {a : Option Addr} {c : Nat} {l : List Dec} {M M' : Hp} (e : Hle M M') (h : DcsAt M a c l) : DcsAt M' a c l := ⟨h.1.mono e, h.2.mono e⟩
def dsM (a : Option Addr) (c : Nat) (l : List Dec) : HP := lst (fun M => DcsAt M a c l) DcsAt.mono
theorem Kn.dsA {q : List HP} {a : Option Addr} {c : Nat} {l : List Dec} (h : Kn q fun M => DcsAt M a c l) : Sees q a (l.flatMap dcC) := Kn.sees (h.imp fun M h => h.1.2.2)
theorem Kn.dsI {q : List HP} {a : Option Addr} {c : Nat} {l : List Dec} (h : Kn q fun M => DcsAt M a c l) {i : Nat} (hi : i < l.length) : Kn q fun M => BlkAt M l[i].ba l[i].bc l[i].body := h.imp fun M h => h.2 _ (List.getElem_mem hi)
theorem X.dcs {P : Program} {G : World} {fr : Fc} {Q : Post} {todo : List Item} {p : PE} {ds : List Deferred} {cs : List Frame} {q q1 q2 : List HP} {l : List Dec} {s : Dec} (h1 : Le q (dcsM l :: q1)) (h2 : Le q1 (dcM s :: q2)) (K : X P G fr Q todo p ds cs (dcsM (l ++ [s]) :: q2)) : X P G fr Q todo p ds cs q := .le (h1.trans ((Le.cons _ h2).trans Le.dcs_snoc)) K
theorem X.fzD {P : Program} {G : World} {fr : Fc} {Q : Post} {todo : List Item} {p : PE} {ds : List Deferred} {cs : List Frame} {q q0 : List HP} {a : Option Addr} {c : Nat} {m : List Dec} (K : X P G fr Q todo p ds cs (dsM a c m :: q0)) (hq : Le q (rsH dcC 6 188 a c m :: q0) := by exact fndA) (h : Kn q0 fun M => Decs.At M m := by exact knA) : X P G fr Q todo p ds cs q := .frzR (Kn.here.and h.there) K hq
section
variable {G : World} {q : List HP} {s : ByteArray} {n : Nat}
theorem tinfo188 : (Tryz.prog.info? 188).map (fun i => (i.zero, i.size, i.bytes)) = some (some (.agg #[.int .i64 0, .int .i64 0, .int .i64 0, .string ⟨#[]⟩, .int .i64 0, .slice none 0 0]), 6, 72) := by kernel_rfl
theorem lxplace_ok (hn : n ≤ s.size) (h63 : s.size ≤ 65536) : CallF Tryz.prog G 148 [.string s, .int .i64 (n : Int)] (q) (Ret fun v q' => ∃ y z : Int, v = .agg [.int .i64 y, .int .i64 z].toArray ∧ q' = q) := by
 refine CallF.of Tryz.func148 Tryz.ntmps148 rfl (fun F cs => ?_)
 refine xo 2 ?_; refine XO.al Tryz.zeroValue87 fun n1 => ?_
 refine oo 4 ?_; refine XO.al Tryz.zeroValue87 fun n2 => ?_
 refine stA ?_; refine ox 7 ?_; refine X.at (X.loop (fun (k : Nat × Int × Int) => k.1 ≤ n ∧ 0 ≤ k.2.1 ∧ k.2.1 ≤ k.1 + 1 ∧ 0 ≤ k.2.2 ∧ k.2.2 ≤ k.1 + 1) (fun k => [(6, .int .i64 (k.1 : Int)), (0, .string s), (1, .int .i64 (n : Int)), (4, .pointer (some ⟨n1, 0, none⟩)), (5, .pointer (some ⟨n2, 0, none⟩))]) (fun k => pto n2 (.cells [.int .i64 k.2.1, .int .i64 k.2.2].toArray 87 (0, 0)) :: pto n1 (.cells [.int .i64 0, .int .i64 0].toArray 87 (0, 0)) :: (q ++ F)) (fun k => n - k.1) (fun k hi_ ih => ?_) (0, 1, 1) ⟨by omega, by decide, by decide, by decide, by decide⟩) subA leA
 try dsimp only at hi_ ih ⊢
 obtain ⟨hk1, hk2, hk3, hk4, hk5⟩ := hi_
 obtain ⟨k, y, z⟩ := k; dsimp only at *
 refine xx 7 ?_; refine X.part 10 rfl (fun h1 => ?_) (fun h1 => ?_)
 · replace h1 := sp h1
   refine xo 7 ?_; refine ld ?_; refine oo 2 ?_; refine st ?_; refine oo 5 ?_; refine XO.pu (Pu.indexS rfl rfl Tryz.underlying9 (by omega) (by omega)) ?_
   refine ox 2 ?_; refine X.part 20 rfl (fun h2 => ?_) (fun h2 => ?_)
   · replace h2 := sp h2
     refine xo 3 ?_; refine ld ?_; refine oo 2 ?_; refine st ?_; refine oo 1 ?_; refine st ?_; refine ox 7 ?_; refine X.sb [6, 0, 1, 4, 5] ?_; refine X.at (ih (k + 1, y + 1, 1) ⟨by dsimp only; omega, by dsimp only; omega, by dsimp only; omega, by dsimp only; omega, by dsimp only; omega⟩ (by dsimp only; omega)) subA leA
   replace h2 := sp h2
   refine xx 8 ?_; refine X.at (ih (k + 1, y, z + 1) ⟨by dsimp only; omega, by dsimp only; omega, by dsimp only; omega, by dsimp only; omega, by dsimp only; omega⟩ (by dsimp only; omega)) subA leA
 replace h1 := sp h1
 refine xo 4 ?_; refine ldA ?_; refine stA ?_; refine ox 1 ?_; refine X.retL (q) Tryz.func148 (resC1 Tryz.results148 (ResOk.cell rfl (LV.agg Tryz.isAgg87 Tryz.sizeOf87 hasA rfl) ResOk.nil)) ⟨_, rfl, y, z, rfl, rfl⟩
theorem End_ok (h63 : s.size ≤ 65536) : CallF Tryz.prog G 96 [.string s] (q) (Ret fun v q' => ∃ y z : Int, v = .agg [.int .i64 y, .int .i64 z].toArray ∧ q' = q) := by
 refine CallF.of Tryz.func96 Tryz.ntmps96 rfl (fun F cs => ?_)
 refine xo 2 ?_; refine XO.al Tryz.zeroValue87 fun n1 => ?_
 refine oo 6 ?_; refine XO.cX Tryz.call148 (Le.refl _) (lxplace_ok (n := s.size) (Nat.le_refl _) h63) ?_
 rintro _ _ ⟨y, z, rfl, rfl⟩
 refine stA ?_; refine ox 1 ?_; refine X.retL (q) Tryz.func96 (resC1 Tryz.results96 (ResOk.cell rfl (LV.agg Tryz.isAgg87 Tryz.sizeOf87 hasA rfl) ResOk.nil)) ⟨_, rfl, y, z, rfl, rfl⟩
set_option maxHeartbeats 4000000 in
theorem Parse_ok  : CallF Tryz.prog G 58 [.string s] (q) (Ret fun v q' => (∃ ds a c, parseS (bs s) = some (ds.map Dec.er) ∧ v = .tuple [.slice a ds.length c, .agg [.int .i64 0, .int .i64 0].toArray, .int .i64 0].toArray ∧ q' = dsM a c ds :: q) ∨ (parseS (bs s) = none ∧ ∃ (y z e : Int), e ≠ 0 ∧ v = .tuple [.slice none 0 0, .agg [.int .i64 y, .int .i64 z].toArray, .int .i64 e].toArray ∧ q' = q)) := by
 refine CallF.of Tryz.func58 Tryz.ntmps58 rfl (fun F cs => ?_)
 refine xo 3 ?_; refine XO.al Tryz.zeroValue87 fun n1 => ?_
 refine oo 5 ?_; refine XO.cX Tryz.call94 (Le.refl _) (Lex_ok) ?_; rintro _ _ (⟨L, la, lc, hx, rfl, rfl⟩ | ⟨hx, y, z, e, he, rfl, rfl⟩)
 · obtain ⟨hn, hT⟩ := lexO_fin hx; have hP := parse_some hx; obtain ⟨S, hS⟩ : ∃ S, declsS (10 * L.length + 20) (L.length + 1) L = S := ⟨_, rfl⟩; rw [hS] at hP
   have hlen := flatMap_len (f := tkC) (sz := 5) (fun _ => rfl) L
   refine oo 4 ?_; refine XO.al Tryz.zeroValue87 fun n2 => ?_
   refine oo 1 ?_; refine stA ?_; refine ox 8 ?_; refine X.kf 20 ?_; refine xo 6 ?_; refine XO.bx fun n3 => ?_
   refine ox 8 ?_; refine X.sb [9, 8, 5, 4, 3, 2, 0] ?_
   have hS0 : MoreD L S (10 * L.length + 20) (L.length + 1) [] 0 false := .inl ⟨rfl, by rw [← hS, List.drop_zero]; cases declsS (10 * L.length + 20) (L.length + 1) L <;> rfl⟩
   refine X.at (X.loop (fun (s_ : (Option Addr × Nat × List Dec) × Nat × Bool × Nat) => s_.2.1 ≤ L.length ∧ (s_.2.2.1 = false → L.length - s_.2.1 < s_.2.2.2 ∧ s_.1.2.2.length ≤ s_.2.1) ∧ s_.1.2.2.length ≤ s_.2.1 + 1 ∧ MoreD L S (10 * L.length + 20) s_.2.2.2 (s_.1.2.2.map Dec.er) s_.2.1 s_.2.2.1) (fun s_ => [(9, .slice s_.1.1 s_.1.2.2.length s_.1.2.1), (8, .pointer (some ⟨n3, 0, none⟩)), (5, .slice la L.length lc), (0, .string s), (2, .slice none 0 0), (3, .pointer (some ⟨n1, 0, none⟩)), (4, .int .i64 0)]) (fun s_ => rdH n3 la lc L s_.2.1 s_.2.2.1 :: rsH dcC 6 188 s_.1.1 s_.1.2.1 (s_.1.2.2) :: dcsM s_.1.2.2 :: rsH tkC 5 193 la lc L :: pto n1 (.cells [.int .i64 0, .int .i64 0].toArray 87 (0, 0)) :: (q ++ F)) (fun s_ => 2 * (L.length - s_.2.1) + (if s_.2.2.1 = true then 0 else 1)) (fun s_ hi_ ih => ?_) ((none, 0, []), 0, false, L.length + 1) ⟨Nat.zero_le _, fun _ => ⟨by dsimp only; omega, Nat.le_refl _⟩, by simp, hS0⟩) subA (Le.trans leA (Le.trans (Le.rsH_nil dcC 6 188 _) (Le.trans Le.dcs_nil leA)))
   try dsimp only at hi_ ih ⊢
   obtain ⟨hi1, hi2, hi3, hi4⟩ := hi_
   obtain ⟨⟨a, c, l⟩, n, b, g⟩ := s_; dsimp only at *; clear hS0
   refine xo 6 ?_; refine ld ?_; refine XO.pu (Pu.not rfl) ?_; refine oo 1 ?_; refine XO.sb [31, 9, 8, 5, 0, 2, 3, 4] ?_
   apply XO.cutAnd 8 39 31 rfl
   · intro g1 M1; have h1 := sp g1
     refine oo 3 ?_; refine ld ?_; refine oo 4 ?_; exact XO.fin M1 ⟨andT g1, subB⟩
   · intro g1 M1; have h1 := sp g1
     refine oo 8 ?_; exact XO.fin M1 ⟨andF g1, subB⟩
   refine ox 1 ?_; refine X.part 39 rfl (fun h1 => ?_) (fun h1 => ?_)
   · replace h1 := sp h1
     refine xo 6 ?_; obtain ⟨rfl, h2⟩ : b = false ∧ n < L.length := ⟨h1.1, by have := h1.2; omega⟩
     obtain ⟨hf1, hf2⟩ := hi2 rfl; obtain ⟨g, rfl⟩ : ∃ g2, g = g2 + 1 := ⟨g - 1, by omega⟩
     refine XO.cX Tryz.call95 leA (decl_ok (f := 10 * L.length + 20) (n := n) (bad := false) (L := L) (Sees.le (Sees.rsH _) fndA) hn hi1 hT (by omega)) ?_
     rintro _ _ ⟨d, m2, b2, rfl, rfl, ⟨hm2, hd2⟩, hM2, ho2⟩
     refine XO.ef (Ef.litR1 (u := d) dcC Tryz.underlying130 tinfo188 rfl rfl (fun _ => rfl) rfl) ?_
     rintro _ _ ⟨g2, rfl, rfl⟩
     refine XO.ef (Ef.appRA (f := dcC) (l := l) (m := [d]) Tryz.underlying130 tinfo188 rfl rfl (fun _ => rfl) rfl rfl fndA ((Sees.rsH _).le fndA) (fun _ => rfl) (by simp; omega) (by simp; omega)) ?_
     rintro _ _ ⟨a3, c3, rfl, rfl⟩
     refine ox 3 ?_; refine X.dcs (l := l) (s := d) fndA fndA ?_
     refine X.at (ih ((a3, c3, l ++ [d]), m2, b2, g) ⟨hM2, fun hb => ⟨by have := hd2 hb; dsimp only; omega, by have := hd2 hb; simp; omega⟩, by simp; omega, by rw [List.map_append]; exact hi4.go h2 ho2⟩ (by dsimp only; cases b2 with | true => simp; omega | false => have := hd2 rfl; simp; omega)) subA leA
   replace h1 := sp h1
   refine xo 8 ?_; refine ld ?_; refine ox 1 ?_; refine X.part 48 rfl (fun h2 => ?_) (fun h2 => ?_)
   · replace h2 := sp h2
     refine xo 7 ?_; refine ld ?_; refine ox 4 ?_; refine X.sb [55, 9, 8, 5, 0, 2, 3, 4] ?_; refine X.part 55 rfl (fun h3 => ?_) (fun h3 => ?_)
     · replace h3 := sp h3
       refine xo 4 ?_; refine XO.cX Tryz.call96 (Le.refl _) (End_ok (s := s) (by have := hx; unfold lexO at this; split at this; cases this; rw [← bs_size]; omega)) ?_
       rintro _ _ ⟨y, z, rfl, rfl⟩
       refine oo 1 ?_; refine stA ?_; refine ox 2 ?_
       subst h2; have hSn := hi4.bad
       refine X.retL (q) Tryz.func58 (resC Tryz.results58 (ResOk.tmp rfl (ResOk.cell rfl (LV.agg Tryz.isAgg87 Tryz.sizeOf87 hasA rfl) (ResOk.tmp rfl ResOk.nil)))) ⟨_, rfl, .inr ⟨by rw [hP, hSn], y, z, 120, by first | assumption | decide, rfl, rfl⟩⟩
     replace h3 := sp h3
     refine xx 3 ?_; refine drw ?_; refine dd [0, 1, 2, 3] ?_; refine ldD 4 ?_
     have hlt : n < L.length := by omega
     refine XD.adr (Sees.rsH (f := tkC) (sz := 5) (ty := 193) (a := la) (c := lc) (l := L) []) (by rw [hlen]; omega) (fun b1 o1 e1 => ?_); subst e1
     refine dd [5, 6] ?_; refine XD.rdCs 7 (us := [.int .i64 L[n].ln, .int .i64 L[n].cl]) rfl rfl Tryz.isAgg87 Tryz.sizeOf87 rfl (fun k v hk => by match k, hk with | 0, hk => cases hk; exact Cl.row (n := n) (Sees.rsH (f := tkC) (sz := 5) (ty := 193) (c := lc) (l := L) []) leA (fun _ => rfl) hlt rfl 3 _ rfl | 1, hk => cases hk; exact Cl.row (n := n) (Sees.rsH (f := tkC) (sz := 5) (ty := 193) (c := lc) (l := L) []) leA (fun _ => rfl) hlt rfl 4 _ rfl) ?_
     refine dd [8] ?_; refine stAD 9 ?_; refine dd [10] ?_; refine XD.nil ?_
     subst h2; have hSn := hi4.bad
     refine X.retL (q) Tryz.func58 (resC Tryz.results58 (ResOk.tmp rfl (ResOk.cell rfl (LV.agg Tryz.isAgg87 Tryz.sizeOf87 hasA rfl) (ResOk.tmp rfl ResOk.nil)))) ⟨_, rfl, .inr ⟨by rw [hP, hSn], L[n].ln, L[n].cl, 120, by first | assumption | decide, rfl, rfl⟩⟩
   replace h2 := sp h2
   refine xx 8 ?_
   subst h2; replace h1 : L.length ≤ n := by rcases h1 with h1 | h1; cases h1; omega
   obtain ⟨g, rfl⟩ : ∃ g2, g = g2 + 1 := ⟨g - 1, by have := (hi2 rfl).1; omega⟩
   have hSl := hi4.over h1; rw [hSl] at hP hS; dsimp only at hP
   have hbd : ∀ d ∈ l, PStm.bdds 1000000 (Stm.ers d.body) := fun d hd => PStm.bdds_le (by omega) ((decls_nd (Nat.le_refl _) hS).2 d.er (List.mem_map_of_mem hd)).1
   refine X.fzD (m := l) ?_
   have hkD : Kn [dsM a c l] fun M => DcsAt M a c l := Kn.here; have hsD := Kn.dsA hkD; have hdl := flatMap_len (f := dcC) (sz := 6) (fun _ => rfl) l; clear ih hi4
   refine X.at (X.loop (fun (k : Nat × Option Addr) => k.1 ≤ l.length ∧ k.2 = a ∧ ((l).map Dec.er).any (fun d => PStm.deeps d.body 1) = ((l.drop k.1).map Dec.er).any (fun d => PStm.deeps d.body 1)) (fun k => [(10, .int .i64 (k.1 : Int)), (9, .slice k.2 l.length c), (2, .slice none 0 0), (3, .pointer (some ⟨n1, 0, none⟩)), (4, .int .i64 0)]) (fun k => dsM a c l :: pto n1 (.cells [.int .i64 0, .int .i64 0].toArray 87 (0, 0)) :: (q ++ F)) (fun k => l.length - k.1) (fun k hi_ ihk => ?_) (0, a) ⟨Nat.zero_le _, rfl, rfl⟩) subA leA
   try dsimp only at hi_ ihk ⊢
   obtain ⟨hk1, hk2, hk3⟩ := hi_
   obtain ⟨k, a2⟩ := k; dsimp only at *; subst hk2
   refine xx 8 ?_; refine X.part 69 rfl (fun h3 => ?_) (fun h3 => ?_)
   · replace h3 := sp h3; have hlt : k < l.length := by omega
     have hdk : l.drop k = l[k] :: l.drop (k + 1) := List.drop_eq_getElem_cons hlt
     refine X.adr hsD (by rw [hdl]; omega) (fun b2 o2 e2 => ?_); subst e2
     refine xo 10 ?_; refine ld ?_; refine XO.cX Tryz.call97 (Le.refl _) (Deep_ok _ l[k].body l[k].ba l[k].bc 1 (Nat.le_refl _) (hbd _ (List.getElem_mem hlt)) (by decide) ((Kn.dsI hkD hlt).le leA)) ?_
     rintro _ _ ⟨pl, pc, rfl, rfl⟩
     refine oo 3 ?_; refine XO.al Tryz.zeroValue87 fun n4 => ?_
     refine stA ?_; refine ox 6 ?_; refine X.sb [81, 11, 10, 9, 2, 3, 4] ?_; refine X.part 81 rfl (fun h4 => ?_) (fun h4 => ?_)
     · replace h4 := sp h4
       refine xx 2 ?_; refine drw ?_; refine ldAD 0 ?_; refine dd [1] ?_; refine stAD 2 ?_; refine dd [3] ?_; refine XD.nil ?_; refine X.retL (q) Tryz.func58 (resC Tryz.results58 (ResOk.tmp rfl (ResOk.cell rfl (LV.agg Tryz.isAgg87 Tryz.sizeOf87 hasA rfl) (ResOk.tmp rfl ResOk.nil)))) ⟨_, rfl, .inr ⟨by rw [hP, hk3, hdk, if_pos (by rw [List.map_cons, List.any_cons]; simp only [Dec.er]; rw [h4]; rfl)], pl, pc, 121, by first | assumption | decide, rfl, rfl⟩⟩
     replace h4 := sp h4
     refine xx 8 ?_; refine X.at (ihk (k + 1, _) ⟨by dsimp only; omega, rfl, by rw [hk3, hdk, List.map_cons, List.any_cons]; simp only [Dec.er]; rw [h4]; rfl⟩ (by dsimp only; omega)) subA leA
   replace h3 := sp h3; obtain rfl : k = l.length := by omega
   refine xo 7 ?_; refine stA ?_; refine ox 2 ?_; refine X.retL (dsM a2 c l :: q) Tryz.func58 (resC Tryz.results58 (ResOk.tmp rfl (ResOk.cell rfl (LV.agg Tryz.isAgg87 Tryz.sizeOf87 hasA rfl) (ResOk.tmp rfl ResOk.nil)))) ⟨_, rfl, .inl ⟨l, a2, c, by rw [hP, hk3, List.drop_length, if_neg (by simp)], rfl, rfl⟩⟩
 have hP := parse_none hx
 refine oo 4 ?_; refine XO.al Tryz.zeroValue87 fun n5 => ?_
 refine oo 1 ?_; refine stA ?_; refine ox 8 ?_; refine X.know 20 (.bool true) rfl (congrArg Value.bool (by simpa using he)) ?_
 refine xx 2 ?_; refine drw ?_; refine ldAD 0 ?_; refine dd [1, 2] ?_; refine stAD 3 ?_; refine dd [4] ?_; refine XD.nil ?_; refine X.retL (q) Tryz.func58 (resC Tryz.results58 (ResOk.tmp rfl (ResOk.cell rfl (LV.agg Tryz.isAgg87 Tryz.sizeOf87 hasA rfl) (ResOk.tmp rfl ResOk.nil)))) ⟨_, rfl, .inr ⟨hP, y, z, e, by first | assumption | decide, rfl, rfl⟩⟩
end
end Go.Proofs.YtbeeplmgcdnadaaGreatDoor
