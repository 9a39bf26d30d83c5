/- What functions of package log, of its references and of its laws do: contracts of calls, proved by walking their code. -/
import Derived.Test.YtiehcgmbkjdagaaP
import Derived.Test.YtiehcgmbkjdagaaN
import Derived.KernelRfl
set_option maxRecDepth 100000
set_option linter.unusedVariables false
set_option linter.unusedSimpArgs false
namespace Go.Proofs.Ytiehcgmbkjdagaa
open Go Go.RowKit Wx

/-! ### there and back: what is written is read, what is read is what would be written -/
theorem pnF_vb : ∀ (k K i n : Nat) (acc : Int) (r : List Int), k ≤ K → n < 128 ^ (k + 1) → (0 < i → 0 < n) → pnF (k + 1) i acc (vbF (K + 1) n ++ r) = some (acc + n * 2 ^ i, r)
  | k, K, i, n, acc, r, hk, hn, h0 => by
    rcases Nat.lt_or_ge n 128 with h | h
    · rw [vbF_low h (by omega)]
      show pnF (k + 1) i acc ((n : Int) :: r) = _
      rw [pnF_low (by omega), if_neg (by omega)]
    · rw [vbF_high (by omega)]
      show pnF (k + 1) i acc (((n % 128 + 128 : Nat) : Int) :: (vbF K (n / 128) ++ r)) = _
      rw [pnF_high (by omega)]
      cases k with
      | zero => simp at hn; omega
      | succ k =>
        obtain ⟨K, rfl⟩ : ∃ K', K = K' + 1 := ⟨K - 1, by omega⟩
        rw [pnF_vb k K (i + 7) (n / 128) _ r (by omega) (by rw [Nat.pow_succ] at hn; omega) (by omega)]
        have e : (n : Int) = ((n % 128 : Nat) : Int) + ((n / 128 : Nat) : Int) * 128 := by omega
        have p7 : (2 : Int) ^ (i + 7) = 2 ^ i * 128 := by rw [Int.pow_add]; rfl
        have e3 : (((n % 128 + 128 : Nat) : Int) - 128) = ((n % 128 : Nat) : Int) := by omega
        rw [e3, p7]
        conv => rhs; rw [e]
        rw [Int.add_mul, Int.mul_assoc ((n / 128 : Nat) : Int) 128 (2 ^ i), Int.mul_comm 128 (2 ^ i), Int.add_assoc]
theorem pNum_vb (n : Nat) (h : n < 34359738368) (r : List Int) : pNum (vb n ++ r) = some ((n : Int), r) := by
  have := pnF_vb 4 9 0 n 0 r (by omega) (by simpa using h) (by omega)
  simpa [pNum, vb] using this
theorem pnF_inv : ∀ (j K i : Nat) (acc m : Int) (l r : List Int), j ≤ K → Bs l → pnF j i acc l = some (m, r) → ∃ n : Nat, m = acc + n * 2 ^ i ∧ l = vbF K n ++ r ∧ n < 128 ^ j ∧ (0 < i → 0 < n)
  | 0, _, _, _, _, _, _, _, _, h => by simp [pnF] at h
  | _ + 1, _, _, _, _, [], _, _, _, h => by simp [pnF] at h
  | j + 1, K, i, acc, m, x :: l, r, hK, hb, h => by
    obtain ⟨K, rfl⟩ : ∃ K', K = K' + 1 := ⟨K - 1, by omega⟩
    have hx := hb.head
    rcases Int.lt_or_le x 128 with h1 | h1
    · rw [pnF_low h1] at h
      split at h
      · cases h
      · rename_i h2
        cases h
        refine ⟨x.toNat, by rw [Int.toNat_of_nonneg hx.1], ?_, ?_, by omega⟩
        · rw [vbF_low (by omega) (by omega), Int.toNat_of_nonneg hx.1]; rfl
        · have : 0 < 128 ^ j := Nat.pow_pos (by decide); rw [Nat.pow_succ]; omega
    · rw [pnF_high (by omega)] at h
      obtain ⟨n, hm, hl, hn, h0⟩ := pnF_inv j K (i + 7) _ m l r (by omega) hb.tail h
      have h0 := h0 (by omega)
      refine ⟨(x - 128).toNat + n * 128, ?_, ?_, by rw [Nat.pow_succ]; omega, by omega⟩
      · rw [hm]
        have p7 : (2 : Int) ^ (i + 7) = 2 ^ i * 128 := by rw [Int.pow_add]; rfl
        have e : (((x - 128).toNat + n * 128 : Nat) : Int) = (x - 128) + (n : Int) * 128 := by omega
        rw [e, p7, Int.add_mul, Int.mul_assoc (n : Int) 128 (2 ^ i), Int.mul_comm 128 (2 ^ i), Int.add_assoc]
      · rw [vbF_high (by omega)]
        have e1 : ((((x - 128).toNat + n * 128) % 128 + 128 : Nat) : Int) = x := by omega
        have e2 : ((x - 128).toNat + n * 128) / 128 = n := by omega
        rw [e1, e2, hl]; rfl
theorem pNum_inv {l r : List Int} {m : Int} (hb : Bs l) (h : pNum l = some (m, r)) : 0 ≤ m ∧ l = vb m.toNat ++ r := by
  obtain ⟨n, hm, hl, _, _⟩ := pnF_inv 5 10 0 0 m l r (by omega) hb h
  have : m = n := by simpa using hm
  subst this
  exact ⟨by omega, by simpa [vb] using hl⟩
theorem pWord_le4 (h : Int) (h0 : 0 ≤ h) (h1 : h < 4294967296) (r : List Int) : pWord (le4 h ++ r) = some (h, r) := by
  simp only [pWord, le4, List.cons_append, List.nil_append, pwF, Option.some.injEq, Prod.mk.injEq, and_true]
  have e : (256 : Int) ^ 0 = 1 ∧ (256 : Int) ^ (0 + 1) = 256 ∧ (256 : Int) ^ (0 + 1 + 1) = 65536 ∧ (256 : Int) ^ (0 + 1 + 1 + 1) = 16777216 := by decide
  rw [e.1, e.2.1, e.2.2.1, e.2.2.2]; omega
theorem pWord_inv {l r : List Int} {h : Int} (hb : Bs l) (hw : pWord l = some (h, r)) : 0 ≤ h ∧ h < 4294967296 ∧ l = le4 h ++ r := by
  match l, hb, hw with
  | [], _, hw => simp [pWord, pwF] at hw
  | [_], _, hw => simp [pWord, pwF] at hw
  | [_, _], _, hw => simp [pWord, pwF] at hw
  | [_, _, _], _, hw => simp [pWord, pwF] at hw
  | a :: b :: c :: d :: l, hb, hw =>
    have ha := hb.head
    have hb' := hb.tail.head
    have hc := hb.tail.tail.head
    have hd := hb.tail.tail.tail.head
    simp only [pWord, pwF, Option.some.injEq, Prod.mk.injEq] at hw
    have e : (256 : Int) ^ 0 = 1 ∧ (256 : Int) ^ (0 + 1) = 256 ∧ (256 : Int) ^ (0 + 1 + 1) = 65536 ∧ (256 : Int) ^ (0 + 1 + 1 + 1) = 16777216 := by decide
    rw [e.1, e.2.1, e.2.2.1, e.2.2.2] at hw
    obtain ⟨hw, rfl⟩ := hw
    refine ⟨by omega, by omega, ?_⟩
    simp only [le4, List.cons_append, List.nil_append, List.cons.injEq, and_true]
    omega
theorem pMag_app : ∀ cs r : List Int, pMag cs (cs ++ r) = some r
  | [], _ => rfl
  | c :: cs, r => by show (if c = c then pMag cs (cs ++ r) else none) = _; rw [if_pos rfl]; exact pMag_app cs r
theorem pMag_inv : ∀ (cs l r : List Int), pMag cs l = some r → l = cs ++ r
  | [], l, r, h => by cases h; rfl
  | _ :: _, [], r, h => by cases h
  | c :: cs, x :: l, r, h => by
    unfold pMag at h
    split at h
    · rename_i e; subst e; rw [pMag_inv cs l r h]; rfl
    · cases h
theorem pTurns_app : ∀ (l : List Turn) (r : List Int), (∀ x ∈ l, 0 ≤ x.2 ∧ x.2 ≤ 2147483647) → pTurns l.length (l.flatMap encT ++ r) = some (l, r)
  | [], _, _ => rfl
  | x :: l, r, h => by
    have hx := h x List.mem_cons_self
    have ih := pTurns_app l r (fun y hy => h y (List.mem_cons_of_mem _ hy))
    rw [List.flatMap_cons, List.append_assoc, List.length_cons]
    show (match pNum (vb x.2.toNat ++ (l.flatMap encT ++ r)) with
      | none => none
      | some (n, r') => match pTurns l.length r' with
        | none => none
        | some (ts, r'') => some ((x.1, n) :: ts, r'')) = _
    rw [pNum_vb _ (by omega)]
    simp only [ih, Int.toNat_of_nonneg hx.1]
theorem pTurns_inv : ∀ (k : Nat) (m r : List Int) (ts : List Turn), Bs m → pTurns k m = some (ts, r) → ts.length = k ∧ m = ts.flatMap encT ++ r
  | 0, m, r, ts, _, h => by cases h; exact ⟨rfl, rfl⟩
  | k + 1, [], r, ts, _, h => by cases h
  | k + 1, x :: m, r, ts, hb, h => by
    unfold pTurns at h
    simp only [pByte] at h
    cases h1 : pNum m with
    | none => rw [h1] at h; cases h
    | some y =>
      obtain ⟨n, r'⟩ := y
      rw [h1] at h; simp only at h
      obtain ⟨hn, hm⟩ := pNum_inv hb.tail h1
      have hb' : Bs r' := fun z hz => hb z (List.mem_cons_of_mem _ (by rw [hm]; exact List.mem_append.2 (.inr hz)))
      cases h2 : pTurns k r' with
      | none => rw [h2] at h; cases h
      | some y =>
        obtain ⟨ts', r''⟩ := y
        rw [h2] at h; cases h
        obtain ⟨hl, hr⟩ := pTurns_inv k r' r ts' hb' h2
        exact ⟨by simp [hl], by rw [hm, hr]; simp [encT]⟩
theorem goT_ge : ∀ {l : List Turn} {p : Option Int} {s : Int}, 0 ≤ s → goT p s l → ∀ x ∈ l, 0 ≤ x.2 ∧ x.2 ≤ 2147483647
  | [], _, _, _, _ => by simp
  | y :: l, p, s, hs, h => by
    intro x hx
    obtain ⟨⟨_, _, h1, h2, _⟩, h3⟩ := h
    rcases List.mem_cons.1 hx with rfl | hx
    · omega
    · exact goT_ge (by omega) h3 x hx
theorem takenP_encP {t : Tkn} (ok : okT t) (hh : 0 ≤ t.hash ∧ t.hash < 4294967296) : takenP (encP t) = some t := by
  obtain ⟨hash, turns, k, tr, th, st⟩ := t
  have hall := goT_ge (by omega) ok.2.2
  have hl : turns.length ≤ 65536 := ok.1
  have hst : 0 ≤ st ∧ st ≤ 511 := by have := ok.2.1; unfold okE at this; dsimp only at this; omega
  dsimp only at hh hall
  have e : encP ⟨hash, turns, k, tr, th, st⟩ = magicL ++ (le4 hash ++ (vb turns.length ++ (turns.flatMap encT ++ (k :: tr :: th :: (vb st.toNat ++ []))))) := by simp [encP, magicL]
  have e1 : pHead (encP ⟨hash, turns, k, tr, th, st⟩) = some (hash, (turns.length : Int), turns.flatMap encT ++ (k :: tr :: th :: (vb st.toNat ++ []))) := by
    rw [e]; unfold pHead; rw [pMag_app]; simp only; rw [pWord_le4 _ hh.1 hh.2]; simp only; rw [pNum_vb _ (by omega)]
  unfold takenP
  rw [e1]
  simp only
  rw [if_neg (by omega), Int.toNat_natCast, pTurns_app _ _ hall]
  simp only
  unfold pEnd
  simp only [pByte]
  rw [pNum_vb _ (by omega)]
  simp only [Int.toNat_of_nonneg hst.1]
  rw [if_pos ⟨trivial, ok⟩]
theorem takenP_inv {l : List Int} {t : Tkn} (hb : Bs l) (h : takenP l = some t) : encP t = l ∧ 0 ≤ t.hash ∧ t.hash < 4294967296 := by
  unfold takenP at h
  cases h1 : pHead l with
  | none => rw [h1] at h; cases h
  | some y =>
    obtain ⟨hash, n, l3⟩ := y
    rw [h1] at h; simp only at h
    unfold pHead at h1
    cases h2 : pMag magicL l with
    | none => rw [h2] at h1; cases h1
    | some l1 =>
      rw [h2] at h1; simp only at h1
      have e1 := pMag_inv _ _ _ h2
      subst e1
      have hb1 : Bs l1 := fun z hz => hb z (List.mem_append.2 (.inr hz))
      cases h3 : pWord l1 with
      | none => rw [h3] at h1; cases h1
      | some y =>
        obtain ⟨hash', l2⟩ := y
        rw [h3] at h1; simp only at h1
        obtain ⟨hh0, hh1, e2⟩ := pWord_inv hb1 h3
        subst e2
        have hb2 : Bs l2 := fun z hz => hb1 z (List.mem_append.2 (.inr hz))
        cases h4 : pNum l2 with
        | none => rw [h4] at h1; cases h1
        | some y =>
          obtain ⟨n', l3'⟩ := y
          rw [h4] at h1; cases h1
          obtain ⟨hn, e3⟩ := pNum_inv hb2 h4
          subst e3
          have hb3 : Bs l3 := fun z hz => hb2 z (List.mem_append.2 (.inr hz))
          split at h
          · cases h
          · cases h5 : pTurns n.toNat l3 with
            | none => rw [h5] at h; cases h
            | some y =>
              obtain ⟨ts, l4⟩ := y
              rw [h5] at h; simp only at h
              obtain ⟨hlen, e4⟩ := pTurns_inv _ _ _ _ hb3 h5
              subst e4
              have hb4 : Bs l4 := fun z hz => hb3 z (List.mem_append.2 (.inr hz))
              unfold pEnd at h
              match l4, hb4, h with
              | [], _, h => cases h
              | [_], _, h => cases h
              | [_, _], _, h => cases h
              | k :: tr :: th :: l5, hb4, h =>
                simp only [pByte] at h
                have hb5 : Bs l5 := hb4.tail.tail.tail
                cases h6 : pNum l5 with
                | none => rw [h6] at h; cases h
                | some y =>
                  obtain ⟨st, l6⟩ := y
                  rw [h6] at h; simp only at h
                  obtain ⟨hst, e5⟩ := pNum_inv hb5 h6
                  split at h
                  · rename_i hk
                    cases h
                    obtain ⟨rfl, _⟩ := hk
                    subst e5
                    refine ⟨?_, hh0, hh1⟩
                    simp only [encP, magicL, hlen]
                    simp
                  · cases h

/-! ### a byte that is another one; the threads of turns -/
theorem unit_inj {M a u q x s t : Int} (hM : 0 < M) (hu : a * u = q * M + 1) (h1 : 0 ≤ s ∧ s < M) (h2 : 0 ≤ t ∧ t < M) (h : (s * a + x) % M = (t * a + x) % M) : s = t := by
  have h := Int.emod_eq_emod_iff_emod_sub_eq_zero.1 h
  obtain ⟨k, hk⟩ := Int.dvd_of_emod_eq_zero h
  have e : s * a + x - (t * a + x) = a * (s - t) := by rw [Int.mul_sub, Int.mul_comm a s, Int.mul_comm a t]; omega
  rw [e] at hk
  clear h e
  generalize hd : s - t = d at hk
  have hz : d = M * (k * u - q * d) := calc
    d = (q * M + 1) * d - q * M * d := by rw [Int.add_mul, Int.one_mul]; omega
    _ = a * u * d - q * M * d := by rw [hu]
    _ = M * (k * u) - M * (q * d) := by rw [show a * u * d = M * (k * u) by rw [Int.mul_right_comm, hk, Int.mul_assoc], show q * M * d = M * (q * d) by rw [Int.mul_comm q M, Int.mul_assoc]]
    _ = M * (k * u - q * d) := (Int.mul_sub ..).symm
  generalize k * u - q * d = m at hz
  rcases Int.lt_trichotomy m 0 with hm | hm | hm
  · have := Int.mul_le_mul_of_nonneg_left (show m ≤ -1 by omega) (show 0 ≤ M by omega)
    rw [← hz, Int.mul_neg, Int.mul_one] at this; omega
  · rw [hm, Int.mul_zero] at hz; omega
  · have := Int.mul_le_mul_of_nonneg_left (show 1 ≤ m by omega) (show 0 ≤ M by omega)
    rw [← hz, Int.mul_one] at this; omega
def stp (n x : Int) : Int := (n * 33 + x) % 4294967296
theorem stp_rng (n x : Int) : 0 ≤ stp n x ∧ stp n x < 4294967296 := by unfold stp; omega
theorem stp_inj {s t x : Int} (h1 : 0 ≤ s ∧ s < 4294967296) (h2 : 0 ≤ t ∧ t < 4294967296) (h : stp s x = stp t x) : s = t :=
  unit_inj (M := 4294967296) (a := 33) (u := 1041204193) (q := 8) (by decide) (by decide) h1 h2 h
theorem fold33_inj (l : List Int) : ∀ (s t : Int), (0 ≤ s ∧ s < 4294967296) → (0 ≤ t ∧ t < 4294967296) → l.foldl stp s = l.foldl stp t → s = t := by
  induction l with
  | nil => intro s t _ _ h; exact h
  | cons x l ih => intro s t h1 h2 h; rw [List.foldl_cons, List.foldl_cons] at h; exact stp_inj h1 h2 (ih _ _ (stp_rng _ _) (stp_rng _ _) h)
theorem sumB_stp (l : List Int) : sumB l = l.foldl stp 5381 := rfl
theorem sumB_set {l : List Int} {i : Nat} {y : Int} (hb : Bs l) (h : i < l.length) (hy : 0 ≤ y ∧ y ≤ 255) (hne : l[i] ≠ y) : sumB (l.set i y) ≠ sumB l := by
  intro he
  have hx := hb _ (List.getElem_mem h)
  have e1 : l.set i y = l.take i ++ y :: l.drop (i + 1) := List.set_eq_take_append_cons_drop.trans (if_pos h)
  have e2 : l = l.take i ++ l[i] :: l.drop (i + 1) := by rw [← List.drop_eq_getElem_cons h, List.take_append_drop]
  rw [sumB_stp, sumB_stp, e1] at he
  conv at he => rhs; rw [e2]
  rw [List.foldl_append, List.foldl_append, List.foldl_cons, List.foldl_cons] at he
  have hr := sumB_rng (l.take i)
  rw [sumB_stp] at hr
  generalize (l.take i).foldl stp 5381 = s at he hr
  have := fold33_inj _ _ _ (stp_rng _ _) (stp_rng _ _) he
  unfold stp at this
  omega
theorem le4_inj {m n : Int} (h : le4 m = le4 n) (h1 : 0 ≤ m ∧ m < 4294967296) (h2 : 0 ≤ n ∧ n < 4294967296) : m = n := by
  simp only [le4, List.cons.injEq, and_true] at h
  omega
theorem sealB_rot {p : List Int} {i : Nat} {y : Int} (hb : Bs p) (h : i < (sealB p).length) (hy : 0 ≤ y ∧ y ≤ 255) (hne : (sealB p)[i] ≠ y) :
    sealB (((sealB p).set i y).take (((sealB p).set i y).length - 4)) ≠ (sealB p).set i y := by
  have hl : (sealB p).length = p.length + 4 := by simp [sealB, le4]
  rw [List.length_set, hl, Nat.add_sub_cancel]
  rcases Nat.lt_or_ge i p.length with hi | hi
  · have e : (sealB p).set i y = p.set i y ++ le4 (sumB p) := by unfold sealB; rw [List.set_append_left _ _ hi]
    have e2 : (p.set i y ++ le4 (sumB p)).take p.length = p.set i y := by rw [List.take_append_of_le_length (by simp), List.take_of_length_le (by simp)]
    rw [e, e2]
    intro he
    unfold sealB at he
    have := List.append_cancel_left he
    have hne' : p[i] ≠ y := by intro hz; apply hne; rw [← hz]; unfold sealB; exact List.getElem_append_left hi
    exact sumB_set hb hi hy hne' (le4_inj this (sumB_rng _) (sumB_rng _))
  · have e : (sealB p).set i y = p ++ (le4 (sumB p)).set (i - p.length) y := by unfold sealB; rw [List.set_append_right _ _ hi]
    have e2 : (p ++ (le4 (sumB p)).set (i - p.length) y).take p.length = p := by rw [List.take_append_of_le_length (by omega), List.take_length]
    rw [e, e2]
    intro he
    unfold sealB at he
    have := List.append_cancel_left he
    apply hne
    have hz : (sealB p)[i] = (sealB p |>.set i y)[i]'(by rw [List.length_set]; exact h) := by
      have e3 : sealB p = (sealB p).set i y := by rw [e, ← this]; rfl
      have := congrArg (fun m : List Int => m[i]?) e3
      simp only [List.getElem?_eq_getElem h] at this
      rw [List.getElem?_eq_getElem (by rw [List.length_set]; exact h)] at this
      exact Option.some.inj this
    rw [hz, List.getElem_set_self]
theorem encB_big (t : Tkn) : 16 ≤ (encB t).length := by
  have h1 := (vb_len t.turns.length).1
  have h2 := (vb_len t.e.2.2.2.toNat).1
  have h3 : (le4 t.hash).length = 4 := rfl
  have h4 : (le4 (sumB (encP t))).length = 4 := rfl
  unfold encB sealB
  rw [List.length_append, h4]
  simp only [encP, List.length_append, List.length_cons, List.length_nil, h3]
  omega
theorem decP_rot {t : Tkn} (ok : okT t) (hh : 0 ≤ t.hash ∧ t.hash < 4294967296) {i : Nat} {y : Int} (hb : Bs (encP t)) (h : i < (encB t).length) (hy : 0 ≤ y ∧ y ≤ 255) (hne : (encB t)[i] ≠ y) : decP ((encB t).set i y) = (none, 210) :=
  decP_1 (.inr (sealB_rot hb h hy hne))
theorem sealB_take (p : List Int) : (sealB p).take ((sealB p).length - 4) = p := by
  have hl : (sealB p).length = p.length + 4 := by simp [sealB, le4]
  rw [hl, Nat.add_sub_cancel]; unfold sealB; rw [List.take_append_of_le_length (Nat.le_refl _), List.take_length]
theorem decP_encB {t : Tkn} (ok : okT t) (hh : 0 ≤ t.hash ∧ t.hash < 4294967296) : decP (encB t) = (some t, 0) := by
  have hl := encB_big t
  have ht : (encB t).take ((encB t).length - 4) = encP t := sealB_take _
  exact decP_3 (by rw [ht]; rintro (h | h); omega; exact h rfl) (by rw [ht]; exact takenP_encP ok hh)
theorem decP_inv {l : List Int} (hb : Bs l) (h : (decP l).2 = 0) : ∃ t, decP l = (some t, 0) ∧ okT t ∧ (0 ≤ t.hash ∧ t.hash < 4294967296) ∧ encB t = l := by
  rcases Decidable.em (l.length < 12 ∨ sealB (l.take (l.length - 4)) ≠ l) with h1 | h1
  · rw [decP_1 h1] at h; simp at h
  · cases h2 : takenP (l.take (l.length - 4)) with
    | none => rw [decP_2 h1 h2] at h; simp at h
    | some t =>
      have hb' : Bs (l.take (l.length - 4)) := fun z hz => hb z (List.mem_of_mem_take hz)
      obtain ⟨e, hh⟩ := takenP_inv hb' h2
      refine ⟨t, decP_3 h1 h2, takenP_okT h2, hh, ?_⟩
      unfold encB; rw [e]
      exact Decidable.byContradiction fun hz => h1 (.inr hz)
def flatT (l : List Turn) : List Int := l.flatMap fun x => List.replicate x.2.toNat x.1
theorem stepsAt_snd (l : List Turn) : ∀ i, (stepsAt i l).map (·.2) = flatT l := by
  induction l with
  | nil => intro i; rfl
  | cons x r ih => intro i; simp only [stepsAt, flatT, List.map_append, List.map_replicate, List.flatMap_cons, ih (i + 1)]
theorem flatT_app (l m : List Turn) : flatT (l ++ m) = flatT l ++ flatT m := by simp [flatT]
theorem flatT_add {l : List Turn} {t : Int} (h : ∀ x ∈ l, 1 ≤ x.2) : flatT (addT l t) = flatT l ++ [t] := by
  unfold addT
  split
  · rename_i hc
    obtain ⟨h0, hl⟩ := hc
    have hg : l.getD (l.length - 1) (0, 0) = l[l.length - 1]'(by omega) := getD_lt _ _ _ (by omega)
    rw [hg] at hl ⊢
    have hp := h _ (List.getElem_mem (show l.length - 1 < l.length by omega))
    have e1 : l.set (l.length - 1) (t, (l[l.length - 1]'(by omega)).2 + 1) = l.take (l.length - 1) ++ [(t, (l[l.length - 1]'(by omega)).2 + 1)] := by
      rw [List.set_eq_take_append_cons_drop, if_pos (by omega), List.drop_eq_nil_of_le (by omega)]
    have e2 : l = l.take (l.length - 1) ++ [l[l.length - 1]'(by omega)] := by
      rw [← List.take_succ_eq_append_getElem (by omega), List.take_of_length_le (by omega)]
    rw [e1, flatT_app]
    conv => rhs; rw [e2]
    rw [flatT_app, List.append_assoc]
    congr 1
    have e3 : ((l[l.length - 1]'(by omega)).2 + 1).toNat = (l[l.length - 1]'(by omega)).2.toNat + 1 := by omega
    simp only [flatT, List.flatMap_cons, List.flatMap_nil, List.append_nil, e3, hl, List.replicate_succ']
  · rw [flatT_app]; simp [flatT]
theorem flatT_turnsOf (l : List Int) : flatT (turnsOf l) = l := by
  have key : ∀ n, flatT (turnsOf (l.take n)) = l.take n := by
    intro n
    induction n with
    | zero => rfl
    | succ n ih =>
      rcases Nat.lt_or_ge n l.length with h | h
      · rw [turnsOf_succ h, flatT_add (turnsOf_pos l n), ih, List.take_succ_eq_append_getElem h]
      · rw [List.take_of_length_le (by omega)]; rwa [List.take_of_length_le h] at ih
  have := key l.length
  rwa [List.take_length] at this
theorem stepsL_turns (th : List Int) : (stepsL (turnsOf th)).map (·.2) = th := (stepsAt_snd _ _).trans (flatT_turnsOf th)

end Go.Proofs.Ytiehcgmbkjdagaa

