/-
  Plain program logic, part 18: bytes as strings.
-/
import Derived.Test.YtjkkefgkhafmfaaWx17
namespace Wx
open Go Go.RowKit
set_option linter.unusedVariables false
theorem bstr_list (l : List Int) : (bstr l).toList = l.map fun n => UInt8.ofNat n.toNat := by rw [ByteArray.toList_eq]; simp [bstr]
theorem bstr_inj {x y : List Int} (hx : ∀ n ∈ x, 0 ≤ n ∧ n ≤ 255) (hy : ∀ n ∈ y, 0 ≤ n ∧ n ≤ 255) (h : (bstr x).toList = (bstr y).toList) : x = y := by
  rw [bstr_list, bstr_list] at h
  induction x generalizing y with
  | nil => cases y with
    | nil => rfl
    | cons b s => simp at h
  | cons a r ih => cases y with
    | nil => simp at h
    | cons b s =>
      simp only [List.map_cons, List.cons.injEq] at h
      have ha := hx a List.mem_cons_self
      have hb := hy b List.mem_cons_self
      have h1 : a = b := by
        have := congrArg UInt8.toNat h.1
        simp at this
        omega
      rw [h1, ih (fun n hn => hx n (List.mem_cons_of_mem _ hn)) (fun n hn => hy n (List.mem_cons_of_mem _ hn)) h.2]
theorem bstr_beq {x y : List Int} (hx : ∀ n ∈ x, 0 ≤ n ∧ n ≤ 255) (hy : ∀ n ∈ y, 0 ≤ n ∧ n ≤ 255) : ((bstr x).toList == (bstr y).toList) = decide (x = y) := by
  rw [Bool.eq_iff_iff]
  simp only [beq_iff_eq, decide_eq_true_eq]
  exact ⟨bstr_inj hx hy, fun h => by rw [h]⟩
section
variable {P : Program} {G : World} {f : Fc} {Q : Post} {ops : List Oper} {k : List Item} {p : PE} {ds : List Deferred} {cs : List Frame} {q : List HP} {rest : List Oper} {d : Tmp} {ty : TypeId} {pos : String} {af : Array Edge} {gd : Option (Nat × Bool)} {x : Operand} {s e t : TypeId} {a : Option Addr} {c : Nat} {q0 : List HP}
theorem XO.toStr (l : List Int) (hs : P.underlying s = some (.slice e)) (he : P.underlying e = some (.int .u8)) (ht : P.underlying t = some .string) (h : Sees q0 a (l.map (Value.int .u8))) (K : XO P G f Q ops.toArray k rest ((d, .string (bstr l)) :: p) ds cs q)
    (hx : evp p x = some (.slice a l.length c) := by rfl) (hq : Le q q0 := by exact leA) (hw : Wt ops p ⟨some d, .convert s t x, ty, pos, af, gd⟩ = some true := by rfl) (hd : Nat.blt d f.n = true := by rfl) :
    XO P G f Q ops.toArray k (⟨some d, .convert s t x, ty, pos, af, gd⟩ :: rest) p ds cs q := .rd (Rd.toStr hx hs he ht h hq) K hw hd
theorem toStr_run {tm : Array Value} {w : World} {l : List Int} (ag : Agr tm p) (hx : evp p x = some (.slice a l.length c)) (hs : P.underlying s = some (.slice e)) (he : P.underlying e = some (.int .u8)) (ht : P.underlying t = some .string)
    (h : ∀ i u, (l.map (Value.int .u8))[i]? = some u → ∃ b o, a = some ⟨b, o, none⟩ ∧ w.cell? ⟨b, o + i, none⟩ = some u) {d : Option Tmp} : (execOp (evA tm) ⟨d, .convert s t x, ty, pos, af, gd⟩).run P w = .ok (.value (.string (bstr l))) w := by
  have hb : bstr l = l.foldl (fun r n => r.push (UInt8.ofNat n.toNat)) ByteArray.empty := by
    have : ∀ (l : List Int) (r : ByteArray), l.foldl (fun r n => r.push (UInt8.ofNat n.toNat)) r = ⟨r.data ++ (l.map fun n => UInt8.ofNat n.toNat).toArray⟩ := by
      intro l
      induction l with
      | nil => intro r; simp
      | cons n l ih => intro r; rw [List.foldl_cons, ih]; simp [ByteArray.push]
    rw [this]; simp [bstr, ByteArray.empty, ByteArray.emptyWithCapacity]; rfl
  cases l with
  | nil =>
    cases a with
    | none => rw [hb]; simp [execOp, evA_of ag hx, convert, run_underlying hs, run_underlying ht, run_underlying he, Conv.bytesToString]
    | some a =>
      have hl := run_loadCells_list (P := P) w a [] (by simp)
      rw [hb]
      simp only [execOp, evA_of ag hx]
      simp [convert, run_underlying hs, run_underlying ht, run_underlying he]
      rw [run_bytesToString w a 0 c [] (by simpa using hl)]
      simp
  | cons n0 r =>
    obtain ⟨b, o, ha, _⟩ := h 0 _ rfl
    subst ha
    have hl := run_loadCells_list (P := P) w ⟨b, o, none⟩ ((n0 :: r).map (Value.int .u8)) (fun j v hj => by
      obtain ⟨b', o', e', hc⟩ := h j v hj
      cases e'; rw [add_addr]; exact hc)
    rw [hb]
    simp only [execOp, evA_of ag hx, convert, Sem.run_bind, run_underlying hs, run_underlying ht, Result.andThen_ok, run_underlying he]
    rw [run_bytesToString w ⟨b, o, none⟩ _ c (n0 :: r) (by simpa using hl)]
    simp
theorem XD.toStr {pk : PE} {L : Rds} {n : Nat} {done : List Nat} (i : Nat) (l : List Int) (hs : P.underlying s = some (.slice e)) (he : P.underlying e = some (.int .u8)) (ht : P.underlying t = some .string) (h : Sees q0 a (l.map (Value.int .u8)))
    (K : ∀ L, XD P G f Q ops k pk L n (i :: done) ((d, .string (bstr l)) :: p) ds cs q)
    (ho : ops[i]? = some ⟨some d, .convert s t x, ty, pos, af, gd⟩ := by rfl) (hx : evp p x = some (.slice a l.length c) := by rfl) (hq : Le q q0 := by exact leA)
    (hr : rdy ops done i = true := by rfl) (hw : Wt ops p ⟨some d, .convert s t x, ty, pos, af, gd⟩ = some true := by rfl) (hd : Nat.blt d f.n = true := by rfl) : XD P G f Q ops k pk L (n + 1) done p ds cs q := by
  by_cases hl : l = []
  · subst hl
    exact XD.rdL i ho [] rfl trivial (fun tm w ag _ => toStr_run ag hx hs he ht (by simp)) (K _) hr hw hd
  · have hpos : 0 < (l.map (Value.int .u8)).length := by simpa using List.length_pos_iff.2 hl
    refine XD.adr h hpos (fun b o ea => ?_) hq
    subst ea
    refine XD.rdL i ho (rdA i b o (l.map (Value.int .u8))) (rdA_all _ _ _ _) (HL.rdA fun j v hj => (h.le hq).cl hj) (fun tm w ag hS => toStr_run ag hx hs he ht fun j v hj => ⟨b, o, rfl, hS _ (rdA_mem hj)⟩) (K _) hr hw hd
/-- Of a list that has elements: which cells are read. -/
theorem XD.toStrN {pk : PE} {L : Rds} {n : Nat} {done : List Nat} (i : Nat) (l : List Int) {b o : Nat} (hs : P.underlying s = some (.slice e)) (he : P.underlying e = some (.int .u8)) (ht : P.underlying t = some .string) (h : Sees q0 (some ⟨b, o, none⟩) (l.map (Value.int .u8)))
    (K : XD P G f Q ops k pk (rdA i b o (l.map (Value.int .u8)) ++ L) n (i :: done) ((d, .string (bstr l)) :: p) ds cs q)
    (ho : ops[i]? = some ⟨some d, .convert s t x, ty, pos, af, gd⟩ := by rfl) (hx : evp p x = some (.slice (some ⟨b, o, none⟩) l.length c) := by rfl) (hq : Le q q0 := by exact leA)
    (hr : rdy ops done i = true := by rfl) (hw : Wt ops p ⟨some d, .convert s t x, ty, pos, af, gd⟩ = some true := by rfl) (hd : Nat.blt d f.n = true := by rfl) : XD P G f Q ops k pk L (n + 1) done p ds cs q :=
  XD.rdL i ho (rdA i b o (l.map (Value.int .u8))) (rdA_all _ _ _ _) (HL.rdA fun j v hj => (h.le hq).cl hj) (fun tm w ag hS => toStr_run ag hx hs he ht fun j v hj => ⟨b, o, rfl, hS _ (rdA_mem hj)⟩) K hr hw hd
theorem cut_rdA {o : Oper} {i b j : Nat} {vs : List Value} {L : Rds} (h : onB o i = false) : cut o (rdA i b j vs ++ L) = rdA i b j vs ++ cut o L := by
  induction vs generalizing j with
  | nil => rfl
  | cons v r ih => simp only [rdA, List.cons_append, cut, h, cond_false, ih]
theorem HL.app {q : List HP} : ∀ {L L' : Rds}, HL q L → HL q L' → HL q (L ++ L')
  | [], _, _, h => h
  | (_, _, _, _) :: r, _, ⟨h, k⟩, h' => ⟨h, HL.app k h'⟩
theorem HL.bytes {q : List HP} {i b o : Nat} {l : List Int} (h : Sees q0 (some ⟨b, o, none⟩) (l.map (Value.int .u8))) (hq : Le q q0 := by exact leA) : HL q (Wx.rdA i b o (l.map (Value.int .u8))) := HL.rdA fun j v hj => (h.le hq).cl hj
end
end Wx
