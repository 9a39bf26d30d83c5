/- Contracts of functions, proved by walking their code, and the logic that they need: what the last text reaches. -/
import Derived.Test.YtbeeplmgcdnadaaGreatDoorPl
import Derived.KernelRfl
set_option maxRecDepth 100000
set_option linter.unusedVariables false
set_option linter.unusedSimpArgs false
namespace Go.Proofs.YtbeeplmgcdnadaaGreatDoor
open Go Go.RowKit Wx
attribute [local irreducible] Wx.lsH Wx.rsH Wx.stars
section
variable {α : Type} {P : Program} {G : World} {p : PE} {q : List HP} {sz ty : Nat} {d : Option Tmp} {ty' : TypeId} {pos : String} {af : Array Edge} {gd : Option (Nat × Bool)} {t : TypeId} {z : Value} {bytes n : Nat} {ps : List (Nat × Operand)}
theorem fill_rows {f : α → List Value} (hf : ∀ x, (f x).length = sz) : ∀ (l : List α) (k : Nat) (pre post : List Value), pre.length = k * sz → l.length * sz ≤ post.length → Instr.fill (fun i => some (i * sz, sz)) (pre ++ post).toArray ((List.range' k l.length).zip (l.map fun u => Value.agg (f u).toArray)) = some (pre ++ l.flatMap f ++ post.drop (l.length * sz)).toArray
 | [], k, pre, post, _, _ => by simp [Instr.fill]
 | u :: r, k, pre, post, h1, h2 => by
  rw [List.length_cons, Nat.add_mul, Nat.one_mul] at h2
  have hc : (Value.agg (f u).toArray).cells = (f u).toArray := rfl
  have e1 : ∀ (off : Nat) (us : List Value) (A : Array Value), (us.toArray.zipIdx).foldl (fun cs (c, i) => cs.setIfInBounds (off + i) c) A = (us.zipIdx 0).foldl (fun cs (c, i) => cs.setIfInBounds (off + i) c) A := by intro off us A; simp
  have k1 := (e1 (k * sz) (f u) _).trans (fill_row (k * sz) (f u) 0 pre post (by simpa using h1) (by rw [hf]; omega))
  have ih := fill_rows hf r (k + 1) (pre ++ f u) (post.drop (f u).length) (by rw [List.length_append, h1, hf, Nat.add_mul, Nat.one_mul]) (by rw [List.length_drop, hf]; omega)
  rw [List.length_cons, List.range'_succ, List.map_cons, List.zip_cons_cons]
  simp only [Instr.fill, hc]
  rw [if_neg (by simp [hf]; omega), k1, ih]
  simp only [List.flatMap_cons, List.append_assoc, List.drop_drop, hf]
  congr 4
  rw [Nat.add_mul, Nat.one_mul, Nat.add_comm]
theorem Ef.litRn (f : α → List Value) (l : List α) (ht : P.underlying t = some (.slice ty)) (hi : (P.info? ty).map (fun i => (i.zero, i.size, i.bytes)) = some (some z, sz, bytes)) (h1 : Nat.ble (n * sz) 16777216 = true) (h0 : Nat.blt 0 sz = true)
 (hf : ∀ x, (f x).length = sz) (hv : evl p (ps.map (·.2)) = some (l.map fun u => Value.agg (f u).toArray)) (hx : ps.map (·.1) = List.range' 0 n) (hn : l.length = n) (h2 : Nat.blt 0 n = true) :
 Ef P G p q ⟨d, .buildSlice t n ps.toArray, ty', pos, af, gd⟩ fun v q' => ∃ g, v = .slice (some ⟨g, 0, none⟩) n n ∧ q' = Wx.rsH f sz ty (some ⟨g, 0, none⟩) n l :: q := by
 subst hn
 have h0' : 0 < sz := by simpa [Nat.blt_eq] using h0
 have h2' : 0 < l.length := by simpa [Nat.blt_eq] using h2
 have hfill : Instr.fill (fun i => some (i * sz, sz)) ((Array.range (l.length * sz)).map (z.cells[· % z.cells.size]!)) ((ps.map (·.1)).zip (l.map fun u => Value.agg (f u).toArray)) = some (l.flatMap f).toArray := by
  rw [hx]
  have := fill_rows hf l 0 [] ((Array.range (l.length * sz)).map (z.cells[· % z.cells.size]!)).toList (by simp) (by simp)
  rw [List.nil_append, List.nil_append, Array.toArray_toList, List.drop_eq_nil_of_le (by simp), List.append_nil] at this
  exact this
 have := Ef.buildSlice (P := P) (G := G) (p := p) (q := q) (d := d) (ty := ty') (pos := pos) (af := af) (gd := gd) (ps := ps) (len := l.length) ht hi hv (by simpa using h1) (by rw [Nat.blt_eq]; exact Nat.mul_pos h2' h0') hfill (flatMap_len hf l)
 simpa [Wx.rsH] using this
end
mutual
def PEx.sz : PEx → Nat
 | .mk _ _ _ _ _ _ args => PEx.szs args + 1
def PEx.szs : List PEx → Nat
 | [] => 0
 | e :: r => e.sz + PEx.szs r
end
mutual
theorem Ex.er_sz : ∀ (e : Ex), e.er.sz = e.sz
 | .mk _ _ _ _ _ _ args _ _ => by simp only [Ex.er, PEx.sz, Ex.sz, Ex.ers_szs args]
theorem Ex.ers_szs : ∀ (l : List Ex), PEx.szs (Ex.ers l) = Ex.szs l
 | [] => rfl
 | e :: r => by simp only [Ex.ers, PEx.szs, Ex.szs, Ex.er_sz e, Ex.ers_szs r]
end
mutual
/-- What an expression that may be is like. -/
def PEx.fit : PEx → Prop
 | .mk k n _ _ _ op args => (1 ≤ k ∧ k ≤ 6) ∧ args.length = manyS k ∧ (k = 1 → 0 ≤ n ∧ n ≤ 2147483647) ∧ (k = 6 → 1 ≤ op ∧ op ≤ 11) ∧ PEx.fits args
def PEx.fits : List PEx → Prop
 | [] => True
 | e :: r => e.fit ∧ PEx.fits r
end
mutual
theorem PEx.right_fit : ∀ {e : PEx} {d : Nat}, e.right d = true → e.fit
 | .mk k n nm _ _ op args, d, h => by
  simp only [PEx.right] at h
  split at h
  · cases h
  split at h
  · rename_i hk
    rw [Bool.and_eq_true, Bool.and_eq_true, decide_eq_true_eq] at h
    obtain ⟨⟨h1, h2⟩, h3⟩ := h
    refine ⟨hk, h2, fun h => ?_, fun h => ?_, PEx.rights_fit h3⟩
    · subst h; unfold partS at h1; rw [if_pos rfl, Bool.and_eq_true] at h1; simpa using h1
    subst h; unfold partS at h1; rw [if_neg (by decide), if_neg (by decide), if_pos rfl, Bool.and_eq_true] at h1; simpa using h1
  cases h
theorem PEx.rights_fit : ∀ {l : List PEx} {d : Nat}, PEx.rights l d = true → PEx.fits l
 | [], _, _ => trivial
 | e :: r, d, h => by
  simp only [PEx.rights, Bool.and_eq_true] at h
  exact ⟨PEx.right_fit h.1, PEx.rights_fit h.2⟩
end
mutual
def PEx.plain : PEx → Bool
 | .mk k _ _ _ _ _ args => if k = 2 ∨ k = 3 then false else PEx.plains args
def PEx.plains : List PEx → Bool
 | [] => true
 | e :: r => e.plain && PEx.plains r
end
mutual
/-- What an expression without names is worth, and its trap. -/
def PEx.ev : PEx → Int × Int
 | .mk k n _ _ _ op args =>
  if k = 1 then (n, 0)
  else if ((PEx.evs args).getD 0 (0, 0)).2 ≠ 0 then (PEx.evs args).getD 0 (0, 0)
  else if k = 4 then twoS 8 0 ((PEx.evs args).getD 0 (0, 0)).1
  else if k = 5 then (truthS (((PEx.evs args).getD 0 (0, 0)).1 == 0), 0)
  else if (op = 1 ∧ ((PEx.evs args).getD 0 (0, 0)).1 ≠ 0) ∨ (op = 2 ∧ ((PEx.evs args).getD 0 (0, 0)).1 = 0) then (truthS (op == 1), 0)
  else if ((PEx.evs args).getD 1 (0, 0)).2 ≠ 0 then (PEx.evs args).getD 1 (0, 0)
  else if op ≤ 2 then (truthS (((PEx.evs args).getD 1 (0, 0)).1 != 0), ((PEx.evs args).getD 1 (0, 0)).2)
  else twoS op ((PEx.evs args).getD 0 (0, 0)).1 ((PEx.evs args).getD 1 (0, 0)).1
def PEx.evs : List PEx → List (Int × Int)
 | [] => []
 | e :: r => e.ev :: PEx.evs r
end
theorem truthS_val (b : Bool) : val (truthS b) := by cases b <;> decide
theorem twoS_val (op a b : Int) : val (twoS op a b).1 := by
 unfold twoS
 split; exact truthS_val _
 split; exact truthS_val _
 split; exact truthS_val _
 split; exact truthS_val _
 split; decide
 have h : ∀ n : Int, val (if val n then ((n, 0) : Int × Int) else (0, 2)).1 := fun n => by by_cases h : val n; rw [if_pos h]; exact h; rw [if_neg h]; decide
 exact h _
mutual
theorem PEx.ev_val : ∀ {e : PEx}, e.fit → val e.ev.1
 | .mk k n nm _ _ op args, ⟨hk, h1, h2, h3, h4⟩ => by
  have h0 := PEx.evs_val h4
  have ha : ∀ i, val ((PEx.evs args).getD i (0, 0)).1 := fun i => by
   rcases Nat.lt_or_ge i (PEx.evs args).length with h | h
   · rw [gD h]; exact h0 _ (List.getElem_mem h)
   rw [List.getD_eq_getElem?_getD, List.getElem?_eq_none h]; decide
  simp only [PEx.ev]
  split
  · rename_i h; have := h2 h; unfold val; dsimp only; omega
  split; exact ha 0
  split; exact twoS_val _ _ _
  split; exact truthS_val _
  split; exact truthS_val _
  split; exact ha 1
  split; exact truthS_val _
  exact twoS_val _ _ _
theorem PEx.evs_val : ∀ {l : List PEx}, PEx.fits l → ∀ x ∈ PEx.evs l, val x.1
 | [], _, x, h => by cases h
 | e :: r, ⟨h1, h2⟩, x, h => by
  rcases List.mem_cons.1 h with rfl | h
  · exact PEx.ev_val h1
  exact PEx.evs_val h2 x h
end
def PEx.one (e : PEx) : Bool := e.plain && e.ev.2 == 0
mutual
def PEx.code : PEx → Int → List Ins
 | .mk k n nm slot loc op args, at_ =>
  if (PEx.one (.mk k n nm slot loc op args)) = true then [⟨1, 0, 0, (PEx.ev (.mk k n nm slot loc op args)).1⟩]
  else if k = 2 then [⟨if loc = true then 3 else 2, slot, 0, 0⟩]
  else if k = 1 then [⟨1, 0, 0, n⟩]
  else
   let a := (PEx.codes args).getD 0 (fun _ => []) at_
   if k = 6 ∧ op ≤ 2 then
    let b := (PEx.codes args).getD 1 (fun _ => []) (at_ + a.length + 1)
    a ++ [⟨if op = 2 then 20 else 21, at_ + a.length + 1 + b.length + 2, 0, 0⟩] ++ b ++ [⟨22, 0, 0, 0⟩, ⟨19, at_ + a.length + 1 + b.length + 2 + 1, 0, 0⟩, ⟨1, 0, 0, 2 - op⟩]
   else if k = 3 then a ++ [⟨4, slot, 0, 0⟩]
   else if k = 4 then a ++ [⟨8, 0, 0, 0⟩]
   else if k = 5 then a ++ [⟨9, 0, 0, 0⟩]
   else a ++ (PEx.codes args).getD 1 (fun _ => []) (at_ + a.length) ++ [⟨op + 7, 0, 0, 0⟩]
def PEx.codes : List PEx → List (Int → List Ins)
 | [] => []
 | e :: r => e.code :: PEx.codes r
end
mutual
theorem PEx.code_len : ∀ (e : PEx) (a : Int), (e.code a).length ≤ 4 * e.sz
 | .mk k n nm slot loc op args, a => by
  have h2 : ∀ a b, ((PEx.codes args).getD 0 (fun _ => []) a).length + ((PEx.codes args).getD 1 (fun _ => []) b).length ≤ 4 * PEx.szs args := PEx.codes_len args
  have h1 : ∀ a, ((PEx.codes args).getD 0 (fun _ => []) a).length ≤ 4 * PEx.szs args := fun a => by have := h2 a 0; omega
  simp only [PEx.code, PEx.sz]
  split; (simp only [List.length_cons, List.length_nil]; omega)
  split; (simp only [List.length_cons, List.length_nil]; omega)
  split; (simp only [List.length_cons, List.length_nil]; omega)
  have k1 := h1 a
  split
  · have := h2 a (a + (((PEx.codes args).getD 0 (fun _ => []) a).length : Int) + 1); simp only [List.length_append, List.length_cons, List.length_nil]; omega
  split; (simp only [List.length_append, List.length_cons, List.length_nil]; omega)
  split; (simp only [List.length_append, List.length_cons, List.length_nil]; omega)
  split; (simp only [List.length_append, List.length_cons, List.length_nil]; omega)
  have := h2 a (a + (((PEx.codes args).getD 0 (fun _ => []) a).length : Int)); simp only [List.length_append, List.length_cons, List.length_nil]; omega
theorem PEx.codes_len : ∀ (l : List PEx) (a b : Int), ((PEx.codes l).getD 0 (fun _ => []) a).length + ((PEx.codes l).getD 1 (fun _ => []) b).length ≤ 4 * PEx.szs l
 | [], a, b => by simp [PEx.codes]
 | [e], a, b => by have := PEx.code_len e a; simp [PEx.codes, PEx.szs]; omega
 | e :: x :: r, a, b => by have h1 := PEx.code_len e a; have h2 := PEx.code_len x b; simp [PEx.codes, PEx.szs]; omega
end
theorem tinfo62 : (Tryz.prog.info? 62).map (fun i => (i.zero, i.size, i.bytes)) = some (some (.agg #[.int .i64 0, .bool false, .int .i64 0]), 3, 24) := by kernel_rfl
theorem tinfo65 : (Tryz.prog.info? 65).map (fun i => (i.zero, i.size, i.bytes)) = some (some (.agg #[.int .i64 0, .int .i64 0, .int .i64 0, .int .i64 0]), 4, 32) := by kernel_rfl
section
variable {G : World} {q : List HP} {e : Ex} {ci ai bi ni : Int}
theorem ins_ok  : CallF Tryz.prog G 62 [.int .i64 ci, .int .i64 ai, .int .i64 bi, .int .i64 ni] (q) (Ret fun v q' => v = .agg (insC ⟨ci, ai, bi, ni⟩).toArray ∧ q' = q) := by
 refine CallF.of Tryz.func62 Tryz.ntmps62 rfl (fun F cs => ?_)
 refine xo 2 ?_; refine XO.al Tryz.zeroValue65 fun n1 => ?_
 refine oo 8 ?_; refine stA ?_; refine ox 1 ?_; refine X.retL (q) Tryz.func62 (resC1 Tryz.results62 (ResOk.cell rfl (LV.agg Tryz.isAgg65 Tryz.sizeOf65 hasA rfl) ResOk.nil)) ⟨_, rfl, rfl, rfl⟩
set_option maxHeartbeats 1000000 in
theorem plain_step (IH : ∀ (x : Ex), x.sz < e.sz → ∀ {q : List HP}, (Kn q fun M => x.At M) → CallF Tryz.prog G 203 [.agg (exC x).toArray] q (Ret fun v q' => v = .bool x.er.plain ∧ q' = q)) (h : Kn q fun M => e.At M) : CallF Tryz.prog G 203 [.agg (exC e).toArray] (q) (Ret fun v q' => v = .bool e.er.plain ∧ q' = q) := by
 refine CallF.of Tryz.func203 Tryz.ntmps203 rfl (fun F cs => ?_)
 obtain ⟨k, z, nm, sl, lo, op, args, aa, ac⟩ := e; have hA := Kn.exA h; have hlen := flatMap_len (f := exC) (sz := 7) exC_len args; refine X.fact (fun w s => Kn.exL (h.le leA) s) (fun hal => ?_)
 obtain ⟨R, hR⟩ : ∃ R, (Ex.er (.mk k z nm sl lo op args aa ac)).plain = R := ⟨_, rfl⟩; rw [hR]; simp only [Ex.er, PEx.plain] at hR
 refine xo 2 ?_; refine XO.bx fun n1 => ?_
 refine oo 6 ?_; refine ld ?_; refine oo 2 ?_; refine XO.sb [7, 2, 1] ?_
 apply XO.cutOr 4 11 7 rfl
 · intro g1 M1; have h1 := sp g1
   refine oo 1 ?_; refine ld ?_; refine oo 2 ?_; exact XO.fin M1 ⟨orF g1, subB⟩
 · intro g1 M1; have h1 := sp g1
   refine oo 4 ?_; exact XO.fin M1 ⟨orT g1, subB⟩
 refine ox 1 ?_; refine X.part 11 rfl (fun h1 => ?_) (fun h1 => ?_)
 · have hk : k = 2 ∨ k = 3 := (by simpa using h1); rw [if_pos hk] at hR
   refine xx 5 ?_; refine X.retL (q) Tryz.func203 (res1 Tryz.results203 rfl) ⟨_, rfl, by rw [← hR], rfl⟩
 have hk : ¬ (k = 2 ∨ k = 3) := (by simpa using h1); rw [if_neg hk] at hR
 refine xx 8 ?_; refine X.at (X.loop (fun (s : Nat × Option Addr) => s.1 ≤ args.length ∧ s.2 = aa ∧ R = PEx.plains (Ex.ers (args.drop s.1))) (fun s => [(3, .int .i64 (s.1 : Int)), (1, .pointer (some ⟨n1, 0, none⟩)), (2, .bool false)]) (fun s => pto n1 (.cells (exC (.mk k z nm sl lo op args s.2 ac)).toArray 215 (0, 0)) :: (q ++ F)) (fun s => args.length - s.1) (fun s hi_ ih => ?_) (0, aa) ⟨Nat.zero_le _, rfl, hR.symm⟩) subA leA
 try dsimp only at hi_ ih ⊢
 obtain ⟨hs, ha, hD⟩ := hi_
 obtain ⟨s, a2⟩ := s; dsimp only at *; subst ha; clear hR
 refine xo 5 ?_; refine ld ?_; refine ox 3 ?_; refine X.part 16 rfl (fun h0 => ?_) (fun h0 => ?_)
 · replace h0 := sp h0; have hlt : s < args.length := by omega
   have hds : PEx.plains (Ex.ers (args.drop s)) = (args[s].er.plain && PEx.plains (Ex.ers (args.drop (s + 1)))) := by rw [List.drop_eq_getElem_cons hlt]; rfl
   refine xo 7 ?_; refine ld ?_; refine oo 1 ?_; refine XO.adr hA (by rw [hlen]; omega) (fun b1 o1 e1 => ?_); subst e1
   refine oo 1 ?_; refine XO.ldS (n := s) Tryz.isAgg215 Tryz.sizeOf215 hA hlt ?_ (hf := exC_len)
   refine XO.cR Tryz.call203 (IH args[s] (by have := Ex.sz_mem (List.getElem_mem hlt); simp only [Ex.sz]; omega) (Kn.exI (h.le leA) hlt)) ?_
   refine XO.pu (Pu.not rfl) ?_; refine ox 1 ?_; refine X.part 25 rfl (fun h1 => ?_) (fun h1 => ?_)
   · replace h1 := sp h1
     refine xx 5 ?_; refine X.retL (q) Tryz.func203 (res1 Tryz.results203 rfl) ⟨_, rfl, by rw [hD, hds, h1]; rfl, rfl⟩
   replace h1 := sp h1
   refine xx 8 ?_; refine X.sb [3, 1, 2] ?_; refine X.at (ih (s + 1, _) ⟨by dsimp only; omega, rfl, by rw [hD, hds, h1]; rfl⟩ (by dsimp only; omega)) subA leA
 replace h0 := sp h0; obtain rfl : s = args.length := by omega
 refine xx 6 ?_; refine X.retL (q) Tryz.func203 (res1 Tryz.results203 rfl) ⟨_, rfl, by rw [hD, List.drop_length]; rfl, rfl⟩
theorem plain_ok : ∀ (N : Nat) (x : Ex), x.sz ≤ N → ∀ {q : List HP}, (Kn q fun M => x.At M) → CallF Tryz.prog G 203 [.agg (exC x).toArray] q (Ret fun v q' => v = .bool x.er.plain ∧ q' = q)
 | N, x, hN, _, h => plain_step (fun y hy _ h2 => by
  cases N with
  | zero => omega
  | succ N => exact plain_ok N y (by omega) h2) h
set_option maxHeartbeats 8000000 in
theorem ev_step (IH : ∀ (x : Ex), x.sz < e.sz → ∀ {q : List HP}, (Kn q fun M => x.At M) → x.er.plain = true → x.er.fit → CallF Tryz.prog G 105 [.agg #[.slice none 0 0, .slice none 0 0, .int .i64 0, .int .i64 0, .slice none 0 0, .slice none 0 0, .int .i64 0, .int .i64 0, .slice none 0 0, .slice none 0 0, .slice none 0 0, .slice none 0 0, .slice none 0 0, .slice none 0 0, .slice none 0 0, .slice none 0 0, .slice none 0 0, .slice none 0 0, .slice none 0 0, .int .i64 0, .int .i64 0, .int .i64 0, .int .i64 0], .agg (exC x).toArray, .slice none 0 0] q (Ret fun v q' => ∃ (ra : Option Addr) (rc : Nat), v = .agg [.int .i64 x.er.ev.1, .int .i64 x.er.ev.2, .slice ra 0 rc].toArray ∧ q' = q)) (h : Kn q fun M => e.At M) (hp : e.er.plain = true) (hf : e.er.fit) : CallF Tryz.prog G 105 [.agg #[.slice none 0 0, .slice none 0 0, .int .i64 0, .int .i64 0, .slice none 0 0, .slice none 0 0, .int .i64 0, .int .i64 0, .slice none 0 0, .slice none 0 0, .slice none 0 0, .slice none 0 0, .slice none 0 0, .slice none 0 0, .slice none 0 0, .slice none 0 0, .slice none 0 0, .slice none 0 0, .slice none 0 0, .int .i64 0, .int .i64 0, .int .i64 0, .int .i64 0], .agg (exC e).toArray, .slice none 0 0] (q) (Ret fun v q' => ∃ (ra : Option Addr) (rc : Nat), v = .agg [.int .i64 e.er.ev.1, .int .i64 e.er.ev.2, .slice ra 0 rc].toArray ∧ q' = q) := by
 refine CallF.of Tryz.func105 Tryz.ntmps105 rfl (fun F cs => ?_)
 obtain ⟨k, z, nm, sl, lo, op, args, aa, ac⟩ := e; have hA := Kn.exA h; simp only [Ex.er, PEx.plain] at hp; simp only [Ex.er, PEx.fit, Ex.ers_len] at hf; obtain ⟨hf1, hf2, hf3, hf4, hf5⟩ := hf
 have hk : ¬ (k = 2 ∨ k = 3) := (fun hx => by rw [if_pos hx] at hp; cases hp); rw [if_neg hk] at hp
 obtain ⟨R, hR⟩ : ∃ R, (Ex.er (.mk k z nm sl lo op args aa ac)).ev = R := ⟨_, rfl⟩; rw [hR]; simp only [Ex.er, PEx.ev] at hR
 have hcl : k = 1 ∨ k = 4 ∨ k = 5 ∨ (k = 6 ∧ op = 1) ∨ (k = 6 ∧ op = 2) ∨ (k = 6 ∧ 3 ≤ op) := by omega
 rcases hcl with rfl | rfl | rfl | ⟨rfl, rfl⟩ | ⟨rfl, rfl⟩ | ⟨rfl, hop⟩
 · rw [if_pos rfl] at hR
   refine xo 2 ?_; refine XO.bx fun n1 => ?_
   refine XO.bx fun n2 => ?_
   refine XO.al Tryz.zeroValue220 fun n3 => ?_
   refine oo 5 ?_; refine ld ?_; refine ox 7 ?_; refine X.kt 17 ?_; refine xo 4 ?_; refine ld ?_; refine oo 1 ?_; refine stA ?_; refine ox 1 ?_; refine X.retL (q) Tryz.func105 (resC1 Tryz.results105 (ResOk.cell rfl (LV.agg Tryz.isAgg220 Tryz.sizeOf220 hasA rfl) ResOk.nil)) ⟨_, rfl, none, 0, by rw [← hR]; rfl, rfl⟩
 · obtain ⟨x, rfl⟩ : ∃ x, args = [x] := (by match args, hf2 with | [x], _ => exact ⟨x, rfl⟩); obtain ⟨k1, z1, s1, l1, o1, p1, y1, u1, w1⟩ := x
   simp only [Ex.ers, PEx.plains, Bool.and_eq_true] at hp; simp only [Ex.ers, PEx.fits] at hf5; simp only [Ex.ers, PEx.evs, List.getD_cons_zero, List.getD_cons_succ] at hR
   obtain ⟨A, hA1⟩ : ∃ A, (Ex.er (.mk k1 z1 s1 l1 o1 p1 y1 u1 w1)).ev = A := ⟨_, rfl⟩; have hAv : val A.1 := (by rw [← hA1]; exact PEx.ev_val hf5.1); have hs1 : Ex.sz (.mk k1 z1 s1 l1 o1 p1 y1 u1 w1) < Ex.sz (.mk 4 z nm sl lo op [(.mk k1 z1 s1 l1 o1 p1 y1 u1 w1)] aa ac) := (by simp only [Ex.sz, Ex.szs]; omega); have hK1 : Kn q fun M => Ex.At M (.mk k1 z1 s1 l1 o1 p1 y1 u1 w1) := Kn.exI (args := [(.mk k1 z1 s1 l1 o1 p1 y1 u1 w1)]) h (i := 0) (by simp); rw [hA1] at hR; simp only [Int.reduceEq, if_false, if_true, reduceIte, true_and, false_and, or_false, false_or] at hR
   have hI1 : ∀ {q : List HP}, (Kn q fun M => Ex.At M (.mk k1 z1 s1 l1 o1 p1 y1 u1 w1)) → CallF Tryz.prog G 105 [.agg #[.slice none 0 0, .slice none 0 0, .int .i64 0, .int .i64 0, .slice none 0 0, .slice none 0 0, .int .i64 0, .int .i64 0, .slice none 0 0, .slice none 0 0, .slice none 0 0, .slice none 0 0, .slice none 0 0, .slice none 0 0, .slice none 0 0, .slice none 0 0, .slice none 0 0, .slice none 0 0, .slice none 0 0, .int .i64 0, .int .i64 0, .int .i64 0, .int .i64 0], .agg (exC (.mk k1 z1 s1 l1 o1 p1 y1 u1 w1)).toArray, .slice none 0 0] q (Ret fun v q' => ∃ (ra : Option Addr) (rc : Nat), v = .agg [.int .i64 A.1, .int .i64 A.2, .slice ra 0 rc].toArray ∧ q' = q) := (by intro q h; rw [← hA1]; exact IH (.mk k1 z1 s1 l1 o1 p1 y1 u1 w1) hs1 h hp.1 hf5.1)
   have hl0 : 0 < ([(.mk k1 z1 s1 l1 o1 p1 y1 u1 w1)] : List Ex).length := by simp
   refine xo 2 ?_; refine XO.bx fun n4 => ?_
   refine XO.bx fun n5 => ?_
   refine XO.al Tryz.zeroValue220 fun n6 => ?_
   refine oo 5 ?_; refine ld ?_; refine ox 7 ?_; refine X.kf 17 ?_; refine xx 6 ?_; refine X.kf 22 ?_; refine xx 4 ?_; refine drw ?_; refine ldAD 0 ?_; refine dd [1] ?_; refine ldD 2 ?_; refine XD.adr hA (by simp [exC_len]) (fun b9 o9 e9 => ?_); subst e9
   have hx0 : ∀ (Q : List HP), Le Q q → ∀ (j : Nat) (v : Value), (exC (.mk k1 z1 s1 l1 o1 p1 y1 u1 w1))[j]? = some v → Cl Q ⟨b9, o9 + (0 : Int).toNat * 7 + j, none⟩ v := fun Q hQ j v hk => Cl.row (j := 0) (n := 0) (sz := 7) hA hQ exC_len hl0 rfl j v hk; have hr0 : ∀ (Q : List HP) (i : Nat), Le Q q → HL Q (rdA i b9 (o9 + (0 : Int).toNat * 7) (exC (.mk k1 z1 s1 l1 o1 p1 y1 u1 w1))) := fun Q i hQ => HL.rdA fun j v hk => hx0 Q hQ j v hk
   refine dd [3] ?_; refine XD.ldS 4 (m := 0) Tryz.isAgg215 Tryz.sizeOf215 hA hl0 ?_ (hf := exC_len)
   refine dd [5] ?_; refine XD.float (fl := [⟨7, 7, fun g => .pointer (some ⟨g, 0, none⟩), fun g => pto g (.cells [.int .i64 0, .int .i64 0, .slice none 0 0].toArray 220 (0, 0))⟩]) ?_
   refine XF.cX 6 ⟨⟨_, rfl, rfl, rfl, rfl, rfl, rfl, fun q => Ef.alloc Tryz.zeroValue220⟩, trivial⟩ Tryz.call105 (Le.refl _) (hI1 (Kn.le hK1)) ?_ (hL := (hlA (h := by repeat first | exact trivial | refine ⟨clA, ?_⟩ | refine HL.app (hr0 _ _ leA) ?_ | refine ⟨hx0 _ leA 0 _ rfl, ?_⟩ | refine ⟨hx0 _ leA _ _ rfl, ?_⟩)))
   rintro _ _ ⟨ra1, rc1, rfl, rfl⟩
   refine ⟨(hlA (h := by repeat first | exact trivial | refine ⟨clA, ?_⟩ | refine HL.app (hr0 _ _ leA) ?_ | refine ⟨hx0 _ leA 0 _ rfl, ?_⟩ | refine ⟨hx0 _ leA _ _ rfl, ?_⟩)), ?_⟩
   refine XF.abs (e0 := ⟨7, 7, fun g => .pointer (some ⟨g, 0, none⟩), fun g => pto g (.cells [.int .i64 0, .int .i64 0, .slice none 0 0].toArray 220 (0, 0))⟩) (hnd := by simp) 7 ⟨⟨_, rfl, rfl, rfl, rfl, rfl, rfl, fun q => Ef.alloc Tryz.zeroValue220⟩, trivial⟩ (fun nm1 => ?_) (hL := (hlA (h := by repeat first | exact trivial | refine ⟨clA, ?_⟩ | refine HL.app (hr0 _ _ leA) ?_ | refine ⟨hx0 _ leA 0 _ rfl, ?_⟩ | refine ⟨hx0 _ leA _ _ rfl, ?_⟩)))
   change XF _ _ _ _ _ _ _ [] _ _ _ ((7, .pointer (some ⟨nm1, 0, none⟩)) :: _) _ _ (pto nm1 (.cells [.int .i64 0, .int .i64 0, .slice none 0 0].toArray 220 (0, 0)) :: _)
   refine XF.back ?_ (hL := (hlA (h := by repeat first | exact trivial | refine ⟨clA, ?_⟩ | refine HL.app (hr0 _ _ leA) ?_ | refine ⟨hx0 _ leA 0 _ rfl, ?_⟩ | refine ⟨hx0 _ leA _ _ rfl, ?_⟩)))
   refine stAD 8 ?_; refine XD.nil ?_; refine xo 4 ?_; refine ld ?_; refine ox 2 ?_; refine X.sb [58, 7, 6, 4, 3, 2] ?_; refine X.part 58 rfl (fun h1 => ?_) (fun h1 => ?_)
   · replace h1 := sp h1
     refine xo 3 ?_; refine ldA ?_; refine stA ?_; refine ox 1 ?_
     repeat (first | rw [if_pos (by omega)] at hR | rw [if_neg (by omega)] at hR)
     refine X.retL (q) Tryz.func105 (resC1 Tryz.results105 (ResOk.cell rfl (LV.agg Tryz.isAgg220 Tryz.sizeOf220 hasA rfl) ResOk.nil)) ⟨_, rfl, ra1, rc1, by rw [← hR]; rfl, rfl⟩
   replace h1 := sp h1
   refine xo 6 ?_; refine ld ?_; refine ox 7 ?_; refine X.kf 62 ?_; refine xx 6 ?_; refine X.kt 92 ?_; refine xo 4 ?_; refine ld ?_; refine XO.cR Tryz.call157 (two05_ok (op := 8) (u := 0) (z := A.1) (by omega) (by decide) hAv) ?_
   refine oo 11 ?_; refine ld ?_; refine oo 1 ?_; refine stA ?_; refine ox 1 ?_; refine X.sb [7, 6, 4, 3, 2] ?_
   repeat (first | rw [if_pos (by omega)] at hR | rw [if_neg (by omega)] at hR)
   refine X.retL (q) Tryz.func105 (resC1 Tryz.results105 (ResOk.cell rfl (LV.agg Tryz.isAgg220 Tryz.sizeOf220 hasA rfl) ResOk.nil)) ⟨_, rfl, ra1, rc1, by rw [← hR]; rfl, rfl⟩
 · obtain ⟨x, rfl⟩ : ∃ x, args = [x] := (by match args, hf2 with | [x], _ => exact ⟨x, rfl⟩); obtain ⟨k1, z1, s1, l1, o1, p1, y1, u1, w1⟩ := x
   simp only [Ex.ers, PEx.plains, Bool.and_eq_true] at hp; simp only [Ex.ers, PEx.fits] at hf5; simp only [Ex.ers, PEx.evs, List.getD_cons_zero, List.getD_cons_succ] at hR
   obtain ⟨A, hA1⟩ : ∃ A, (Ex.er (.mk k1 z1 s1 l1 o1 p1 y1 u1 w1)).ev = A := ⟨_, rfl⟩; have hAv : val A.1 := (by rw [← hA1]; exact PEx.ev_val hf5.1); have hs1 : Ex.sz (.mk k1 z1 s1 l1 o1 p1 y1 u1 w1) < Ex.sz (.mk 5 z nm sl lo op [(.mk k1 z1 s1 l1 o1 p1 y1 u1 w1)] aa ac) := (by simp only [Ex.sz, Ex.szs]; omega); have hK1 : Kn q fun M => Ex.At M (.mk k1 z1 s1 l1 o1 p1 y1 u1 w1) := Kn.exI (args := [(.mk k1 z1 s1 l1 o1 p1 y1 u1 w1)]) h (i := 0) (by simp); rw [hA1] at hR; simp only [Int.reduceEq, if_false, if_true, reduceIte, true_and, false_and, or_false, false_or] at hR
   have hI1 : ∀ {q : List HP}, (Kn q fun M => Ex.At M (.mk k1 z1 s1 l1 o1 p1 y1 u1 w1)) → CallF Tryz.prog G 105 [.agg #[.slice none 0 0, .slice none 0 0, .int .i64 0, .int .i64 0, .slice none 0 0, .slice none 0 0, .int .i64 0, .int .i64 0, .slice none 0 0, .slice none 0 0, .slice none 0 0, .slice none 0 0, .slice none 0 0, .slice none 0 0, .slice none 0 0, .slice none 0 0, .slice none 0 0, .slice none 0 0, .slice none 0 0, .int .i64 0, .int .i64 0, .int .i64 0, .int .i64 0], .agg (exC (.mk k1 z1 s1 l1 o1 p1 y1 u1 w1)).toArray, .slice none 0 0] q (Ret fun v q' => ∃ (ra : Option Addr) (rc : Nat), v = .agg [.int .i64 A.1, .int .i64 A.2, .slice ra 0 rc].toArray ∧ q' = q) := (by intro q h; rw [← hA1]; exact IH (.mk k1 z1 s1 l1 o1 p1 y1 u1 w1) hs1 h hp.1 hf5.1)
   have hl0 : 0 < ([(.mk k1 z1 s1 l1 o1 p1 y1 u1 w1)] : List Ex).length := by simp
   refine xo 2 ?_; refine XO.bx fun n7 => ?_
   refine XO.bx fun n8 => ?_
   refine XO.al Tryz.zeroValue220 fun n9 => ?_
   refine oo 5 ?_; refine ld ?_; refine ox 7 ?_; refine X.kf 17 ?_; refine xx 6 ?_; refine X.kf 22 ?_; refine xx 4 ?_; refine drw ?_; refine ldAD 0 ?_; refine dd [1] ?_; refine ldD 2 ?_; refine XD.adr hA (by simp [exC_len]) (fun b9 o9 e9 => ?_); subst e9
   have hx0 : ∀ (Q : List HP), Le Q q → ∀ (j : Nat) (v : Value), (exC (.mk k1 z1 s1 l1 o1 p1 y1 u1 w1))[j]? = some v → Cl Q ⟨b9, o9 + (0 : Int).toNat * 7 + j, none⟩ v := fun Q hQ j v hk => Cl.row (j := 0) (n := 0) (sz := 7) hA hQ exC_len hl0 rfl j v hk; have hr0 : ∀ (Q : List HP) (i : Nat), Le Q q → HL Q (rdA i b9 (o9 + (0 : Int).toNat * 7) (exC (.mk k1 z1 s1 l1 o1 p1 y1 u1 w1))) := fun Q i hQ => HL.rdA fun j v hk => hx0 Q hQ j v hk
   refine dd [3] ?_; refine XD.ldS 4 (m := 0) Tryz.isAgg215 Tryz.sizeOf215 hA hl0 ?_ (hf := exC_len)
   refine dd [5] ?_; refine XD.float (fl := [⟨7, 7, fun g => .pointer (some ⟨g, 0, none⟩), fun g => pto g (.cells [.int .i64 0, .int .i64 0, .slice none 0 0].toArray 220 (0, 0))⟩]) ?_
   refine XF.cX 6 ⟨⟨_, rfl, rfl, rfl, rfl, rfl, rfl, fun q => Ef.alloc Tryz.zeroValue220⟩, trivial⟩ Tryz.call105 (Le.refl _) (hI1 (Kn.le hK1)) ?_ (hL := (hlA (h := by repeat first | exact trivial | refine ⟨clA, ?_⟩ | refine HL.app (hr0 _ _ leA) ?_ | refine ⟨hx0 _ leA 0 _ rfl, ?_⟩ | refine ⟨hx0 _ leA _ _ rfl, ?_⟩)))
   rintro _ _ ⟨ra1, rc1, rfl, rfl⟩
   refine ⟨(hlA (h := by repeat first | exact trivial | refine ⟨clA, ?_⟩ | refine HL.app (hr0 _ _ leA) ?_ | refine ⟨hx0 _ leA 0 _ rfl, ?_⟩ | refine ⟨hx0 _ leA _ _ rfl, ?_⟩)), ?_⟩
   refine XF.abs (e0 := ⟨7, 7, fun g => .pointer (some ⟨g, 0, none⟩), fun g => pto g (.cells [.int .i64 0, .int .i64 0, .slice none 0 0].toArray 220 (0, 0))⟩) (hnd := by simp) 7 ⟨⟨_, rfl, rfl, rfl, rfl, rfl, rfl, fun q => Ef.alloc Tryz.zeroValue220⟩, trivial⟩ (fun nm1 => ?_) (hL := (hlA (h := by repeat first | exact trivial | refine ⟨clA, ?_⟩ | refine HL.app (hr0 _ _ leA) ?_ | refine ⟨hx0 _ leA 0 _ rfl, ?_⟩ | refine ⟨hx0 _ leA _ _ rfl, ?_⟩)))
   change XF _ _ _ _ _ _ _ [] _ _ _ ((7, .pointer (some ⟨nm1, 0, none⟩)) :: _) _ _ (pto nm1 (.cells [.int .i64 0, .int .i64 0, .slice none 0 0].toArray 220 (0, 0)) :: _)
   refine XF.back ?_ (hL := (hlA (h := by repeat first | exact trivial | refine ⟨clA, ?_⟩ | refine HL.app (hr0 _ _ leA) ?_ | refine ⟨hx0 _ leA 0 _ rfl, ?_⟩ | refine ⟨hx0 _ leA _ _ rfl, ?_⟩)))
   refine stAD 8 ?_; refine XD.nil ?_; refine xo 4 ?_; refine ld ?_; refine ox 2 ?_; refine X.sb [58, 7, 6, 4, 3, 2] ?_; refine X.part 58 rfl (fun h1 => ?_) (fun h1 => ?_)
   · replace h1 := sp h1
     refine xo 3 ?_; refine ldA ?_; refine stA ?_; refine ox 1 ?_
     repeat (first | rw [if_pos (by omega)] at hR | rw [if_neg (by omega)] at hR)
     refine X.retL (q) Tryz.func105 (resC1 Tryz.results105 (ResOk.cell rfl (LV.agg Tryz.isAgg220 Tryz.sizeOf220 hasA rfl) ResOk.nil)) ⟨_, rfl, ra1, rc1, by rw [← hR]; rfl, rfl⟩
   replace h1 := sp h1
   refine xo 6 ?_; refine ld ?_; refine ox 7 ?_; refine X.kf 62 ?_; refine xx 6 ?_; refine X.kf 92 ?_; refine xx 6 ?_; refine X.kt 105 ?_; refine xx 2 ?_; refine drw ?_; refine dd [0] ?_; refine ldD 1 ?_; refine dd [2, 4] ?_; refine ldD 5 ?_; refine XD.cRL 3 Tryz.call158 (truth05_ok) ?_ (hL := (hlA (h := by repeat first | exact trivial | refine ⟨clA, ?_⟩ | refine HL.app (hr0 _ _ leA) ?_ | refine ⟨hx0 _ leA 0 _ rfl, ?_⟩ | refine ⟨hx0 _ leA _ _ rfl, ?_⟩)))
   refine dd [6] ?_; refine stAD 7 ?_; refine XD.nil ?_
   repeat (first | rw [if_pos (by omega)] at hR | rw [if_neg (by omega)] at hR)
   refine X.retL (q) Tryz.func105 (resC1 Tryz.results105 (ResOk.cell rfl (LV.agg Tryz.isAgg220 Tryz.sizeOf220 hasA rfl) ResOk.nil)) ⟨_, rfl, ra1, rc1, by rw [← hR]; rfl, rfl⟩
 · obtain ⟨x, x2, rfl⟩ : ∃ x y, args = [x, y] := (by match args, hf2 with | [x, y], _ => exact ⟨x, y, rfl⟩); obtain ⟨k1, z1, s1, l1, o1, p1, y1, u1, w1⟩ := x; obtain ⟨k2, z2, s2, l2, o2, p2, y2, u2, w2⟩ := x2
   simp only [Ex.ers, PEx.plains, Bool.and_eq_true] at hp; simp only [Ex.ers, PEx.fits] at hf5; simp only [Ex.ers, PEx.evs, List.getD_cons_zero, List.getD_cons_succ] at hR
   obtain ⟨A, hA1⟩ : ∃ A, (Ex.er (.mk k1 z1 s1 l1 o1 p1 y1 u1 w1)).ev = A := ⟨_, rfl⟩; have hAv : val A.1 := (by rw [← hA1]; exact PEx.ev_val hf5.1); have hs1 : Ex.sz (.mk k1 z1 s1 l1 o1 p1 y1 u1 w1) < Ex.sz (.mk 6 z nm sl lo 1 [(.mk k1 z1 s1 l1 o1 p1 y1 u1 w1), (.mk k2 z2 s2 l2 o2 p2 y2 u2 w2)] aa ac) := (by simp only [Ex.sz, Ex.szs]; omega); have hK1 : Kn q fun M => Ex.At M (.mk k1 z1 s1 l1 o1 p1 y1 u1 w1) := Kn.exI (args := [(.mk k1 z1 s1 l1 o1 p1 y1 u1 w1), (.mk k2 z2 s2 l2 o2 p2 y2 u2 w2)]) h (i := 0) (by simp); rw [hA1] at hR; simp only [Int.reduceEq, if_false, if_true, reduceIte, true_and, false_and, or_false, false_or] at hR
   obtain ⟨B, hB1⟩ : ∃ B, (Ex.er (.mk k2 z2 s2 l2 o2 p2 y2 u2 w2)).ev = B := ⟨_, rfl⟩; have hBv : val B.1 := (by rw [← hB1]; exact PEx.ev_val hf5.2.1); have hs2 : Ex.sz (.mk k2 z2 s2 l2 o2 p2 y2 u2 w2) < Ex.sz (.mk 6 z nm sl lo 1 [(.mk k1 z1 s1 l1 o1 p1 y1 u1 w1), (.mk k2 z2 s2 l2 o2 p2 y2 u2 w2)] aa ac) := (by simp only [Ex.sz, Ex.szs]; omega); have hK2 : Kn q fun M => Ex.At M (.mk k2 z2 s2 l2 o2 p2 y2 u2 w2) := Kn.exI (args := [(.mk k1 z1 s1 l1 o1 p1 y1 u1 w1), (.mk k2 z2 s2 l2 o2 p2 y2 u2 w2)]) h (i := 1) (by simp); rw [hB1] at hR
   have hI1 : ∀ {q : List HP}, (Kn q fun M => Ex.At M (.mk k1 z1 s1 l1 o1 p1 y1 u1 w1)) → CallF Tryz.prog G 105 [.agg #[.slice none 0 0, .slice none 0 0, .int .i64 0, .int .i64 0, .slice none 0 0, .slice none 0 0, .int .i64 0, .int .i64 0, .slice none 0 0, .slice none 0 0, .slice none 0 0, .slice none 0 0, .slice none 0 0, .slice none 0 0, .slice none 0 0, .slice none 0 0, .slice none 0 0, .slice none 0 0, .slice none 0 0, .int .i64 0, .int .i64 0, .int .i64 0, .int .i64 0], .agg (exC (.mk k1 z1 s1 l1 o1 p1 y1 u1 w1)).toArray, .slice none 0 0] q (Ret fun v q' => ∃ (ra : Option Addr) (rc : Nat), v = .agg [.int .i64 A.1, .int .i64 A.2, .slice ra 0 rc].toArray ∧ q' = q) := (by intro q h; rw [← hA1]; exact IH (.mk k1 z1 s1 l1 o1 p1 y1 u1 w1) hs1 h hp.1 hf5.1)
   have hI2 : ∀ {q : List HP}, (Kn q fun M => Ex.At M (.mk k2 z2 s2 l2 o2 p2 y2 u2 w2)) → CallF Tryz.prog G 105 [.agg #[.slice none 0 0, .slice none 0 0, .int .i64 0, .int .i64 0, .slice none 0 0, .slice none 0 0, .int .i64 0, .int .i64 0, .slice none 0 0, .slice none 0 0, .slice none 0 0, .slice none 0 0, .slice none 0 0, .slice none 0 0, .slice none 0 0, .slice none 0 0, .slice none 0 0, .slice none 0 0, .slice none 0 0, .int .i64 0, .int .i64 0, .int .i64 0, .int .i64 0], .agg (exC (.mk k2 z2 s2 l2 o2 p2 y2 u2 w2)).toArray, .slice none 0 0] q (Ret fun v q' => ∃ (ra : Option Addr) (rc : Nat), v = .agg [.int .i64 B.1, .int .i64 B.2, .slice ra 0 rc].toArray ∧ q' = q) := (by intro q h; rw [← hB1]; exact IH (.mk k2 z2 s2 l2 o2 p2 y2 u2 w2) hs2 h hp.2.1 hf5.2.1)
   have hl0 : 0 < ([(.mk k1 z1 s1 l1 o1 p1 y1 u1 w1), (.mk k2 z2 s2 l2 o2 p2 y2 u2 w2)] : List Ex).length := by simp
   have hl1 : 1 < ([(.mk k1 z1 s1 l1 o1 p1 y1 u1 w1), (.mk k2 z2 s2 l2 o2 p2 y2 u2 w2)] : List Ex).length := by simp
   refine xo 2 ?_; refine XO.bx fun n10 => ?_
   refine XO.bx fun n11 => ?_
   refine XO.al Tryz.zeroValue220 fun n12 => ?_
   refine oo 5 ?_; refine ld ?_; refine ox 7 ?_; refine X.kf 17 ?_; refine xx 6 ?_; refine X.kf 22 ?_; refine xx 4 ?_; refine drw ?_; refine ldAD 0 ?_; refine dd [1] ?_; refine ldD 2 ?_; refine XD.adr hA (by simp [exC_len]) (fun b9 o9 e9 => ?_); subst e9
   have hx0 : ∀ (Q : List HP), Le Q q → ∀ (j : Nat) (v : Value), (exC (.mk k1 z1 s1 l1 o1 p1 y1 u1 w1))[j]? = some v → Cl Q ⟨b9, o9 + (0 : Int).toNat * 7 + j, none⟩ v := fun Q hQ j v hk => Cl.row (j := 0) (n := 0) (sz := 7) hA hQ exC_len hl0 rfl j v hk; have hr0 : ∀ (Q : List HP) (i : Nat), Le Q q → HL Q (rdA i b9 (o9 + (0 : Int).toNat * 7) (exC (.mk k1 z1 s1 l1 o1 p1 y1 u1 w1))) := fun Q i hQ => HL.rdA fun j v hk => hx0 Q hQ j v hk
   have hx1 : ∀ (Q : List HP), Le Q q → ∀ (j : Nat) (v : Value), (exC (.mk k2 z2 s2 l2 o2 p2 y2 u2 w2))[j]? = some v → Cl Q ⟨b9, o9 + (1 : Int).toNat * 7 + j, none⟩ v := fun Q hQ j v hk => Cl.row (j := 1) (n := 1) (sz := 7) hA hQ exC_len hl1 rfl j v hk; have hr1 : ∀ (Q : List HP) (i : Nat), Le Q q → HL Q (rdA i b9 (o9 + (1 : Int).toNat * 7) (exC (.mk k2 z2 s2 l2 o2 p2 y2 u2 w2))) := fun Q i hQ => HL.rdA fun j v hk => hx1 Q hQ j v hk
   refine dd [3] ?_; refine XD.ldS 4 (m := 0) Tryz.isAgg215 Tryz.sizeOf215 hA hl0 ?_ (hf := exC_len)
   refine dd [5] ?_; refine XD.float (fl := [⟨7, 7, fun g => .pointer (some ⟨g, 0, none⟩), fun g => pto g (.cells [.int .i64 0, .int .i64 0, .slice none 0 0].toArray 220 (0, 0))⟩]) ?_
   refine XF.cX 6 ⟨⟨_, rfl, rfl, rfl, rfl, rfl, rfl, fun q => Ef.alloc Tryz.zeroValue220⟩, trivial⟩ Tryz.call105 (Le.refl _) (hI1 (Kn.le hK1)) ?_ (hL := (hlA (h := by repeat first | exact trivial | refine ⟨clA, ?_⟩ | refine HL.app (hr0 _ _ leA) ?_ | refine ⟨hx0 _ leA 0 _ rfl, ?_⟩ | refine ⟨hx0 _ leA _ _ rfl, ?_⟩ | refine HL.app (hr1 _ _ leA) ?_ | refine ⟨hx1 _ leA 0 _ rfl, ?_⟩ | refine ⟨hx1 _ leA _ _ rfl, ?_⟩)))
   rintro _ _ ⟨ra1, rc1, rfl, rfl⟩
   refine ⟨(hlA (h := by repeat first | exact trivial | refine ⟨clA, ?_⟩ | refine HL.app (hr0 _ _ leA) ?_ | refine ⟨hx0 _ leA 0 _ rfl, ?_⟩ | refine ⟨hx0 _ leA _ _ rfl, ?_⟩ | refine HL.app (hr1 _ _ leA) ?_ | refine ⟨hx1 _ leA 0 _ rfl, ?_⟩ | refine ⟨hx1 _ leA _ _ rfl, ?_⟩)), ?_⟩
   refine XF.abs (e0 := ⟨7, 7, fun g => .pointer (some ⟨g, 0, none⟩), fun g => pto g (.cells [.int .i64 0, .int .i64 0, .slice none 0 0].toArray 220 (0, 0))⟩) (hnd := by simp) 7 ⟨⟨_, rfl, rfl, rfl, rfl, rfl, rfl, fun q => Ef.alloc Tryz.zeroValue220⟩, trivial⟩ (fun nm1 => ?_) (hL := (hlA (h := by repeat first | exact trivial | refine ⟨clA, ?_⟩ | refine HL.app (hr0 _ _ leA) ?_ | refine ⟨hx0 _ leA 0 _ rfl, ?_⟩ | refine ⟨hx0 _ leA _ _ rfl, ?_⟩ | refine HL.app (hr1 _ _ leA) ?_ | refine ⟨hx1 _ leA 0 _ rfl, ?_⟩ | refine ⟨hx1 _ leA _ _ rfl, ?_⟩)))
   change XF _ _ _ _ _ _ _ [] _ _ _ ((7, .pointer (some ⟨nm1, 0, none⟩)) :: _) _ _ (pto nm1 (.cells [.int .i64 0, .int .i64 0, .slice none 0 0].toArray 220 (0, 0)) :: _)
   refine XF.back ?_ (hL := (hlA (h := by repeat first | exact trivial | refine ⟨clA, ?_⟩ | refine HL.app (hr0 _ _ leA) ?_ | refine ⟨hx0 _ leA 0 _ rfl, ?_⟩ | refine ⟨hx0 _ leA _ _ rfl, ?_⟩ | refine HL.app (hr1 _ _ leA) ?_ | refine ⟨hx1 _ leA 0 _ rfl, ?_⟩ | refine ⟨hx1 _ leA _ _ rfl, ?_⟩)))
   refine stAD 8 ?_; refine XD.nil ?_; refine xo 4 ?_; refine ld ?_; refine ox 2 ?_; refine X.sb [58, 7, 6, 4, 3, 2] ?_; refine X.part 58 rfl (fun h1 => ?_) (fun h1 => ?_)
   · replace h1 := sp h1
     refine xo 3 ?_; refine ldA ?_; refine stA ?_; refine ox 1 ?_
     repeat (first | rw [if_pos (by omega)] at hR | rw [if_neg (by omega)] at hR)
     refine X.retL (q) Tryz.func105 (resC1 Tryz.results105 (ResOk.cell rfl (LV.agg Tryz.isAgg220 Tryz.sizeOf220 hasA rfl) ResOk.nil)) ⟨_, rfl, ra1, rc1, by rw [← hR]; rfl, rfl⟩
   replace h1 := sp h1
   refine xo 6 ?_; refine ld ?_; refine ox 7 ?_; refine X.kf 62 ?_; refine xx 6 ?_; refine X.kf 92 ?_; refine xx 6 ?_; refine X.kf 105 ?_; refine xo 6 ?_; refine ld ?_; refine oo 8 ?_; refine XO.kt 118 ?_; refine oo 1 ?_; refine ld ?_; refine oo 3 ?_; refine XO.part 123 rfl (fun h2 => ?_) (fun h2 => ?_)
   · replace h2 := sp h2
     refine ox 11 ?_; refine X.sb [11, 7, 6, 4, 3, 2] ?_; refine drw ?_; refine dd [0, 1, 3] ?_; refine ldD 4 ?_; refine XD.cRL 2 Tryz.call158 (truth05_ok) ?_ (hL := (hlA (h := by repeat first | exact trivial | refine ⟨clA, ?_⟩ | refine HL.app (hr0 _ _ leA) ?_ | refine ⟨hx0 _ leA 0 _ rfl, ?_⟩ | refine ⟨hx0 _ leA _ _ rfl, ?_⟩ | refine HL.app (hr1 _ _ leA) ?_ | refine ⟨hx1 _ leA 0 _ rfl, ?_⟩ | refine ⟨hx1 _ leA _ _ rfl, ?_⟩)))
     refine dd [5] ?_; refine stAD 6 ?_; refine XD.nil ?_
     repeat (first | rw [if_pos (by omega)] at hR | rw [if_neg (by omega)] at hR)
     refine X.retL (q) Tryz.func105 (resC1 Tryz.results105 (ResOk.cell rfl (LV.agg Tryz.isAgg220 Tryz.sizeOf220 hasA rfl) ResOk.nil)) ⟨_, rfl, ra1, rc1, by rw [← hR]; rfl, rfl⟩
   replace h2 := sp h2
   refine oo 3 ?_; refine XO.kf 126 ?_; refine ox 9 ?_; refine X.sb [11, 7, 6, 4, 3, 2] ?_; refine drw ?_; refine ldAD 0 ?_; refine dd [1] ?_; refine ldD 2 ?_; refine dd [3] ?_; refine XD.ldS 4 (m := 1) Tryz.isAgg215 Tryz.sizeOf215 hA hl1 ?_ (hf := exC_len)
   refine dd [5] ?_; refine XD.float (fl := [⟨7, 12, fun g => .pointer (some ⟨g, 0, none⟩), fun g => pto g (.cells [.int .i64 0, .int .i64 0, .slice none 0 0].toArray 220 (0, 0))⟩]) ?_
   refine XF.cX 6 ⟨⟨_, rfl, rfl, rfl, rfl, rfl, rfl, fun q => Ef.alloc Tryz.zeroValue220⟩, trivial⟩ Tryz.call105 (Le.refl _) (hI2 (Kn.le hK2)) ?_ (hL := (hlA (h := by repeat first | exact trivial | refine ⟨clA, ?_⟩ | refine HL.app (hr0 _ _ leA) ?_ | refine ⟨hx0 _ leA 0 _ rfl, ?_⟩ | refine ⟨hx0 _ leA _ _ rfl, ?_⟩ | refine HL.app (hr1 _ _ leA) ?_ | refine ⟨hx1 _ leA 0 _ rfl, ?_⟩ | refine ⟨hx1 _ leA _ _ rfl, ?_⟩)))
   rintro _ _ ⟨ra2, rc2, rfl, rfl⟩
   refine ⟨(hlA (h := by repeat first | exact trivial | refine ⟨clA, ?_⟩ | refine HL.app (hr0 _ _ leA) ?_ | refine ⟨hx0 _ leA 0 _ rfl, ?_⟩ | refine ⟨hx0 _ leA _ _ rfl, ?_⟩ | refine HL.app (hr1 _ _ leA) ?_ | refine ⟨hx1 _ leA 0 _ rfl, ?_⟩ | refine ⟨hx1 _ leA _ _ rfl, ?_⟩)), ?_⟩
   refine XF.abs (e0 := ⟨7, 12, fun g => .pointer (some ⟨g, 0, none⟩), fun g => pto g (.cells [.int .i64 0, .int .i64 0, .slice none 0 0].toArray 220 (0, 0))⟩) (hnd := by simp) 7 ⟨⟨_, rfl, rfl, rfl, rfl, rfl, rfl, fun q => Ef.alloc Tryz.zeroValue220⟩, trivial⟩ (fun nm2 => ?_) (hL := (hlA (h := by repeat first | exact trivial | refine ⟨clA, ?_⟩ | refine HL.app (hr0 _ _ leA) ?_ | refine ⟨hx0 _ leA 0 _ rfl, ?_⟩ | refine ⟨hx0 _ leA _ _ rfl, ?_⟩ | refine HL.app (hr1 _ _ leA) ?_ | refine ⟨hx1 _ leA 0 _ rfl, ?_⟩ | refine ⟨hx1 _ leA _ _ rfl, ?_⟩)))
   change XF _ _ _ _ _ _ _ [] _ _ _ ((12, .pointer (some ⟨nm2, 0, none⟩)) :: _) _ _ (pto nm2 (.cells [.int .i64 0, .int .i64 0, .slice none 0 0].toArray 220 (0, 0)) :: _)
   refine XF.back ?_ (hL := (hlA (h := by repeat first | exact trivial | refine ⟨clA, ?_⟩ | refine HL.app (hr0 _ _ leA) ?_ | refine ⟨hx0 _ leA 0 _ rfl, ?_⟩ | refine ⟨hx0 _ leA _ _ rfl, ?_⟩ | refine HL.app (hr1 _ _ leA) ?_ | refine ⟨hx1 _ leA 0 _ rfl, ?_⟩ | refine ⟨hx1 _ leA _ _ rfl, ?_⟩)))
   refine stAD 8 ?_; refine XD.nil ?_; refine xx 1 ?_; refine drw ?_; refine dd [0] ?_; refine ldD 1 ?_; refine dd [3] ?_; refine ldD 4 ?_; refine XD.le (q' := rsH acc3 3 62 none 0 [] :: _) (Le.rsH_nil _ _ _ _) ?_
   refine XD.ef 2 rfl (Ef.appRA (f := acc3) (l := []) (m := []) Tryz.underlying218 tinfo62 rfl rfl (fun _ => rfl) rfl rfl fndA (Sees.nil _ _) (fun _ => rfl) (by simp) (by simp)) ?_
   rintro _ _ ⟨a2, c2, rfl, rfl⟩
   refine ⟨(hlA (h := by repeat first | exact trivial | refine ⟨clA, ?_⟩ | refine HL.app (hr0 _ _ leA) ?_ | refine ⟨hx0 _ leA 0 _ rfl, ?_⟩ | refine ⟨hx0 _ leA _ _ rfl, ?_⟩ | refine HL.app (hr1 _ _ leA) ?_ | refine ⟨hx1 _ leA 0 _ rfl, ?_⟩ | refine ⟨hx1 _ leA _ _ rfl, ?_⟩)), ?_⟩
   refine XD.ef 5 rfl (Ef.appRA (f := acc3) (l := []) (m := []) Tryz.underlying218 tinfo62 rfl rfl (fun _ => rfl) rfl rfl fndA (Sees.nil _ _) (fun _ => rfl) (by simp) (by simp)) ?_
   rintro _ _ ⟨a3, c3, rfl, rfl⟩
   refine ⟨trivial, ?_⟩
   refine dd [6] ?_; refine stD 7 ?_; refine XD.nil ?_; refine xo 4 ?_; refine ld ?_; refine ox 2 ?_; refine X.sb [154, 12, 11, 7, 6] ?_; refine X.part 154 rfl (fun h3 => ?_) (fun h3 => ?_)
   · replace h3 := sp h3
     refine xo 3 ?_; refine ldA ?_; refine stA ?_; refine ox 1 ?_
     repeat (first | rw [if_pos (by omega)] at hR | rw [if_neg (by omega)] at hR)
     refine X.retL (q) Tryz.func105 (resC1 Tryz.results105 (ResOk.cell rfl (LV.agg Tryz.isAgg220 Tryz.sizeOf220 hasA rfl) ResOk.nil)) ⟨_, rfl, a3, c3, by rw [← hR]; rfl, rfl⟩
   replace h3 := sp h3
   refine xx 8 ?_; refine X.kt 157 ?_; refine xo 4 ?_; refine ld ?_; refine oo 1 ?_; refine XO.cR Tryz.call158 (truth05_ok) ?_; refine oo 1 ?_; refine st ?_; refine oo 3 ?_; refine ldA ?_; refine stA ?_; refine ox 1 ?_
   repeat (first | rw [if_pos (by omega)] at hR | rw [if_neg (by omega)] at hR)
   refine X.retL (q) Tryz.func105 (resC1 Tryz.results105 (ResOk.cell rfl (LV.agg Tryz.isAgg220 Tryz.sizeOf220 hasA rfl) ResOk.nil)) ⟨_, rfl, a3, c3, by rw [← hR]; rfl, rfl⟩
 · obtain ⟨x, x2, rfl⟩ : ∃ x y, args = [x, y] := (by match args, hf2 with | [x, y], _ => exact ⟨x, y, rfl⟩); obtain ⟨k1, z1, s1, l1, o1, p1, y1, u1, w1⟩ := x; obtain ⟨k2, z2, s2, l2, o2, p2, y2, u2, w2⟩ := x2
   simp only [Ex.ers, PEx.plains, Bool.and_eq_true] at hp; simp only [Ex.ers, PEx.fits] at hf5; simp only [Ex.ers, PEx.evs, List.getD_cons_zero, List.getD_cons_succ] at hR
   obtain ⟨A, hA1⟩ : ∃ A, (Ex.er (.mk k1 z1 s1 l1 o1 p1 y1 u1 w1)).ev = A := ⟨_, rfl⟩; have hAv : val A.1 := (by rw [← hA1]; exact PEx.ev_val hf5.1); have hs1 : Ex.sz (.mk k1 z1 s1 l1 o1 p1 y1 u1 w1) < Ex.sz (.mk 6 z nm sl lo 2 [(.mk k1 z1 s1 l1 o1 p1 y1 u1 w1), (.mk k2 z2 s2 l2 o2 p2 y2 u2 w2)] aa ac) := (by simp only [Ex.sz, Ex.szs]; omega); have hK1 : Kn q fun M => Ex.At M (.mk k1 z1 s1 l1 o1 p1 y1 u1 w1) := Kn.exI (args := [(.mk k1 z1 s1 l1 o1 p1 y1 u1 w1), (.mk k2 z2 s2 l2 o2 p2 y2 u2 w2)]) h (i := 0) (by simp); rw [hA1] at hR; simp only [Int.reduceEq, if_false, if_true, reduceIte, true_and, false_and, or_false, false_or] at hR
   obtain ⟨B, hB1⟩ : ∃ B, (Ex.er (.mk k2 z2 s2 l2 o2 p2 y2 u2 w2)).ev = B := ⟨_, rfl⟩; have hBv : val B.1 := (by rw [← hB1]; exact PEx.ev_val hf5.2.1); have hs2 : Ex.sz (.mk k2 z2 s2 l2 o2 p2 y2 u2 w2) < Ex.sz (.mk 6 z nm sl lo 2 [(.mk k1 z1 s1 l1 o1 p1 y1 u1 w1), (.mk k2 z2 s2 l2 o2 p2 y2 u2 w2)] aa ac) := (by simp only [Ex.sz, Ex.szs]; omega); have hK2 : Kn q fun M => Ex.At M (.mk k2 z2 s2 l2 o2 p2 y2 u2 w2) := Kn.exI (args := [(.mk k1 z1 s1 l1 o1 p1 y1 u1 w1), (.mk k2 z2 s2 l2 o2 p2 y2 u2 w2)]) h (i := 1) (by simp); rw [hB1] at hR
   have hI1 : ∀ {q : List HP}, (Kn q fun M => Ex.At M (.mk k1 z1 s1 l1 o1 p1 y1 u1 w1)) → CallF Tryz.prog G 105 [.agg #[.slice none 0 0, .slice none 0 0, .int .i64 0, .int .i64 0, .slice none 0 0, .slice none 0 0, .int .i64 0, .int .i64 0, .slice none 0 0, .slice none 0 0, .slice none 0 0, .slice none 0 0, .slice none 0 0, .slice none 0 0, .slice none 0 0, .slice none 0 0, .slice none 0 0, .slice none 0 0, .slice none 0 0, .int .i64 0, .int .i64 0, .int .i64 0, .int .i64 0], .agg (exC (.mk k1 z1 s1 l1 o1 p1 y1 u1 w1)).toArray, .slice none 0 0] q (Ret fun v q' => ∃ (ra : Option Addr) (rc : Nat), v = .agg [.int .i64 A.1, .int .i64 A.2, .slice ra 0 rc].toArray ∧ q' = q) := (by intro q h; rw [← hA1]; exact IH (.mk k1 z1 s1 l1 o1 p1 y1 u1 w1) hs1 h hp.1 hf5.1)
   have hI2 : ∀ {q : List HP}, (Kn q fun M => Ex.At M (.mk k2 z2 s2 l2 o2 p2 y2 u2 w2)) → CallF Tryz.prog G 105 [.agg #[.slice none 0 0, .slice none 0 0, .int .i64 0, .int .i64 0, .slice none 0 0, .slice none 0 0, .int .i64 0, .int .i64 0, .slice none 0 0, .slice none 0 0, .slice none 0 0, .slice none 0 0, .slice none 0 0, .slice none 0 0, .slice none 0 0, .slice none 0 0, .slice none 0 0, .slice none 0 0, .slice none 0 0, .int .i64 0, .int .i64 0, .int .i64 0, .int .i64 0], .agg (exC (.mk k2 z2 s2 l2 o2 p2 y2 u2 w2)).toArray, .slice none 0 0] q (Ret fun v q' => ∃ (ra : Option Addr) (rc : Nat), v = .agg [.int .i64 B.1, .int .i64 B.2, .slice ra 0 rc].toArray ∧ q' = q) := (by intro q h; rw [← hB1]; exact IH (.mk k2 z2 s2 l2 o2 p2 y2 u2 w2) hs2 h hp.2.1 hf5.2.1)
   have hl0 : 0 < ([(.mk k1 z1 s1 l1 o1 p1 y1 u1 w1), (.mk k2 z2 s2 l2 o2 p2 y2 u2 w2)] : List Ex).length := by simp
   have hl1 : 1 < ([(.mk k1 z1 s1 l1 o1 p1 y1 u1 w1), (.mk k2 z2 s2 l2 o2 p2 y2 u2 w2)] : List Ex).length := by simp
   refine xo 2 ?_; refine XO.bx fun n13 => ?_
   refine XO.bx fun n14 => ?_
   refine XO.al Tryz.zeroValue220 fun n15 => ?_
   refine oo 5 ?_; refine ld ?_; refine ox 7 ?_; refine X.kf 17 ?_; refine xx 6 ?_; refine X.kf 22 ?_; refine xx 4 ?_; refine drw ?_; refine ldAD 0 ?_; refine dd [1] ?_; refine ldD 2 ?_; refine XD.adr hA (by simp [exC_len]) (fun b9 o9 e9 => ?_); subst e9
   have hx0 : ∀ (Q : List HP), Le Q q → ∀ (j : Nat) (v : Value), (exC (.mk k1 z1 s1 l1 o1 p1 y1 u1 w1))[j]? = some v → Cl Q ⟨b9, o9 + (0 : Int).toNat * 7 + j, none⟩ v := fun Q hQ j v hk => Cl.row (j := 0) (n := 0) (sz := 7) hA hQ exC_len hl0 rfl j v hk; have hr0 : ∀ (Q : List HP) (i : Nat), Le Q q → HL Q (rdA i b9 (o9 + (0 : Int).toNat * 7) (exC (.mk k1 z1 s1 l1 o1 p1 y1 u1 w1))) := fun Q i hQ => HL.rdA fun j v hk => hx0 Q hQ j v hk
   have hx1 : ∀ (Q : List HP), Le Q q → ∀ (j : Nat) (v : Value), (exC (.mk k2 z2 s2 l2 o2 p2 y2 u2 w2))[j]? = some v → Cl Q ⟨b9, o9 + (1 : Int).toNat * 7 + j, none⟩ v := fun Q hQ j v hk => Cl.row (j := 1) (n := 1) (sz := 7) hA hQ exC_len hl1 rfl j v hk; have hr1 : ∀ (Q : List HP) (i : Nat), Le Q q → HL Q (rdA i b9 (o9 + (1 : Int).toNat * 7) (exC (.mk k2 z2 s2 l2 o2 p2 y2 u2 w2))) := fun Q i hQ => HL.rdA fun j v hk => hx1 Q hQ j v hk
   refine dd [3] ?_; refine XD.ldS 4 (m := 0) Tryz.isAgg215 Tryz.sizeOf215 hA hl0 ?_ (hf := exC_len)
   refine dd [5] ?_; refine XD.float (fl := [⟨7, 7, fun g => .pointer (some ⟨g, 0, none⟩), fun g => pto g (.cells [.int .i64 0, .int .i64 0, .slice none 0 0].toArray 220 (0, 0))⟩]) ?_
   refine XF.cX 6 ⟨⟨_, rfl, rfl, rfl, rfl, rfl, rfl, fun q => Ef.alloc Tryz.zeroValue220⟩, trivial⟩ Tryz.call105 (Le.refl _) (hI1 (Kn.le hK1)) ?_ (hL := (hlA (h := by repeat first | exact trivial | refine ⟨clA, ?_⟩ | refine HL.app (hr0 _ _ leA) ?_ | refine ⟨hx0 _ leA 0 _ rfl, ?_⟩ | refine ⟨hx0 _ leA _ _ rfl, ?_⟩ | refine HL.app (hr1 _ _ leA) ?_ | refine ⟨hx1 _ leA 0 _ rfl, ?_⟩ | refine ⟨hx1 _ leA _ _ rfl, ?_⟩)))
   rintro _ _ ⟨ra1, rc1, rfl, rfl⟩
   refine ⟨(hlA (h := by repeat first | exact trivial | refine ⟨clA, ?_⟩ | refine HL.app (hr0 _ _ leA) ?_ | refine ⟨hx0 _ leA 0 _ rfl, ?_⟩ | refine ⟨hx0 _ leA _ _ rfl, ?_⟩ | refine HL.app (hr1 _ _ leA) ?_ | refine ⟨hx1 _ leA 0 _ rfl, ?_⟩ | refine ⟨hx1 _ leA _ _ rfl, ?_⟩)), ?_⟩
   refine XF.abs (e0 := ⟨7, 7, fun g => .pointer (some ⟨g, 0, none⟩), fun g => pto g (.cells [.int .i64 0, .int .i64 0, .slice none 0 0].toArray 220 (0, 0))⟩) (hnd := by simp) 7 ⟨⟨_, rfl, rfl, rfl, rfl, rfl, rfl, fun q => Ef.alloc Tryz.zeroValue220⟩, trivial⟩ (fun nm1 => ?_) (hL := (hlA (h := by repeat first | exact trivial | refine ⟨clA, ?_⟩ | refine HL.app (hr0 _ _ leA) ?_ | refine ⟨hx0 _ leA 0 _ rfl, ?_⟩ | refine ⟨hx0 _ leA _ _ rfl, ?_⟩ | refine HL.app (hr1 _ _ leA) ?_ | refine ⟨hx1 _ leA 0 _ rfl, ?_⟩ | refine ⟨hx1 _ leA _ _ rfl, ?_⟩)))
   change XF _ _ _ _ _ _ _ [] _ _ _ ((7, .pointer (some ⟨nm1, 0, none⟩)) :: _) _ _ (pto nm1 (.cells [.int .i64 0, .int .i64 0, .slice none 0 0].toArray 220 (0, 0)) :: _)
   refine XF.back ?_ (hL := (hlA (h := by repeat first | exact trivial | refine ⟨clA, ?_⟩ | refine HL.app (hr0 _ _ leA) ?_ | refine ⟨hx0 _ leA 0 _ rfl, ?_⟩ | refine ⟨hx0 _ leA _ _ rfl, ?_⟩ | refine HL.app (hr1 _ _ leA) ?_ | refine ⟨hx1 _ leA 0 _ rfl, ?_⟩ | refine ⟨hx1 _ leA _ _ rfl, ?_⟩)))
   refine stAD 8 ?_; refine XD.nil ?_; refine xo 4 ?_; refine ld ?_; refine ox 2 ?_; refine X.sb [58, 7, 6, 4, 3, 2] ?_; refine X.part 58 rfl (fun h1 => ?_) (fun h1 => ?_)
   · replace h1 := sp h1
     refine xo 3 ?_; refine ldA ?_; refine stA ?_; refine ox 1 ?_
     repeat (first | rw [if_pos (by omega)] at hR | rw [if_neg (by omega)] at hR)
     refine X.retL (q) Tryz.func105 (resC1 Tryz.results105 (ResOk.cell rfl (LV.agg Tryz.isAgg220 Tryz.sizeOf220 hasA rfl) ResOk.nil)) ⟨_, rfl, ra1, rc1, by rw [← hR]; rfl, rfl⟩
   replace h1 := sp h1
   refine xo 6 ?_; refine ld ?_; refine ox 7 ?_; refine X.kf 62 ?_; refine xx 6 ?_; refine X.kf 92 ?_; refine xx 6 ?_; refine X.kf 105 ?_; refine xo 6 ?_; refine ld ?_; refine oo 8 ?_; refine XO.kf 118 ?_; refine oo 8 ?_; refine XO.kt 126 ?_; refine oo 1 ?_; refine ld ?_; refine ox 4 ?_; refine X.sb [131, 11, 7, 6, 4, 3, 2] ?_; refine X.part 131 rfl (fun h2 => ?_) (fun h2 => ?_)
   · replace h2 := sp h2
     refine xx 2 ?_; refine drw ?_; refine dd [0, 1, 3] ?_; refine ldD 4 ?_; refine XD.cRL 2 Tryz.call158 (truth05_ok) ?_ (hL := (hlA (h := by repeat first | exact trivial | refine ⟨clA, ?_⟩ | refine HL.app (hr0 _ _ leA) ?_ | refine ⟨hx0 _ leA 0 _ rfl, ?_⟩ | refine ⟨hx0 _ leA _ _ rfl, ?_⟩ | refine HL.app (hr1 _ _ leA) ?_ | refine ⟨hx1 _ leA 0 _ rfl, ?_⟩ | refine ⟨hx1 _ leA _ _ rfl, ?_⟩)))
     refine dd [5] ?_; refine stAD 6 ?_; refine XD.nil ?_
     repeat (first | rw [if_pos (by omega)] at hR | rw [if_neg (by omega)] at hR)
     refine X.retL (q) Tryz.func105 (resC1 Tryz.results105 (ResOk.cell rfl (LV.agg Tryz.isAgg220 Tryz.sizeOf220 hasA rfl) ResOk.nil)) ⟨_, rfl, ra1, rc1, by rw [← hR]; rfl, rfl⟩
   replace h2 := sp h2
   refine xx 3 ?_; refine drw ?_; refine ldAD 0 ?_; refine dd [1] ?_; refine ldD 2 ?_; refine dd [3] ?_; refine XD.ldS 4 (m := 1) Tryz.isAgg215 Tryz.sizeOf215 hA hl1 ?_ (hf := exC_len)
   refine dd [5] ?_; refine XD.float (fl := [⟨7, 12, fun g => .pointer (some ⟨g, 0, none⟩), fun g => pto g (.cells [.int .i64 0, .int .i64 0, .slice none 0 0].toArray 220 (0, 0))⟩]) ?_
   refine XF.cX 6 ⟨⟨_, rfl, rfl, rfl, rfl, rfl, rfl, fun q => Ef.alloc Tryz.zeroValue220⟩, trivial⟩ Tryz.call105 (Le.refl _) (hI2 (Kn.le hK2)) ?_ (hL := (hlA (h := by repeat first | exact trivial | refine ⟨clA, ?_⟩ | refine HL.app (hr0 _ _ leA) ?_ | refine ⟨hx0 _ leA 0 _ rfl, ?_⟩ | refine ⟨hx0 _ leA _ _ rfl, ?_⟩ | refine HL.app (hr1 _ _ leA) ?_ | refine ⟨hx1 _ leA 0 _ rfl, ?_⟩ | refine ⟨hx1 _ leA _ _ rfl, ?_⟩)))
   rintro _ _ ⟨ra2, rc2, rfl, rfl⟩
   refine ⟨(hlA (h := by repeat first | exact trivial | refine ⟨clA, ?_⟩ | refine HL.app (hr0 _ _ leA) ?_ | refine ⟨hx0 _ leA 0 _ rfl, ?_⟩ | refine ⟨hx0 _ leA _ _ rfl, ?_⟩ | refine HL.app (hr1 _ _ leA) ?_ | refine ⟨hx1 _ leA 0 _ rfl, ?_⟩ | refine ⟨hx1 _ leA _ _ rfl, ?_⟩)), ?_⟩
   refine XF.abs (e0 := ⟨7, 12, fun g => .pointer (some ⟨g, 0, none⟩), fun g => pto g (.cells [.int .i64 0, .int .i64 0, .slice none 0 0].toArray 220 (0, 0))⟩) (hnd := by simp) 7 ⟨⟨_, rfl, rfl, rfl, rfl, rfl, rfl, fun q => Ef.alloc Tryz.zeroValue220⟩, trivial⟩ (fun nm2 => ?_) (hL := (hlA (h := by repeat first | exact trivial | refine ⟨clA, ?_⟩ | refine HL.app (hr0 _ _ leA) ?_ | refine ⟨hx0 _ leA 0 _ rfl, ?_⟩ | refine ⟨hx0 _ leA _ _ rfl, ?_⟩ | refine HL.app (hr1 _ _ leA) ?_ | refine ⟨hx1 _ leA 0 _ rfl, ?_⟩ | refine ⟨hx1 _ leA _ _ rfl, ?_⟩)))
   change XF _ _ _ _ _ _ _ [] _ _ _ ((12, .pointer (some ⟨nm2, 0, none⟩)) :: _) _ _ (pto nm2 (.cells [.int .i64 0, .int .i64 0, .slice none 0 0].toArray 220 (0, 0)) :: _)
   refine XF.back ?_ (hL := (hlA (h := by repeat first | exact trivial | refine ⟨clA, ?_⟩ | refine HL.app (hr0 _ _ leA) ?_ | refine ⟨hx0 _ leA 0 _ rfl, ?_⟩ | refine ⟨hx0 _ leA _ _ rfl, ?_⟩ | refine HL.app (hr1 _ _ leA) ?_ | refine ⟨hx1 _ leA 0 _ rfl, ?_⟩ | refine ⟨hx1 _ leA _ _ rfl, ?_⟩)))
   refine stAD 8 ?_; refine XD.nil ?_; refine xx 1 ?_; refine drw ?_; refine dd [0] ?_; refine ldD 1 ?_; refine dd [3] ?_; refine ldD 4 ?_; refine XD.le (q' := rsH acc3 3 62 none 0 [] :: _) (Le.rsH_nil _ _ _ _) ?_
   refine XD.ef 2 rfl (Ef.appRA (f := acc3) (l := []) (m := []) Tryz.underlying218 tinfo62 rfl rfl (fun _ => rfl) rfl rfl fndA (Sees.nil _ _) (fun _ => rfl) (by simp) (by simp)) ?_
   rintro _ _ ⟨a2, c2, rfl, rfl⟩
   refine ⟨(hlA (h := by repeat first | exact trivial | refine ⟨clA, ?_⟩ | refine HL.app (hr0 _ _ leA) ?_ | refine ⟨hx0 _ leA 0 _ rfl, ?_⟩ | refine ⟨hx0 _ leA _ _ rfl, ?_⟩ | refine HL.app (hr1 _ _ leA) ?_ | refine ⟨hx1 _ leA 0 _ rfl, ?_⟩ | refine ⟨hx1 _ leA _ _ rfl, ?_⟩)), ?_⟩
   refine XD.ef 5 rfl (Ef.appRA (f := acc3) (l := []) (m := []) Tryz.underlying218 tinfo62 rfl rfl (fun _ => rfl) rfl rfl fndA (Sees.nil _ _) (fun _ => rfl) (by simp) (by simp)) ?_
   rintro _ _ ⟨a3, c3, rfl, rfl⟩
   refine ⟨trivial, ?_⟩
   refine dd [6] ?_; refine stD 7 ?_; refine XD.nil ?_; refine xo 4 ?_; refine ld ?_; refine ox 2 ?_; refine X.sb [154, 12, 11, 7, 6] ?_; refine X.part 154 rfl (fun h3 => ?_) (fun h3 => ?_)
   · replace h3 := sp h3
     refine xo 3 ?_; refine ldA ?_; refine stA ?_; refine ox 1 ?_
     repeat (first | rw [if_pos (by omega)] at hR | rw [if_neg (by omega)] at hR)
     refine X.retL (q) Tryz.func105 (resC1 Tryz.results105 (ResOk.cell rfl (LV.agg Tryz.isAgg220 Tryz.sizeOf220 hasA rfl) ResOk.nil)) ⟨_, rfl, a3, c3, by rw [← hR]; rfl, rfl⟩
   replace h3 := sp h3
   refine xx 8 ?_; refine X.kt 157 ?_; refine xo 4 ?_; refine ld ?_; refine oo 1 ?_; refine XO.cR Tryz.call158 (truth05_ok) ?_; refine oo 1 ?_; refine st ?_; refine oo 3 ?_; refine ldA ?_; refine stA ?_; refine ox 1 ?_
   repeat (first | rw [if_pos (by omega)] at hR | rw [if_neg (by omega)] at hR)
   refine X.retL (q) Tryz.func105 (resC1 Tryz.results105 (ResOk.cell rfl (LV.agg Tryz.isAgg220 Tryz.sizeOf220 hasA rfl) ResOk.nil)) ⟨_, rfl, a3, c3, by rw [← hR]; rfl, rfl⟩
 obtain ⟨x, x2, rfl⟩ : ∃ x y, args = [x, y] := (by match args, hf2 with | [x, y], _ => exact ⟨x, y, rfl⟩); obtain ⟨k1, z1, s1, l1, o1, p1, y1, u1, w1⟩ := x; obtain ⟨k2, z2, s2, l2, o2, p2, y2, u2, w2⟩ := x2
 simp only [Ex.ers, PEx.plains, Bool.and_eq_true] at hp; simp only [Ex.ers, PEx.fits] at hf5; simp only [Ex.ers, PEx.evs, List.getD_cons_zero, List.getD_cons_succ] at hR
 obtain ⟨A, hA1⟩ : ∃ A, (Ex.er (.mk k1 z1 s1 l1 o1 p1 y1 u1 w1)).ev = A := ⟨_, rfl⟩; have hAv : val A.1 := (by rw [← hA1]; exact PEx.ev_val hf5.1); have hs1 : Ex.sz (.mk k1 z1 s1 l1 o1 p1 y1 u1 w1) < Ex.sz (.mk 6 z nm sl lo op [(.mk k1 z1 s1 l1 o1 p1 y1 u1 w1), (.mk k2 z2 s2 l2 o2 p2 y2 u2 w2)] aa ac) := (by simp only [Ex.sz, Ex.szs]; omega); have hK1 : Kn q fun M => Ex.At M (.mk k1 z1 s1 l1 o1 p1 y1 u1 w1) := Kn.exI (args := [(.mk k1 z1 s1 l1 o1 p1 y1 u1 w1), (.mk k2 z2 s2 l2 o2 p2 y2 u2 w2)]) h (i := 0) (by simp); rw [hA1] at hR; simp only [Int.reduceEq, if_false, if_true, reduceIte, true_and, false_and, or_false, false_or] at hR
 obtain ⟨B, hB1⟩ : ∃ B, (Ex.er (.mk k2 z2 s2 l2 o2 p2 y2 u2 w2)).ev = B := ⟨_, rfl⟩; have hBv : val B.1 := (by rw [← hB1]; exact PEx.ev_val hf5.2.1); have hs2 : Ex.sz (.mk k2 z2 s2 l2 o2 p2 y2 u2 w2) < Ex.sz (.mk 6 z nm sl lo op [(.mk k1 z1 s1 l1 o1 p1 y1 u1 w1), (.mk k2 z2 s2 l2 o2 p2 y2 u2 w2)] aa ac) := (by simp only [Ex.sz, Ex.szs]; omega); have hK2 : Kn q fun M => Ex.At M (.mk k2 z2 s2 l2 o2 p2 y2 u2 w2) := Kn.exI (args := [(.mk k1 z1 s1 l1 o1 p1 y1 u1 w1), (.mk k2 z2 s2 l2 o2 p2 y2 u2 w2)]) h (i := 1) (by simp); rw [hB1] at hR
 have hI1 : ∀ {q : List HP}, (Kn q fun M => Ex.At M (.mk k1 z1 s1 l1 o1 p1 y1 u1 w1)) → CallF Tryz.prog G 105 [.agg #[.slice none 0 0, .slice none 0 0, .int .i64 0, .int .i64 0, .slice none 0 0, .slice none 0 0, .int .i64 0, .int .i64 0, .slice none 0 0, .slice none 0 0, .slice none 0 0, .slice none 0 0, .slice none 0 0, .slice none 0 0, .slice none 0 0, .slice none 0 0, .slice none 0 0, .slice none 0 0, .slice none 0 0, .int .i64 0, .int .i64 0, .int .i64 0, .int .i64 0], .agg (exC (.mk k1 z1 s1 l1 o1 p1 y1 u1 w1)).toArray, .slice none 0 0] q (Ret fun v q' => ∃ (ra : Option Addr) (rc : Nat), v = .agg [.int .i64 A.1, .int .i64 A.2, .slice ra 0 rc].toArray ∧ q' = q) := (by intro q h; rw [← hA1]; exact IH (.mk k1 z1 s1 l1 o1 p1 y1 u1 w1) hs1 h hp.1 hf5.1)
 have hI2 : ∀ {q : List HP}, (Kn q fun M => Ex.At M (.mk k2 z2 s2 l2 o2 p2 y2 u2 w2)) → CallF Tryz.prog G 105 [.agg #[.slice none 0 0, .slice none 0 0, .int .i64 0, .int .i64 0, .slice none 0 0, .slice none 0 0, .int .i64 0, .int .i64 0, .slice none 0 0, .slice none 0 0, .slice none 0 0, .slice none 0 0, .slice none 0 0, .slice none 0 0, .slice none 0 0, .slice none 0 0, .slice none 0 0, .slice none 0 0, .slice none 0 0, .int .i64 0, .int .i64 0, .int .i64 0, .int .i64 0], .agg (exC (.mk k2 z2 s2 l2 o2 p2 y2 u2 w2)).toArray, .slice none 0 0] q (Ret fun v q' => ∃ (ra : Option Addr) (rc : Nat), v = .agg [.int .i64 B.1, .int .i64 B.2, .slice ra 0 rc].toArray ∧ q' = q) := (by intro q h; rw [← hB1]; exact IH (.mk k2 z2 s2 l2 o2 p2 y2 u2 w2) hs2 h hp.2.1 hf5.2.1)
 have hl0 : 0 < ([(.mk k1 z1 s1 l1 o1 p1 y1 u1 w1), (.mk k2 z2 s2 l2 o2 p2 y2 u2 w2)] : List Ex).length := by simp
 have hl1 : 1 < ([(.mk k1 z1 s1 l1 o1 p1 y1 u1 w1), (.mk k2 z2 s2 l2 o2 p2 y2 u2 w2)] : List Ex).length := by simp
 refine xo 2 ?_; refine XO.bx fun n16 => ?_
 refine XO.bx fun n17 => ?_
 refine XO.al Tryz.zeroValue220 fun n18 => ?_
 refine oo 5 ?_; refine ld ?_; refine ox 7 ?_; refine X.kf 17 ?_; refine xx 6 ?_; refine X.kf 22 ?_; refine xx 4 ?_; refine drw ?_; refine ldAD 0 ?_; refine dd [1] ?_; refine ldD 2 ?_; refine XD.adr hA (by simp [exC_len]) (fun b9 o9 e9 => ?_); subst e9
 have hx0 : ∀ (Q : List HP), Le Q q → ∀ (j : Nat) (v : Value), (exC (.mk k1 z1 s1 l1 o1 p1 y1 u1 w1))[j]? = some v → Cl Q ⟨b9, o9 + (0 : Int).toNat * 7 + j, none⟩ v := fun Q hQ j v hk => Cl.row (j := 0) (n := 0) (sz := 7) hA hQ exC_len hl0 rfl j v hk; have hr0 : ∀ (Q : List HP) (i : Nat), Le Q q → HL Q (rdA i b9 (o9 + (0 : Int).toNat * 7) (exC (.mk k1 z1 s1 l1 o1 p1 y1 u1 w1))) := fun Q i hQ => HL.rdA fun j v hk => hx0 Q hQ j v hk
 have hx1 : ∀ (Q : List HP), Le Q q → ∀ (j : Nat) (v : Value), (exC (.mk k2 z2 s2 l2 o2 p2 y2 u2 w2))[j]? = some v → Cl Q ⟨b9, o9 + (1 : Int).toNat * 7 + j, none⟩ v := fun Q hQ j v hk => Cl.row (j := 1) (n := 1) (sz := 7) hA hQ exC_len hl1 rfl j v hk; have hr1 : ∀ (Q : List HP) (i : Nat), Le Q q → HL Q (rdA i b9 (o9 + (1 : Int).toNat * 7) (exC (.mk k2 z2 s2 l2 o2 p2 y2 u2 w2))) := fun Q i hQ => HL.rdA fun j v hk => hx1 Q hQ j v hk
 refine dd [3] ?_; refine XD.ldS 4 (m := 0) Tryz.isAgg215 Tryz.sizeOf215 hA hl0 ?_ (hf := exC_len)
 refine dd [5] ?_; refine XD.float (fl := [⟨7, 7, fun g => .pointer (some ⟨g, 0, none⟩), fun g => pto g (.cells [.int .i64 0, .int .i64 0, .slice none 0 0].toArray 220 (0, 0))⟩]) ?_
 refine XF.cX 6 ⟨⟨_, rfl, rfl, rfl, rfl, rfl, rfl, fun q => Ef.alloc Tryz.zeroValue220⟩, trivial⟩ Tryz.call105 (Le.refl _) (hI1 (Kn.le hK1)) ?_ (hL := (hlA (h := by repeat first | exact trivial | refine ⟨clA, ?_⟩ | refine HL.app (hr0 _ _ leA) ?_ | refine ⟨hx0 _ leA 0 _ rfl, ?_⟩ | refine ⟨hx0 _ leA _ _ rfl, ?_⟩ | refine HL.app (hr1 _ _ leA) ?_ | refine ⟨hx1 _ leA 0 _ rfl, ?_⟩ | refine ⟨hx1 _ leA _ _ rfl, ?_⟩)))
 rintro _ _ ⟨ra1, rc1, rfl, rfl⟩
 refine ⟨(hlA (h := by repeat first | exact trivial | refine ⟨clA, ?_⟩ | refine HL.app (hr0 _ _ leA) ?_ | refine ⟨hx0 _ leA 0 _ rfl, ?_⟩ | refine ⟨hx0 _ leA _ _ rfl, ?_⟩ | refine HL.app (hr1 _ _ leA) ?_ | refine ⟨hx1 _ leA 0 _ rfl, ?_⟩ | refine ⟨hx1 _ leA _ _ rfl, ?_⟩)), ?_⟩
 refine XF.abs (e0 := ⟨7, 7, fun g => .pointer (some ⟨g, 0, none⟩), fun g => pto g (.cells [.int .i64 0, .int .i64 0, .slice none 0 0].toArray 220 (0, 0))⟩) (hnd := by simp) 7 ⟨⟨_, rfl, rfl, rfl, rfl, rfl, rfl, fun q => Ef.alloc Tryz.zeroValue220⟩, trivial⟩ (fun nm1 => ?_) (hL := (hlA (h := by repeat first | exact trivial | refine ⟨clA, ?_⟩ | refine HL.app (hr0 _ _ leA) ?_ | refine ⟨hx0 _ leA 0 _ rfl, ?_⟩ | refine ⟨hx0 _ leA _ _ rfl, ?_⟩ | refine HL.app (hr1 _ _ leA) ?_ | refine ⟨hx1 _ leA 0 _ rfl, ?_⟩ | refine ⟨hx1 _ leA _ _ rfl, ?_⟩)))
 change XF _ _ _ _ _ _ _ [] _ _ _ ((7, .pointer (some ⟨nm1, 0, none⟩)) :: _) _ _ (pto nm1 (.cells [.int .i64 0, .int .i64 0, .slice none 0 0].toArray 220 (0, 0)) :: _)
 refine XF.back ?_ (hL := (hlA (h := by repeat first | exact trivial | refine ⟨clA, ?_⟩ | refine HL.app (hr0 _ _ leA) ?_ | refine ⟨hx0 _ leA 0 _ rfl, ?_⟩ | refine ⟨hx0 _ leA _ _ rfl, ?_⟩ | refine HL.app (hr1 _ _ leA) ?_ | refine ⟨hx1 _ leA 0 _ rfl, ?_⟩ | refine ⟨hx1 _ leA _ _ rfl, ?_⟩)))
 refine stAD 8 ?_; refine XD.nil ?_; refine xo 4 ?_; refine ld ?_; refine ox 2 ?_; refine X.sb [58, 7, 6, 4, 3, 2] ?_; refine X.part 58 rfl (fun h1 => ?_) (fun h1 => ?_)
 · replace h1 := sp h1
   refine xo 3 ?_; refine ldA ?_; refine stA ?_; refine ox 1 ?_
   repeat (first | rw [if_pos (by omega)] at hR | rw [if_neg (by omega)] at hR)
   refine X.retL (q) Tryz.func105 (resC1 Tryz.results105 (ResOk.cell rfl (LV.agg Tryz.isAgg220 Tryz.sizeOf220 hasA rfl) ResOk.nil)) ⟨_, rfl, ra1, rc1, by rw [← hR]; rfl, rfl⟩
 replace h1 := sp h1
 refine xo 6 ?_; refine ld ?_; refine ox 7 ?_; refine X.kf 62 ?_; refine xx 6 ?_; refine X.kf 92 ?_; refine xx 6 ?_; refine X.kf 105 ?_; refine xo 6 ?_; refine ld ?_; refine oo 8 ?_; refine XO.kf 118 ?_; refine oo 8 ?_; refine XO.kf 126 ?_; refine ox 9 ?_; refine X.sb [11, 7, 6, 4, 3, 2] ?_; refine drw ?_; refine ldAD 0 ?_; refine dd [1] ?_; refine ldD 2 ?_; refine dd [3] ?_; refine XD.ldS 4 (m := 1) Tryz.isAgg215 Tryz.sizeOf215 hA hl1 ?_ (hf := exC_len)
 refine dd [5] ?_; refine XD.float (fl := [⟨7, 12, fun g => .pointer (some ⟨g, 0, none⟩), fun g => pto g (.cells [.int .i64 0, .int .i64 0, .slice none 0 0].toArray 220 (0, 0))⟩]) ?_
 refine XF.cX 6 ⟨⟨_, rfl, rfl, rfl, rfl, rfl, rfl, fun q => Ef.alloc Tryz.zeroValue220⟩, trivial⟩ Tryz.call105 (Le.refl _) (hI2 (Kn.le hK2)) ?_ (hL := (hlA (h := by repeat first | exact trivial | refine ⟨clA, ?_⟩ | refine HL.app (hr0 _ _ leA) ?_ | refine ⟨hx0 _ leA 0 _ rfl, ?_⟩ | refine ⟨hx0 _ leA _ _ rfl, ?_⟩ | refine HL.app (hr1 _ _ leA) ?_ | refine ⟨hx1 _ leA 0 _ rfl, ?_⟩ | refine ⟨hx1 _ leA _ _ rfl, ?_⟩)))
 rintro _ _ ⟨ra2, rc2, rfl, rfl⟩
 refine ⟨(hlA (h := by repeat first | exact trivial | refine ⟨clA, ?_⟩ | refine HL.app (hr0 _ _ leA) ?_ | refine ⟨hx0 _ leA 0 _ rfl, ?_⟩ | refine ⟨hx0 _ leA _ _ rfl, ?_⟩ | refine HL.app (hr1 _ _ leA) ?_ | refine ⟨hx1 _ leA 0 _ rfl, ?_⟩ | refine ⟨hx1 _ leA _ _ rfl, ?_⟩)), ?_⟩
 refine XF.abs (e0 := ⟨7, 12, fun g => .pointer (some ⟨g, 0, none⟩), fun g => pto g (.cells [.int .i64 0, .int .i64 0, .slice none 0 0].toArray 220 (0, 0))⟩) (hnd := by simp) 7 ⟨⟨_, rfl, rfl, rfl, rfl, rfl, rfl, fun q => Ef.alloc Tryz.zeroValue220⟩, trivial⟩ (fun nm2 => ?_) (hL := (hlA (h := by repeat first | exact trivial | refine ⟨clA, ?_⟩ | refine HL.app (hr0 _ _ leA) ?_ | refine ⟨hx0 _ leA 0 _ rfl, ?_⟩ | refine ⟨hx0 _ leA _ _ rfl, ?_⟩ | refine HL.app (hr1 _ _ leA) ?_ | refine ⟨hx1 _ leA 0 _ rfl, ?_⟩ | refine ⟨hx1 _ leA _ _ rfl, ?_⟩)))
 change XF _ _ _ _ _ _ _ [] _ _ _ ((12, .pointer (some ⟨nm2, 0, none⟩)) :: _) _ _ (pto nm2 (.cells [.int .i64 0, .int .i64 0, .slice none 0 0].toArray 220 (0, 0)) :: _)
 refine XF.back ?_ (hL := (hlA (h := by repeat first | exact trivial | refine ⟨clA, ?_⟩ | refine HL.app (hr0 _ _ leA) ?_ | refine ⟨hx0 _ leA 0 _ rfl, ?_⟩ | refine ⟨hx0 _ leA _ _ rfl, ?_⟩ | refine HL.app (hr1 _ _ leA) ?_ | refine ⟨hx1 _ leA 0 _ rfl, ?_⟩ | refine ⟨hx1 _ leA _ _ rfl, ?_⟩)))
 refine stAD 8 ?_; refine XD.nil ?_; refine xx 1 ?_; refine drw ?_; refine dd [0] ?_; refine ldD 1 ?_; refine dd [3] ?_; refine ldD 4 ?_; refine XD.le (q' := rsH acc3 3 62 none 0 [] :: _) (Le.rsH_nil _ _ _ _) ?_
 refine XD.ef 2 rfl (Ef.appRA (f := acc3) (l := []) (m := []) Tryz.underlying218 tinfo62 rfl rfl (fun _ => rfl) rfl rfl fndA (Sees.nil _ _) (fun _ => rfl) (by simp) (by simp)) ?_
 rintro _ _ ⟨a2, c2, rfl, rfl⟩
 refine ⟨(hlA (h := by repeat first | exact trivial | refine ⟨clA, ?_⟩ | refine HL.app (hr0 _ _ leA) ?_ | refine ⟨hx0 _ leA 0 _ rfl, ?_⟩ | refine ⟨hx0 _ leA _ _ rfl, ?_⟩ | refine HL.app (hr1 _ _ leA) ?_ | refine ⟨hx1 _ leA 0 _ rfl, ?_⟩ | refine ⟨hx1 _ leA _ _ rfl, ?_⟩)), ?_⟩
 refine XD.ef 5 rfl (Ef.appRA (f := acc3) (l := []) (m := []) Tryz.underlying218 tinfo62 rfl rfl (fun _ => rfl) rfl rfl fndA (Sees.nil _ _) (fun _ => rfl) (by simp) (by simp)) ?_
 rintro _ _ ⟨a3, c3, rfl, rfl⟩
 refine ⟨trivial, ?_⟩
 refine dd [6] ?_; refine stD 7 ?_; refine XD.nil ?_; refine xo 4 ?_; refine ld ?_; refine ox 2 ?_; refine X.sb [154, 12, 11, 7, 6] ?_; refine X.part 154 rfl (fun h2 => ?_) (fun h2 => ?_)
 · replace h2 := sp h2
   refine xo 3 ?_; refine ldA ?_; refine stA ?_; refine ox 1 ?_
   repeat (first | rw [if_pos (by omega)] at hR | rw [if_neg (by omega)] at hR)
   refine X.retL (q) Tryz.func105 (resC1 Tryz.results105 (ResOk.cell rfl (LV.agg Tryz.isAgg220 Tryz.sizeOf220 hasA rfl) ResOk.nil)) ⟨_, rfl, a3, c3, by rw [← hR]; rfl, rfl⟩
 replace h2 := sp h2
 refine xx 8 ?_; refine X.kf 157 ?_; refine xo 6 ?_; refine ld ?_; refine oo 1 ?_; refine ld ?_; refine XO.cR Tryz.call157 (two05_ok (op := op) (u := A.1) (z := B.1) (by omega) hAv hBv) ?_
 refine oo 11 ?_; refine ld ?_; refine oo 1 ?_; refine stA ?_; refine ox 1 ?_; refine X.sb [6] ?_
 repeat (first | rw [if_pos (by omega)] at hR | rw [if_neg (by omega)] at hR)
 refine X.retL (q) Tryz.func105 (resC1 Tryz.results105 (ResOk.cell rfl (LV.agg Tryz.isAgg220 Tryz.sizeOf220 hasA rfl) ResOk.nil)) ⟨_, rfl, a3, c3, by rw [← hR]; rfl, rfl⟩
theorem ev_ok : ∀ (N : Nat) (x : Ex), x.sz ≤ N → ∀ {q : List HP}, (Kn q fun M => x.At M) → x.er.plain = true → x.er.fit → CallF Tryz.prog G 105 [.agg #[.slice none 0 0, .slice none 0 0, .int .i64 0, .int .i64 0, .slice none 0 0, .slice none 0 0, .int .i64 0, .int .i64 0, .slice none 0 0, .slice none 0 0, .slice none 0 0, .slice none 0 0, .slice none 0 0, .slice none 0 0, .slice none 0 0, .slice none 0 0, .slice none 0 0, .slice none 0 0, .slice none 0 0, .int .i64 0, .int .i64 0, .int .i64 0, .int .i64 0], .agg (exC x).toArray, .slice none 0 0] q (Ret fun v q' => ∃ (ra : Option Addr) (rc : Nat), v = .agg [.int .i64 x.er.ev.1, .int .i64 x.er.ev.2, .slice ra 0 rc].toArray ∧ q' = q)
 | N, x, hN, _, h, hp, hf => ev_step (fun y hy _ h2 hp2 hf2 => by
  cases N with
  | zero => omega
  | succ N => exact ev_ok N y (by omega) h2 hp2 hf2) h hp hf
set_option maxHeartbeats 1000000 in
theorem const_ok (h : Kn q fun M => e.At M) (hf : e.er.fit) : CallF Tryz.prog G 190 [.agg (exC e).toArray] (q) (Ret fun v q' => ∃ n : Int, v = .tuple [.int .i64 n, .bool e.er.one].toArray ∧ (e.er.one = true → n = e.er.ev.1) ∧ q' = q) := by
 refine CallF.of Tryz.func190 Tryz.ntmps190 rfl (fun F cs => ?_)
 obtain ⟨k, z, nm, sl, lo, op, args, aa, ac⟩ := e
 obtain ⟨A, hA1⟩ : ∃ A, (Ex.er (.mk k z nm sl lo op args aa ac)).ev = A := ⟨_, rfl⟩; obtain ⟨B, hB⟩ : ∃ B, (Ex.er (.mk k z nm sl lo op args aa ac)).plain = B := ⟨_, rfl⟩; have hone : (Ex.er (.mk k z nm sl lo op args aa ac)).one = (B && A.2 == 0) := (by unfold PEx.one; rw [hA1, hB]); rw [hone, hA1]
 have hI : ∀ {q : List HP}, (Kn q fun M => Ex.At M (.mk k z nm sl lo op args aa ac)) → B = true → CallF Tryz.prog G 105 [.agg #[.slice none 0 0, .slice none 0 0, .int .i64 0, .int .i64 0, .slice none 0 0, .slice none 0 0, .int .i64 0, .int .i64 0, .slice none 0 0, .slice none 0 0, .slice none 0 0, .slice none 0 0, .slice none 0 0, .slice none 0 0, .slice none 0 0, .slice none 0 0, .slice none 0 0, .slice none 0 0, .slice none 0 0, .int .i64 0, .int .i64 0, .int .i64 0, .int .i64 0], .agg (exC (.mk k z nm sl lo op args aa ac)).toArray, .slice none 0 0] q (Ret fun v q' => ∃ (ra : Option Addr) (rc : Nat), v = .agg [.int .i64 A.1, .int .i64 A.2, .slice ra 0 rc].toArray ∧ q' = q) := (by intro q h hb; rw [← hA1]; exact ev_ok _ (.mk k z nm sl lo op args aa ac) (Nat.le_refl _) h (hB.trans hb) hf)
 have hP : ∀ {q : List HP}, (Kn q fun M => Ex.At M (.mk k z nm sl lo op args aa ac)) → CallF Tryz.prog G 203 [.agg (exC (.mk k z nm sl lo op args aa ac)).toArray] q (Ret fun v q' => v = .bool B ∧ q' = q) := (by intro q h; rw [← hB]; exact plain_ok _ (.mk k z nm sl lo op args aa ac) (Nat.le_refl _) h)
 refine xo 2 ?_; refine XO.bx fun n1 => ?_
 refine oo 6 ?_; refine ldA ?_; refine XO.cR Tryz.call203 (hP (h.le leA)) ?_; refine XO.pu (Pu.not rfl) ?_; refine ox 1 ?_; refine X.part 7 rfl (fun h1 => ?_) (fun h1 => ?_)
 · replace h1 := sp h1
   refine xx 6 ?_
   have hb : B = false := (by simpa using h1); subst hb
   refine X.retL (q) Tryz.func190 (res2 Tryz.results190 rfl rfl) ⟨_, rfl, 0, rfl, fun hx => (by cases hx), rfl⟩
 replace h1 := sp h1
 refine xo 5 ?_; refine ldA ?_; refine XO.cX Tryz.call105 (Le.refl _) (hI (Kn.le h) (by simpa using h1)) ?_
 rintro _ _ ⟨ra, rc, rfl, rfl⟩
 refine XO.al Tryz.zeroValue220 fun n2 => ?_
 refine stA ?_; refine ox 2 ?_; refine drw ?_; refine dd [0] ?_; refine ldD 1 ?_; refine dd [2] ?_; refine ldD 3 ?_; refine dd [4, 5, 6] ?_; refine XD.nil ?_
 have hb : B = true := (by simpa using h1); subst hb
 refine X.retL (q) Tryz.func190 (res2 Tryz.results190 rfl rfl) ⟨_, rfl, A.1, rfl, fun _ => rfl, rfl⟩
end
section
variable {G : World} {q : List HP} {e : Ex} {t : Int}
set_option maxHeartbeats 8000000 in
theorem code_step (IH : ∀ (x : Ex), x.sz < e.sz → ∀ {q : List HP} {t : Int}, (Kn q fun M => x.At M) → x.er.fit → (0 ≤ t ∧ t + 4 * x.sz ≤ 1000000000) → CallF Tryz.prog G 153 [.agg (exC x).toArray, .int .i64 t] q (Ret fun v q' => ∃ (ca : Option Addr) (cc : Nat), v = .slice ca (x.er.code t).length cc ∧ q' = rsH insC 4 65 ca cc (x.er.code t) :: q)) (h : Kn q fun M => e.At M) (hf : e.er.fit) (ht : 0 ≤ t ∧ t + 4 * e.sz ≤ 1000000000) : CallF Tryz.prog G 153 [.agg (exC e).toArray, .int .i64 t] (q) (Ret fun v q' => ∃ (ca : Option Addr) (cc : Nat), v = .slice ca (e.er.code t).length cc ∧ q' = rsH insC 4 65 ca cc (e.er.code t) :: q) := by
 refine CallF.of Tryz.func153 Tryz.ntmps153 rfl (fun F cs => ?_)
 obtain ⟨k, z, nm, sl, lo, op, args, aa, ac⟩ := e; have hA := Kn.exA h; have hff := hf; simp only [Ex.er, PEx.fit, Ex.ers_len] at hf; obtain ⟨hf1, hf2, hf3, hf4, hf5⟩ := hf
 obtain ⟨R, hR⟩ : ∃ R, (Ex.er (.mk k z nm sl lo op args aa ac)).code t = R := ⟨_, rfl⟩; rw [hR]
 refine xo 2 ?_; refine XO.bx fun n1 => ?_
 refine oo 4 ?_; refine ldA ?_; refine XO.cX Tryz.call190 (Le.refl _) (const_ok (e := (.mk k z nm sl lo op args aa ac)) (Kn.le h) hff) ?_
 rintro _ _ ⟨n, rfl, hn, rfl⟩
 obtain ⟨ev, hev⟩ : ∃ x, (Ex.er (.mk k z nm sl lo op args aa ac)).ev = x := ⟨_, rfl⟩; obtain ⟨one, hone⟩ : ∃ x, (Ex.er (.mk k z nm sl lo op args aa ac)).one = x := ⟨_, rfl⟩; rw [hev, hone] at hn; rw [hone]
 simp only [Ex.er, PEx.code] at hR hev hone; rw [hone, hev] at hR
 refine ox 11 ?_; refine X.part 18 rfl (fun h1 => ?_) (fun h1 => ?_)
 · have ho : one = true := (by simpa using h1); subst ho; rw [if_pos rfl] at hR; have hn := hn rfl; subst hn
   refine xo 4 ?_; refine XO.cR Tryz.call62 (ins_ok) ?_; refine XO.ef (Ef.litRn insC [⟨1, 0, 0, ev.1⟩] Tryz.underlying45 tinfo65 rfl rfl (fun _ => rfl) rfl rfl rfl rfl) ?_
   rintro _ _ ⟨gi, rfl, rfl⟩
   refine ox 2 ?_; refine X.retL (rsH insC 4 65 (some ⟨gi, 0, none⟩) 1 ([⟨1, 0, 0, ev.1⟩]) :: q) Tryz.func153 (res1 Tryz.results153 rfl) ⟨_, rfl, some ⟨gi, 0, none⟩, 1, by rw [← hR]; rfl, by rw [← hR]⟩
 have ho : one = false := (by simpa using h1); subst ho; rw [if_neg (by decide)] at hR; clear hn hev
 have hcl : k = 2 ∨ k = 1 ∨ k = 3 ∨ k = 4 ∨ k = 5 ∨ (k = 6 ∧ op = 1) ∨ (k = 6 ∧ op = 2) ∨ (k = 6 ∧ 3 ≤ op) := by omega
 rcases hcl with rfl | rfl | rfl | rfl | rfl | ⟨rfl, rfl⟩ | ⟨rfl, rfl⟩ | ⟨rfl, hop⟩
 · refine xx 3 ?_; refine drw ?_; refine dd [0] ?_; refine ldD 1 ?_; refine dd [2] ?_; refine ldD 3 ?_; refine dd [4, 5] ?_; refine XD.nil ?_; refine xo 6 ?_; refine XO.kt 28 ?_; refine oo 1 ?_; refine ld ?_; refine ox 2 ?_; refine X.sb [31, 8, 7, 4, 2, 1] ?_; refine X.part 31 rfl (fun h2 => ?_) (fun h2 => ?_)
   · replace h2 := sp h2
     refine xo 4 ?_; refine ld ?_; refine XO.cR Tryz.call62 (ins_ok) ?_; refine XO.ef (Ef.litRn insC [⟨3, sl, 0, 0⟩] Tryz.underlying45 tinfo65 rfl rfl (fun _ => rfl) rfl rfl rfl rfl) ?_
     rintro _ _ ⟨g0, rfl, rfl⟩
     refine ox 2 ?_
     have hlo : lo = true := (by simpa using h2); subst hlo
     refine X.retL (rsH insC 4 65 (some ⟨g0, 0, none⟩) 1 ([⟨3, sl, 0, 0⟩]) :: q) Tryz.func153 (res1 Tryz.results153 rfl) ⟨_, rfl, some ⟨g0, 0, none⟩, 1, by rw [← hR]; rfl, by rw [← hR]; rfl⟩
   replace h2 := sp h2
   refine xx 8 ?_; refine X.kt 37 ?_; refine xo 4 ?_; refine ld ?_; refine XO.cR Tryz.call62 (ins_ok) ?_; refine XO.ef (Ef.litRn insC [⟨2, sl, 0, 0⟩] Tryz.underlying45 tinfo65 rfl rfl (fun _ => rfl) rfl rfl rfl rfl) ?_
   rintro _ _ ⟨g0, rfl, rfl⟩
   refine ox 2 ?_
   have hlo : lo = false := (by simpa using h2); subst hlo
   refine X.retL (rsH insC 4 65 (some ⟨g0, 0, none⟩) 1 ([⟨2, sl, 0, 0⟩]) :: q) Tryz.func153 (res1 Tryz.results153 rfl) ⟨_, rfl, some ⟨g0, 0, none⟩, 1, by rw [← hR]; rfl, by rw [← hR]; rfl⟩
 · refine xx 3 ?_; refine drw ?_; refine dd [0] ?_; refine ldD 1 ?_; refine dd [2] ?_; refine ldD 3 ?_; refine dd [4, 5] ?_; refine XD.nil ?_; refine xo 6 ?_; refine XO.kf 28 ?_; refine ox 12 ?_; refine X.sb [37, 8, 7, 4, 2, 1] ?_; refine X.kf 37 ?_; refine xx 8 ?_; refine X.kt 43 ?_; refine xo 4 ?_; refine ld ?_; refine XO.cR Tryz.call62 (ins_ok) ?_; refine XO.ef (Ef.litRn insC [⟨1, 0, 0, z⟩] Tryz.underlying45 tinfo65 rfl rfl (fun _ => rfl) rfl rfl rfl rfl) ?_
   rintro _ _ ⟨g0, rfl, rfl⟩
   refine ox 2 ?_; refine X.retL (rsH insC 4 65 (some ⟨g0, 0, none⟩) 1 ([⟨1, 0, 0, z⟩]) :: q) Tryz.func153 (res1 Tryz.results153 rfl) ⟨_, rfl, some ⟨g0, 0, none⟩, 1, by rw [← hR]; rfl, by rw [← hR]; rfl⟩
 · obtain ⟨x, rfl⟩ : ∃ x, args = [x] := (by match args, hf2 with | [x], _ => exact ⟨x, rfl⟩)
   simp only [Ex.ers, PEx.fits] at hf5; simp only [Ex.ers, PEx.codes, List.getD_cons_zero, List.getD_cons_succ, Int.reduceEq, if_false, if_true, reduceIte, true_and, false_and] at hR; simp only [Ex.sz, Ex.szs] at ht IH
   have hK1 : Kn q fun M => Ex.At M x := Kn.exI (args := [x]) h (i := 0) (by simp); have hx1 := PEx.code_len x.er t; rw [Ex.er_sz] at hx1
   obtain ⟨A, hA1⟩ : ∃ A, x.er.code t = A := ⟨_, rfl⟩; rw [hA1] at hR hx1
   refine xx 3 ?_; refine drw ?_; refine dd [0] ?_; refine ldD 1 ?_; refine dd [2] ?_; refine ldD 3 ?_; refine dd [4, 5] ?_; refine XD.nil ?_; refine xo 6 ?_; refine XO.kf 28 ?_; refine ox 12 ?_; refine X.sb [37, 8, 7, 4, 2, 1] ?_; refine X.kf 37 ?_; refine xx 8 ?_; refine X.kf 43 ?_; refine xo 5 ?_; refine ld ?_; refine XO.adr hA (by simp [exC_len]) (fun b9 o9 e9 => ?_); subst e9
   refine oo 1 ?_; refine XO.ldS (n := 0) Tryz.isAgg215 Tryz.sizeOf215 hA (by simp) ?_ (hf := exC_len)
   refine oo 1 ?_; refine XO.cX Tryz.call153 (Le.refl _) (IH x (by omega) (t := t) (Kn.le hK1) hf5.1 (by omega)) ?_
   rintro _ _ ⟨xa, xc, rfl, rfl⟩
   rw [hA1]
   refine oo 8 ?_; refine XO.kf 56 ?_; refine ox 17 ?_; refine X.sb [101, 100, 9, 8, 4, 2, 1] ?_; refine X.kt 101 ?_; refine xo 5 ?_; refine ld ?_; refine XO.cR Tryz.call62 (ins_ok) ?_; refine XO.ef (Ef.litRn insC [⟨4, sl, 0, 0⟩] Tryz.underlying45 tinfo65 rfl rfl (fun _ => rfl) rfl rfl rfl rfl) ?_
   rintro _ _ ⟨g0, rfl, rfl⟩
   refine XO.ef (Ef.appRA (f := insC) (l := A) (m := [⟨4, sl, 0, 0⟩]) Tryz.underlying45 tinfo65 rfl rfl (fun _ => rfl) rfl rfl fndA ((Sees.rsH _).le fndA) (fun _ => rfl) (by (try simp only [List.length_append, List.length_cons, List.length_nil]); omega) (by (try simp only [List.length_append, List.length_cons, List.length_nil]); omega)) ?_
   rintro _ _ ⟨ap0, cp0, rfl, rfl⟩
   refine ox 2 ?_
   have hRc : R = A ++ [⟨4, sl, 0, 0⟩] := hR.symm.trans (by first | rfl | (rw [if_neg (by omega)]) | simp)
   refine X.retL (rsH insC 4 65 ap0 cp0 (A ++ [⟨4, sl, 0, 0⟩]) :: q) Tryz.func153 (res1 Tryz.results153 rfl) ⟨_, rfl, ap0, cp0, by rw [hRc], by rw [hRc]⟩
 · obtain ⟨x, rfl⟩ : ∃ x, args = [x] := (by match args, hf2 with | [x], _ => exact ⟨x, rfl⟩)
   simp only [Ex.ers, PEx.fits] at hf5; simp only [Ex.ers, PEx.codes, List.getD_cons_zero, List.getD_cons_succ, Int.reduceEq, if_false, if_true, reduceIte, true_and, false_and] at hR; simp only [Ex.sz, Ex.szs] at ht IH
   have hK1 : Kn q fun M => Ex.At M x := Kn.exI (args := [x]) h (i := 0) (by simp); have hx1 := PEx.code_len x.er t; rw [Ex.er_sz] at hx1
   obtain ⟨A, hA1⟩ : ∃ A, x.er.code t = A := ⟨_, rfl⟩; rw [hA1] at hR hx1
   refine xx 3 ?_; refine drw ?_; refine dd [0] ?_; refine ldD 1 ?_; refine dd [2] ?_; refine ldD 3 ?_; refine dd [4, 5] ?_; refine XD.nil ?_; refine xo 6 ?_; refine XO.kf 28 ?_; refine ox 12 ?_; refine X.sb [37, 8, 7, 4, 2, 1] ?_; refine X.kf 37 ?_; refine xx 8 ?_; refine X.kf 43 ?_; refine xo 5 ?_; refine ld ?_; refine XO.adr hA (by simp [exC_len]) (fun b9 o9 e9 => ?_); subst e9
   refine oo 1 ?_; refine XO.ldS (n := 0) Tryz.isAgg215 Tryz.sizeOf215 hA (by simp) ?_ (hf := exC_len)
   refine oo 1 ?_; refine XO.cX Tryz.call153 (Le.refl _) (IH x (by omega) (t := t) (Kn.le hK1) hf5.1 (by omega)) ?_
   rintro _ _ ⟨xa, xc, rfl, rfl⟩
   rw [hA1]
   refine oo 8 ?_; refine XO.kf 56 ?_; refine ox 17 ?_; refine X.sb [101, 100, 9, 8, 4, 2, 1] ?_; refine X.kf 101 ?_; refine xx 6 ?_; refine X.kt 109 ?_; refine xo 4 ?_; refine XO.cR Tryz.call62 (ins_ok) ?_; refine XO.ef (Ef.litRn insC [⟨8, 0, 0, 0⟩] Tryz.underlying45 tinfo65 rfl rfl (fun _ => rfl) rfl rfl rfl rfl) ?_
   rintro _ _ ⟨g0, rfl, rfl⟩
   refine XO.ef (Ef.appRA (f := insC) (l := A) (m := [⟨8, 0, 0, 0⟩]) Tryz.underlying45 tinfo65 rfl rfl (fun _ => rfl) rfl rfl fndA ((Sees.rsH _).le fndA) (fun _ => rfl) (by (try simp only [List.length_append, List.length_cons, List.length_nil]); omega) (by (try simp only [List.length_append, List.length_cons, List.length_nil]); omega)) ?_
   rintro _ _ ⟨ap0, cp0, rfl, rfl⟩
   refine ox 2 ?_
   have hRc : R = A ++ [⟨8, 0, 0, 0⟩] := hR.symm.trans (by first | rfl | (rw [if_neg (by omega)]) | simp)
   refine X.retL (rsH insC 4 65 ap0 cp0 (A ++ [⟨8, 0, 0, 0⟩]) :: q) Tryz.func153 (res1 Tryz.results153 rfl) ⟨_, rfl, ap0, cp0, by rw [hRc], by rw [hRc]⟩
 · obtain ⟨x, rfl⟩ : ∃ x, args = [x] := (by match args, hf2 with | [x], _ => exact ⟨x, rfl⟩)
   simp only [Ex.ers, PEx.fits] at hf5; simp only [Ex.ers, PEx.codes, List.getD_cons_zero, List.getD_cons_succ, Int.reduceEq, if_false, if_true, reduceIte, true_and, false_and] at hR; simp only [Ex.sz, Ex.szs] at ht IH
   have hK1 : Kn q fun M => Ex.At M x := Kn.exI (args := [x]) h (i := 0) (by simp); have hx1 := PEx.code_len x.er t; rw [Ex.er_sz] at hx1
   obtain ⟨A, hA1⟩ : ∃ A, x.er.code t = A := ⟨_, rfl⟩; rw [hA1] at hR hx1
   refine xx 3 ?_; refine drw ?_; refine dd [0] ?_; refine ldD 1 ?_; refine dd [2] ?_; refine ldD 3 ?_; refine dd [4, 5] ?_; refine XD.nil ?_; refine xo 6 ?_; refine XO.kf 28 ?_; refine ox 12 ?_; refine X.sb [37, 8, 7, 4, 2, 1] ?_; refine X.kf 37 ?_; refine xx 8 ?_; refine X.kf 43 ?_; refine xo 5 ?_; refine ld ?_; refine XO.adr hA (by simp [exC_len]) (fun b9 o9 e9 => ?_); subst e9
   refine oo 1 ?_; refine XO.ldS (n := 0) Tryz.isAgg215 Tryz.sizeOf215 hA (by simp) ?_ (hf := exC_len)
   refine oo 1 ?_; refine XO.cX Tryz.call153 (Le.refl _) (IH x (by omega) (t := t) (Kn.le hK1) hf5.1 (by omega)) ?_
   rintro _ _ ⟨xa, xc, rfl, rfl⟩
   rw [hA1]
   refine oo 8 ?_; refine XO.kf 56 ?_; refine ox 17 ?_; refine X.sb [101, 100, 9, 8, 4, 2, 1] ?_; refine X.kf 101 ?_; refine xx 6 ?_; refine X.kf 109 ?_; refine xx 6 ?_; refine X.kt 115 ?_; refine xo 4 ?_; refine XO.cR Tryz.call62 (ins_ok) ?_; refine XO.ef (Ef.litRn insC [⟨9, 0, 0, 0⟩] Tryz.underlying45 tinfo65 rfl rfl (fun _ => rfl) rfl rfl rfl rfl) ?_
   rintro _ _ ⟨g0, rfl, rfl⟩
   refine XO.ef (Ef.appRA (f := insC) (l := A) (m := [⟨9, 0, 0, 0⟩]) Tryz.underlying45 tinfo65 rfl rfl (fun _ => rfl) rfl rfl fndA ((Sees.rsH _).le fndA) (fun _ => rfl) (by (try simp only [List.length_append, List.length_cons, List.length_nil]); omega) (by (try simp only [List.length_append, List.length_cons, List.length_nil]); omega)) ?_
   rintro _ _ ⟨ap0, cp0, rfl, rfl⟩
   refine ox 2 ?_
   have hRc : R = A ++ [⟨9, 0, 0, 0⟩] := hR.symm.trans (by first | rfl | (rw [if_neg (by omega)]) | simp)
   refine X.retL (rsH insC 4 65 ap0 cp0 (A ++ [⟨9, 0, 0, 0⟩]) :: q) Tryz.func153 (res1 Tryz.results153 rfl) ⟨_, rfl, ap0, cp0, by rw [hRc], by rw [hRc]⟩
 · obtain ⟨x, y, rfl⟩ : ∃ x y, args = [x, y] := (by match args, hf2 with | [x, y], _ => exact ⟨x, y, rfl⟩)
   simp only [Ex.ers, PEx.fits] at hf5; simp only [Ex.ers, PEx.codes, List.getD_cons_zero, List.getD_cons_succ, Int.reduceEq, if_false, if_true, reduceIte, true_and, false_and] at hR; simp only [Ex.sz, Ex.szs] at ht IH
   have hK1 : Kn q fun M => Ex.At M x := Kn.exI (args := [x, y]) h (i := 0) (by simp); have hx1 := PEx.code_len x.er t; rw [Ex.er_sz] at hx1
   have hK2 : Kn q fun M => Ex.At M y := Kn.exI (args := [x, y]) h (i := 1) (by simp)
   obtain ⟨A, hA1⟩ : ∃ A, x.er.code t = A := ⟨_, rfl⟩; rw [hA1] at hR hx1
   refine xx 3 ?_; refine drw ?_; refine dd [0] ?_; refine ldD 1 ?_; refine dd [2] ?_; refine ldD 3 ?_; refine dd [4, 5] ?_; refine XD.nil ?_; refine xo 6 ?_; refine XO.kf 28 ?_; refine ox 12 ?_; refine X.sb [37, 8, 7, 4, 2, 1] ?_; refine X.kf 37 ?_; refine xx 8 ?_; refine X.kf 43 ?_; refine xo 5 ?_; refine ld ?_; refine XO.adr hA (by simp [exC_len]) (fun b9 o9 e9 => ?_); subst e9
   refine oo 1 ?_; refine XO.ldS (n := 0) Tryz.isAgg215 Tryz.sizeOf215 hA (by simp) ?_ (hf := exC_len)
   refine oo 1 ?_; refine XO.cX Tryz.call153 (Le.refl _) (IH x (by omega) (t := t) (Kn.le hK1) hf5.1 (by omega)) ?_
   rintro _ _ ⟨xa, xc, rfl, rfl⟩
   rw [hA1]
   refine oo 8 ?_; refine XO.kt 56 ?_; refine ox 4 ?_; refine X.sb [59, 9, 8, 7, 4, 2, 1] ?_; refine X.kt 59 ?_; refine xo 4 ?_; refine ld ?_; refine oo 1 ?_; refine XO.ldS (n := 1) Tryz.isAgg215 Tryz.sizeOf215 hA (by simp) ?_ (hf := exC_len)
   refine oo 5 ?_; obtain ⟨B, hB1⟩ : ∃ B, y.er.code (t + A.length + 1) = B := ⟨_, rfl⟩; have hy1 := PEx.code_len y.er (t + A.length + 1); rw [Ex.er_sz, hB1] at hy1; rw [hB1] at hR
   refine XO.cX Tryz.call153 (Le.refl _) (IH y (by omega) (t := (t + A.length + 1)) (Kn.le hK2) hf5.2.1 (by omega)) ?_
   rintro _ _ ⟨ya, yc, rfl, rfl⟩
   rw [hB1]
   refine ox 25 ?_; refine X.sb [80, 12, 11, 10, 9, 8, 7, 4, 2, 1] ?_; refine X.kf 80 ?_; refine xo 7 ?_; refine XO.cR Tryz.call62 (ins_ok) ?_; refine XO.ef (Ef.litRn insC [⟨21, (t + A.length + 1 + B.length + 2), 0, 0⟩] Tryz.underlying45 tinfo65 rfl rfl (fun _ => rfl) rfl rfl rfl rfl) ?_
   rintro _ _ ⟨g0, rfl, rfl⟩
   refine XO.ef (Ef.appRA (f := insC) (l := A) (m := [⟨21, (t + A.length + 1 + B.length + 2), 0, 0⟩]) Tryz.underlying45 tinfo65 rfl rfl (fun _ => rfl) rfl rfl fndA ((Sees.rsH _).le fndA) (fun _ => rfl) (by (try simp only [List.length_append, List.length_cons, List.length_nil]); omega) (by (try simp only [List.length_append, List.length_cons, List.length_nil]); omega)) ?_
   rintro _ _ ⟨ap0, cp0, rfl, rfl⟩
   refine oo 6 ?_; refine XO.ef (Ef.appRA (f := insC) (l := A ++ [⟨21, (t + A.length + 1 + B.length + 2), 0, 0⟩]) (m := B) Tryz.underlying45 tinfo65 rfl rfl (fun _ => rfl) rfl rfl fndA ((Sees.rsH _).le fndA) (fun _ => rfl) (by (try simp only [List.length_append, List.length_cons, List.length_nil]); omega) (by (try simp only [List.length_append, List.length_cons, List.length_nil]); omega)) ?_
   rintro _ _ ⟨ap1, cp1, rfl, rfl⟩
   refine oo 5 ?_; refine XO.cR Tryz.call62 (ins_ok) ?_; refine oo 2 ?_; refine XO.cR Tryz.call62 (ins_ok) ?_; refine oo 2 ?_; refine XO.cR Tryz.call62 (ins_ok) ?_; refine XO.ef (Ef.litRn insC [⟨22, 0, 0, 0⟩, ⟨19, ((t + A.length + 1 + B.length + 2) + 1), 0, 0⟩, ⟨1, 0, 0, 1⟩] Tryz.underlying45 tinfo65 rfl rfl (fun _ => rfl) rfl rfl rfl rfl) ?_
   rintro _ _ ⟨g1, rfl, rfl⟩
   refine XO.ef (Ef.appRA (f := insC) (l := A ++ [⟨21, (t + A.length + 1 + B.length + 2), 0, 0⟩] ++ B) (m := [⟨22, 0, 0, 0⟩, ⟨19, ((t + A.length + 1 + B.length + 2) + 1), 0, 0⟩, ⟨1, 0, 0, 1⟩]) Tryz.underlying45 tinfo65 rfl rfl (fun _ => rfl) rfl rfl fndA ((Sees.rsH _).le fndA) (fun _ => rfl) (by (try simp only [List.length_append, List.length_cons, List.length_nil]); omega) (by (try simp only [List.length_append, List.length_cons, List.length_nil]); omega)) ?_
   rintro _ _ ⟨ap2, cp2, rfl, rfl⟩
   refine ox 2 ?_; refine X.sb [4, 9, 8, 7, 2, 1] ?_
   have hRc : R = A ++ [⟨21, (t + A.length + 1 + B.length + 2), 0, 0⟩] ++ B ++ [⟨22, 0, 0, 0⟩, ⟨19, (t + A.length + 1 + B.length + 2 + 1), 0, 0⟩, ⟨1, 0, 0, 1⟩] := hR.symm.trans (by first | rfl | (rw [if_neg (by omega)]) | simp)
   refine X.retL (rsH insC 4 65 ap2 cp2 (A ++ [⟨21, (t + A.length + 1 + B.length + 2), 0, 0⟩] ++ B ++ [⟨22, 0, 0, 0⟩, ⟨19, (t + A.length + 1 + B.length + 2 + 1), 0, 0⟩, ⟨1, 0, 0, 1⟩]) :: q) Tryz.func153 (res1 Tryz.results153 rfl) ⟨_, rfl, ap2, cp2, by rw [hRc], by rw [hRc]⟩
 · obtain ⟨x, y, rfl⟩ : ∃ x y, args = [x, y] := (by match args, hf2 with | [x, y], _ => exact ⟨x, y, rfl⟩)
   simp only [Ex.ers, PEx.fits] at hf5; simp only [Ex.ers, PEx.codes, List.getD_cons_zero, List.getD_cons_succ, Int.reduceEq, if_false, if_true, reduceIte, true_and, false_and] at hR; simp only [Ex.sz, Ex.szs] at ht IH
   have hK1 : Kn q fun M => Ex.At M x := Kn.exI (args := [x, y]) h (i := 0) (by simp); have hx1 := PEx.code_len x.er t; rw [Ex.er_sz] at hx1
   have hK2 : Kn q fun M => Ex.At M y := Kn.exI (args := [x, y]) h (i := 1) (by simp)
   obtain ⟨A, hA1⟩ : ∃ A, x.er.code t = A := ⟨_, rfl⟩; rw [hA1] at hR hx1
   refine xx 3 ?_; refine drw ?_; refine dd [0] ?_; refine ldD 1 ?_; refine dd [2] ?_; refine ldD 3 ?_; refine dd [4, 5] ?_; refine XD.nil ?_; refine xo 6 ?_; refine XO.kf 28 ?_; refine ox 12 ?_; refine X.sb [37, 8, 7, 4, 2, 1] ?_; refine X.kf 37 ?_; refine xx 8 ?_; refine X.kf 43 ?_; refine xo 5 ?_; refine ld ?_; refine XO.adr hA (by simp [exC_len]) (fun b9 o9 e9 => ?_); subst e9
   refine oo 1 ?_; refine XO.ldS (n := 0) Tryz.isAgg215 Tryz.sizeOf215 hA (by simp) ?_ (hf := exC_len)
   refine oo 1 ?_; refine XO.cX Tryz.call153 (Le.refl _) (IH x (by omega) (t := t) (Kn.le hK1) hf5.1 (by omega)) ?_
   rintro _ _ ⟨xa, xc, rfl, rfl⟩
   rw [hA1]
   refine oo 8 ?_; refine XO.kt 56 ?_; refine ox 4 ?_; refine X.sb [59, 9, 8, 7, 4, 2, 1] ?_; refine X.kt 59 ?_; refine xo 4 ?_; refine ld ?_; refine oo 1 ?_; refine XO.ldS (n := 1) Tryz.isAgg215 Tryz.sizeOf215 hA (by simp) ?_ (hf := exC_len)
   refine oo 5 ?_; obtain ⟨B, hB1⟩ : ∃ B, y.er.code (t + A.length + 1) = B := ⟨_, rfl⟩; have hy1 := PEx.code_len y.er (t + A.length + 1); rw [Ex.er_sz, hB1] at hy1; rw [hB1] at hR
   refine XO.cX Tryz.call153 (Le.refl _) (IH y (by omega) (t := (t + A.length + 1)) (Kn.le hK2) hf5.2.1 (by omega)) ?_
   rintro _ _ ⟨ya, yc, rfl, rfl⟩
   rw [hB1]
   refine ox 25 ?_; refine X.sb [80, 12, 11, 10, 9, 8, 7, 4, 2, 1] ?_; refine X.kt 80 ?_; refine xo 9 ?_; refine XO.cR Tryz.call62 (ins_ok) ?_; refine XO.ef (Ef.litRn insC [⟨20, (t + A.length + 1 + B.length + 2), 0, 0⟩] Tryz.underlying45 tinfo65 rfl rfl (fun _ => rfl) rfl rfl rfl rfl) ?_
   rintro _ _ ⟨g0, rfl, rfl⟩
   refine XO.ef (Ef.appRA (f := insC) (l := A) (m := [⟨20, (t + A.length + 1 + B.length + 2), 0, 0⟩]) Tryz.underlying45 tinfo65 rfl rfl (fun _ => rfl) rfl rfl fndA ((Sees.rsH _).le fndA) (fun _ => rfl) (by (try simp only [List.length_append, List.length_cons, List.length_nil]); omega) (by (try simp only [List.length_append, List.length_cons, List.length_nil]); omega)) ?_
   rintro _ _ ⟨ap0, cp0, rfl, rfl⟩
   refine oo 6 ?_; refine XO.ef (Ef.appRA (f := insC) (l := A ++ [⟨20, (t + A.length + 1 + B.length + 2), 0, 0⟩]) (m := B) Tryz.underlying45 tinfo65 rfl rfl (fun _ => rfl) rfl rfl fndA ((Sees.rsH _).le fndA) (fun _ => rfl) (by (try simp only [List.length_append, List.length_cons, List.length_nil]); omega) (by (try simp only [List.length_append, List.length_cons, List.length_nil]); omega)) ?_
   rintro _ _ ⟨ap1, cp1, rfl, rfl⟩
   refine oo 5 ?_; refine XO.cR Tryz.call62 (ins_ok) ?_; refine oo 2 ?_; refine XO.cR Tryz.call62 (ins_ok) ?_; refine oo 2 ?_; refine XO.cR Tryz.call62 (ins_ok) ?_; refine XO.ef (Ef.litRn insC [⟨22, 0, 0, 0⟩, ⟨19, ((t + A.length + 1 + B.length + 2) + 1), 0, 0⟩, ⟨1, 0, 0, 0⟩] Tryz.underlying45 tinfo65 rfl rfl (fun _ => rfl) rfl rfl rfl rfl) ?_
   rintro _ _ ⟨g1, rfl, rfl⟩
   refine XO.ef (Ef.appRA (f := insC) (l := A ++ [⟨20, (t + A.length + 1 + B.length + 2), 0, 0⟩] ++ B) (m := [⟨22, 0, 0, 0⟩, ⟨19, ((t + A.length + 1 + B.length + 2) + 1), 0, 0⟩, ⟨1, 0, 0, 0⟩]) Tryz.underlying45 tinfo65 rfl rfl (fun _ => rfl) rfl rfl fndA ((Sees.rsH _).le fndA) (fun _ => rfl) (by (try simp only [List.length_append, List.length_cons, List.length_nil]); omega) (by (try simp only [List.length_append, List.length_cons, List.length_nil]); omega)) ?_
   rintro _ _ ⟨ap2, cp2, rfl, rfl⟩
   refine ox 2 ?_; refine X.sb [4, 9, 8, 7, 2, 1] ?_
   have hRc : R = A ++ [⟨20, (t + A.length + 1 + B.length + 2), 0, 0⟩] ++ B ++ [⟨22, 0, 0, 0⟩, ⟨19, (t + A.length + 1 + B.length + 2 + 1), 0, 0⟩, ⟨1, 0, 0, 0⟩] := hR.symm.trans (by first | rfl | (rw [if_neg (by omega)]) | simp)
   refine X.retL (rsH insC 4 65 ap2 cp2 (A ++ [⟨20, (t + A.length + 1 + B.length + 2), 0, 0⟩] ++ B ++ [⟨22, 0, 0, 0⟩, ⟨19, (t + A.length + 1 + B.length + 2 + 1), 0, 0⟩, ⟨1, 0, 0, 0⟩]) :: q) Tryz.func153 (res1 Tryz.results153 rfl) ⟨_, rfl, ap2, cp2, by rw [hRc], by rw [hRc]⟩
 obtain ⟨x, y, rfl⟩ : ∃ x y, args = [x, y] := (by match args, hf2 with | [x, y], _ => exact ⟨x, y, rfl⟩)
 simp only [Ex.ers, PEx.fits] at hf5; simp only [Ex.ers, PEx.codes, List.getD_cons_zero, List.getD_cons_succ, Int.reduceEq, if_false, if_true, reduceIte, true_and, false_and] at hR; simp only [Ex.sz, Ex.szs] at ht IH
 have hK1 : Kn q fun M => Ex.At M x := Kn.exI (args := [x, y]) h (i := 0) (by simp); have hx1 := PEx.code_len x.er t; rw [Ex.er_sz] at hx1
 have hK2 : Kn q fun M => Ex.At M y := Kn.exI (args := [x, y]) h (i := 1) (by simp)
 obtain ⟨A, hA1⟩ : ∃ A, x.er.code t = A := ⟨_, rfl⟩; rw [hA1] at hR hx1
 refine xx 3 ?_; refine drw ?_; refine dd [0] ?_; refine ldD 1 ?_; refine dd [2] ?_; refine ldD 3 ?_; refine dd [4, 5] ?_; refine XD.nil ?_; refine xo 6 ?_; refine XO.kf 28 ?_; refine ox 12 ?_; refine X.sb [37, 8, 7, 4, 2, 1] ?_; refine X.kf 37 ?_; refine xx 8 ?_; refine X.kf 43 ?_; refine xo 5 ?_; refine ld ?_; refine XO.adr hA (by simp [exC_len]) (fun b9 o9 e9 => ?_); subst e9
 refine oo 1 ?_; refine XO.ldS (n := 0) Tryz.isAgg215 Tryz.sizeOf215 hA (by simp) ?_ (hf := exC_len)
 refine oo 1 ?_; refine XO.cX Tryz.call153 (Le.refl _) (IH x (by omega) (t := t) (Kn.le hK1) hf5.1 (by omega)) ?_
 rintro _ _ ⟨xa, xc, rfl, rfl⟩
 rw [hA1]
 refine oo 8 ?_; refine XO.kt 56 ?_; refine ox 4 ?_; refine X.sb [59, 9, 8, 7, 4, 2, 1] ?_; refine X.kf 59 ?_; refine xx 13 ?_; refine X.kf 101 ?_; refine xx 6 ?_; refine X.kf 109 ?_; refine xx 6 ?_; refine X.kf 115 ?_; refine xo 7 ?_; refine ld ?_; refine oo 1 ?_; refine XO.ldS (n := 1) Tryz.isAgg215 Tryz.sizeOf215 hA (by simp) ?_ (hf := exC_len)
 refine oo 4 ?_; obtain ⟨B, hB1⟩ : ∃ B, y.er.code (t + A.length) = B := ⟨_, rfl⟩; have hy1 := PEx.code_len y.er (t + A.length); rw [Ex.er_sz, hB1] at hy1; rw [hB1] at hR
 refine XO.cX Tryz.call153 (Le.refl _) (IH y (by omega) (t := (t + A.length)) (Kn.le hK2) hf5.2.1 (by omega)) ?_
 rintro _ _ ⟨ya, yc, rfl, rfl⟩
 rw [hB1]
 refine XO.ef (Ef.appRA (f := insC) (l := A) (m := B) Tryz.underlying45 tinfo65 rfl rfl (fun _ => rfl) rfl rfl fndA ((Sees.rsH _).le fndA) (fun _ => rfl) (by (try simp only [List.length_append, List.length_cons, List.length_nil]); omega) (by (try simp only [List.length_append, List.length_cons, List.length_nil]); omega)) ?_
 rintro _ _ ⟨ap0, cp0, rfl, rfl⟩
 refine oo 7 ?_; refine XO.cR Tryz.call62 (ins_ok) ?_; refine XO.ef (Ef.litRn insC [⟨(op + 7), 0, 0, 0⟩] Tryz.underlying45 tinfo65 rfl rfl (fun _ => rfl) rfl rfl rfl rfl) ?_
 rintro _ _ ⟨g0, rfl, rfl⟩
 refine XO.ef (Ef.appRA (f := insC) (l := A ++ B) (m := [⟨(op + 7), 0, 0, 0⟩]) Tryz.underlying45 tinfo65 rfl rfl (fun _ => rfl) rfl rfl fndA ((Sees.rsH _).le fndA) (fun _ => rfl) (by (try simp only [List.length_append, List.length_cons, List.length_nil]); omega) (by (try simp only [List.length_append, List.length_cons, List.length_nil]); omega)) ?_
 rintro _ _ ⟨ap1, cp1, rfl, rfl⟩
 refine ox 2 ?_; refine X.sb [4] ?_
 have hRc : R = A ++ B ++ [⟨(op + 7), 0, 0, 0⟩] := hR.symm.trans (by first | rfl | (rw [if_neg (by omega)]) | simp)
 refine X.retL (rsH insC 4 65 ap1 cp1 (A ++ B ++ [⟨(op + 7), 0, 0, 0⟩]) :: q) Tryz.func153 (res1 Tryz.results153 rfl) ⟨_, rfl, ap1, cp1, by rw [hRc], by rw [hRc]⟩
theorem code_ok : ∀ (N : Nat) (x : Ex), x.sz ≤ N → ∀ {q : List HP} {t : Int}, (Kn q fun M => x.At M) → x.er.fit → (0 ≤ t ∧ t + 4 * x.sz ≤ 1000000000) → CallF Tryz.prog G 153 [.agg (exC x).toArray, .int .i64 t] q (Ret fun v q' => ∃ (ca : Option Addr) (cc : Nat), v = .slice ca (x.er.code t).length cc ∧ q' = rsH insC 4 65 ca cc (x.er.code t) :: q)
 | N, x, hN, _, _, h, hf, ht => code_step (fun y hy _ _ h2 hf2 ht2 => by
  cases N with
  | zero => omega
  | succ N => exact code_ok N y (by omega) h2 hf2 ht2) h hf ht
end
structure Cd where
 I : Sv Ins
 L : Sv Int
def ckC (x : Cd) : List Value := [x.I.v, x.L.v]
def Cd.At (M : Hp) (x : Cd) : Prop := x.I.At M insC ∧ x.L.At M iC
theorem Cd.At.mono {x : Cd} {M M' : Hp} (e : Hle M M') (h : x.At M) : x.At M' := ⟨h.1.mono e, h.2.mono e⟩
def ckM (x : Cd) : HP := lst (fun M => x.At M) fun e h => Cd.At.mono e h
def Cd.z : Cd := ⟨.z, .z⟩
theorem Cd.z_at (M : Hp) : Cd.z.At M := ⟨sv_z M, sv_z M⟩
section
variable {G : World} {q : List HP} {x : Cd} {l : List Ins} {a : Option Addr} {c : Nat} {ln sl : Int} {lo : Bool} {g : FC}
theorem into_ok  : CallF Tryz.prog G 154 [.int .i64 sl, .bool lo] (q) (Ret fun v q' => ∃ (g : Nat), v = .slice (some ⟨g, 0, none⟩) 1 1 ∧ q' = rsH insC 4 65 (some ⟨g, 0, none⟩) 1 [⟨if lo = true then 6 else 5, sl, 0, 0⟩] :: q) := by
 refine CallF.of Tryz.func154 Tryz.ntmps154 rfl (fun F cs => ?_)
 refine xx 9 ?_; refine X.part 5 rfl (fun h1 => ?_) (fun h1 => ?_)
 · replace h1 := sp h1
   refine xo 4 ?_; refine XO.cR Tryz.call62 (ins_ok) ?_; refine XO.ef (Ef.litRn insC [⟨6, sl, 0, 0⟩] Tryz.underlying45 tinfo65 rfl rfl (fun _ => rfl) rfl rfl rfl rfl) ?_
   rintro _ _ ⟨g0, rfl, rfl⟩
   refine ox 2 ?_
   have hlo : lo = true := (by simpa using h1); subst hlo
   refine X.retL (rsH insC 4 65 (some ⟨g0, 0, none⟩) 1 ([⟨6, sl, 0, 0⟩]) :: q) Tryz.func154 (res1 Tryz.results154 rfl) ⟨_, rfl, g0, rfl, rfl⟩
 replace h1 := sp h1
 refine xo 5 ?_; refine XO.cR Tryz.call62 (ins_ok) ?_; refine XO.ef (Ef.litRn insC [⟨5, sl, 0, 0⟩] Tryz.underlying45 tinfo65 rfl rfl (fun _ => rfl) rfl rfl rfl rfl) ?_
 rintro _ _ ⟨g0, rfl, rfl⟩
 refine ox 2 ?_
 have hlo : lo = false := (by simpa using h1); subst hlo
 refine X.retL (rsH insC 4 65 (some ⟨g0, 0, none⟩) 1 ([⟨5, sl, 0, 0⟩]) :: q) Tryz.func154 (res1 Tryz.results154 rfl) ⟨_, rfl, g0, rfl, rfl⟩
theorem placeT_ok (hs : 0 ≤ sl ∧ sl ≤ 1000000) : CallF Tryz.prog G 155 [.agg (pgC g).toArray, .int .i64 sl] (q) (Ret fun v q' => v = .int .i64 (if sl = g.main then 0 else if sl < g.main then sl + 1 else sl) ∧ q' = q) := by
 refine CallF.of Tryz.func155 Tryz.ntmps155 rfl (fun F cs => ?_)
 refine xo 2 ?_; refine XO.bx fun n1 => ?_
 refine oo 7 ?_; refine ld ?_; refine ox 2 ?_; refine X.part 8 rfl (fun h1 => ?_) (fun h1 => ?_)
 · replace h1 := sp h1
   refine xx 5 ?_; refine X.retL (q) Tryz.func155 (res1 Tryz.results155 rfl) ⟨_, rfl, by repeat (first | rw [if_pos (by omega)] | rw [if_neg (by omega)]), rfl⟩
 replace h1 := sp h1
 refine xo 7 ?_; refine ld ?_; refine ox 2 ?_; refine X.part 12 rfl (fun h2 => ?_) (fun h2 => ?_)
 · replace h2 := sp h2
   refine xx 7 ?_; refine X.retL (q) Tryz.func155 (res1 Tryz.results155 rfl) ⟨_, rfl, by repeat (first | rw [if_pos (by omega)] | rw [if_neg (by omega)]), rfl⟩
 replace h2 := sp h2
 refine xx 7 ?_; refine X.retL (q) Tryz.func155 (res1 Tryz.results155 rfl) ⟨_, rfl, by repeat (first | rw [if_pos (by omega)] | rw [if_neg (by omega)]), rfl⟩
set_option maxHeartbeats 2000000 in
theorem with_ok (h : Kn q fun M => x.At M) (hl : Sees q a (l.flatMap insC)) (hb : x.I.l.length + l.length ≤ 2000000000 ∧ x.L.l.length + l.length ≤ 2000000000) : CallF Tryz.prog G 61 [.agg (ckC x).toArray, .slice a l.length c, .int .i64 ln] (q) (Ret fun v q' => ∃ y : Cd, v = .agg (ckC y).toArray ∧ q' = ckM y :: q ∧ y.I.l = x.I.l ++ l ∧ y.L.l = x.L.l ++ List.replicate l.length ln) := by
 refine CallF.of Tryz.func61 Tryz.ntmps61 rfl (fun F cs => ?_)
 refine xo 2 ?_; refine XO.bx fun n1 => ?_
 refine XO.al Tryz.zeroValue135 fun n2 => ?_
 refine oo 4 ?_; refine ld ?_; refine XO.le (q' := rsH insC 4 65 none 0 [] :: _) (Le.rsH_nil insC 4 65 _) ?_
 refine XO.ef (Ef.appRA (f := insC) (l := []) (m := x.I.l) Tryz.underlying45 tinfo65 rfl rfl (fun _ => rfl) rfl rfl fndA (Sv.sees (Kn.le (h.imp fun M h => h.1))) (fun _ => rfl) (by (try simp only [List.length_append, List.length_cons, List.length_nil]); omega) (by (try simp only [List.length_append, List.length_cons, List.length_nil]); omega)) ?_
 rintro _ _ ⟨a1, c1, rfl, rfl⟩
 rw [List.nil_append]
 refine oo 1 ?_; refine XO.ef (Ef.appRA (f := insC) (l := x.I.l) (m := l) Tryz.underlying45 tinfo65 rfl rfl (fun _ => rfl) rfl rfl fndA (hl.le leA) (fun _ => rfl) (by (try simp only [List.length_append, List.length_cons, List.length_nil]); omega) (by (try simp only [List.length_append, List.length_cons, List.length_nil]); omega)) ?_
 rintro _ _ ⟨a2, c2, rfl, rfl⟩
 refine oo 1 ?_; refine st ?_; refine ox 7 ?_; refine X.fzW ?_; refine X.at (X.loop (fun (s : (Nat × Sv Int) × Option Addr) => s.1.1 ≤ l.length ∧ s.2 = a ∧ s.1.2.l = x.L.l ++ List.replicate s.1.1 ln) (fun s => [(1, .slice s.2 l.length c), (2, .int .i64 ln), (3, .pointer (some ⟨n1, 0, none⟩)), (6, .pointer (some ⟨n2, 0, none⟩)), (7, .int .i64 (s.1.1 : Int))]) (fun s => svM iC s.1.2 :: svM insC (⟨x.I.l ++ l, a2, c2⟩ : Sv Ins) :: pto n1 (.cells [(⟨x.I.l ++ l, a2, c2⟩ : Sv Ins).v, s.1.2.v].toArray 135 (0, 0)) :: pto n2 (.cells [.slice none 0 0, .slice none 0 0].toArray 135 (0, 0)) :: (q ++ F)) (fun s => l.length - s.1.1) (fun s hi_ ih => ?_) ((0, x.L), a) ⟨Nat.zero_le _, rfl, by simp⟩) subA (Le.trans leA (Le.trans (Kn.add (φ := fun M => x.L.At M iC) (mn := fun e h => Sv.At.mono e h) (Kn.le (h.imp fun M h => h.2))) leA))
 try dsimp only at hi_ ih ⊢
 obtain ⟨hi1, hi2, hi3⟩ := hi_
 obtain ⟨⟨k, L⟩, a3⟩ := s; dsimp only at *; subst hi2; have hLl : L.l.length = x.L.l.length + k := (by rw [hi3, List.length_append, List.length_replicate])
 refine xx 8 ?_; refine X.part 17 rfl (fun h0 => ?_) (fun h0 => ?_)
 · replace h0 := sp h0; have hlt : k < l.length := by omega
   refine xo 6 ?_; refine ld ?_; refine XO.le (q' := lsH I64 3 none 0 [] :: _) (Le.lsH_nil _ _ _) ?_
   refine XO.ef (Ef.appA (f := I64) (l := []) (m := L.l) Tryz.underlying23 tinfo3 rfl rfl rfl fndA (svI (show Kn _ fun M => L.At M iC from knA)) (fun _ => rfl) (by simp; omega) (by simp; omega)) ?_
   rintro _ _ ⟨a4, c4, rfl, rfl⟩
   rw [List.nil_append]
   refine oo 1 ?_; refine XO.ef (Ef.litL I64 [ln] Tryz.underlying23 tinfo3 rfl rfl rfl rfl rfl rfl (fun _ => rfl)) ?_
   rintro _ _ ⟨gl, rfl, rfl⟩
   refine XO.ef (Ef.appA (f := I64) (l := L.l) (m := [ln]) Tryz.underlying23 tinfo3 rfl rfl rfl fndA ((Sees.lsH _).le fndA) (fun _ => rfl) (by simp; omega) (by simp; omega)) ?_
   rintro _ _ ⟨a5, c5, rfl, rfl⟩
   refine oo 1 ?_; refine st ?_; refine ox 7 ?_; refine X.fzV (f' := iC) (fe := I64) iC_map ?_
   refine X.at (ih ((k + 1, ⟨L.l ++ [ln], a5, c5⟩), _) ⟨by dsimp only; omega, rfl, by dsimp only; rw [hi3, List.append_assoc, List.replicate_succ']⟩ (by dsimp only; omega)) subA leA
 replace h0 := sp h0; obtain rfl : k = l.length := by omega
 refine xo 4 ?_; refine ldA ?_; refine stA ?_; refine ox 1 ?_; refine X.le (q' := ckM (⟨⟨x.I.l ++ l, a2, c2⟩, L⟩ : Cd) :: _) (Kn.add (Kn.and (show Kn _ fun M => Sv.At M insC (⟨x.I.l ++ l, a2, c2⟩ : Sv Ins) from knA) (show Kn _ fun M => L.At M iC from knA))) ?_
 refine X.retL (ckM (⟨⟨x.I.l ++ l, a2, c2⟩, L⟩ : Cd) :: q) Tryz.func61 (resC1 Tryz.results61 (ResOk.cell rfl (LV.agg Tryz.isAgg135 Tryz.sizeOf135 hasA rfl) ResOk.nil)) ⟨_, rfl, (⟨⟨x.I.l ++ l, a2, c2⟩, L⟩ : Cd), rfl, rfl, rfl, hi3⟩
variable {z : Cd}
set_option maxHeartbeats 2000000 in
theorem both_ok (h : Kn q fun M => x.At M) (hz : Kn q fun M => z.At M) (hb : x.I.l.length + z.I.l.length ≤ 2000000000 ∧ x.L.l.length + z.L.l.length ≤ 2000000000) : CallF Tryz.prog G 103 [.agg (ckC x).toArray, .agg (ckC z).toArray] (q) (Ret fun v q' => ∃ y : Cd, v = .agg (ckC y).toArray ∧ q' = ckM y :: q ∧ y.I.l = x.I.l ++ z.I.l ∧ y.L.l = x.L.l ++ z.L.l) := by
 refine CallF.of Tryz.func103 Tryz.ntmps103 rfl (fun F cs => ?_)
 refine xo 2 ?_; refine XO.bx fun n1 => ?_
 refine XO.bx fun n2 => ?_
 refine XO.al Tryz.zeroValue135 fun n3 => ?_
 refine ox 2 ?_; refine drw ?_; refine dd [0] ?_; refine ldD 1 ?_; refine dd [3] ?_; refine ldD 4 ?_; refine XD.le (q' := rsH insC 4 65 none 0 [] :: _) (Le.rsH_nil insC 4 65 _) ?_
 refine XD.ef 2 rfl (Ef.appRA (f := insC) (l := []) (m := x.I.l) Tryz.underlying45 tinfo65 rfl rfl (fun _ => rfl) rfl rfl fndA (Sv.sees (Kn.le (h.imp fun M h => h.1))) (fun _ => rfl) (by (try simp only [List.length_append, List.length_cons, List.length_nil]); omega) (by (try simp only [List.length_append, List.length_cons, List.length_nil]); omega)) ?_
 rintro _ _ ⟨a1, c1, rfl, rfl⟩
 refine ⟨hlA, ?_⟩
 rw [List.nil_append]
 refine XD.ef 5 rfl (Ef.appRA (f := insC) (l := x.I.l) (m := z.I.l) Tryz.underlying45 tinfo65 rfl rfl (fun _ => rfl) rfl rfl fndA (Sv.sees (Kn.le (hz.imp fun M h => h.1))) (fun _ => rfl) (by (try simp only [List.length_append, List.length_cons, List.length_nil]); omega) (by (try simp only [List.length_append, List.length_cons, List.length_nil]); omega)) ?_
 rintro _ _ ⟨a2, c2, rfl, rfl⟩
 refine ⟨trivial, ?_⟩
 refine dd [6] ?_; refine stD 7 ?_; refine XD.nil ?_; refine xx 1 ?_; refine drw ?_; refine dd [0] ?_; refine ldD 1 ?_; refine dd [3] ?_; refine ldD 4 ?_; refine XD.le (q' := lsH I64 3 none 0 [] :: _) (Le.lsH_nil _ _ _) ?_
 refine XD.ef 2 rfl (Ef.appA (f := I64) (l := []) (m := x.L.l) Tryz.underlying23 tinfo3 rfl rfl rfl fndA (svI (Kn.le (h.imp fun M h => h.2))) (fun _ => rfl) (by simp; omega) (by simp; omega)) ?_
 rintro _ _ ⟨a4, c4, rfl, rfl⟩
 refine ⟨hlA, ?_⟩
 rw [List.nil_append]
 refine XD.ef 5 rfl (Ef.appA (f := I64) (l := x.L.l) (m := z.L.l) Tryz.underlying23 tinfo3 rfl rfl rfl fndA (svI (Kn.le (hz.imp fun M h => h.2))) (fun _ => rfl) (by omega) (by omega)) ?_
 rintro _ _ ⟨a5, c5, rfl, rfl⟩
 refine ⟨trivial, ?_⟩
 refine dd [6] ?_; refine stD 7 ?_; refine XD.nil ?_; refine xo 2 ?_; refine ldA ?_; refine stA ?_; refine ox 1 ?_; refine X.sb [4] ?_; refine X.fzW ?_; refine X.fzV (f' := iC) (fe := I64) iC_map ?_
 refine X.le (q' := ckM (⟨(⟨x.I.l ++ z.I.l, a2, c2⟩ : Sv Ins), (⟨x.L.l ++ z.L.l, a5, c5⟩ : Sv Int)⟩ : Cd) :: _) (Kn.add (Kn.and (show Kn _ fun M => Sv.At M insC (⟨x.I.l ++ z.I.l, a2, c2⟩ : Sv Ins) from knA) (show Kn _ fun M => Sv.At M iC (⟨x.L.l ++ z.L.l, a5, c5⟩ : Sv Int) from knA))) ?_
 refine X.retL (ckM (⟨(⟨x.I.l ++ z.I.l, a2, c2⟩ : Sv Ins), (⟨x.L.l ++ z.L.l, a5, c5⟩ : Sv Int)⟩ : Cd) :: q) Tryz.func103 (resC1 Tryz.results103 (ResOk.cell rfl (LV.agg Tryz.isAgg135 Tryz.sizeOf135 hasA rfl) ResOk.nil)) ⟨_, rfl, (⟨(⟨x.I.l ++ z.I.l, a2, c2⟩ : Sv Ins), (⟨x.L.l ++ z.L.l, a5, c5⟩ : Sv Int)⟩ : Cd), rfl, rfl, rfl, rfl⟩
end
end Go.Proofs.YtbeeplmgcdnadaaGreatDoor
