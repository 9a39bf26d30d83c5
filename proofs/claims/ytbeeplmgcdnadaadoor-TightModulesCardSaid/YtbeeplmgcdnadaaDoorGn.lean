/- What functions of package tight, of its references and of its laws do: contracts of calls, proved by walking their code. -/
import Derived.Test.YtbeeplmgcdnadaaDoorGm
import Derived.KernelRfl
set_option maxRecDepth 100000
set_option linter.unusedVariables false
set_option linter.unusedSimpArgs false
namespace Go.Proofs.YtbeeplmgcdnadaaDoor
open Go Go.RowKit Wx
attribute [local irreducible] Wx.lsH Wx.rsH Wx.lsM Wx.rsM Wx.stars

section
variable {α : Type} {P : Program} {G : World} {p : PE} {q : List HP} {sz ty : Nat} {d : Option Tmp} {ty' : TypeId} {pos : String} {af : Array Edge} {gd : Option (Nat × Bool)} {t : TypeId} {z : Value} {bytes n : Nat} {ps : List (Nat × Operand)}
theorem fill_rows {f : α → List Value} (hf : ∀ x, (f x).length = sz) : ∀ (l : List α) (k : Nat) (pre post : List Value), pre.length = k * sz → l.length * sz ≤ post.length → Instr.fill (fun i => some (i * sz, sz)) (pre ++ post).toArray ((List.range' k l.length).zip (l.map fun u => Value.agg (f u).toArray)) = some (pre ++ l.flatMap f ++ post.drop (l.length * sz)).toArray
  | [], k, pre, post, _, _ => by simp [Instr.fill]
  | u :: r, k, pre, post, h1, h2 => by
    rw [List.length_cons, Nat.add_mul, Nat.one_mul] at h2
    have hc : (Value.agg (f u).toArray).cells = (f u).toArray := rfl
    have e1 : ∀ (off : Nat) (us : List Value) (A : Array Value), (us.toArray.zipIdx).foldl (fun cs (c, i) => cs.setIfInBounds (off + i) c) A = (us.zipIdx 0).foldl (fun cs (c, i) => cs.setIfInBounds (off + i) c) A := by intro off us A; simp
    have k1 := (e1 (k * sz) (f u) _).trans (fill_row (k * sz) (f u) 0 pre post (by simpa using h1) (by rw [hf]; omega))
    have ih := fill_rows hf r (k + 1) (pre ++ f u) (post.drop (f u).length) (by rw [List.length_append, h1, hf, Nat.add_mul, Nat.one_mul]) (by rw [List.length_drop, hf]; omega)
    rw [List.length_cons, List.range'_succ, List.map_cons, List.zip_cons_cons]
    simp only [Instr.fill, hc]
    rw [if_neg (by simp [hf]; omega), k1, ih]
    simp only [List.flatMap_cons, List.append_assoc, List.drop_drop, hf]
    congr 4
    rw [Nat.add_mul, Nat.one_mul, Nat.add_comm]
/-- A slice literal of structs. -/
theorem Ef.litRn (f : α → List Value) (l : List α) (ht : P.underlying t = some (.slice ty)) (hi : (P.info? ty).map (fun i => (i.zero, i.size, i.bytes)) = some (some z, sz, bytes)) (h1 : Nat.ble (n * sz) 16777216 = true) (h0 : Nat.blt 0 sz = true)
    (hf : ∀ x, (f x).length = sz) (hv : evl p (ps.map (·.2)) = some (l.map fun u => Value.agg (f u).toArray)) (hx : ps.map (·.1) = List.range' 0 n) (hn : l.length = n) (h2 : Nat.blt 0 n = true) :
    Ef P G p q ⟨d, .buildSlice t n ps.toArray, ty', pos, af, gd⟩ fun v q' => ∃ g, v = .slice (some ⟨g, 0, none⟩) n n ∧ q' = Wx.rsH f sz ty (some ⟨g, 0, none⟩) n l :: q := by
  subst hn
  have h0' : 0 < sz := by simpa [Nat.blt_eq] using h0
  have h2' : 0 < l.length := by simpa [Nat.blt_eq] using h2
  have hfill : Instr.fill (fun i => some (i * sz, sz)) ((Array.range (l.length * sz)).map (z.cells[· % z.cells.size]!)) ((ps.map (·.1)).zip (l.map fun u => Value.agg (f u).toArray)) = some (l.flatMap f).toArray := by
    rw [hx]
    have := fill_rows hf l 0 [] ((Array.range (l.length * sz)).map (z.cells[· % z.cells.size]!)).toList (by simp) (by simp)
    rw [List.nil_append, List.nil_append, Array.toArray_toList, List.drop_eq_nil_of_le (by simp), List.append_nil] at this
    exact this
  have := Ef.buildSlice (P := P) (G := G) (p := p) (q := q) (d := d) (ty := ty') (pos := pos) (af := af) (gd := gd) (ps := ps) (len := l.length) ht hi hv (by simpa using h1) (by rw [Nat.blt_eq]; exact Nat.mul_pos h2' h0') hfill (flatMap_len hf l)
  simpa [Wx.rsH] using this
end

/-- The module of one thread without a name for anything. -/
def modk (xs : List Ins) (a : Option Addr) (c : Nat) (g0 g1 : Nat) : Mdl := ⟨[], [], [], 0, 0, [⟨⟨#[109, 97, 105, 110]⟩, 0, xs, List.replicate xs.length 0, a, c, some ⟨g0, 0, none⟩, xs.length⟩], none, 0, none, 0, none, 0, some ⟨g1, 0, none⟩, 1⟩
section
variable {G : World} {q : List HP} {a b A : Option Addr} {c d : Nat} {cd : Int} {l : List Ins} {ln : List Int} {o : List Bool}
variable {nt : Nat} {nm : ByteArray} {lo : Int} {ia la wa : Option Addr} {ic lc wc : Nat} {I : List Ins} {L W : List Int}
variable {m m2 : Mdl} {x y : Cod} {j k : List Int}
variable {xs ys : List Ins}
theorem code19_ok (hL : xs.length ≤ 1000) : CallF Tryd.prog G 19 [.slice a xs.length c] (q) (Ret fun v q' => ∃ g0 g1, v = .agg (mdlC (modk xs a c g0 g1)).toArray ∧ q' = rsH codC 4 35 (some ⟨g1, 0, none⟩) 1 (modk xs a c g0 g1).threads :: lsH I64 3 (some ⟨g0, 0, none⟩) xs.length (List.replicate xs.length 0) :: q) := by
 refine CallF.of Tryd.func19 Tryd.ntmps19 rfl (fun F cs => ?_)
 refine xo 2 ?_
 refine XO.al Tryd.zeroValue26 fun n1 => ?_
 refine oo 6 ?_
 refine XO.ef (Ef.make (n := xs.length) rfl rfl Tryd.underlying23 ginfo3 rfl rfl (by omega) (by omega)) ?_
 rintro _ _ ⟨g0, rfl, rfl⟩
 refine XO.le (q' := lsH I64 3 (some ⟨g0, 0, none⟩) xs.length (List.replicate xs.length 0) :: _) (Le.trans fndA (by rw [← ls_made (f := I64) (u := 0) rfl]; exact Le.refl _)) ?_
 refine oo 1 ?_
 refine XO.know 7 (.agg (codC (⟨⟨#[109, 97, 105, 110]⟩, 0, xs, List.replicate xs.length 0, a, c, some ⟨g0, 0, none⟩, xs.length⟩ : Cod)).toArray) rfl (by simp [codC]) ?_
 refine XO.ef (Ef.litR1 (u := (⟨⟨#[109, 97, 105, 110]⟩, 0, xs, List.replicate xs.length 0, a, c, some ⟨g0, 0, none⟩, xs.length⟩ : Cod)) codC Tryd.underlying24 ginfo35 rfl rfl (fun _ => rfl) rfl) ?_
 rintro _ _ ⟨g1, rfl, rfl⟩
 refine oo 1 ?_
 refine stA ?_
 refine ox 1 ?_
 refine X.retL (rsH codC 4 35 (some ⟨g1, 0, none⟩) 1 (modk xs a c g0 g1).threads :: lsH I64 3 (some ⟨g0, 0, none⟩) xs.length (List.replicate xs.length 0) :: q) Tryd.func19 (resC1 Tryd.results19 (ResOk.cell rfl (LV.agg Tryd.isAgg26 Tryd.sizeOf26 hasA rfl) ResOk.nil)) ⟨_, rfl, g0, g1, rfl, rfl⟩
theorem modk_q {g0 g1 : Nat} {r1 r2 : List HP} (hs : Sees q a (xs.flatMap insC)) (hL : xs.length ≤ 1000) (h1 : Le q (rsH codC 4 35 (some ⟨g1, 0, none⟩) 1 (modk xs a c g0 g1).threads :: r1)) (h2 : Le q (lsH I64 3 (some ⟨g0, 0, none⟩) xs.length (List.replicate xs.length 0) :: r2)) : MdlQ q (modk xs a c g0 g1) :=
  ⟨Sees.nil _ _, Sees.nil _ _, Sees.nil _ _, (Sees.rsH _).le h1, fun x hx => by
    obtain rfl := List.mem_singleton.1 hx
    exact ⟨hs, (Sees.lsH _).le h2, (show 4 ≤ 9223372036854775807 by decide), by dsimp only; omega, by dsimp only; rw [List.length_replicate]; omega⟩, Nat.zero_le _, Nat.zero_le _, Nat.zero_le _, (show 1 ≤ 9223372036854775807 by decide), Nat.zero_le _⟩
theorem modk_pl {m' : Mdl} {a2 : Option Addr} {c2 g0 g1 g2 g3 : Nat} (h : TigM (modk xs a c g0 g1) m') (e : tiI xs = ys) (e2 : tiL xs (List.replicate xs.length (0 : Int)) = List.replicate ys.length 0) : m'.pl = (modk ys a2 c2 g2 g3).pl := by
  unfold Mdl.pl
  rw [h.v, h.a, h.c, h.mu, h.co, h.t]
  simp only [modk, List.map_cons, List.map_nil, tigT, Cod.pl, e, e2]
theorem tk_v0 (a : Option Addr) (c g0 g1 : Nat) : vchk (modk [⟨19, 2, 0, 0⟩, ⟨34, 0, 0, 0⟩, ⟨19, 1, 0, 0⟩] a c g0 g1) = 0 := by kernel_rfl
theorem tk_i0 : tiI [⟨19, 2, 0, 0⟩, ⟨34, 0, 0, 0⟩, ⟨19, 1, 0, 0⟩] = [⟨34, 0, 0, 0⟩] := by kernel_rfl
theorem tk_l0 : tiL [⟨19, 2, 0, 0⟩, ⟨34, 0, 0, 0⟩, ⟨19, 1, 0, 0⟩] (List.replicate 3 (0 : Int)) = List.replicate 1 0 := by kernel_rfl
theorem tk_v1 (a : Option Addr) (c g0 g1 : Nat) : vchk (modk [⟨1, 0, 0, 1⟩, ⟨20, 3, 0, 0⟩, ⟨34, 0, 0, 0⟩, ⟨19, 2, 0, 0⟩] a c g0 g1) = 0 := by kernel_rfl
theorem tk_i1 : tiI [⟨1, 0, 0, 1⟩, ⟨20, 3, 0, 0⟩, ⟨34, 0, 0, 0⟩, ⟨19, 2, 0, 0⟩] = [⟨1, 0, 0, 1⟩, ⟨20, 2, 0, 0⟩, ⟨34, 0, 0, 0⟩] := by kernel_rfl
theorem tk_l1 : tiL [⟨1, 0, 0, 1⟩, ⟨20, 3, 0, 0⟩, ⟨34, 0, 0, 0⟩, ⟨19, 2, 0, 0⟩] (List.replicate 4 (0 : Int)) = List.replicate 3 0 := by kernel_rfl
theorem tk_v2 (a : Option Addr) (c g0 g1 : Nat) : vchk (modk [⟨19, 0, 0, 0⟩] a c g0 g1) = 0 := by kernel_rfl
theorem tk_i2 : tiI [⟨19, 0, 0, 0⟩] = [⟨19, 0, 0, 0⟩] := by kernel_rfl
theorem tk_l2 : tiL [⟨19, 0, 0, 0⟩] (List.replicate 1 (0 : Int)) = List.replicate 1 0 := by kernel_rfl
theorem jump19_ok  : CallF Tryd.prog G 20 [.int .i64 cd] (q) (Ret fun v q' => v = .agg (insC ⟨19, cd, 0, 0⟩).toArray ∧ q' = q) := by
 refine CallF.of Tryd.func20 Tryd.ntmps20 rfl (fun F cs => ?_)
 refine xo 2 ?_
 refine XO.al Tryd.zeroValue53 fun n1 => ?_
 refine oo 5 ?_
 refine stA ?_
 refine ox 1 ?_
 refine X.retL (q) Tryd.func20 (resC1 Tryd.results20 (ResOk.cell rfl (LV.agg Tryd.isAgg53 Tryd.sizeOf53 hasA rfl) ResOk.nil)) ⟨_, rfl, rfl, rfl⟩
set_option maxHeartbeats 2000000 in
theorem is19_ok (gc : GC q) (g : GE q) (hq : MdlQ q m) (hv : vchk m = 0) (hs : Sees q a (ys.flatMap insC)) (hL : ys.length ≤ 1000) (he : ∀ m', TigM m m' → ∀ g2 g3, m'.pl = (modk ys a c g2 g3).pl) : CallF Tryd.prog G 18 [.agg (mdlC m).toArray, .slice a ys.length c] (q) (Ret fun v q' => v = .bool true ∧ q' = q) := by
 refine CallF.of Tryd.func18 Tryd.ntmps18 rfl (fun F cs => ?_)
 refine xo 2 ?_
 refine XO.bx fun n1 => ?_
 refine oo 4 ?_
 refine ldA ?_
 refine XO.cX Tryd.call11 (Le.refl _) (Module_ok (m := m) (gc.le leA) (g.le leA) (hq.le leA)) ?_
 rintro _ _ (⟨hz, rfl, rfl⟩ | ⟨_, m2, hT, hB, rfl, rfl⟩)
 · exact absurd hv hz
 refine oo 3 ?_
 refine XO.al Tryd.zeroValue26 fun n2 => ?_
 refine stA ?_
 refine ox 3 ?_
 refine drw ?_
 refine dd [0] ?_
 refine XD.cRL 1 Tryd.call9 (num_ok) ?_
 refine dd [2, 3] ?_
 refine XD.kt 15 ?_
 refine ldAD 4 ?_
 refine dd [5] ?_
 refine XD.cX 6 Tryd.call19 (Le.refl _) (code19_ok (xs := ys) (a := a) (c := c) hL) ?_
 rintro _ _ ⟨ga, gb, rfl, rfl⟩
 refine ⟨hlA, ?_⟩
 refine XD.cX 7 Tryd.call16 (Le.refl _) (same06_ok (m := m2) (m2 := modk ys a c ga gb) (Kn.mdl knA hB) (modk_q (hs.le leA) hL fndA fndA)) ?_
 rintro _ _ ⟨bb, rfl, hbb, rfl⟩
 refine ⟨trivial, ?_⟩
 have hbt : bb = true := hbb.2 (he m2 hT ga gb); subst hbt
 refine dd [8, 9] ?_
 refine XD.nil ?_
 refine X.retL (q) Tryd.func18 (res1 Tryd.results18 rfl) ⟨_, rfl, rfl, rfl⟩
set_option maxHeartbeats 8000000 in
theorem known19_ok (gc : GC q) (g : GE q) : CallF Tryd.prog G 6 [] (q) (Ret fun v q' => v = .bool true ∧ q' = q) := by
 refine CallF.of Tryd.func6 Tryd.ntmps6 rfl (fun F cs => ?_)
 refine xo 9 ?_
 refine XO.al Tryd.zeroValue53 fun n1 => ?_
 refine XO.al Tryd.zeroValue53 fun n2 => ?_
 refine XO.al Tryd.zeroValue53 fun n3 => ?_
 refine stA ?_
 refine stA ?_
 refine stA ?_
 refine oo 3 ?_
 refine ldA ?_
 refine XO.al Tryd.zeroValue53 fun n4 => ?_
 refine stA ?_
 refine oo 4 ?_
 refine st ?_
 refine ox 1 ?_
 refine X.le (q' := pto n1 (.cells [.int .i64 34, .int .i64 0, .int .i64 0, .int .i64 0].toArray 53 (0, 0)) :: pto n2 (.cells [.int .i64 1, .int .i64 0, .int .i64 0, .int .i64 1].toArray 53 (0, 0)) :: pto n3 (.cells [.int .i64 20, .int .i64 3, .int .i64 0, .int .i64 0].toArray 53 (0, 0)) :: pto n4 (.cells [.int .i64 20, .int .i64 2, .int .i64 0, .int .i64 0].toArray 53 (0, 0)) :: (q ++ F)) leA ?_
 refine xx 1 ?_
 refine drw ?_
 refine ldAD 1 ?_
 refine ldAD 5 ?_
 refine XD.float (fl := [⟨6, 16, fun g => .slice (some ⟨g, 0, none⟩) 1 1, fun g => rsH insC 4 53 (some ⟨g, 0, none⟩) 1 ([⟨34, 0, 0, 0⟩])⟩]) ?_
 refine XF.cX 0 ⟨⟨_, rfl, rfl, rfl, rfl, rfl, rfl, fun q => Ef.litRn insC [⟨34, 0, 0, 0⟩] Tryd.underlying33 ginfo53 rfl rfl (fun _ => rfl) rfl rfl rfl rfl⟩, trivial⟩ Tryd.call20 (Le.refl _) (jump19_ok) ?_
 rintro _ _ ⟨rfl, rfl⟩
 refine ⟨hlA, ?_⟩
 change XF _ _ _ _ _ _ _ _ [(5, n1, 0, .int .i64 34), (5, n1, 1, .int .i64 0), (5, n1, 2, .int .i64 0), (5, n1, 3, .int .i64 0), (1, n1, 0, .int .i64 34), (1, n1, 1, .int .i64 0), (1, n1, 2, .int .i64 0), (1, n1, 3, .int .i64 0)] _ _ _ _ _ _
 refine XF.cX 2 ⟨⟨_, rfl, rfl, rfl, rfl, rfl, rfl, fun q => Ef.litRn insC [⟨34, 0, 0, 0⟩] Tryd.underlying33 ginfo53 rfl rfl (fun _ => rfl) rfl rfl rfl rfl⟩, trivial⟩ Tryd.call20 (Le.refl _) (jump19_ok) ?_
 rintro _ _ ⟨rfl, rfl⟩
 refine ⟨hlA, ?_⟩
 change XF _ _ _ _ _ _ _ _ [(5, n1, 0, .int .i64 34), (5, n1, 1, .int .i64 0), (5, n1, 2, .int .i64 0), (5, n1, 3, .int .i64 0), (1, n1, 0, .int .i64 34), (1, n1, 1, .int .i64 0), (1, n1, 2, .int .i64 0), (1, n1, 3, .int .i64 0)] _ _ _ _ _ _
 refine XF.ef 3 ⟨⟨_, rfl, rfl, rfl, rfl, rfl, rfl, fun q => Ef.litRn insC [⟨34, 0, 0, 0⟩] Tryd.underlying33 ginfo53 rfl rfl (fun _ => rfl) rfl rfl rfl rfl⟩, trivial⟩ (Ef.newE (V := fun g => .slice (some ⟨g, 0, none⟩) 3 3) (A := fun g => rsH insC 4 53 (some ⟨g, 0, none⟩) 3 ([⟨19, 2, 0, 0⟩, ⟨34, 0, 0, 0⟩, ⟨19, 1, 0, 0⟩])) (fun q => Ef.litRn insC [⟨19, 2, 0, 0⟩, ⟨34, 0, 0, 0⟩, ⟨19, 1, 0, 0⟩] Tryd.underlying33 ginfo53 rfl rfl (fun _ => rfl) rfl rfl rfl rfl)) ?_
 rintro _ _ ⟨gl0, rfl, rfl⟩
 refine ⟨hlA, ?_⟩
 change XF _ _ _ _ _ _ _ _ [(5, n1, 0, .int .i64 34), (5, n1, 1, .int .i64 0), (5, n1, 2, .int .i64 0), (5, n1, 3, .int .i64 0)] _ _ _ _ _ _
 refine XF.cX 4 ⟨⟨_, rfl, rfl, rfl, rfl, rfl, rfl, fun q => Ef.litRn insC [⟨34, 0, 0, 0⟩] Tryd.underlying33 ginfo53 rfl rfl (fun _ => rfl) rfl rfl rfl rfl⟩, trivial⟩ Tryd.call19 (Le.refl _) (code19_ok (xs := [⟨19, 2, 0, 0⟩, ⟨34, 0, 0, 0⟩, ⟨19, 1, 0, 0⟩]) (by decide)) ?_
 rintro _ _ ⟨ga0, gb0, rfl, rfl⟩
 refine ⟨hlA, ?_⟩
 change XF _ _ _ _ _ _ _ _ [(5, n1, 0, .int .i64 34), (5, n1, 1, .int .i64 0), (5, n1, 2, .int .i64 0), (5, n1, 3, .int .i64 0)] _ _ _ _ _ _
 refine XF.abs (e0 := ⟨6, 16, fun g => .slice (some ⟨g, 0, none⟩) 1 1, fun g => rsH insC 4 53 (some ⟨g, 0, none⟩) 1 ([⟨34, 0, 0, 0⟩])⟩) (hnd := by simp) 6 ⟨⟨_, rfl, rfl, rfl, rfl, rfl, rfl, fun q => Ef.litRn insC [⟨34, 0, 0, 0⟩] Tryd.underlying33 ginfo53 rfl rfl (fun _ => rfl) rfl rfl rfl rfl⟩, trivial⟩ (fun gl1 => ?_)
 change XF _ _ _ _ _ _ _ [] _ _ _ ((16, .slice (some ⟨gl1, 0, none⟩) 1 1) :: _) _ _ (rsH insC 4 53 (some ⟨gl1, 0, none⟩) 1 ([⟨34, 0, 0, 0⟩]) :: _)
 refine XF.back ?_
 change XD _ _ _ _ _ _ _ [(5, n1, 0, .int .i64 34), (5, n1, 1, .int .i64 0), (5, n1, 2, .int .i64 0), (5, n1, 3, .int .i64 0)] _ _ _ _ _ _
 refine XD.cX 7 Tryd.call18 (Le.refl _) (is19_ok (m := modk [⟨19, 2, 0, 0⟩, ⟨34, 0, 0, 0⟩, ⟨19, 1, 0, 0⟩] (some ⟨gl0, 0, none⟩) 3 ga0 gb0) (ys := [⟨34, 0, 0, 0⟩]) (gc.le leA) (g.le leA) (modk_q (xs := [⟨19, 2, 0, 0⟩, ⟨34, 0, 0, 0⟩, ⟨19, 1, 0, 0⟩]) ((Sees.rsH _).le fndA) (by decide) fndA fndA) (tk_v0 _ _ _ _) ((Sees.rsH _).le fndA) (by decide) (fun m2 h g2 g3 => modk_pl h tk_i0 tk_l0)) ?_
 rintro _ _ ⟨rfl, rfl⟩
 refine ⟨hlA, ?_⟩
 refine XD.le (q' := pto n1 (.cells [.int .i64 34, .int .i64 0, .int .i64 0, .int .i64 0].toArray 53 (0, 0)) :: pto n2 (.cells [.int .i64 1, .int .i64 0, .int .i64 0, .int .i64 1].toArray 53 (0, 0)) :: pto n3 (.cells [.int .i64 20, .int .i64 3, .int .i64 0, .int .i64 0].toArray 53 (0, 0)) :: pto n4 (.cells [.int .i64 20, .int .i64 2, .int .i64 0, .int .i64 0].toArray 53 (0, 0)) :: (q ++ F)) leA ?_
 change XD _ _ _ _ _ _ _ [(5, n1, 0, .int .i64 34), (5, n1, 1, .int .i64 0), (5, n1, 2, .int .i64 0), (5, n1, 3, .int .i64 0)] _ _ _ _ _ _
 refine dd [8] ?_
 refine ldAD 9 ?_
 refine ldAD 10 ?_
 refine ldAD 11 ?_
 refine ldAD 15 ?_
 refine ldAD 16 ?_
 refine ldAD 17 ?_
 refine XD.float (fl := [⟨18, 28, fun g => .slice (some ⟨g, 0, none⟩) 3 3, fun g => rsH insC 4 53 (some ⟨g, 0, none⟩) 3 ([⟨1, 0, 0, 1⟩, ⟨20, 2, 0, 0⟩, ⟨34, 0, 0, 0⟩])⟩]) ?_
 refine XF.cX 12 ⟨⟨_, rfl, rfl, rfl, rfl, rfl, rfl, fun q => Ef.litRn insC [⟨1, 0, 0, 1⟩, ⟨20, 2, 0, 0⟩, ⟨34, 0, 0, 0⟩] Tryd.underlying33 ginfo53 rfl rfl (fun _ => rfl) rfl rfl rfl rfl⟩, trivial⟩ Tryd.call20 (Le.refl _) (jump19_ok) ?_
 rintro _ _ ⟨rfl, rfl⟩
 refine ⟨hlA, ?_⟩
 change XF _ _ _ _ _ _ _ _ [(17, n1, 0, .int .i64 34), (17, n1, 1, .int .i64 0), (17, n1, 2, .int .i64 0), (17, n1, 3, .int .i64 0), (16, n4, 0, .int .i64 20), (16, n4, 1, .int .i64 2), (16, n4, 2, .int .i64 0), (16, n4, 3, .int .i64 0), (15, n2, 0, .int .i64 1), (15, n2, 1, .int .i64 0), (15, n2, 2, .int .i64 0), (15, n2, 3, .int .i64 1), (11, n1, 0, .int .i64 34), (11, n1, 1, .int .i64 0), (11, n1, 2, .int .i64 0), (11, n1, 3, .int .i64 0), (10, n3, 0, .int .i64 20), (10, n3, 1, .int .i64 3), (10, n3, 2, .int .i64 0), (10, n3, 3, .int .i64 0), (9, n2, 0, .int .i64 1), (9, n2, 1, .int .i64 0), (9, n2, 2, .int .i64 0), (9, n2, 3, .int .i64 1), (5, n1, 0, .int .i64 34), (5, n1, 1, .int .i64 0), (5, n1, 2, .int .i64 0), (5, n1, 3, .int .i64 0)] _ _ _ _ _ _
 refine XF.ef 13 ⟨⟨_, rfl, rfl, rfl, rfl, rfl, rfl, fun q => Ef.litRn insC [⟨1, 0, 0, 1⟩, ⟨20, 2, 0, 0⟩, ⟨34, 0, 0, 0⟩] Tryd.underlying33 ginfo53 rfl rfl (fun _ => rfl) rfl rfl rfl rfl⟩, trivial⟩ (Ef.newE (V := fun g => .slice (some ⟨g, 0, none⟩) 4 4) (A := fun g => rsH insC 4 53 (some ⟨g, 0, none⟩) 4 ([⟨1, 0, 0, 1⟩, ⟨20, 3, 0, 0⟩, ⟨34, 0, 0, 0⟩, ⟨19, 2, 0, 0⟩])) (fun q => Ef.litRn insC [⟨1, 0, 0, 1⟩, ⟨20, 3, 0, 0⟩, ⟨34, 0, 0, 0⟩, ⟨19, 2, 0, 0⟩] Tryd.underlying33 ginfo53 rfl rfl (fun _ => rfl) rfl rfl rfl rfl)) ?_
 rintro _ _ ⟨gl2, rfl, rfl⟩
 refine ⟨hlA, ?_⟩
 change XF _ _ _ _ _ _ _ _ [(17, n1, 0, .int .i64 34), (17, n1, 1, .int .i64 0), (17, n1, 2, .int .i64 0), (17, n1, 3, .int .i64 0), (16, n4, 0, .int .i64 20), (16, n4, 1, .int .i64 2), (16, n4, 2, .int .i64 0), (16, n4, 3, .int .i64 0), (15, n2, 0, .int .i64 1), (15, n2, 1, .int .i64 0), (15, n2, 2, .int .i64 0), (15, n2, 3, .int .i64 1), (5, n1, 0, .int .i64 34), (5, n1, 1, .int .i64 0), (5, n1, 2, .int .i64 0), (5, n1, 3, .int .i64 0)] _ _ _ _ _ _
 refine XF.cX 14 ⟨⟨_, rfl, rfl, rfl, rfl, rfl, rfl, fun q => Ef.litRn insC [⟨1, 0, 0, 1⟩, ⟨20, 2, 0, 0⟩, ⟨34, 0, 0, 0⟩] Tryd.underlying33 ginfo53 rfl rfl (fun _ => rfl) rfl rfl rfl rfl⟩, trivial⟩ Tryd.call19 (Le.refl _) (code19_ok (xs := [⟨1, 0, 0, 1⟩, ⟨20, 3, 0, 0⟩, ⟨34, 0, 0, 0⟩, ⟨19, 2, 0, 0⟩]) (by decide)) ?_
 rintro _ _ ⟨ga1, gb1, rfl, rfl⟩
 refine ⟨hlA, ?_⟩
 change XF _ _ _ _ _ _ _ _ [(17, n1, 0, .int .i64 34), (17, n1, 1, .int .i64 0), (17, n1, 2, .int .i64 0), (17, n1, 3, .int .i64 0), (16, n4, 0, .int .i64 20), (16, n4, 1, .int .i64 2), (16, n4, 2, .int .i64 0), (16, n4, 3, .int .i64 0), (15, n2, 0, .int .i64 1), (15, n2, 1, .int .i64 0), (15, n2, 2, .int .i64 0), (15, n2, 3, .int .i64 1), (5, n1, 0, .int .i64 34), (5, n1, 1, .int .i64 0), (5, n1, 2, .int .i64 0), (5, n1, 3, .int .i64 0)] _ _ _ _ _ _
 refine XF.abs (e0 := ⟨18, 28, fun g => .slice (some ⟨g, 0, none⟩) 3 3, fun g => rsH insC 4 53 (some ⟨g, 0, none⟩) 3 ([⟨1, 0, 0, 1⟩, ⟨20, 2, 0, 0⟩, ⟨34, 0, 0, 0⟩])⟩) (hnd := by simp) 18 ⟨⟨_, rfl, rfl, rfl, rfl, rfl, rfl, fun q => Ef.litRn insC [⟨1, 0, 0, 1⟩, ⟨20, 2, 0, 0⟩, ⟨34, 0, 0, 0⟩] Tryd.underlying33 ginfo53 rfl rfl (fun _ => rfl) rfl rfl rfl rfl⟩, trivial⟩ (fun gl3 => ?_)
 change XF _ _ _ _ _ _ _ [] _ _ _ ((28, .slice (some ⟨gl3, 0, none⟩) 3 3) :: _) _ _ (rsH insC 4 53 (some ⟨gl3, 0, none⟩) 3 ([⟨1, 0, 0, 1⟩, ⟨20, 2, 0, 0⟩, ⟨34, 0, 0, 0⟩]) :: _)
 refine XF.back ?_
 change XD _ _ _ _ _ _ _ [(17, n1, 0, .int .i64 34), (17, n1, 1, .int .i64 0), (17, n1, 2, .int .i64 0), (17, n1, 3, .int .i64 0), (16, n4, 0, .int .i64 20), (16, n4, 1, .int .i64 2), (16, n4, 2, .int .i64 0), (16, n4, 3, .int .i64 0), (15, n2, 0, .int .i64 1), (15, n2, 1, .int .i64 0), (15, n2, 2, .int .i64 0), (15, n2, 3, .int .i64 1), (5, n1, 0, .int .i64 34), (5, n1, 1, .int .i64 0), (5, n1, 2, .int .i64 0), (5, n1, 3, .int .i64 0)] _ _ _ _ _ _
 refine XD.cX 19 Tryd.call18 (Le.refl _) (is19_ok (m := modk [⟨1, 0, 0, 1⟩, ⟨20, 3, 0, 0⟩, ⟨34, 0, 0, 0⟩, ⟨19, 2, 0, 0⟩] (some ⟨gl2, 0, none⟩) 4 ga1 gb1) (ys := [⟨1, 0, 0, 1⟩, ⟨20, 2, 0, 0⟩, ⟨34, 0, 0, 0⟩]) (gc.le leA) (g.le leA) (modk_q (xs := [⟨1, 0, 0, 1⟩, ⟨20, 3, 0, 0⟩, ⟨34, 0, 0, 0⟩, ⟨19, 2, 0, 0⟩]) ((Sees.rsH _).le fndA) (by decide) fndA fndA) (tk_v1 _ _ _ _) ((Sees.rsH _).le fndA) (by decide) (fun m2 h g2 g3 => modk_pl h tk_i1 tk_l1)) ?_
 rintro _ _ ⟨rfl, rfl⟩
 refine ⟨hlA, ?_⟩
 refine XD.le (q' := pto n1 (.cells [.int .i64 34, .int .i64 0, .int .i64 0, .int .i64 0].toArray 53 (0, 0)) :: pto n2 (.cells [.int .i64 1, .int .i64 0, .int .i64 0, .int .i64 1].toArray 53 (0, 0)) :: pto n3 (.cells [.int .i64 20, .int .i64 3, .int .i64 0, .int .i64 0].toArray 53 (0, 0)) :: pto n4 (.cells [.int .i64 20, .int .i64 2, .int .i64 0, .int .i64 0].toArray 53 (0, 0)) :: (q ++ F)) leA ?_
 change XD _ _ _ _ _ _ _ [(17, n1, 0, .int .i64 34), (17, n1, 1, .int .i64 0), (17, n1, 2, .int .i64 0), (17, n1, 3, .int .i64 0), (16, n4, 0, .int .i64 20), (16, n4, 1, .int .i64 2), (16, n4, 2, .int .i64 0), (16, n4, 3, .int .i64 0), (15, n2, 0, .int .i64 1), (15, n2, 1, .int .i64 0), (15, n2, 2, .int .i64 0), (15, n2, 3, .int .i64 1), (5, n1, 0, .int .i64 34), (5, n1, 1, .int .i64 0), (5, n1, 2, .int .i64 0), (5, n1, 3, .int .i64 0)] _ _ _ _ _ _
 refine dd [20, 21] ?_
 refine XD.cRL 22 Tryd.call20 (jump19_ok) ?_
 change XD _ _ _ _ _ _ _ [(17, n1, 0, .int .i64 34), (17, n1, 1, .int .i64 0), (17, n1, 2, .int .i64 0), (17, n1, 3, .int .i64 0), (16, n4, 0, .int .i64 20), (16, n4, 1, .int .i64 2), (16, n4, 2, .int .i64 0), (16, n4, 3, .int .i64 0), (15, n2, 0, .int .i64 1), (15, n2, 1, .int .i64 0), (15, n2, 2, .int .i64 0), (15, n2, 3, .int .i64 1), (5, n1, 0, .int .i64 34), (5, n1, 1, .int .i64 0), (5, n1, 2, .int .i64 0), (5, n1, 3, .int .i64 0)] _ _ _ _ _ _
 refine XD.ef 23 rfl (Ef.litRn insC [⟨19, 0, 0, 0⟩] Tryd.underlying33 ginfo53 rfl rfl (fun _ => rfl) rfl rfl rfl rfl) ?_
 rintro _ _ ⟨gl4, rfl, rfl⟩
 refine ⟨hlA, ?_⟩
 change XD _ _ _ _ _ _ _ [(17, n1, 0, .int .i64 34), (17, n1, 1, .int .i64 0), (17, n1, 2, .int .i64 0), (17, n1, 3, .int .i64 0), (16, n4, 0, .int .i64 20), (16, n4, 1, .int .i64 2), (16, n4, 2, .int .i64 0), (16, n4, 3, .int .i64 0), (15, n2, 0, .int .i64 1), (15, n2, 1, .int .i64 0), (15, n2, 2, .int .i64 0), (15, n2, 3, .int .i64 1), (5, n1, 0, .int .i64 34), (5, n1, 1, .int .i64 0), (5, n1, 2, .int .i64 0), (5, n1, 3, .int .i64 0)] _ _ _ _ _ _
 refine XD.cX 24 Tryd.call19 (Le.refl _) (code19_ok (xs := [⟨19, 0, 0, 0⟩]) (by decide)) ?_
 rintro _ _ ⟨ga2, gb2, rfl, rfl⟩
 refine ⟨hlA, ?_⟩
 change XD _ _ _ _ _ _ _ [(17, n1, 0, .int .i64 34), (17, n1, 1, .int .i64 0), (17, n1, 2, .int .i64 0), (17, n1, 3, .int .i64 0), (16, n4, 0, .int .i64 20), (16, n4, 1, .int .i64 2), (16, n4, 2, .int .i64 0), (16, n4, 3, .int .i64 0), (15, n2, 0, .int .i64 1), (15, n2, 1, .int .i64 0), (15, n2, 2, .int .i64 0), (15, n2, 3, .int .i64 1), (5, n1, 0, .int .i64 34), (5, n1, 1, .int .i64 0), (5, n1, 2, .int .i64 0), (5, n1, 3, .int .i64 0)] _ _ _ _ _ _
 refine XD.cRL 25 Tryd.call20 (jump19_ok) ?_
 change XD _ _ _ _ _ _ _ [(17, n1, 0, .int .i64 34), (17, n1, 1, .int .i64 0), (17, n1, 2, .int .i64 0), (17, n1, 3, .int .i64 0), (16, n4, 0, .int .i64 20), (16, n4, 1, .int .i64 2), (16, n4, 2, .int .i64 0), (16, n4, 3, .int .i64 0), (15, n2, 0, .int .i64 1), (15, n2, 1, .int .i64 0), (15, n2, 2, .int .i64 0), (15, n2, 3, .int .i64 1), (5, n1, 0, .int .i64 34), (5, n1, 1, .int .i64 0), (5, n1, 2, .int .i64 0), (5, n1, 3, .int .i64 0)] _ _ _ _ _ _
 refine XD.ef 26 rfl (Ef.litRn insC [⟨19, 0, 0, 0⟩] Tryd.underlying33 ginfo53 rfl rfl (fun _ => rfl) rfl rfl rfl rfl) ?_
 rintro _ _ ⟨gl5, rfl, rfl⟩
 refine ⟨hlA, ?_⟩
 change XD _ _ _ _ _ _ _ [(17, n1, 0, .int .i64 34), (17, n1, 1, .int .i64 0), (17, n1, 2, .int .i64 0), (17, n1, 3, .int .i64 0), (16, n4, 0, .int .i64 20), (16, n4, 1, .int .i64 2), (16, n4, 2, .int .i64 0), (16, n4, 3, .int .i64 0), (15, n2, 0, .int .i64 1), (15, n2, 1, .int .i64 0), (15, n2, 2, .int .i64 0), (15, n2, 3, .int .i64 1), (5, n1, 0, .int .i64 34), (5, n1, 1, .int .i64 0), (5, n1, 2, .int .i64 0), (5, n1, 3, .int .i64 0)] _ _ _ _ _ _
 refine XD.cX 27 Tryd.call18 (Le.refl _) (is19_ok (m := modk [⟨19, 0, 0, 0⟩] (some ⟨gl4, 0, none⟩) 1 ga2 gb2) (ys := [⟨19, 0, 0, 0⟩]) (gc.le leA) (g.le leA) (modk_q (xs := [⟨19, 0, 0, 0⟩]) ((Sees.rsH _).le fndA) (by decide) fndA fndA) (tk_v2 _ _ _ _) ((Sees.rsH _).le fndA) (by decide) (fun m2 h g2 g3 => modk_pl h tk_i2 tk_l2)) ?_
 rintro _ _ ⟨rfl, rfl⟩
 refine ⟨hlA, ?_⟩
 refine XD.le (q' := pto n1 (.cells [.int .i64 34, .int .i64 0, .int .i64 0, .int .i64 0].toArray 53 (0, 0)) :: pto n2 (.cells [.int .i64 1, .int .i64 0, .int .i64 0, .int .i64 1].toArray 53 (0, 0)) :: pto n3 (.cells [.int .i64 20, .int .i64 3, .int .i64 0, .int .i64 0].toArray 53 (0, 0)) :: pto n4 (.cells [.int .i64 20, .int .i64 2, .int .i64 0, .int .i64 0].toArray 53 (0, 0)) :: (q ++ F)) leA ?_
 change XD _ _ _ _ _ _ _ [(17, n1, 0, .int .i64 34), (17, n1, 1, .int .i64 0), (17, n1, 2, .int .i64 0), (17, n1, 3, .int .i64 0), (16, n4, 0, .int .i64 20), (16, n4, 1, .int .i64 2), (16, n4, 2, .int .i64 0), (16, n4, 3, .int .i64 0), (15, n2, 0, .int .i64 1), (15, n2, 1, .int .i64 0), (15, n2, 2, .int .i64 0), (15, n2, 3, .int .i64 1), (5, n1, 0, .int .i64 34), (5, n1, 1, .int .i64 0), (5, n1, 2, .int .i64 0), (5, n1, 3, .int .i64 0)] _ _ _ _ _ _
 refine dd [28, 29] ?_
 refine XD.nil ?_
 refine X.retL (q) Tryd.func6 (res1 Tryd.results6 rfl) ⟨_, rfl, rfl, rfl⟩
end
end Go.Proofs.YtbeeplmgcdnadaaDoor

