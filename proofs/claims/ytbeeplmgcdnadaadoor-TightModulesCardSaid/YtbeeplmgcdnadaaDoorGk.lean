/- What functions of package tight, of its references and of its laws do: contracts of calls, proved by walking their code. -/
import Derived.Test.YtbeeplmgcdnadaaDoorGj
import Derived.Test.YtbeeplmgcdnadaaDoorWc
import Derived.KernelRfl
set_option maxRecDepth 100000
set_option linter.unusedVariables false
set_option linter.unusedSimpArgs false
namespace Go.Proofs.YtbeeplmgcdnadaaDoor
open Go Go.RowKit Wx
attribute [local irreducible] Wx.lsH Wx.rsH Wx.lsM Wx.rsM Wx.stars

/-- A module that shares lists with another one. -/
structure ShM (m m' : Mdl) : Prop where
  t : TigM m m'
  v : m'.va = m.va ∧ m'.vc = m.vc
  a : m'.aa = m.aa ∧ m'.ac = m.ac
  c : m'.ca = m.ca ∧ m'.cc = m.cc
def thM (m : Mdl) : HP := lst (fun M => SlAt M m.ta m.tc m.threads.length (m.threads.flatMap codC) ∧ CodsAt M m.threads) fun e h => ⟨h.1.mono e, CodsAt.mono e h.2⟩
theorem Le.thM {q : List HP} {m : Mdl} (h : Kn q fun M => SlAt M m.ta m.tc m.threads.length (m.threads.flatMap codC) ∧ CodsAt M m.threads) : Le q (Go.Proofs.YtbeeplmgcdnadaaDoor.thM m :: q) := Kn.add (mn := fun e h => ⟨h.1.mono e, CodsAt.mono e h.2⟩) h
theorem ShM.q {q q' : List HP} {m m' : Mdl} (h : ShM m m') (hq : MdlQ q' m) (hb : ∀ x ∈ m'.threads, x.name.size ≤ 9223372036854775807 ∧ x.ins.length ≤ 9223372036854775807 ∧ x.lines.length ≤ 9223372036854775807) (hn : m'.threads.length ≤ 9223372036854775807) (l : Le q q') (k : Kn q fun M => SlAt M m'.ta m'.tc m'.threads.length (m'.threads.flatMap codC) ∧ CodsAt M m'.threads) : MdlQ q m' :=
  ⟨by rw [h.t.v, h.v.1]; exact hq.v.le l, by rw [h.t.a, h.a.1]; exact hq.a.le l, by rw [h.t.c, h.c.1]; exact hq.c.le l, Kn.sees (k.imp fun _ j => j.1.2.2), fun x hx => ⟨Kn.sees (k.imp fun _ j => (j.2 x hx).1.2.2), Kn.sees (k.imp fun _ j => (j.2 x hx).2.2.2), (hb x hx).1, (hb x hx).2.1, (hb x hx).2.2⟩, by rw [h.t.v]; exact hq.nv, by rw [h.t.a]; exact hq.na, by rw [h.t.c]; exact hq.nc, hn, by rw [h.t.a, h.a.2]; exact hq.ka⟩
theorem rowsF_snocI {t : Cod} {s : Nat} (h : s < (rowsF t).length) : (tiI t.ins).take (s + 1) = (tiI t.ins).take s ++ [(rowsF t)[s].i] := by
  have hl : s < (tiI t.ins).length := by rw [← rowsF_i, List.length_map]; exact h
  rw [List.take_succ_eq_append_getElem hl]
  simp only [← rowsF_i, List.getElem_map]
theorem rowsF_snocL {t : Cod} {s : Nat} (hln : t.lines.length = t.ins.length) (h : s < (rowsF t).length) : (tiL t.ins t.lines).take (s + 1) = (tiL t.ins t.lines).take s ++ [(rowsF t)[s].ln] := by
  have hl : s < (tiL t.ins t.lines).length := by rw [← rowsF_ln hln, List.length_map]; exact h
  rw [List.take_succ_eq_append_getElem hl]
  simp only [← rowsF_ln hln, List.getElem_map]
theorem insOk_a {i : Ins} (h : insOk i) : 0 ≤ i.a ∧ i.a ≤ 65536 := by have := h.2.1; split at this <;> omega
section
variable {α : Type} {P : Program} {G : World} {p : PE} {q r : List HP} {f : α → List Value} {sz ty : Nat} {a b : Option Addr} {c c' : Nat} {l m : List α}
theorem Ef.appRF {d : Option Tmp} {ty' : TypeId} {pos : String} {af : Array Edge} {gd : Option (Nat × Bool)} {x y : Operand} {t : TypeId} {z : Value} {bytes : Nat} (ht : P.underlying t = some (.slice ty)) (hi : (P.info? ty).map (fun i => (i.zero, i.size, i.bytes)) = some (some z, sz, bytes)) (hz : z.cells.size = sz) (hsz : Nat.blt 0 sz = true) (hf : ∀ x, (f x).length = sz)
    (hx : evp p x = some (.slice a l.length c)) (hy : evp p y = some (.slice b m.length c')) (hq : Le q (Wx.rsH f sz ty a c l :: r)) (hs : Sees q b (m.flatMap f)) (h1 : ∀ x, (f x).all (·.oneCell') = true)
    (h63 : l.length + m.length ≤ 9223372036854775807) (hby : (l.length + m.length) * bytes ≤ 140737488355328) (E : List HP) :
    Ef P G p (q ++ E) ⟨d, .call ⟨.builtin .append, [x, y].toArray, [t, t].toArray⟩, ty', pos, af, gd⟩ fun v q' => ∃ q1, (∃ a' c', v = .slice a' (l ++ m).length c' ∧ q1 = Wx.rsH f sz ty a' c' (l ++ m) :: r) ∧ q' = q1 ++ E := by
  intro tm w ag s
  obtain ⟨v, w', q', h1', h2', a', c'', h3, h4⟩ := Ef.appRA (P := P) (G := G) (d := d) (ty' := ty') (pos := pos) (af := af) (gd := gd) (r := r ++ E) ht hi hz hsz hf hx hy (hq.liftR E) (hs.le (Le.app_left q E)) h1 h63 hby tm w ag s
  exact ⟨v, w', q', h1', h2', _, ⟨a', c'', h3, rfl⟩, h4⟩
end
section
variable {G : World} {q : List HP} {a b A : Option Addr} {c d : Nat} {cd : Int} {l : List Ins} {ln : List Int} {o : List Bool}
variable {nt : Nat} {nm : ByteArray} {lo : Int} {ia la wa : Option Addr} {ic lc wc : Nat} {I : List Ins} {L W : List Int}
variable {r : List Rw} {x : Ins} {i at_ : Nat}
variable {t : Cod} {m : Mdl}
set_option maxHeartbeats 8000000 in
theorem RModule_ok (hq : MdlQ q m) : CallF Tryd.prog G 14 [.agg (mdlC m).toArray] (q) (Ret fun v q' => (vchk m ≠ 0 ∧ v = .tuple [.agg (mdlC mdZ).toArray, .int .i64 2].toArray ∧ q' = q) ∨ (vchk m = 0 ∧ ∃ m', ShM m m' ∧ MdB m' ∧ v = .tuple [.agg (mdlC m').toArray, .int .i64 0].toArray ∧ q' = thM m' :: q)) := by
 refine CallF.of Tryd.func14 Tryd.ntmps14 rfl (fun F cs => ?_)
 have hlen := flatMap_len (f := codC) (sz := 4) (fun _ => rfl) m.threads; have hnt := hq.nt
 refine xo 2 ?_
 refine XO.bx fun n1 => ?_
 refine XO.al Tryd.zeroValue26 fun n2 => ?_
 refine oo 5 ?_
 refine ldA ?_
 refine XO.cR Tryd.call8 (RCheck7_ok (hq.le leA)) ?_
 refine ox 2 ?_
 refine X.part 11 rfl (fun h0 => ?_) (fun h0 => ?_)
 · skip
   replace h0 := sp h0
   refine xo 4 ?_
   refine stA ?_
   refine ox 2 ?_
   refine X.retL (q) Tryd.func14 (resC Tryd.results14 (ResOk.cell rfl (LV.agg Tryd.isAgg26 Tryd.sizeOf26 hasA rfl) (ResOk.tmp rfl ResOk.nil))) ⟨_, rfl, .inl ⟨h0, rfl, rfl⟩⟩
 · skip
   replace h0 := sp h0; obtain ⟨hk0, _⟩ := vchk_zero h0; have hok := mchk_iff.1 hk0; have hb4 := hok.2.2.2.2.2.1
   refine xo 4 ?_
   refine ldA ?_
   refine XO.al Tryd.zeroValue26 fun n3 => ?_
   refine stA ?_
   refine oo 4 ?_
   refine st ?_
   refine ox 7 ?_
   refine X.at (X.loop (fun (s : (List Cod × Nat) × Option Addr × Nat) => s.1.2 ≤ m.threads.length ∧ s.1.1.map Cod.pl = (m.threads.take s.1.2).map tigT) (fun s => [(5, .int .i64 (s.1.2 : Int)), (1, .pointer (some ⟨n1, 0, none⟩)), (2, .pointer (some ⟨n2, 0, none⟩)), (3, .int .i64 0), (4, .pointer (some ⟨n3, 0, none⟩))]) (fun s => rsH codC 4 35 s.2.1 s.2.2 (s.1.1) :: cosM s.1.1 :: pto n3 (.cells [.slice m.va m.vars.length m.vc, .slice m.aa m.arrays.length m.ac, .slice m.ca m.chans.length m.cc, .int .i64 m.mutexes, .int .i64 m.conds, .slice s.2.1 s.1.1.length s.2.2].toArray 26 (0, 0)) :: pto n1 (.cells (mdlC m).toArray 26 (0, 0)) :: pto n2 (.cells [.slice none 0 0, .slice none 0 0, .slice none 0 0, .int .i64 0, .int .i64 0, .slice none 0 0].toArray 26 (0, 0)) :: (q ++ F)) (fun s => m.threads.length - s.1.2) (fun s hi_ ih => ?_) (([], 0), none, 0) ⟨Nat.zero_le _, rfl⟩) subA (Le.trans leA (Le.trans Kn.cosnil (Le.rsH_nil codC 4 35 _)))
   try dsimp only at hi_ ih ⊢
   obtain ⟨hs0, hmp⟩ := hi_
   obtain ⟨⟨T, s⟩, a', c'⟩ := s; dsimp only at *; have hTl : T.length = s := by have := congrArg List.length hmp; simp at this; omega
   refine xo 5 ?_
   refine ld ?_
   refine ox 3 ?_
   refine X.part 19 rfl (fun h1 => ?_) (fun h1 => ?_)
   · skip
     replace h1 := sp h1; have hth : s < m.threads.length := (by omega); have hT := ThOk.of h0 (List.getElem_mem hth); have hbd : ∀ i ∈ m.threads[s].ins, 0 ≤ i.a ∧ i.a ≤ 65536 := (fun i hi => insOk_a ((mdlOk_thr hk0 (List.getElem_mem hth)).1 i hi)); have hrl := rowsF_len m.threads[s]; have hrn := kb_le (tiR m.threads[s].ins) m.threads[s].ins.length; have hTn := hT.n
     skip
     refine xx 5 ?_
     refine drw ?_
     refine dd [0] ?_
     refine ldD 1 ?_
     refine dd [2] ?_
     refine XD.adr hq.t (by rw [hlen]; omega) (fun b1 o1 e1 => ?_)
     have hs1 := hq.t; rw [e1] at hs1
     refine XD.know 23 (.slice (some ⟨b1, o1, none⟩) m.threads.length m.tc) rfl (by rw [e1]) ?_
     refine dd [3, 4] ?_
     refine ldD 5 ?_ (hc := (Cl.row (j := (s : Int)) hs1 leA (fun _ => rfl) hth rfl 0 _ rfl))
     refine dd [6] ?_
     refine ldD 7 ?_
     refine dd [8] ?_
     refine XD.know 29 (.slice (some ⟨b1, o1, none⟩) m.threads.length m.tc) rfl (by rw [e1]) ?_
     refine dd [9, 10] ?_
     refine ldD 11 ?_ (hc := (Cl.row (j := (s : Int)) hs1 leA (fun _ => rfl) hth rfl 1 _ rfl))
     refine dd [12] ?_
     refine XD.al 13 Tryd.zeroValue35 (fun n4 => ?_)
     refine stAD 14 ?_
     refine XD.nil ?_
     refine xo 3 ?_
     refine ld ?_
     refine oo 1 ?_
     refine XO.know 36 (.slice (some ⟨b1, o1, none⟩) m.threads.length m.tc) rfl (by rw [e1]) ?_
     refine oo 1 ?_
     refine XO.ldS (n := s) Tryd.isAgg35 Tryd.sizeOf35 hs1 hth ?_
     refine XO.cX Tryd.call28 (Le.refl _) (RTight_ok (t := m.threads[s]) ((hq.x _ (List.getElem_mem hth)).le leA) hT hbd) ?_
     rintro _ _ ⟨ar, cr, rfl, rfl⟩
     refine ox 8 ?_
     refine X.at (X.loop (fun (k : Nat × (Option Addr × Nat) × Option Addr × Nat) => k.1 ≤ (rowsF m.threads[s]).length) (fun k => [(8, .int .i64 (k.1 : Int)), (7, .slice ar (rowsF m.threads[s]).length cr), (6, .pointer (some ⟨n4, 0, none⟩)), (5, .int .i64 (s : Int)), (1, .pointer (some ⟨n1, 0, none⟩)), (2, .pointer (some ⟨n2, 0, none⟩)), (3, .int .i64 0), (4, .pointer (some ⟨n3, 0, none⟩))]) (fun k => rsH insC 4 53 k.2.1.1 k.2.1.2 (((tiI m.threads[s].ins).take k.1)) :: lsH I64 3 k.2.2.1 k.2.2.2 (((tiL m.threads[s].ins m.threads[s].lines).take k.1)) :: pto n4 (.cells [.string m.threads[s].name, .int .i64 m.threads[s].locals, .slice k.2.1.1 ((tiI m.threads[s].ins).take k.1).length k.2.1.2, .slice k.2.2.1 ((tiL m.threads[s].ins m.threads[s].lines).take k.1).length k.2.2.2].toArray 35 (0, 0)) :: rsH rwC 6 70 ar cr (rowsF m.threads[s]) :: rsH codC 4 35 a' c' (T) :: cosM T :: pto n3 (.cells [.slice m.va m.vars.length m.vc, .slice m.aa m.arrays.length m.ac, .slice m.ca m.chans.length m.cc, .int .i64 m.mutexes, .int .i64 m.conds, .slice a' T.length c'].toArray 26 (0, 0)) :: pto n1 (.cells (mdlC m).toArray 26 (0, 0)) :: pto n2 (.cells [.slice none 0 0, .slice none 0 0, .slice none 0 0, .int .i64 0, .int .i64 0, .slice none 0 0].toArray 26 (0, 0)) :: (q ++ F)) (fun k => (rowsF m.threads[s]).length - k.1) (fun k hi_ ih2 => ?_) (0, (none, 0), none, 0) (Nat.zero_le _)) subA (Le.trans leA (Le.trans (Le.lsH_nil I64 3 _) (Le.rsH_nil insC 4 53 _)))
     try dsimp only at hi_ ih2 ⊢
     obtain hk0 := hi_
     obtain ⟨k, ⟨ai, ci⟩, al, cl_⟩ := k; dsimp only at *
     refine xx 8 ?_
     refine X.part 44 rfl (fun h2 => ?_) (fun h2 => ?_)
     · skip
       replace h2 := sp h2; have hkl : k < (rowsF m.threads[s]).length := (by omega); have hi1 : ((tiI m.threads[s].ins).take k).length ≤ m.threads[s].ins.length := (by rw [List.length_take]; have := tiI_le m.threads[s].ins; omega); have hi2 : ((tiL m.threads[s].ins m.threads[s].lines).take k).length ≤ m.threads[s].ins.length := (by rw [List.length_take]; have := hT.ln; have h9 : (tiL m.threads[s].ins m.threads[s].lines).length ≤ m.threads[s].lines.length := (by rw [tiL_eq]; exact cutS_le _ _); omega); have hsI := rowsF_snocI hkl; have hsL := rowsF_snocL hT.ln hkl
       refine X.rsadr (fl := rwC) (l := rowsF m.threads[s]) (by omega) (fun gr e_ => ?_); subst e_
       refine xx 4 ?_
       refine drw ?_
       refine dd [0] ?_
       refine ldD 1 ?_
       refine dd [2, 3, 4, 5] ?_
       refine XD.rdCs 6 (us := insC (rowsF m.threads[s])[k].i) rfl rfl Tryd.isAgg53 Tryd.sizeOf53 rfl (fun k9 v hk => Cl.row (f := rwC) (l := rowsF m.threads[s]) (Sees.rsH _) fndA (fun _ => rfl) hkl rfl k9 v (rwC_i hk)) ?_
       refine dd [9] ?_
       refine ldD 10 ?_
       refine dd [11, 12, 13, 14] ?_
       refine ldD 15 ?_ (hc := (Cl.row (f := rwC) (l := rowsF m.threads[s]) (Sees.rsH _) fndA (fun _ => rfl) hkl rfl 4 _ rfl))
       refine XD.float (fl := [⟨7, 54, fun g => .slice (some ⟨g, 0, none⟩) 1 1, fun g => rsH insC 4 53 (some ⟨g, 0, none⟩) 1 ([(rowsF m.threads[s])[k].i])⟩, ⟨16, 63, fun g => .slice (some ⟨g, 0, none⟩) 1 1, fun g => lsH I64 3 (some ⟨g, 0, none⟩) 1 ([(rowsF m.threads[s])[k].ln])⟩]) ?_
       refine XF.abs (e0 := ⟨7, 54, fun g => .slice (some ⟨g, 0, none⟩) 1 1, fun g => rsH insC 4 53 (some ⟨g, 0, none⟩) 1 ([(rowsF m.threads[s])[k].i])⟩) (hnd := by simp) 7 ⟨⟨_, rfl, rfl, rfl, rfl, rfl, rfl, fun q => Ef.litR1 (u := (rowsF m.threads[s])[k].i) insC Tryd.underlying33 ginfo53 rfl rfl (fun _ => rfl) rfl⟩, ⟨_, rfl, rfl, rfl, rfl, rfl, rfl, fun q => Ef.lit1 (u := (rowsF m.threads[s])[k].ln) I64 Tryd.underlying23 ginfo3 rfl rfl⟩, trivial⟩ (fun g1 => ?_) (hL := (hlA (h := by repeat first | exact trivial | refine ⟨Cl.row (f := rwC) (l := rowsF m.threads[s]) (Sees.rsH _) fndA (fun _ => rfl) hkl rfl 4 _ rfl, ?_⟩ | refine ⟨Cl.row (f := rwC) (l := rowsF m.threads[s]) (Sees.rsH _) fndA (fun _ => rfl) hkl rfl 0 _ rfl, ?_⟩ | refine ⟨Cl.row (f := rwC) (l := rowsF m.threads[s]) (Sees.rsH _) fndA (fun _ => rfl) hkl rfl 1 _ rfl, ?_⟩ | refine ⟨Cl.row (f := rwC) (l := rowsF m.threads[s]) (Sees.rsH _) fndA (fun _ => rfl) hkl rfl 2 _ rfl, ?_⟩ | refine ⟨Cl.row (f := rwC) (l := rowsF m.threads[s]) (Sees.rsH _) fndA (fun _ => rfl) hkl rfl 3 _ rfl, ?_⟩ | refine ⟨clA, ?_⟩)))
       change XF _ _ _ _ _ _ _ [⟨16, 63, fun g => .slice (some ⟨g, 0, none⟩) 1 1, fun g => lsH I64 3 (some ⟨g, 0, none⟩) 1 ([(rowsF m.threads[s])[k].ln])⟩] _ _ _ ((54, .slice (some ⟨g1, 0, none⟩) 1 1) :: _) _ _ (rsH insC 4 53 (some ⟨g1, 0, none⟩) 1 ([(rowsF m.threads[s])[k].i]) :: _)
       refine XF.ef 8 ⟨⟨_, rfl, rfl, rfl, rfl, rfl, rfl, fun q => Ef.lit1 (u := (rowsF m.threads[s])[k].ln) I64 Tryd.underlying23 ginfo3 rfl rfl⟩, trivial⟩ (Ef.appRF (f := insC) (sz := 4) (l := ((tiI m.threads[s].ins).take k)) (m := [(rowsF m.threads[s])[k].i]) Tryd.underlying33 ginfo53 rfl rfl (fun _ => rfl) rfl rfl fndA ((Sees.rsH _).le fndA) (fun _ => rfl) (by simp only [List.length_cons, List.length_nil]; omega) (by simp only [List.length_cons, List.length_nil]; omega)) ?_ (hL := (hlA (h := by repeat first | exact trivial | refine ⟨Cl.row (f := rwC) (l := rowsF m.threads[s]) (Sees.rsH _) fndA (fun _ => rfl) hkl rfl 4 _ rfl, ?_⟩ | refine ⟨Cl.row (f := rwC) (l := rowsF m.threads[s]) (Sees.rsH _) fndA (fun _ => rfl) hkl rfl 0 _ rfl, ?_⟩ | refine ⟨Cl.row (f := rwC) (l := rowsF m.threads[s]) (Sees.rsH _) fndA (fun _ => rfl) hkl rfl 1 _ rfl, ?_⟩ | refine ⟨Cl.row (f := rwC) (l := rowsF m.threads[s]) (Sees.rsH _) fndA (fun _ => rfl) hkl rfl 2 _ rfl, ?_⟩ | refine ⟨Cl.row (f := rwC) (l := rowsF m.threads[s]) (Sees.rsH _) fndA (fun _ => rfl) hkl rfl 3 _ rfl, ?_⟩ | refine ⟨clA, ?_⟩)))
       rintro _ _ ⟨ai2, ci2, rfl, rfl⟩
       refine ⟨(hlA (h := by repeat first | exact trivial | refine ⟨Cl.row (f := rwC) (l := rowsF m.threads[s]) (Sees.rsH _) fndA (fun _ => rfl) hkl rfl 4 _ rfl, ?_⟩ | refine ⟨Cl.row (f := rwC) (l := rowsF m.threads[s]) (Sees.rsH _) fndA (fun _ => rfl) hkl rfl 0 _ rfl, ?_⟩ | refine ⟨Cl.row (f := rwC) (l := rowsF m.threads[s]) (Sees.rsH _) fndA (fun _ => rfl) hkl rfl 1 _ rfl, ?_⟩ | refine ⟨Cl.row (f := rwC) (l := rowsF m.threads[s]) (Sees.rsH _) fndA (fun _ => rfl) hkl rfl 2 _ rfl, ?_⟩ | refine ⟨Cl.row (f := rwC) (l := rowsF m.threads[s]) (Sees.rsH _) fndA (fun _ => rfl) hkl rfl 3 _ rfl, ?_⟩ | refine ⟨clA, ?_⟩)), ?_⟩
       refine XF.pu 18 ⟨⟨_, rfl, rfl, rfl, rfl, rfl, rfl, fun q => Ef.lit1 (u := (rowsF m.threads[s])[k].ln) I64 Tryd.underlying23 ginfo3 rfl rfl⟩, trivial⟩ (Pu.fieldAddr 33 2 0 rfl Tryd.underlying35 rfl Tryd.sizeOf33) ?_ (hL := (hlA (h := by repeat first | exact trivial | refine ⟨Cl.row (f := rwC) (l := rowsF m.threads[s]) (Sees.rsH _) fndA (fun _ => rfl) hkl rfl 4 _ rfl, ?_⟩ | refine ⟨Cl.row (f := rwC) (l := rowsF m.threads[s]) (Sees.rsH _) fndA (fun _ => rfl) hkl rfl 0 _ rfl, ?_⟩ | refine ⟨Cl.row (f := rwC) (l := rowsF m.threads[s]) (Sees.rsH _) fndA (fun _ => rfl) hkl rfl 1 _ rfl, ?_⟩ | refine ⟨Cl.row (f := rwC) (l := rowsF m.threads[s]) (Sees.rsH _) fndA (fun _ => rfl) hkl rfl 2 _ rfl, ?_⟩ | refine ⟨Cl.row (f := rwC) (l := rowsF m.threads[s]) (Sees.rsH _) fndA (fun _ => rfl) hkl rfl 3 _ rfl, ?_⟩ | refine ⟨clA, ?_⟩)))
       refine XF.abs (e0 := ⟨16, 63, fun g => .slice (some ⟨g, 0, none⟩) 1 1, fun g => lsH I64 3 (some ⟨g, 0, none⟩) 1 ([(rowsF m.threads[s])[k].ln])⟩) (hnd := by simp) 16 ⟨⟨_, rfl, rfl, rfl, rfl, rfl, rfl, fun q => Ef.lit1 (u := (rowsF m.threads[s])[k].ln) I64 Tryd.underlying23 ginfo3 rfl rfl⟩, trivial⟩ (fun g2 => ?_) (hL := (hlA (h := by repeat first | exact trivial | refine ⟨Cl.row (f := rwC) (l := rowsF m.threads[s]) (Sees.rsH _) fndA (fun _ => rfl) hkl rfl 4 _ rfl, ?_⟩ | refine ⟨Cl.row (f := rwC) (l := rowsF m.threads[s]) (Sees.rsH _) fndA (fun _ => rfl) hkl rfl 0 _ rfl, ?_⟩ | refine ⟨Cl.row (f := rwC) (l := rowsF m.threads[s]) (Sees.rsH _) fndA (fun _ => rfl) hkl rfl 1 _ rfl, ?_⟩ | refine ⟨Cl.row (f := rwC) (l := rowsF m.threads[s]) (Sees.rsH _) fndA (fun _ => rfl) hkl rfl 2 _ rfl, ?_⟩ | refine ⟨Cl.row (f := rwC) (l := rowsF m.threads[s]) (Sees.rsH _) fndA (fun _ => rfl) hkl rfl 3 _ rfl, ?_⟩ | refine ⟨clA, ?_⟩)))
       change XF _ _ _ _ _ _ _ [] _ _ _ ((63, .slice (some ⟨g2, 0, none⟩) 1 1) :: _) _ _ (lsH I64 3 (some ⟨g2, 0, none⟩) 1 ([(rowsF m.threads[s])[k].ln]) :: _)
       refine XF.back ?_ (hL := (hlA (h := by repeat first | exact trivial | refine ⟨Cl.row (f := rwC) (l := rowsF m.threads[s]) (Sees.rsH _) fndA (fun _ => rfl) hkl rfl 4 _ rfl, ?_⟩ | refine ⟨Cl.row (f := rwC) (l := rowsF m.threads[s]) (Sees.rsH _) fndA (fun _ => rfl) hkl rfl 0 _ rfl, ?_⟩ | refine ⟨Cl.row (f := rwC) (l := rowsF m.threads[s]) (Sees.rsH _) fndA (fun _ => rfl) hkl rfl 1 _ rfl, ?_⟩ | refine ⟨Cl.row (f := rwC) (l := rowsF m.threads[s]) (Sees.rsH _) fndA (fun _ => rfl) hkl rfl 2 _ rfl, ?_⟩ | refine ⟨Cl.row (f := rwC) (l := rowsF m.threads[s]) (Sees.rsH _) fndA (fun _ => rfl) hkl rfl 3 _ rfl, ?_⟩ | refine ⟨clA, ?_⟩)))
       refine XD.ef 17 rfl (Ef.appA (f := I64) (l := ((tiL m.threads[s].ins m.threads[s].lines).take k)) (m := [(rowsF m.threads[s])[k].ln]) Tryd.underlying23 ginfo3 rfl rfl rfl fndA ((Sees.lsH _).le fndA) (fun _ => rfl) (by simp only [List.length_cons, List.length_nil]; omega) (by simp only [List.length_cons, List.length_nil]; omega)) ?_
       rintro _ _ ⟨al2, cl2, rfl, rfl⟩
       refine ⟨(hlA (h := by repeat first | exact trivial | refine ⟨Cl.row (f := rwC) (l := rowsF m.threads[s]) (Sees.rsH _) fndA (fun _ => rfl) hkl rfl 4 _ rfl, ?_⟩ | refine ⟨Cl.row (f := rwC) (l := rowsF m.threads[s]) (Sees.rsH _) fndA (fun _ => rfl) hkl rfl 0 _ rfl, ?_⟩ | refine ⟨Cl.row (f := rwC) (l := rowsF m.threads[s]) (Sees.rsH _) fndA (fun _ => rfl) hkl rfl 1 _ rfl, ?_⟩ | refine ⟨Cl.row (f := rwC) (l := rowsF m.threads[s]) (Sees.rsH _) fndA (fun _ => rfl) hkl rfl 2 _ rfl, ?_⟩ | refine ⟨Cl.row (f := rwC) (l := rowsF m.threads[s]) (Sees.rsH _) fndA (fun _ => rfl) hkl rfl 3 _ rfl, ?_⟩ | refine ⟨clA, ?_⟩)), ?_⟩
       refine stD 19 ?_ (hh := (hlA (h := by repeat first | exact trivial | refine ⟨Cl.row (f := rwC) (l := rowsF m.threads[s]) (Sees.rsH _) fndA (fun _ => rfl) hkl rfl 4 _ rfl, ?_⟩ | refine ⟨Cl.row (f := rwC) (l := rowsF m.threads[s]) (Sees.rsH _) fndA (fun _ => rfl) hkl rfl 0 _ rfl, ?_⟩ | refine ⟨Cl.row (f := rwC) (l := rowsF m.threads[s]) (Sees.rsH _) fndA (fun _ => rfl) hkl rfl 1 _ rfl, ?_⟩ | refine ⟨Cl.row (f := rwC) (l := rowsF m.threads[s]) (Sees.rsH _) fndA (fun _ => rfl) hkl rfl 2 _ rfl, ?_⟩ | refine ⟨Cl.row (f := rwC) (l := rowsF m.threads[s]) (Sees.rsH _) fndA (fun _ => rfl) hkl rfl 3 _ rfl, ?_⟩ | refine ⟨clA, ?_⟩)))
       refine dd [20] ?_
       refine stD 21 ?_
       refine XD.nil ?_
       refine xx 6 ?_
       refine X.sb [8, 7, 6, 5, 1, 2, 3, 4] ?_
       rw [← hsI, ← hsL]
       refine X.at (ih2 (k + 1, (ai2, ci2), al2, cl2) (by dsimp only; omega) (by dsimp only; omega)) subA leA
     · skip
       replace h2 := sp h2; have hkI : ((tiI m.threads[s].ins).take k) = tiI m.threads[s].ins := List.take_of_length_le (by rw [← rowsF_i, List.length_map]; omega); have hkL : ((tiL m.threads[s].ins m.threads[s].lines).take k) = tiL m.threads[s].ins m.threads[s].lines := List.take_of_length_le (by rw [← rowsF_ln hT.ln, List.length_map]; omega); rw [hkI, hkL]
       obtain ⟨x, hx⟩ : ∃ x : Cod, x = ⟨m.threads[s].name, m.threads[s].locals, tiI m.threads[s].ins, tiL m.threads[s].ins m.threads[s].lines, ai, ci, al, cl_⟩ := ⟨_, rfl⟩
       refine xo 4 ?_
       refine ld ?_
       refine ldA ?_
       refine XO.know 69 (.agg (codC x).toArray) rfl (by rw [hx]; rfl) ?_
       refine XO.ef (Ef.litR1 codC Tryd.underlying24 ginfo35 rfl rfl (fun _ => rfl) rfl) ?_
       rintro _ _ ⟨gx, rfl, rfl⟩
       refine XO.ef (Ef.appRA (f := codC) (l := T) (m := [x]) Tryd.underlying24 ginfo35 rfl rfl (fun _ => rfl) rfl rfl fndA ((Sees.rsH _).le fndA) (fun _ => rfl) (by simp only [List.length_cons, List.length_nil]; omega) (by simp only [List.length_cons, List.length_nil]; omega)) ?_
       rintro _ _ ⟨a4, c4, rfl, rfl⟩
       refine oo 1 ?_
       refine st ?_
       refine ox 7 ?_
       refine X.frzC (f := insC) (a := ai) (c := ci) (l := tiI m.threads[s].ins) (sz := 4) (ty := 53) ?_
       refine X.frzI (a := al) (c := cl_) (l := tiL m.threads[s].ins m.threads[s].lines) (ty := 3) ?_
       refine X.le (Kn.coscons (l := T) (x := x) knA (by subst hx; exact Kn.and (knA (φ := fun M => SlAt M ai ci (tiI m.threads[s].ins).length ((tiI m.threads[s].ins).flatMap insC))) (knA (φ := fun M => SlAt M al cl_ (tiL m.threads[s].ins m.threads[s].lines).length ((tiL m.threads[s].ins m.threads[s].lines).map I64))))) ?_
       have hmp2 : (T ++ [x]).map Cod.pl = (m.threads.take (s + 1)).map tigT := (by rw [List.take_succ_eq_append_getElem hth, List.map_append, List.map_append, hmp, hx]; rfl)
       refine X.at (ih ((T ++ [x], s + 1), a4, c4) ⟨by dsimp only; omega, hmp2⟩ (by dsimp only; omega)) subA leA
   · skip
     replace h1 := sp h1; obtain rfl : s = m.threads.length := (by omega); rw [List.take_length] at hmp
     refine xo 4 ?_
     refine ldA ?_
     refine stA ?_
     refine ox 2 ?_
     refine X.frzC (f := codC) (a := a') (c := c') (l := T) (sz := 4) (ty := 35) ?_
     refine X.le (q' := thM (⟨m.vars, m.arrays, m.chans, m.mutexes, m.conds, T, m.va, m.vc, m.aa, m.ac, m.ca, m.cc, a', c'⟩ : Mdl) :: _) (Le.thM (m := (⟨m.vars, m.arrays, m.chans, m.mutexes, m.conds, T, m.va, m.vc, m.aa, m.ac, m.ca, m.cc, a', c'⟩ : Mdl)) (Kn.and (knA (φ := fun M => SlAt M a' c' T.length (T.flatMap codC))) (knA (φ := fun M => CodsAt M T)))) ?_
     have hpl : ∀ x ∈ T, x.name.size ≤ 9223372036854775807 ∧ x.ins.length ≤ 9223372036854775807 ∧ x.lines.length ≤ 9223372036854775807 := tig_b hq hok.2.2.2.2.2.2 hmp
     refine X.retL (thM (⟨m.vars, m.arrays, m.chans, m.mutexes, m.conds, T, m.va, m.vc, m.aa, m.ac, m.ca, m.cc, a', c'⟩ : Mdl) :: q) Tryd.func14 (resC Tryd.results14 (ResOk.cell rfl (LV.agg Tryd.isAgg26 Tryd.sizeOf26 hasA rfl) (ResOk.tmp rfl ResOk.nil))) ⟨_, rfl, .inr ⟨h0, (⟨m.vars, m.arrays, m.chans, m.mutexes, m.conds, T, m.va, m.vc, m.aa, m.ac, m.ca, m.cc, a', c'⟩ : Mdl), ⟨⟨rfl, rfl, rfl, rfl, rfl, hmp⟩, ⟨rfl, rfl⟩, ⟨rfl, rfl⟩, ⟨rfl, rfl⟩⟩, ⟨hq.nv, hq.na, hq.nc, by show T.length ≤ _; omega, hq.ka, hpl⟩, rfl, rfl⟩⟩
end
end Go.Proofs.YtbeeplmgcdnadaaDoor

