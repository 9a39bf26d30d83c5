/- What functions of package ops, of its references and of its laws do: contracts of calls, proved by walking their code. -/
import Derived.Test.YtbeeplmgcdnadaaDoorD
import Derived.KernelRfl
set_option maxRecDepth 100000
set_option linter.unusedVariables false
set_option linter.unusedSimpArgs false
namespace Go.Proofs.YtbeeplmgcdnadaaDoor
open Go Go.RowKit Wx
attribute [local irreducible] Wx.lsH Wx.rsH Wx.lsM Wx.rsM Wx.stars

theorem Tryd.info9 : (Tryd.prog.info? 9).map (fun i => (i.zero, i.size, i.bytes)) = some (some (.string ⟨#[]⟩), 1, 16) := by kernel_rfl
def nameB : List ByteArray := [⟨#[]⟩, ⟨#[112, 117, 115, 104]⟩, ⟨#[118, 97, 114]⟩, ⟨#[108, 111, 99, 97, 108]⟩, ⟨#[99, 101, 108, 108]⟩, ⟨#[115, 101, 116, 118, 97, 114]⟩, ⟨#[115, 101, 116, 108, 111, 99, 97, 108]⟩, ⟨#[115, 101, 116, 99, 101, 108, 108]⟩, ⟨#[110, 101, 103]⟩, ⟨#[110, 111, 116]⟩, ⟨#[101, 113]⟩, ⟨#[110, 101]⟩, ⟨#[108, 116]⟩, ⟨#[108, 101]⟩, ⟨#[97, 100, 100]⟩, ⟨#[115, 117, 98]⟩, ⟨#[109, 117, 108]⟩, ⟨#[100, 105, 118]⟩, ⟨#[109, 111, 100]⟩, ⟨#[106, 117, 109, 112]⟩, ⟨#[106, 117, 109, 112, 122]⟩, ⟨#[106, 117, 109, 112, 110, 122]⟩, ⟨#[98, 111, 111, 108]⟩, ⟨#[109, 97, 114, 107]⟩, ⟨#[108, 111, 99, 107]⟩, ⟨#[117, 110, 108, 111, 99, 107]⟩, ⟨#[119, 97, 105, 116]⟩, ⟨#[115, 105, 103, 110, 97, 108]⟩, ⟨#[97, 108, 108]⟩, ⟨#[115, 101, 110, 100]⟩, ⟨#[114, 101, 99, 118]⟩, ⟨#[115, 112, 97, 119, 110]⟩, ⟨#[106, 111, 105, 110]⟩, ⟨#[112, 114, 105, 110, 116]⟩, ⟨#[101, 110, 100]⟩]
theorem nameB_at : ∀ k : Fin 35, 1 ≤ k.val → ((nameB[k.val]'k.isLt).data.size ≠ 0) := by decide
theorem empty_beq (b : ByteArray) : (b.toList == (⟨#[]⟩ : ByteArray).toList) = decide (b.data.size = 0) := by
  have e : ∀ b : ByteArray, b.toList = b.data.toList := fun b => ByteArray.toList_eq b
  rw [e, e, Bool.eq_iff_iff, beq_iff_eq, decide_eq_true_iff]
  constructor
  · intro h; have := congrArg List.length h; simpa using this
  · intro h; exact List.eq_nil_of_length_eq_zero (by simpa using h)
section
variable {G : World} {q : List HP} {a b A : Option Addr} {c d C p p0 p1 p2 i : Nat} {lo hi n cd : Int} {fv : Value} {x : Ins} {t : Cod} {m : Mdl}
theorem rwithin_ok  : CallF Tryd.prog G 34 [.int .i64 n, .int .i64 lo, .int .i64 hi] (q) (Ret fun v q' => v = .bool (decide (within n lo hi)) ∧ q' = q) := by
 refine CallF.of Tryd.func34 Tryd.ntmps34 rfl (fun F cs => ?_)
 refine xo 10 ?_
 refine XO.sb [10, 6, 0, 2] ?_
 apply XO.cutAnd 4 14 10 rfl
 · skip
   intro g1 M1; have h1 := sp g1
   refine oo 4 ?_
   exact XO.fin M1 ⟨andT g1, subB⟩
 · skip
   intro g1 M1; have h1 := sp g1
   refine oo 4 ?_
   exact XO.fin M1 ⟨andF g1, subB⟩
 · skip
   refine ox 2 ?_
   refine X.retL (q) Tryd.func34 (res1 Tryd.results34 rfl) ⟨_, rfl, congrArg Value.bool (by rw [Bool.eq_iff_iff, decide_eq_true_iff]; unfold within; simp), rfl⟩
set_option maxHeartbeats 1000000 in
theorem Uses_ok  : CallF Tryd.prog G 75 [.int .i64 cd] (q) (Ret fun v q' => v = .tuple [.bool (nmA cd), .bool (cd == 26), .bool (cd == 1)].toArray ∧ q' = q) := by
 refine CallF.of Tryd.func75 Tryd.ntmps75 rfl (fun F cs => ?_)
 refine xo 11 ?_
 refine XO.sb [8, 4, 3, 2, 0] ?_
 apply XO.cutAnd 3 11 8 rfl
 · skip
   intro g1 M1; have h1 := sp g1
   refine oo 3 ?_
   exact XO.fin M1 ⟨andT g1, subB⟩
 · skip
   intro g1 M1; have h1 := sp g1
   refine oo 3 ?_
   exact XO.fin M1 ⟨andF g1, subB⟩
 · skip
   refine oo 1 ?_
   refine XO.sb [12, 4, 3, 2, 0] ?_
   apply XO.cutOr 7 19 12 rfl
   · skip
     intro g1 M1; have h1 := sp g1
     refine oo 3 ?_
     refine XO.sb [15, 12, 4, 3, 2, 0] ?_
     apply XO.cutAnd 3 18 15 rfl
     · skip
       intro g2 M2; have h2 := sp g2
       refine oo 3 ?_
       exact XO.fin M2 ⟨andT g2, subB⟩
     · skip
       intro g2 M2; have h2 := sp g2
       refine oo 3 ?_
       exact XO.fin M2 ⟨andF g2, subB⟩
     · skip
       refine oo 1 ?_
       exact XO.fin M1 ⟨orF g1, subB⟩
   · skip
     intro g1 M1; have h1 := sp g1
     refine oo 7 ?_
     exact XO.fin M1 ⟨orT g1, subB⟩
   · skip
     refine oo 1 ?_
     refine XO.sb [20, 4, 3, 2, 0] ?_
     apply XO.cutOr 7 27 20 rfl
     · skip
       intro g1 M1; have h1 := sp g1
       refine oo 3 ?_
       refine XO.sb [23, 20, 4, 3, 2, 0] ?_
       apply XO.cutAnd 3 26 23 rfl
       · skip
         intro g2 M2; have h2 := sp g2
         refine oo 3 ?_
         exact XO.fin M2 ⟨andT g2, subB⟩
       · skip
         intro g2 M2; have h2 := sp g2
         refine oo 3 ?_
         exact XO.fin M2 ⟨andF g2, subB⟩
       · skip
         refine oo 1 ?_
         exact XO.fin M1 ⟨orF g1, subB⟩
     · skip
       intro g1 M1; have h1 := sp g1
       refine oo 7 ?_
       exact XO.fin M1 ⟨orT g1, subB⟩
     · skip
       refine ox 13 ?_
       refine X.sb [4, 3, 2] ?_
       refine X.retL (q) Tryd.func75 (res3 Tryd.results75 rfl rfl rfl) ⟨_, rfl, (by have e : ∀ {x y : Bool}, (x = true ↔ y = true) → x = y := (fun {x y} h => Bool.eq_iff_iff.2 h); refine congrArg (fun z => Value.tuple [Value.bool z, _, _].toArray) (e ?_); unfold nmA; rw [decide_eq_true_iff]; simp; try omega), rfl⟩
set_option maxHeartbeats 1000000 in
theorem Name_ok  : CallF Tryd.prog G 76 [.int .i64 cd] (q) (Ret fun v q' => ∃ s : ByteArray, v = .string s ∧ (s.data.size = 0 ↔ ¬ (1 ≤ cd ∧ cd ≤ 34)) ∧ q' = q) := by
 refine CallF.of Tryd.func76 Tryd.ntmps76 rfl (fun F cs => ?_)
 refine xo 10 ?_
 refine XO.sb [5, 2, 0] ?_
 apply XO.cutOr 3 8 5 rfl
 · skip
   intro g1 M1; have h1 := sp g1
   refine oo 3 ?_
   exact XO.fin M1 ⟨orF g1, subB⟩
 · skip
   intro g1 M1; have h1 := sp g1
   refine oo 3 ?_
   exact XO.fin M1 ⟨orT g1, subB⟩
 · skip
   refine ox 1 ?_
   refine X.part 8 rfl (fun h1 => ?_) (fun h1 => ?_)
   · skip
     replace h1 := sp h1
     refine xx 5 ?_
     refine X.retL (q) Tryd.func76 (res1 Tryd.results76 rfl) ⟨_, rfl, _, rfl, ⟨fun _ k => by omega, fun _ => rfl⟩, rfl⟩
   · skip
     replace h1 := sp h1
     refine xo 4 ?_
     have hr : 1 ≤ cd ∧ cd ≤ 34 := (by omega)
     refine XO.ef (Ef.litL Value.string nameB Tryd.underlying145 Tryd.info9 rfl (by kernel_rfl) (by kernel_rfl) rfl rfl rfl (fun _ => rfl)) ?_
     rintro _ _ ⟨g1, rfl, rfl⟩
     have hs : Sees [lsH Value.string 9 (some ⟨g1, 0, none⟩) 35 nameB] (some ⟨g1, 0, none⟩) (nameB.map Value.string) := Sees.lsH []
     have hk : cd.toNat < nameB.length := (show cd.toNat < 35 by omega)
     refine oo 2 ?_
     refine ld ?_ (hc := (Cl.e1 (n := cd.toNat) hs leA hk (by omega)))
     refine ox 2 ?_
     refine X.retL (q) Tryd.func76 (res1 Tryd.results76 rfl) ⟨_, rfl, nameB[cd.toNat], rfl, ⟨fun k => absurd k (nameB_at ⟨cd.toNat, hk⟩ (by show 1 ≤ cd.toNat; omega)), fun k => absurd hr k⟩, rfl⟩
set_option maxHeartbeats 2000000 in
theorem Right_ok  : CallF Tryd.prog G 57 [.agg (insC x).toArray] (q) (Ret fun v q' => v = .bool (decide (insOk x)) ∧ q' = q) := by
 refine CallF.of Tryd.func57 Tryd.ntmps57 rfl (fun F cs => ?_)
 obtain ⟨xc, xa, xb, xn⟩ := x; simp only [insC]
 refine xo 2 ?_
 refine XO.bx fun n1 => ?_
 refine oo 5 ?_
 refine ld ?_
 refine XO.cR Tryd.call75 (Uses_ok) ?_
 refine oo 12 ?_
 refine ld ?_
 refine XO.cX Tryd.call76 (Le.refl _) (Name_ok) ?_
 rintro _ _ ⟨s, rfl, hn, rfl⟩
 have he := empty_beq s
 refine oo 1 ?_
 refine XO.know 16 (.bool (decide (s.data.size = 0))) rfl (by rw [he]) ?_
 refine oo 1 ?_
 refine XO.sb [17, 5, 4, 3, 2, 1] ?_
 apply XO.cutOr 8 25 17 rfl
 · skip
   intro g1 M1; have h1 := sp g1
   refine oo 1 ?_
   refine XO.pu (Pu.not rfl) ?_
   refine oo 1 ?_
   refine XO.sb [20, 17, 5, 4, 3, 2, 1] ?_
   apply XO.cutAnd 4 24 20 rfl
   · skip
     intro g2 M2; have h2 := sp g2
     refine oo 1 ?_
     refine ld ?_
     refine oo 2 ?_
     exact XO.fin M2 ⟨andT g2, subB⟩
   · skip
     intro g2 M2; have h2 := sp g2
     refine oo 4 ?_
     exact XO.fin M2 ⟨andF g2, subB⟩
   · skip
     refine oo 1 ?_
     exact XO.fin M1 ⟨orF g1, subB⟩
 · skip
   intro g1 M1; have h1 := sp g1
   refine oo 8 ?_
   exact XO.fin M1 ⟨orT g1, subB⟩
 · skip
   refine oo 1 ?_
   refine XO.sb [26, 5, 4, 2, 1] ?_
   apply XO.cutOr 8 34 26 rfl
   · skip
     intro g1 M1; have h1 := sp g1
     refine oo 1 ?_
     refine XO.pu (Pu.not rfl) ?_
     refine oo 1 ?_
     refine XO.sb [29, 26, 5, 4, 2, 1] ?_
     apply XO.cutAnd 4 33 29 rfl
     · skip
       intro g2 M2; have h2 := sp g2
       refine oo 1 ?_
       refine ld ?_
       refine oo 2 ?_
       exact XO.fin M2 ⟨andT g2, subB⟩
     · skip
       intro g2 M2; have h2 := sp g2
       refine oo 4 ?_
       exact XO.fin M2 ⟨andF g2, subB⟩
     · skip
       refine oo 1 ?_
       exact XO.fin M1 ⟨orF g1, subB⟩
   · skip
     intro g1 M1; have h1 := sp g1
     refine oo 8 ?_
     exact XO.fin M1 ⟨orT g1, subB⟩
   · skip
     refine oo 1 ?_
     refine XO.sb [35, 5, 2, 1] ?_
     apply XO.cutOr 8 43 35 rfl
     · skip
       intro g1 M1; have h1 := sp g1
       refine oo 1 ?_
       refine XO.pu (Pu.not rfl) ?_
       refine oo 1 ?_
       refine XO.sb [38, 35, 5, 2, 1] ?_
       apply XO.cutAnd 4 42 38 rfl
       · skip
         intro g2 M2; have h2 := sp g2
         refine oo 1 ?_
         refine ld ?_
         refine oo 2 ?_
         exact XO.fin M2 ⟨andT g2, subB⟩
       · skip
         intro g2 M2; have h2 := sp g2
         refine oo 4 ?_
         exact XO.fin M2 ⟨andF g2, subB⟩
       · skip
         refine oo 1 ?_
         exact XO.fin M1 ⟨orF g1, subB⟩
     · skip
       intro g1 M1; have h1 := sp g1
       refine oo 8 ?_
       exact XO.fin M1 ⟨orT g1, subB⟩
     · skip
       refine ox 1 ?_
       refine X.sb [43, 2, 1] ?_
       refine X.part 43 rfl (fun h1 => ?_) (fun h1 => ?_)
       · skip
         replace h1 := sp h1
         refine xx 5 ?_
         refine X.retL (q) Tryd.func57 (res1 Tryd.results57 rfl) ⟨_, rfl, congrArg Value.bool (by rw [Bool.eq_iff_iff]; simp only [decide_eq_true_eq, Bool.false_eq_true, insOk]; first | (simp_all; done) | (simp only [Bool.and_eq_true, decide_eq_true_eq]; simp only [within]; obtain ⟨⟨⟨h1a, h1b⟩, h1c⟩, h1d⟩ := h1; have hr := Classical.byContradiction (fun k => h1a (hn.2 k)); rcases h1b with e1 | e1 <;> rcases h1c with e2 | e2 <;> rcases h1d with e3 | e3 <;> (repeat' split) <;> first | omega | contradiction) | (by_cases e1 : nmA xc = true <;> by_cases e2 : xc = 26 <;> by_cases e3 : xc = 1 <;> simp_all [within] <;> omega)), rfl⟩
       · skip
         replace h1 := sp h1
         refine xo 5 ?_
         refine ld ?_
         refine XO.cR Tryd.call34 (rwithin_ok) ?_
         refine oo 1 ?_
         refine XO.sb [47, 2, 1] ?_
         apply XO.cutAnd 4 51 47 rfl
         · skip
           intro g2 M2; have h2 := sp g2
           refine oo 1 ?_
           refine ld ?_
           refine XO.cR Tryd.call34 (rwithin_ok) ?_
           refine oo 1 ?_
           exact XO.fin M2 ⟨andT g2, subB⟩
         · skip
           intro g2 M2; have h2 := sp g2
           refine oo 4 ?_
           exact XO.fin M2 ⟨andF g2, subB⟩
         · skip
           refine oo 1 ?_
           refine XO.sb [52, 2, 1] ?_
           apply XO.cutAnd 4 56 52 rfl
           · skip
             intro g2 M2; have h2 := sp g2
             refine oo 1 ?_
             refine ld ?_
             refine XO.cR Tryd.call34 (rwithin_ok) ?_
             refine oo 1 ?_
             exact XO.fin M2 ⟨andT g2, subB⟩
           · skip
             intro g2 M2; have h2 := sp g2
             refine oo 4 ?_
             exact XO.fin M2 ⟨andF g2, subB⟩
           · skip
             refine ox 2 ?_
             refine X.retL (q) Tryd.func57 (res1 Tryd.results57 rfl) ⟨_, rfl, congrArg Value.bool (by rw [Bool.eq_iff_iff]; simp only [decide_eq_true_eq, Bool.false_eq_true, insOk]; first | (simp_all; done) | (simp only [Bool.and_eq_true, decide_eq_true_eq]; simp only [within]; obtain ⟨⟨⟨h1a, h1b⟩, h1c⟩, h1d⟩ := h1; have hr := Classical.byContradiction (fun k => h1a (hn.2 k)); rcases h1b with e1 | e1 <;> rcases h1c with e2 | e2 <;> rcases h1d with e3 | e3 <;> (repeat' split) <;> first | omega | contradiction) | (by_cases e1 : nmA xc = true <;> by_cases e2 : xc = 26 <;> by_cases e3 : xc = 1 <;> simp_all [within] <;> omega)), rfl⟩
set_option maxHeartbeats 2000000 in
theorem rcode_ok (hq : CodQ q t) : CallF Tryd.prog G 35 [.agg (codC t).toArray] (q) (Ret fun v q' => v = .bool (decide (codOk t)) ∧ q' = q) := by
 refine CallF.of Tryd.func35 Tryd.ntmps35 rfl (fun F cs => ?_)
 have hn := hq.n; have hni := hq.ni; have hnl := hq.nl; have hs := hq.i; have hl := hq.l; have hleni := flatMap_len (f := insC) (sz := 4) (fun _ => rfl) t.ins; have hlenl : (t.lines.map I64).length = t.lines.length := (by simp)
 refine xo 2 ?_
 refine XO.bx fun n1 => ?_
 refine oo 6 ?_
 refine ld ?_
 refine oo 3 ?_
 refine XO.sb [8, 2, 1] ?_
 apply XO.cutOr 5 13 8 rfl
 · skip
   intro g1 M1; have h1 := sp g1
   refine oo 1 ?_
   refine ld ?_
   refine oo 3 ?_
   exact XO.fin M1 ⟨orF g1, subB⟩
 · skip
   intro g1 M1; have h1 := sp g1
   refine oo 5 ?_
   exact XO.fin M1 ⟨orT g1, subB⟩
 · skip
   refine oo 1 ?_
   refine XO.sb [14, 2, 1] ?_
   apply XO.cutOr 5 19 14 rfl
   · skip
     intro g1 M1; have h1 := sp g1
     refine oo 1 ?_
     refine ld ?_
     refine XO.cR Tryd.call34 (rwithin_ok) ?_
     refine XO.pu (Pu.not rfl) ?_
     refine oo 1 ?_
     exact XO.fin M1 ⟨orF g1, subB⟩
   · skip
     intro g1 M1; have h1 := sp g1
     refine oo 5 ?_
     exact XO.fin M1 ⟨orT g1, subB⟩
   · skip
     refine oo 1 ?_
     refine XO.sb [20, 2, 1] ?_
     apply XO.cutOr 5 25 20 rfl
     · skip
       intro g1 M1; have h1 := sp g1
       refine oo 1 ?_
       refine ld ?_
       refine oo 3 ?_
       exact XO.fin M1 ⟨orF g1, subB⟩
     · skip
       intro g1 M1; have h1 := sp g1
       refine oo 5 ?_
       exact XO.fin M1 ⟨orT g1, subB⟩
     · skip
       refine oo 1 ?_
       refine XO.sb [26, 2, 1] ?_
       apply XO.cutOr 8 34 26 rfl
       · skip
         intro g1 M1; have h1 := sp g1
         refine oo 1 ?_
         refine ld ?_
         refine oo 2 ?_
         refine ld ?_
         refine oo 3 ?_
         exact XO.fin M1 ⟨orF g1, subB⟩
       · skip
         intro g1 M1; have h1 := sp g1
         refine oo 8 ?_
         exact XO.fin M1 ⟨orT g1, subB⟩
       · skip
         refine ox 1 ?_
         refine X.part 34 rfl (fun h1 => ?_) (fun h1 => ?_)
         · skip
           replace h1 := sp h1
           refine xx 5 ?_
           refine X.retL (q) Tryd.func35 (res1 Tryd.results35 rfl) ⟨_, rfl, congrArg Value.bool (by symm; rw [decide_eq_false_iff_not]; rintro ⟨⟨k1, k2⟩, ⟨k3, k4⟩, k5, ⟨k6, k7⟩, k8, k9⟩; simp only [within] at *; omega), rfl⟩
         · skip
           replace h1 := sp h1
           refine xx 8 ?_
           refine X.at (X.loop (fun (s : Nat) => s ≤ t.ins.length ∧ (∀ i (h : i < t.ins.length), i < s → insOk t.ins[i]) ∧ (∀ i (h : i < t.lines.length), i < s → within t.lines[i] 0 65536)) (fun s => [(3, .int .i64 (s : Int)), (1, .pointer (some ⟨n1, 0, none⟩))]) (fun s => pto n1 (.cells (codC t).toArray 35 (0, 0)) :: (q ++ F)) (fun s => t.ins.length - s) (fun s hi_ ih => ?_) 0 ⟨by omega, fun i _ k => by omega, fun i _ k => by omega⟩) subA leA
           try dsimp only at hi_ ih ⊢
           obtain ⟨hi1, hi2, hi3⟩ := hi_
           refine xo 5 ?_
           refine ld ?_
           refine ox 3 ?_
           refine X.part 39 rfl (fun h0 => ?_) (fun h0 => ?_)
           · skip
             replace h0 := sp h0; have hi0 : s < t.ins.length := (by omega)
             refine xo 7 ?_
             refine ld ?_
             refine XO.adr hs (by rw [hleni]; omega) (fun b1 o1 eI => ?_)
             have hsA := hs; rw [eI] at hsA
             refine XO.know 43 (.slice (some ⟨b1, o1, none⟩) t.ins.length t.ic) rfl (by rw [eI]) ?_
             refine oo 2 ?_
             refine XO.ldS (n := s) Tryd.isAgg53 Tryd.sizeOf53 hsA hi0 ?_
             refine XO.cR Tryd.call57 (Right_ok (x := t.ins[s])) ?_
             refine XO.pu (Pu.not rfl) ?_
             refine oo 1 ?_
             refine XO.sb [49, 3, 1] ?_
             apply XO.cutOr 8 57 49 rfl
             · skip
               intro g2 M2; have h2 := sp g2
               refine oo 1 ?_
               refine ld ?_
               refine XO.adr hl (by rw [hlenl]; omega) (fun b2 o2 eL => ?_)
               have hlA := hl; rw [eL] at hlA
               refine XO.know 51 (.slice (some ⟨b2, o2, none⟩) t.lines.length t.lc) rfl (by rw [eL]) ?_
               refine oo 2 ?_
               refine ld ?_ (hc := (Cl.e1 (g := I64) (n := s) hlA leA (by omega) rfl))
               refine XO.cR Tryd.call34 (rwithin_ok) ?_
               refine XO.pu (Pu.not rfl) ?_
               refine oo 1 ?_
               exact XO.fin M2 ⟨orF g2, subB⟩
             · skip
               intro g2 M2; have h2 := sp g2
               refine oo 8 ?_
               exact XO.fin M2 ⟨orT g2, subB⟩
             · skip
               refine ox 1 ?_
               refine X.part 57 rfl (fun h2 => ?_) (fun h2 => ?_)
               · skip
                 replace h2 := sp h2
                 refine xx 5 ?_
                 refine X.sb [2, 3, 1] ?_
                 refine X.retL (q) Tryd.func35 (res1 Tryd.results35 rfl) ⟨_, rfl, congrArg Value.bool (by symm; rw [decide_eq_false_iff_not]; rintro ⟨⟨k1, k2⟩, ⟨k3, k4⟩, k5, ⟨k6, k7⟩, k8, k9⟩; rcases h2 with h | h; exact h (k7 _ (List.getElem_mem _)); exact h (k9 _ (List.getElem_mem _))), rfl⟩
               · skip
                 replace h2 := sp h2
                 refine xx 8 ?_
                 refine X.sb [3, 1] ?_
                 refine X.at (ih (s + 1) ⟨by omega, fun i hh k => by rcases Nat.lt_or_ge i s with e | e; exact hi2 i hh e; obtain rfl : i = s := (by omega); exact h2.1, fun i hh k => by rcases Nat.lt_or_ge i s with e | e; exact hi3 i hh e; obtain rfl : i = s := (by omega); exact h2.2⟩ (by omega)) subA leA
           · skip
             replace h0 := sp h0
             refine xx 6 ?_
             have hll : t.ins.length = t.lines.length := by omega
             refine X.retL (q) Tryd.func35 (res1 Tryd.results35 rfl) ⟨_, rfl, congrArg Value.bool (by symm; rw [decide_eq_true_iff]; simp only [within] at h1; exact ⟨⟨by omega, by omega⟩, ⟨by omega, by omega⟩, by omega, ⟨by omega, fun i hm => by obtain ⟨k, hk, rfl⟩ := List.getElem_of_mem hm; exact hi2 k hk (by omega)⟩, by omega, fun i hm => by obtain ⟨k, hk, rfl⟩ := List.getElem_of_mem hm; exact hi3 k hk (by omega)⟩), rfl⟩
set_option maxHeartbeats 4000000 in
theorem RCheck_ok (hq : MdlQ q m) : CallF Tryd.prog G 23 [.agg (mdlC m).toArray] (q) (Ret fun v q' => v = .int .i64 (mchk m) ∧ q' = q) := by
 refine CallF.of Tryd.func23 Tryd.ntmps23 rfl (fun F cs => ?_)
 have hnv := hq.nv; have hna := hq.na; have hnc := hq.nc; have hnt := hq.nt; have hv := hq.v; have ha := hq.a; have hc := hq.c; have ht := hq.t
 have hlv : (m.vars.map I64).length = m.vars.length := (by simp); have hla : (m.arrays.map I64).length = m.arrays.length := (by simp); have hlc : (m.chans.map I64).length = m.chans.length := (by simp); have hlt := flatMap_len (f := codC) (sz := 4) (fun _ => rfl) m.threads
 refine xo 2 ?_
 refine XO.bx fun n1 => ?_
 refine oo 6 ?_
 refine ld ?_
 refine oo 3 ?_
 refine XO.sb [11, 2, 1] ?_
 apply XO.cutOr 5 16 11 rfl
 · skip
   intro g1 M1; have h1 := sp g1
   refine oo 1 ?_
   refine ld ?_
   refine oo 3 ?_
   exact XO.fin M1 ⟨orF g1, subB⟩
 · skip
   intro g1 M1; have h1 := sp g1
   refine oo 5 ?_
   exact XO.fin M1 ⟨orT g1, subB⟩
 · skip
   refine oo 1 ?_
   refine XO.sb [17, 2, 1] ?_
   apply XO.cutOr 5 22 17 rfl
   · skip
     intro g1 M1; have h1 := sp g1
     refine oo 1 ?_
     refine ld ?_
     refine oo 3 ?_
     exact XO.fin M1 ⟨orF g1, subB⟩
   · skip
     intro g1 M1; have h1 := sp g1
     refine oo 5 ?_
     exact XO.fin M1 ⟨orT g1, subB⟩
   · skip
     refine oo 1 ?_
     refine XO.sb [23, 2, 1] ?_
     apply XO.cutOr 5 28 23 rfl
     · skip
       intro g1 M1; have h1 := sp g1
       refine oo 1 ?_
       refine ld ?_
       refine oo 3 ?_
       exact XO.fin M1 ⟨orF g1, subB⟩
     · skip
       intro g1 M1; have h1 := sp g1
       refine oo 5 ?_
       exact XO.fin M1 ⟨orT g1, subB⟩
     · skip
       refine oo 1 ?_
       refine XO.sb [29, 2, 1] ?_
       apply XO.cutOr 5 34 29 rfl
       · skip
         intro g1 M1; have h1 := sp g1
         refine oo 1 ?_
         refine ld ?_
         refine XO.cR Tryd.call34 (rwithin_ok) ?_
         refine XO.pu (Pu.not rfl) ?_
         refine oo 1 ?_
         exact XO.fin M1 ⟨orF g1, subB⟩
       · skip
         intro g1 M1; have h1 := sp g1
         refine oo 5 ?_
         exact XO.fin M1 ⟨orT g1, subB⟩
       · skip
         refine oo 1 ?_
         refine XO.sb [35, 2, 1] ?_
         apply XO.cutOr 5 40 35 rfl
         · skip
           intro g1 M1; have h1 := sp g1
           refine oo 1 ?_
           refine ld ?_
           refine XO.cR Tryd.call34 (rwithin_ok) ?_
           refine XO.pu (Pu.not rfl) ?_
           refine oo 1 ?_
           exact XO.fin M1 ⟨orF g1, subB⟩
         · skip
           intro g1 M1; have h1 := sp g1
           refine oo 5 ?_
           exact XO.fin M1 ⟨orT g1, subB⟩
         · skip
           refine ox 1 ?_
           refine X.part 40 rfl (fun h1 => ?_) (fun h1 => ?_)
           · skip
             replace h1 := sp h1
             refine xx 5 ?_
             refine X.retL (q) Tryd.func23 (res1 Tryd.results23 rfl) ⟨_, rfl, congrArg (Value.int _) (by symm; unfold mchk; rw [if_neg]; rintro ⟨⟨k1, k2⟩, ⟨k3, k4⟩, ⟨k5, k6⟩, ⟨k7, k8⟩, ⟨k9, k10⟩, k11, k12⟩; simp only [within] at h1; omega), rfl⟩
           · skip
             replace h1 := sp h1
             refine xx 8 ?_
             refine X.at (X.loop (fun (s : Nat) => s ≤ m.vars.length ∧ ∀ i (h : i < m.vars.length), i < s → within m.vars[i] (-2147483648) 2147483647) (fun s => [(3, .int .i64 (s : Int)), (1, .pointer (some ⟨n1, 0, none⟩))]) (fun s => pto n1 (.cells (mdlC m).toArray 26 (0, 0)) :: (q ++ F)) (fun s => m.vars.length - s) (fun s hi_ ih0 => ?_) 0 ⟨by omega, fun i _ k => by omega⟩) subA leA
             try dsimp only at hi_ ih0 ⊢
             obtain ⟨hi1, hi2⟩ := hi_
             refine xo 5 ?_
             refine ld ?_
             refine ox 3 ?_
             refine X.part 45 rfl (fun h0 => ?_) (fun h0 => ?_)
             · skip
               replace h0 := sp h0; have hi0 : s < m.vars.length := (by omega)
               refine xo 7 ?_
               refine ld ?_
               refine XO.adr hv (by rw [hlv]; omega) (fun b1 o1 eI => ?_)
               have hsA := hv; rw [eI] at hsA
               refine XO.know 49 (.slice (some ⟨b1, o1, none⟩) m.vars.length m.vc) rfl (by rw [eI]) ?_
               refine oo 2 ?_
               refine ld ?_ (hc := (Cl.e1 (g := I64) (n := s) hsA leA hi0 rfl))
               refine XO.cR Tryd.call34 (rwithin_ok) ?_
               refine XO.pu (Pu.not rfl) ?_
               refine ox 1 ?_
               refine X.part 54 rfl (fun h2 => ?_) (fun h2 => ?_)
               · skip
                 replace h2 := sp h2
                 refine xx 5 ?_
                 refine X.retL (q) Tryd.func23 (res1 Tryd.results23 rfl) ⟨_, rfl, congrArg (Value.int _) (by symm; unfold mchk; rw [if_neg]; rintro ⟨⟨k1, k2⟩, ⟨k3, k4⟩, ⟨k5, k6⟩, ⟨k7, k8⟩, ⟨k9, k10⟩, k11, k12⟩; exact h2 (k6 _ (List.getElem_mem _))), rfl⟩
               · skip
                 replace h2 := sp h2
                 refine xx 8 ?_
                 refine X.sb [3, 1] ?_
                 refine X.at (ih0 (s + 1) ⟨by omega, fun i hh k => by rcases Nat.lt_or_ge i s with e | e; exact hi2 i hh e; obtain rfl : i = s := (by omega); exact h2⟩ (by omega)) subA leA
             · skip
               replace h0 := sp h0
               have H0 : ∀ z ∈ m.vars, within z (-2147483648) 2147483647 := fun z hm => by obtain ⟨k, hk, rfl⟩ := List.getElem_of_mem hm; exact hi2 k hk (by omega)
               refine xx 8 ?_
               refine X.at (X.loop (fun (s : Nat) => s ≤ m.arrays.length ∧ ∀ i (h : i < m.arrays.length), i < s → within m.arrays[i] 0 256) (fun s => [(4, .int .i64 (s : Int)), (1, .pointer (some ⟨n1, 0, none⟩))]) (fun s => pto n1 (.cells (mdlC m).toArray 26 (0, 0)) :: (q ++ F)) (fun s => m.arrays.length - s) (fun s hi_ ih1 => ?_) 0 ⟨by omega, fun i _ k => by omega⟩) subA leA
               try dsimp only at hi_ ih1 ⊢
               obtain ⟨hi1, hi2⟩ := hi_
               refine xo 5 ?_
               refine ld ?_
               refine ox 3 ?_
               refine X.part 59 rfl (fun h0 => ?_) (fun h0 => ?_)
               · skip
                 replace h0 := sp h0; have hi0 : s < m.arrays.length := (by omega)
                 refine xo 7 ?_
                 refine ld ?_
                 refine XO.adr ha (by rw [hla]; omega) (fun b1 o1 eI => ?_)
                 have hsA := ha; rw [eI] at hsA
                 refine XO.know 63 (.slice (some ⟨b1, o1, none⟩) m.arrays.length m.ac) rfl (by rw [eI]) ?_
                 refine oo 2 ?_
                 refine ld ?_ (hc := (Cl.e1 (g := I64) (n := s) hsA leA hi0 rfl))
                 refine XO.cR Tryd.call34 (rwithin_ok) ?_
                 refine XO.pu (Pu.not rfl) ?_
                 refine ox 1 ?_
                 refine X.part 68 rfl (fun h2 => ?_) (fun h2 => ?_)
                 · skip
                   replace h2 := sp h2
                   refine xx 5 ?_
                   refine X.retL (q) Tryd.func23 (res1 Tryd.results23 rfl) ⟨_, rfl, congrArg (Value.int _) (by symm; unfold mchk; rw [if_neg]; rintro ⟨⟨k1, k2⟩, ⟨k3, k4⟩, ⟨k5, k6⟩, ⟨k7, k8⟩, ⟨k9, k10⟩, k11, k12⟩; exact h2 (k8 _ (List.getElem_mem _))), rfl⟩
                 · skip
                   replace h2 := sp h2
                   refine xx 8 ?_
                   refine X.sb [4, 1] ?_
                   refine X.at (ih1 (s + 1) ⟨by omega, fun i hh k => by rcases Nat.lt_or_ge i s with e | e; exact hi2 i hh e; obtain rfl : i = s := (by omega); exact h2⟩ (by omega)) subA leA
               · skip
                 replace h0 := sp h0
                 have H1 : ∀ z ∈ m.arrays, within z 0 256 := fun z hm => by obtain ⟨k, hk, rfl⟩ := List.getElem_of_mem hm; exact hi2 k hk (by omega)
                 refine xx 8 ?_
                 refine X.at (X.loop (fun (s : Nat) => s ≤ m.chans.length ∧ ∀ i (h : i < m.chans.length), i < s → within m.chans[i] 1 16) (fun s => [(5, .int .i64 (s : Int)), (1, .pointer (some ⟨n1, 0, none⟩))]) (fun s => pto n1 (.cells (mdlC m).toArray 26 (0, 0)) :: (q ++ F)) (fun s => m.chans.length - s) (fun s hi_ ih2 => ?_) 0 ⟨by omega, fun i _ k => by omega⟩) subA leA
                 try dsimp only at hi_ ih2 ⊢
                 obtain ⟨hi1, hi2⟩ := hi_
                 refine xo 5 ?_
                 refine ld ?_
                 refine ox 3 ?_
                 refine X.part 73 rfl (fun h0 => ?_) (fun h0 => ?_)
                 · skip
                   replace h0 := sp h0; have hi0 : s < m.chans.length := (by omega)
                   refine xo 7 ?_
                   refine ld ?_
                   refine XO.adr hc (by rw [hlc]; omega) (fun b1 o1 eI => ?_)
                   have hsA := hc; rw [eI] at hsA
                   refine XO.know 77 (.slice (some ⟨b1, o1, none⟩) m.chans.length m.cc) rfl (by rw [eI]) ?_
                   refine oo 2 ?_
                   refine ld ?_ (hc := (Cl.e1 (g := I64) (n := s) hsA leA hi0 rfl))
                   refine XO.cR Tryd.call34 (rwithin_ok) ?_
                   refine XO.pu (Pu.not rfl) ?_
                   refine ox 1 ?_
                   refine X.part 82 rfl (fun h2 => ?_) (fun h2 => ?_)
                   · skip
                     replace h2 := sp h2
                     refine xx 5 ?_
                     refine X.retL (q) Tryd.func23 (res1 Tryd.results23 rfl) ⟨_, rfl, congrArg (Value.int _) (by symm; unfold mchk; rw [if_neg]; rintro ⟨⟨k1, k2⟩, ⟨k3, k4⟩, ⟨k5, k6⟩, ⟨k7, k8⟩, ⟨k9, k10⟩, k11, k12⟩; exact h2 (k10 _ (List.getElem_mem _))), rfl⟩
                   · skip
                     replace h2 := sp h2
                     refine xx 8 ?_
                     refine X.sb [5, 1] ?_
                     refine X.at (ih2 (s + 1) ⟨by omega, fun i hh k => by rcases Nat.lt_or_ge i s with e | e; exact hi2 i hh e; obtain rfl : i = s := (by omega); exact h2⟩ (by omega)) subA leA
                 · skip
                   replace h0 := sp h0
                   have H2 : ∀ z ∈ m.chans, within z 1 16 := fun z hm => by obtain ⟨k, hk, rfl⟩ := List.getElem_of_mem hm; exact hi2 k hk (by omega)
                   refine xx 8 ?_
                   refine X.at (X.loop (fun (s : Nat) => s ≤ m.threads.length ∧ ∀ i (h : i < m.threads.length), i < s → codOk m.threads[i]) (fun s => [(6, .int .i64 (s : Int)), (1, .pointer (some ⟨n1, 0, none⟩))]) (fun s => pto n1 (.cells (mdlC m).toArray 26 (0, 0)) :: (q ++ F)) (fun s => m.threads.length - s) (fun s hi_ ih3 => ?_) 0 ⟨by omega, fun i _ k => by omega⟩) subA leA
                   try dsimp only at hi_ ih3 ⊢
                   obtain ⟨hi1, hi2⟩ := hi_
                   refine xo 5 ?_
                   refine ld ?_
                   refine ox 3 ?_
                   refine X.part 87 rfl (fun h0 => ?_) (fun h0 => ?_)
                   · skip
                     replace h0 := sp h0; have hi0 : s < m.threads.length := (by omega)
                     refine xo 7 ?_
                     refine ld ?_
                     refine XO.adr ht (by rw [hlt]; omega) (fun b1 o1 eI => ?_)
                     have hsA := ht; rw [eI] at hsA
                     refine XO.know 91 (.slice (some ⟨b1, o1, none⟩) m.threads.length m.tc) rfl (by rw [eI]) ?_
                     refine oo 2 ?_
                     refine XO.ldS (n := s) Tryd.isAgg35 Tryd.sizeOf35 hsA hi0 ?_
                     refine XO.cR Tryd.call35 (rcode_ok ((hq.x _ (List.getElem_mem hi0)).le leA)) ?_
                     refine XO.pu (Pu.not rfl) ?_
                     refine ox 1 ?_
                     refine X.part 96 rfl (fun h2 => ?_) (fun h2 => ?_)
                     · skip
                       replace h2 := sp h2
                       refine xx 5 ?_
                       refine X.retL (q) Tryd.func23 (res1 Tryd.results23 rfl) ⟨_, rfl, congrArg (Value.int _) (by symm; unfold mchk; rw [if_neg]; rintro ⟨⟨k1, k2⟩, ⟨k3, k4⟩, ⟨k5, k6⟩, ⟨k7, k8⟩, ⟨k9, k10⟩, k11, k12⟩; exact h2 (k12 _ (List.getElem_mem _))), rfl⟩
                     · skip
                       replace h2 := sp h2
                       refine xx 8 ?_
                       refine X.sb [6, 1] ?_
                       refine X.at (ih3 (s + 1) ⟨by omega, fun i hh k => by rcases Nat.lt_or_ge i s with e | e; exact hi2 i hh e; obtain rfl : i = s := (by omega); exact h2⟩ (by omega)) subA leA
                   · skip
                     replace h0 := sp h0
                     have H3 : ∀ z ∈ m.threads, codOk z := fun z hm => by obtain ⟨k, hk, rfl⟩ := List.getElem_of_mem hm; exact hi2 k hk (by omega)
                     refine xx 6 ?_
                     refine X.retL (q) Tryd.func23 (res1 Tryd.results23 rfl) ⟨_, rfl, congrArg (Value.int _) (by symm; unfold mchk; rw [if_pos]; simp only [within] at h1; exact ⟨⟨by omega, by omega⟩, ⟨by omega, by omega⟩, ⟨by omega, H0⟩, ⟨by omega, H1⟩, ⟨by omega, H2⟩, by omega, H3⟩), rfl⟩
end
end Go.Proofs.YtbeeplmgcdnadaaDoor

