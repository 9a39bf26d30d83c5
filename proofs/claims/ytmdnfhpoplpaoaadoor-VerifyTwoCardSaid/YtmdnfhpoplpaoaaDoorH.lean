/- What functions of package verify, of its references and of its laws do: contracts of calls, proved by walking their code. -/
import Derived.Test.YtmdnfhpoplpaoaaDoorG
import Derived.Test.YtmdnfhpoplpaoaaDoorWc
import Derived.KernelRfl
set_option maxRecDepth 100000
set_option linter.unusedVariables false
set_option linter.unusedSimpArgs false
namespace Go.Proofs.YtmdnfhpoplpaoaaDoor
open Go Go.RowKit Wx
attribute [local irreducible] Wx.lsH Wx.rsH Wx.lsM Wx.rsM Wx.stars

section
variable {G : World} {q pre : List HP} {a b A : Option Addr} {c d C p p0 p1 p2 i : Nat} {lo hi n cd dep : Int} {fv : Value} {x y : Ins} {t : Cod} {m : Mdl} {at_ : Int}
abbrev bxI (n : Nat) (l : List Int) : HP := bxH I64 23 3 n l
theorem AppendSeq_ok {l : List Int} (hI : Iter Tryd.prog G fv (l.map ivs) pre) (hl : l.length ≤ 1000000) : CallF Tryd.prog G 43 [.slice none 0 0, fv] (pre) (Ret fun v q' => ∃ a' c', v = .slice a' l.length c' ∧ q' = [lsH I64 3 a' c' (l)] ++ pre) := by
  refine CallF.of Tryd.func43 Tryd.ntmps43 rfl (fun F cs => ?_)
  refine xo 2 ?_
  refine XO.ef (Ef.box rfl) ?_
  rintro _ _ ⟨n1, rfl, rfl⟩
  refine ox 8 ?_
  refine X.range pre (fun k => [bxI n1 (l.take k)]) (fun _ _ => False) (F := F) hI rfl ?_ (by intro x hx; obtain ⟨y, _, rfl⟩ := List.mem_map.1 hx; rfl) rfl (by rw [Tryd.func43]; rfl) rfl (fun i hi l2 rec F0 cs0 => ?_) (fun r => ?_) (fun _ _ _ hJ => hJ.elim)
  · refine Le.bx (a := none) (c := 0) ?_
    refine Le.pick fndA ?_; exact Le.lsH_nil _ _ _
  · skip
    have hi' : i < l.length := by simpa using hi
    rw [List.getElem_map]
    simp only [zipP, ivs]
    refine X.sb [7, 6, 4, 2] ?_
    simp only [ca, na]
    refine X.le (q' := bxI n1 (l.take i) :: _) fndA (X.bx (fun a0 c0 => ?_))
    refine xx 3 ?_
    refine X.beginRound rfl leA ?_
    refine xo 2 ?_
    refine XO.ld Tryd.isAgg23 ?_
    refine oo 1 ?_
    refine XO.ef (Ef.litL I64 [l[i]] Tryd.underlying23 Tryd.info3 rfl rfl rfl rfl rfl rfl (fun _ => rfl)) ?_
    rintro _ _ ⟨g1, rfl, rfl⟩
    refine XO.ef (Ef.appA (l := l.take i) (m := [l[i]]) Tryd.underlying23 Tryd.info3 rfl rfl rfl fndA ((Sees.lsH _).le fndA) (fun _ => rfl) (by simp; omega) (by simp; omega)) ?_
    rintro _ _ ⟨a1, c1, rfl, rfl⟩
    refine XO.ef0 (Ef.st Tryd.sizeOf23) ?_
    rintro _ _ ⟨rfl, rfl⟩
    refine ox 2 ?_
    refine X.fall ⟨rfl, rfl, ?_⟩
    simp only [ca, na]
    have hT : l.take (i + 1) = l.take i ++ [l[i]] := (List.take_append_getElem hi').symm
    refine Le.pick fndA ?_
    refine Le.bx (a := a1) (c := c1) ?_
    rw [hT]; exact leA
  · skip
    rw [List.length_map, List.take_length]
    simp only [ca, na]
    refine X.le (q' := bxI n1 l :: _) fndA (X.bx (fun a0 c0 => ?_))
    refine xo 3 ?_
    refine XO.ld Tryd.isAgg23 ?_
    refine ox 2 ?_
    refine X.ret ⟨rfl, Lv.marks ?_⟩
    exact Lv.ret (q' := lsH I64 3 a0 c0 (l) :: pre) Tryd.func43 (res1 Tryd.results43 rfl) ⟨_, rfl, a0, c0, rfl, rfl⟩ leA
theorem Collect_ok {l : List Int} (hI : Iter Tryd.prog G fv (l.map ivs) pre) (hl : l.length ≤ 1000000) : CallF Tryd.prog G 29 [fv] (pre) (Ret fun v q' => ∃ a' c', v = .slice a' l.length c' ∧ q' = [lsH I64 3 a' c' (l)] ++ pre) := by
  refine CallF.of Tryd.func29 Tryd.ntmps29 rfl (fun F cs => ?_)
  refine xo 7 ?_
  refine XO.cF Tryd.call43 (AppendSeq_ok hI hl) ?_
  rintro _ _ ⟨a1, c1, rfl, rfl⟩ _ e_; simp only [ca, na] at e_; subst e_
  refine ox 2 ?_
  refine X.retL (lsH I64 3 a1 c1 (l) :: pre) Tryd.func29 (res1 Tryd.results29 rfl) ⟨_, rfl, a1, c1, rfl, rfl⟩
end
end Go.Proofs.YtmdnfhpoplpaoaaDoor

