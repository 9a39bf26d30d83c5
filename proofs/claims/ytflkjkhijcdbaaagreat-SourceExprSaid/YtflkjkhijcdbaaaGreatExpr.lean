/- The law SourceExpr holds: for every input it returns true and leaves its arguments as they were. No condition. -/
import Derived.Test.YtflkjkhijcdbaaaGreatKp
import Derived.Test.YtflkjkhijcdbaaaGreatKq
import Derived.WalkKit
import Derived.ProofKit
import Derived.OpenShut
import Derived.Below
import Derived.ShutString
import Derived.ChangeOld
namespace Go.Proofs.YtflkjkhijcdbaaaGreat.sourceExpr
open Wx Go.ChangeShapes Go.WideShapes Go.ChangeAt Go.RowKit
open Go.ChangeMaps (open_string shut_string)
set_option linter.unusedVariables false
theorem own:ownKnob Tryz.prog.godebug=none:=by kernel_rfl
theorem laidOut:laidOutB Tryz.prog=true:=by kernel_rfl
theorem walk (a0:ByteArray)(x1:Four)(w:World)(w0:a0.size<=maxLen)(w1:x1.ok .i32):
  Calls Tryz.prog 9 #[.string a0,x1.v .i32] w fun e w'=>e= .returned bT /\ Below w.heap.size w w':=by
 exact (Cf (q:= [old w]) (s:=a0) (Do w1.1).1 (Do w1.1).2 (Do w1.2.1).1 (Do w1.2.1).2 (Do w1.2.2.1).1 (Do w1.2.2.1).2 (Do w1.2.2.2).1 (Do w1.2.2.2).2).law (fun v q' h=>h.1) (St.old w)
set_option maxRecDepth 100000 in
theorem lifted (os:Os)(started:os.Started)(H:Type)(enc:TypeId×Value ->H):
  ReturnsInHanded {} Tryz.checked os 9 .any (Rows.sourceExprSpec.pre6 enc Tryz.prog Tryz.f9 Rows.sourceExprRow.domain false) (Rows.sourceExprSpec.post enc Tryz.prog Tryz.f9 false true false false):=by
 refine returnsInHanded_of_change (C:=Tryz.checked) own started (by kernel_rfl) Tryz.func9
  (ChangeSpec.witness6 (enc:=enc) (C:=Tryz.checked) false ⟨#[],#[.string ⟨#[]⟩,.agg #[.int .i32 0,.int .i32 0,.int .i32 0,.int .i32 0]], []⟩ 8 (by kernel_rfl) (by kernel_rfl) (by kernel_rfl) (by kernel_rfl)) ?_
 intro W base args ds gs before hval0 hW hcnd _
 have hval: ∀ (j:Nat) t v,Tryz.f9.params[j]? =some t ->args[j]? =some v ->Value.okWide Tryz.prog W .any base t v:=hval0
 have hW':=hW
 obtain ⟨p,q,hA0,hV,rfl,hfz,hnd⟩:=hW
 have hA:DataW.TrodAll enc Tryz.prog W 0 (fun _=>true) true Tryz.f9.params.toList args.toList ds p:=hA0
 rw [Tryz.params9] at hA hval
 obtain ⟨v0,vs0,d0,ds0,p0,q0,hargs,rfl,rfl,h0,r0⟩:=trodAll_cons hA
 obtain ⟨v1,vs1,d1,ds1,p1,q1,rfl,rfl,rfl,h1,r1⟩:=trodAll_cons r0
 obtain ⟨rfl,rfl,rfl⟩:=trodAll_nil r1
 obtain rfl:args= #[v0,v1]:=by cases args;simp_all
 obtain ⟨rfl,rfl⟩:=trodVars_none hV
 obtain ⟨a0,rfl,rfl,rfl,w0⟩:=open_string Tryz.underlying9 (hval 0 9 v0 rfl rfl) h0
 have k1:=h1
 have lt1: ∀ x∈p1,x.block<W.heap.size:=by obtain ⟨m,hm⟩:=k1;exact DataW.trod_lt m _ _ _ hm
 obtain ⟨x1,rfl,w1⟩:=Zkm Tryz.underlying85 Tryz.underlying21 (by kernel_rfl) (by kernel_rfl) (hval 1 85 v1 rfl rfl) h1
 clear hA0 hval0
 refine (walk a0 x1 W w0 w1).mono fun e W' ⟨he,bel⟩=> ?_
 subst he
 exact ⟨_,rfl,_,_,_, [],_, [],hW',trodAll_mk1 (shut_bool Tryz.underlying4 _),(trodAll_cons_mk (shut_string Tryz.underlying9 w0) (trodAll_cons_mk (Below.trod laidOut (by kernel_rfl) (cN (by kernel_rfl)) k1 bel lt1) trodAll_mk0)),rfl,bel.frame _,fun h=>by cases h⟩
theorem over:Rows.sourceExprRow.holds Tryz.pinned (OpenSpec.ofChange Rows.sourceExprSpec):=
 OpenClaim.holds_of_wide 9 Tryz.f9 rfl rfl rfl rfl rfl rfl rfl ⟨rfl,rfl,rfl,rfl,rfl⟩ rfl rfl rfl rfl rfl (by kernel_rfl) Tryz.func9 (by kernel_rfl)
  (cN (by kernel_rfl)) (by unfold Func.isWrapper;first|(rw [if_pos (by decide+kernel)];kernel_rfl)|(rw [if_neg (by decide+kernel)];exact ⟨rfl,rfl⟩))
  (fun os started H enc _=>lifted os started H enc)
theorem proved:Rows.SourceExprSaid:=over
#print axioms proved
end Go.Proofs.YtflkjkhijcdbaaaGreat.sourceExpr
