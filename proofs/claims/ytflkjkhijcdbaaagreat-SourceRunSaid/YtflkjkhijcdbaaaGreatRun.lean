/- The law SourceRun holds: for every input it returns true and leaves its arguments as they were. No condition. -/
import Derived.Test.YtflkjkhijcdbaaaGreatKl
import Derived.WalkKit
import Derived.ProofKit
import Derived.OpenShut
import Derived.Below
import Derived.ShutString
import Derived.ChangeOld
namespace Go.Proofs.YtflkjkhijcdbaaaGreat.sourceRun
open Wx Go.ChangeShapes Go.WideShapes Go.ChangeAt Go.RowKit
open Go.ChangeMaps (open_string shut_string)
set_option linter.unusedVariables false
theorem own:ownKnob Tryz.prog.godebug=none:=by kernel_rfl
theorem laidOut:laidOutB Tryz.prog=true:=by kernel_rfl
theorem walk (a0:ByteArray)(x1:SlV (Sh.T (Sh.int .i64)))(w:World)(w0:a0.size<=maxLen)(w1:(Sh.slice (Sh.int .i64)).ok w x1):
  Calls Tryz.prog 8 #[.string a0,.slice x1.a x1.l.length x1.c] w fun e w'=>e= .returned bT /\ Below w.heap.size w w':=by
 have h1:=Ke (w1.okQ [])
 exact (Rx (q:= [old w]) (s:=a0) (pa:=x1.a) (pc:=x1.c) (picks:=x1.l) h1.2.2.1 (fun k hk=>Zzx (h1.2.2.2 k hk))).law (fun v q' h=>h.1) (St.old w)
set_option maxRecDepth 100000 in
theorem lifted (os:Os)(started:os.Started)(H:Type)(enc:TypeId×Value ->H):
  ReturnsInHanded {} Tryz.checked os 8 .any (Rows.sourceRunSpec.pre6 enc Tryz.prog Tryz.f8 Rows.sourceRunRow.domain false) (Rows.sourceRunSpec.post enc Tryz.prog Tryz.f8 false true false false):=by
 refine returnsInHanded_of_change (C:=Tryz.checked) own started (by kernel_rfl) Tryz.func8
  (ChangeSpec.witness6 (enc:=enc) (C:=Tryz.checked) false ⟨#[],#[.string ⟨#[]⟩,.slice none 0 0], []⟩ 8 (by kernel_rfl) (by kernel_rfl) (by kernel_rfl) (by kernel_rfl)) ?_
 intro W base args ds gs before hval0 hW hcnd _
 have hval: ∀ (j:Nat) t v,Tryz.f8.params[j]? =some t ->args[j]? =some v ->Value.okWide Tryz.prog W .any base t v:=hval0
 have hW':=hW
 obtain ⟨p,q,hA0,hV,rfl,hfz,hnd⟩:=hW
 have hA:DataW.TrodAll enc Tryz.prog W 0 (fun _=>true) true Tryz.f8.params.toList args.toList ds p:=hA0
 rw [Tryz.params8] at hA hval
 obtain ⟨v0,vs0,d0,ds0,p0,q0,hargs,rfl,rfl,h0,r0⟩:=trodAll_cons hA
 obtain ⟨v1,vs1,d1,ds1,p1,q1,rfl,rfl,rfl,h1,r1⟩:=trodAll_cons r0
 obtain ⟨rfl,rfl,rfl⟩:=trodAll_nil r1
 obtain rfl:args= #[v0,v1]:=by cases args;simp_all
 obtain ⟨rfl,rfl⟩:=trodVars_none hV
 obtain ⟨a0,rfl,rfl,rfl,w0⟩:=open_string Tryz.underlying9 (hval 0 9 v0 rfl rfl) h0
 have k1:=h1
 have lt1: ∀ x∈p1,x.block<W.heap.size:=by obtain ⟨m,hm⟩:=k1;exact DataW.trod_lt m _ _ _ hm
 obtain ⟨x1,rfl,w1⟩:=H0 (Sh.int .i64) Tryz.underlying22 (hval 1 22 v1 rfl rfl) h1 (by kernel_rfl)
 clear hA0 hval0
 refine (walk a0 x1 W w0 w1).mono fun e W' ⟨he,bel⟩=> ?_
 subst he
 exact ⟨_,rfl,_,_,_, [],_, [],hW',trodAll_mk1 (shut_bool Tryz.underlying4 _),(trodAll_cons_mk (shut_string Tryz.underlying9 w0) (trodAll_cons_mk (Below.trod laidOut (by kernel_rfl) (cN (by kernel_rfl)) k1 bel lt1) trodAll_mk0)),rfl,bel.frame _,fun h=>by cases h⟩
theorem over:Rows.sourceRunRow.holds Tryz.pinned (OpenSpec.ofChange Rows.sourceRunSpec):=
 OpenClaim.holds_of_wide 8 Tryz.f8 rfl rfl rfl rfl rfl rfl rfl ⟨rfl,rfl,rfl,rfl,rfl⟩ rfl rfl rfl rfl rfl (by kernel_rfl) Tryz.func8 (by kernel_rfl)
  (cN (by kernel_rfl)) (by unfold Func.isWrapper;first|(rw [if_pos (by decide+kernel)];kernel_rfl)|(rw [if_neg (by decide+kernel)];exact ⟨rfl,rfl⟩))
  (fun os started H enc _=>lifted os started H enc)
theorem proved:Rows.SourceRunSaid:=over
#print axioms proved
end Go.Proofs.YtflkjkhijcdbaaaGreat.sourceRun
