/- The law SourceAlone holds: for every input it returns true and leaves its arguments as they were. No condition. -/
import Derived.Test.YtflkjkhijcdbaaaGreatNj
import Derived.WalkKit
import Derived.ProofKit
import Derived.OpenShut
import Derived.Below
import Derived.ShutString
import Derived.ChangeOld
namespace Go.Proofs.YtflkjkhijcdbaaaGreat.sourceAlone
open Wx Go.ChangeShapes Go.WideShapes Go.ChangeAt Go.RowKit
open Go.ChangeMaps (open_string shut_string)
set_option linter.unusedVariables false
theorem own:ownKnob Tryz.prog.godebug=none:=by kernel_rfl
theorem laidOut:laidOutB Tryz.prog=true:=by kernel_rfl
theorem walk (x0:Two)(x1:SlV (Sh.T (Sh.int .i64)))(x2:SlV (Sh.T (Sh.int .i64)))(w:World)(w0:x0.ok w)(w1:(Sh.slice (Sh.int .i64)).ok w x1)(w2:(Sh.slice (Sh.int .i64)).ok w x2):
  Calls Tryz.prog 5 #[x0.v,.slice x1.a x1.l.length x1.c,.slice x2.a x2.l.length x2.c] w fun e w'=>e= .returned bT /\ Below w.heap.size w w':=by
 have h0:=J0 (w0.1.okQ [])
 have h3:=J0 (w0.2.okQ [])
 have h1:=J0 (w1.okQ [])
 have h2:=J0 (w2.okQ [])
 exact (Bm (q:= [old w]) (la:=x0.a.l) (lb:=x0.b.l) (pa:=x0.a.a) (pb:=x0.b.a) (ca_:=x0.a.c) (cb_:=x0.b.c) (px:=x1.a) (cx:=x1.c) (ah:=x1.l) (py:=x2.a) (cy:=x2.c) (bh:=x2.l) h0.2.2.1 (fun k hk=>wf8 (h0.2.2.2 k hk)) h3.2.2.1 (fun k hk=>wf8 (h3.2.2.2 k hk)) h1.2.2.1 (fun k hk=>wfi64 (h1.2.2.2 k hk)) h2.2.2.1 (fun k hk=>wfi64 (h2.2.2.2 k hk))).law (fun v q' h=>h.1) (St.old w)
set_option maxRecDepth 100000 in
theorem lifted (os:Os)(started:os.Started)(H:Type)(enc:TypeId×Value ->H):
  ReturnsInHanded {} Tryz.checked os 5 .any (Rows.sourceAloneSpec.pre6 enc Tryz.prog Tryz.f5 Rows.sourceAloneRow.domain false) (Rows.sourceAloneSpec.post enc Tryz.prog Tryz.f5 false true false false):=by
 refine returnsInHanded_of_change (C:=Tryz.checked) own started (by kernel_rfl) Tryz.func5
  (ChangeSpec.witness6 (enc:=enc) (C:=Tryz.checked) false ⟨#[],#[.agg #[.slice none 0 0,.slice none 0 0],.slice none 0 0,.slice none 0 0], []⟩ 8 (by kernel_rfl) (by kernel_rfl) (by kernel_rfl) (by kernel_rfl)) ?_
 intro W base args ds gs before hval0 hW hcnd _
 have hval: ∀ (j:Nat) t v,Tryz.f5.params[j]? =some t ->args[j]? =some v ->Value.okWide Tryz.prog W .any base t v:=hval0
 have hW':=hW
 obtain ⟨p,q,hA0,hV,rfl,hfz,hnd⟩:=hW
 have hA:DataW.TrodAll enc Tryz.prog W 0 (fun _=>true) true Tryz.f5.params.toList args.toList ds p:=hA0
 rw [Tryz.params5] at hA hval
 obtain ⟨v0,vs0,d0,ds0,p0,q0,hargs,rfl,rfl,h0,r0⟩:=trodAll_cons hA
 obtain ⟨v1,vs1,d1,ds1,p1,q1,rfl,rfl,rfl,h1,r1⟩:=trodAll_cons r0
 obtain ⟨v2,vs2,d2,ds2,p2,q2,rfl,rfl,rfl,h2,r2⟩:=trodAll_cons r1
 obtain ⟨rfl,rfl,rfl⟩:=trodAll_nil r2
 obtain rfl:args= #[v0,v1,v2]:=by cases args;simp_all
 obtain ⟨rfl,rfl⟩:=trodVars_none hV
 have k0:=h0
 have lt0: ∀ x∈p0,x.block<W.heap.size:=by obtain ⟨m,hm⟩:=k0;exact DataW.trod_lt m _ _ _ hm
 obtain ⟨x0,rfl,w0⟩:=open_two Tryz.underlying58 (by kernel_rfl) (by kernel_rfl) (by kernel_rfl) (hval 0 58 v0 rfl rfl) h0
 have k1:=h1
 have lt1: ∀ x∈p1,x.block<W.heap.size:=by obtain ⟨m,hm⟩:=k1;exact DataW.trod_lt m _ _ _ hm
 obtain ⟨x1,rfl,w1⟩:=Dz (Sh.int .i64) Tryz.underlying22 (hval 1 22 v1 rfl rfl) h1 (by kernel_rfl)
 have k2:=h2
 have lt2: ∀ x∈p2,x.block<W.heap.size:=by obtain ⟨m,hm⟩:=k2;exact DataW.trod_lt m _ _ _ hm
 obtain ⟨x2,rfl,w2⟩:=Dz (Sh.int .i64) Tryz.underlying22 (hval 2 22 v2 rfl rfl) h2 (by kernel_rfl)
 clear hA0 hval0
 refine (walk x0 x1 x2 W w0 w1 w2).mono fun e W' ⟨he,bel⟩=> ?_
 subst he
 exact ⟨_,rfl,_,_,_, [],_, [],hW',trodAll_mk1 (shut_bool Tryz.underlying4 _),(trodAll_cons_mk (Below.trod laidOut (by kernel_rfl) (cW (by kernel_rfl)) k0 bel lt0) (trodAll_cons_mk (Below.trod laidOut (by kernel_rfl) (cW (by kernel_rfl)) k1 bel lt1) (trodAll_cons_mk (Below.trod laidOut (by kernel_rfl) (cW (by kernel_rfl)) k2 bel lt2) trodAll_mk0))),rfl,bel.frame _,fun h=>by cases h⟩
theorem over:Rows.sourceAloneRow.holds Tryz.pinned (OpenSpec.ofChange Rows.sourceAloneSpec):=
 OpenClaim.holds_of_wide 5 Tryz.f5 rfl rfl rfl rfl rfl rfl rfl ⟨rfl,rfl,rfl,rfl,rfl⟩ rfl rfl rfl rfl rfl (by kernel_rfl) Tryz.func5 (by kernel_rfl)
  (cW (by kernel_rfl)) (by unfold Func.isWrapper;first|(rw [if_pos (by decide+kernel)];kernel_rfl)|(rw [if_neg (by decide+kernel)];exact ⟨rfl,rfl⟩))
  (fun os started H enc _=>lifted os started H enc)
theorem proved:Rows.SourceAloneSaid:=over
#print axioms proved
end Go.Proofs.YtflkjkhijcdbaaaGreat.sourceAlone
