/- The law ReplayCuts holds: for every input it returns true and leaves its arguments as they were. No condition. -/
import Derived.Test.YtadahhbefdnabaaGreatDoorVk
import Derived.LaidByTextLater
import Derived.LaidSub
import Derived.LaidOnce
import Derived.Test.YtadahhbefdnabaaGreatDoorCards
import Derived.LaidMore
import Derived.Stop.Joined
import Derived.SevenTiedAt
import Derived.WalkKit
import Derived.ProofKit
import Derived.OpenShut
import Derived.Below
import Derived.ShutString
import Derived.ChangeOld
namespace Go.Proofs.YtadahhbefdnabaaGreatDoor.replayCuts
open Wx Go.ChangeShapes Go.WideShapes Go.ChangeAt Go.RowKit
open Go.ChangeMaps (open_string shut_string)
set_option linter.unusedVariables false
theorem seatTie1: Tryz.prog.laidByTextLater [("warp/ops.codes", Rows.laid_warp_ops_codes), ("warp/compile.opCodes", Rows.laid_warp_compile_opCodes), ("warp/verify.effects", Rows.laid_warp_verify_effects)] [.data, .data, .data] true :=
 Program.laidByTextLater_by_one 83 8 71 (by kernel_rfl) (by kernel_rfl) (by kernel_rfl) (by kernel_rfl) (by kernel_rfl) (by kernel_rfl) (fun _ _ => by kernel_rfl)
theorem replayCuts_row_tie:Rows.replayCutsRow.laidByTextAt .later Tryz.pinned [.data,.data,.data] true:=OpenClaim.laidByTextAt_later rfl rfl seatTie1 (by kernel_rfl)
theorem own:ownKnob Tryz.prog.godebug=none:=by kernel_rfl
theorem laidOut:laidOutB Tryz.prog=true:=by kernel_rfl
theorem walk (a0:ByteArray)(x1:SlV (Sh.T (Sh.int .i64)))(a2:Int)(w:World)(hL:laidMetH Tryz.prog Xv w)(w0:a0.size<=maxLen)(w1:(Sh.slice (Sh.int .i64)).ok w x1)(w2:(Lit.int .i64 a2).wf=true):
  Calls Tryz.prog 5 #[.string a0,.slice x1.a x1.l.length x1.c,I64 a2] w fun e w'=>e= .returned bT /\ Below w.heap.size w w':=by
 obtain ⟨gc,go,ge⟩:=of_laid hL
 have h1:=Zke (w1.okQ [])
 exact (I9 (q:= [old w]) (s:=a0) (left:=a2) (pa:=x1.a) (pc:=x1.c) (picks:=x1.l) go gc ge h1.2.2.1 (fun k hk=>wfi64 (h1.2.2.2 k hk))).law (fun v q' h=>h.1) (St.old w)
set_option maxRecDepth 100000 in
theorem lifted (os:Os)(started:os.Started)(H:Type)(enc:TypeId×Value ->H):
  ReturnsInHanded {} Tryz.checked os 5 .any (fun w args=>(Rows.replayCutsSpec.pre enc Tryz.prog Tryz.f5 [] false w args /\ laidMetH Tryz.prog Xv w) /\ sizedMet enc Tryz.prog Tryz.f5 (OpenSpec.ofChange Rows.replayCutsSpec) false w args)
   (Rows.replayCutsSpec.post enc Tryz.prog Tryz.f5 false true false false):=by
 refine returnsInHanded_of_change_and (C:=Tryz.checked) (X:=fun w _=>laidMetH Tryz.prog Xv w) (fun _ _ _ hh h=>h.of_heap hh) own started (by kernel_rfl) Tryz.func5
  (ChangeSpec.witness_shaped (enc:=enc) (C:=Tryz.checked) (os:=os) (X:=fun w _=>laidMetH Tryz.prog Xv w) false (World.doorLaid Tryz.prog 400 os) #[.string ⟨#[]⟩,.slice none 0 0,I64 0] 8 rfl (World.shaped_of_RefB (by kernel_rfl) (by kernel_rfl)) (by kernel_rfl) (by kernel_rfl) (by kernel_rfl) (door_met os _)) ?_
 intro W base args ds gs before hval0 hW _ _ hL _
 have hval: ∀ (j:Nat) t v,Tryz.f5.params[j]? =some t ->args[j]? =some v ->Value.okWide Tryz.prog W .any base t v:=hval0
 have hW':=hW
 obtain ⟨p,q,hA0,hV,rfl,hfz,hnd⟩:=hW
 have hA:DataW.TrodAll enc Tryz.prog W 0 (fun _=>true) true Tryz.f5.params.toList args.toList ds p:=hA0
 rw [Tryz.params5] at hA hval
 obtain ⟨v0,vs0,d0,ds0,p0,q0,hargs,rfl,rfl,h0,r0⟩:=trodAll_cons hA
 obtain ⟨v1,vs1,d1,ds1,p1,q1,rfl,rfl,rfl,h1,r1⟩:=trodAll_cons r0
 obtain ⟨v2,vs2,d2,ds2,p2,q2,rfl,rfl,rfl,h2,r2⟩:=trodAll_cons r1
 obtain ⟨rfl,rfl,rfl⟩:=trodAll_nil r2
 obtain rfl:args= #[v0,v1,v2]:=by cases args;simp_all
 obtain ⟨rfl,rfl⟩:=trodVars_none hV
 obtain ⟨a0,rfl,rfl,rfl,w0⟩:=open_string Tryz.underlying9 (hval 0 9 v0 rfl rfl) h0
 have k1:=h1
 have lt1: ∀ x∈p1,x.block<W.heap.size:=by obtain ⟨m,hm⟩:=k1;exact DataW.trod_lt m _ _ _ hm
 obtain ⟨x1,rfl,w1⟩:=Zv9 (Sh.int .i64) Tryz.underlying23 (hval 1 23 v1 rfl rfl) h1 (by kernel_rfl)
 obtain ⟨a2,rfl,rfl,rfl,w2⟩:=open_int Tryz.underlying3 (hval 2 3 v2 rfl rfl) h2
 clear hA0 hval0
 refine (walk a0 x1 a2 W hL w0 w1 w2).mono fun e W' ⟨he,bel⟩=> ?_
 subst he
 exact ⟨_,rfl,_,_,_, [],_, [],hW',trodAll_mk1 (shut_bool Tryz.underlying4 _),(trodAll_cons_mk (shut_string Tryz.underlying9 w0) (trodAll_cons_mk (Below.trod laidOut (by kernel_rfl) (cY (by kernel_rfl)) k1 bel lt1) (trodAll_cons_mk (shut_int Tryz.underlying3 w2) trodAll_mk0))),rfl,bel.frame _,fun h=>by cases h⟩
theorem an {a b:Bool}(x:a=true)(y:b=true):(a && b)=true:=by rw [x,y];rfl
theorem k1:laidOutB Tryz.pinned.checked.prog=true:=by kernel_rfl
theorem k2:mapsRowed Tryz.pinned.checked.prog=true:=by kernel_rfl
theorem k9:(Rows.replayCutsRow.inPlace==Tryz.pinned.checked.prog.inPlace 5)=true:=by kernel_rfl
theorem k10:(Rows.replayCutsRow.unfollowed==Tryz.pinned.checked.prog.unfollowed 5)=true:=by kernel_rfl
theorem k11:(Rows.replayCutsRow.recurses==Tryz.pinned.checked.prog.recurses 5)=true:=by kernel_rfl
theorem k12:(Rows.replayCutsRow.named==Tryz.pinned.checked.prog.varsNamed 5)=true:=by kernel_rfl
theorem k22:(Rows.replayCutsRow.plainKeys==Tryz.pinned.checked.prog.plainKeys)=true:=by kernel_rfl
theorem k24:Tryz.pinned.checked.prog.stopsHeard=true:=by kernel_rfl
theorem k25:Tryz.pinned.checked.prog.mayEnter=true:=by kernel_rfl
theorem k26:(Rows.replayCutsRow.lifted==Tryz.pinned.checked.prog.liftsFinal)=true:=by kernel_rfl
theorem k27:(Tryz.pinned.checked.prog.make==some Rows.replayCutsRow.make)=true:=by kernel_rfl
theorem kn:Tryz.pinned.checked.prog.funcNamed Rows.replayCutsRow.func=some 5:=by kernel_rfl
theorem kg:false=Rows.replayCutsRow.goesBy Tryz.pinned.checked.prog:=by kernel_rfl
theorem kl:true=Tryz.pinned.checked.prog.looks []:=by kernel_rfl
theorem km: Tryz.pinned.checked.prog.mainIs = some (true, "85e7481fbbaea671b91e530932a56239334544f32d19c35abbe1fa3215205325".toList) := by kernel_rfl
theorem closed:joinedFacts Tryz.pinned.checked.prog 5 Tryz.f5 Rows.replayCutsSpec Rows.replayCutsRow=true:=by
 unfold joinedFacts
 exact an (an (an (an (an (an (an (an (an (an (an (an (an (an (an (an (an (an (an (an (an (an (an (an (an (an (an (an (an (an (an (by kernel_rfl) k1) k2) (by kernel_rfl)) (by kernel_rfl)) (by kernel_rfl)) (by kernel_rfl)) (by kernel_rfl)) (by kernel_rfl)) k9) k10) k11) k12) (by kernel_rfl)) (by kernel_rfl)) (by kernel_rfl)) (by kernel_rfl)) (by kernel_rfl)) (by kernel_rfl)) (by kernel_rfl)) (by kernel_rfl)) (by kernel_rfl)) k22) (by kernel_rfl)) k24) k25) k26) k27) (by kernel_rfl)) (by kernel_rfl)) (by kernel_rfl)) (by kernel_rfl)
theorem over:Rows.replayCutsRow.holds Tryz.pinned (OpenSpec.ofChange Rows.replayCutsSpec):=
 OpenClaim.holds_of_wide 5 Tryz.f5 rfl rfl rfl rfl rfl rfl rfl ⟨rfl,rfl,rfl,rfl,rfl⟩ rfl rfl rfl rfl rfl kn Tryz.func5 closed
  (cY (by kernel_rfl)) (by unfold Func.isWrapper;first|(rw [if_pos (by decide+kernel)];kernel_rfl)|(rw [if_neg (by decide+kernel)];exact ⟨rfl,rfl⟩))
  (fun os started H enc _=>lifted os started H enc)
theorem proved:Rows.ReplayCutsCardSaid:=
 Claim7.holds_tied_plain_at .later [] [.data, .data, .data] true (true, "85e7481fbbaea671b91e530932a56239334544f32d19c35abbe1fa3215205325") true
  over (fun _ h=>by cases h) (by kernel_rfl) (fun _ h=>by cases h) replayCuts_row_tie rfl ⟨rfl,rfl⟩ km rfl
  (fun f fn hf hfn=>by
   obtain rfl:f=5:=dR (kn.symm.trans hf)|>.symm
   obtain rfl:fn=Tryz.f5:=(dR (Tryz.func5.symm.trans hfn)).symm
   exact ⟨kl,fun j t ht=>by
    rw [Tryz.params5] at ht
    have hm:t∈ [9,23,3]:=by simpa using Array.mem_of_getElem? ht
    have hall:([9,23,3].all fun u=> !Tryz.prog.wantsStandIn u)=true:=by kernel_rfl
    exact (show Tryz.prog.wantsStandIn t=false by simpa using dM.1 hall t hm)⟩)
  kg
#print axioms proved
end Go.Proofs.YtadahhbefdnabaaGreatDoor.replayCuts
