/- The law ReplayHashes holds: for every input it returns true and leaves its arguments as they were. No condition. -/
import Derived.Test.YtadahhbefdnabaaGreatDoorVi
import Derived.Test.YtadahhbefdnabaaGreatDoorTie
import Derived.Test.YtadahhbefdnabaaGreatDoorCards
import Derived.LaidMore
import Derived.Stop.Joined
import Derived.SevenTiedAt
import Derived.WalkKit
import Derived.ProofKit
import Derived.OpenShut
import Derived.Below
import Derived.ShutString
import Derived.ChangeOld
namespace Go.Proofs.YtadahhbefdnabaaGreatDoor.replayHashes
open Wx Go.ChangeShapes Go.WideShapes Go.ChangeAt Go.RowKit
open Go.ChangeMaps (open_string shut_string)
set_option linter.unusedVariables false
theorem lawF {P:Program}{fn:FuncId}{vs:List Value}{q:List HP}{w:World}{R:Value->List HP->Prop}(h:CallF P w fn vs q (Ret R))(hR: ∀ v q',R v q'->v= .bool true)(s:St w w q):Calls P fn vs.toArray w fun e w'=>e= .returned (.bool true)/\Below w.heap.size w w':=
 (h [] w (by simpa using s)).mono fun e w' ⟨_,q',⟨v,he,hv⟩,s'⟩=>⟨by rw [he,hR v q' hv],s'.1⟩
theorem oldS (G:World):St G G [Wx.old G]:=
 ⟨.refl _ _,wh G,fun _=>none,.refl _,fun _ _ e=>by simp at e,fun _ _ e=>by simp at e,fun _=> .inr rfl,.refl _,
 fun _=>none,fun _=>none,fun _=> .inl rfl,fun _ _ e=>by simp at e,fun _ _ e=>by simp at e,.refl _,trivial⟩
theorem own:ownKnob Tryz.prog.godebug=none:=by kernel_rfl
theorem laidOut:laidOutB Tryz.prog=true:=by kernel_rfl
theorem walk (a0:ByteArray)(w:World)(hL:laidMetH Tryz.prog Ll w)(w0:a0.size<=maxLen):
  Calls Tryz.prog 3 #[.string a0] w fun e w'=>e= .returned bT /\ Below w.heap.size w w':=by
 obtain ⟨gc,go,ge⟩:=of_laid hL
 exact lawF (Fu (q:= [old w]) (s:=a0) go gc ge) (fun v q' h=>h.1) (oldS w)
set_option maxRecDepth 100000 in
theorem lifted (os:Os)(started:os.Started)(H:Type)(enc:TypeId×Value ->H):
  ReturnsInHanded {} Tryz.checked os 3 .any (fun w args=>(Rows.replayHashesSpec.pre enc Tryz.prog Tryz.f3 [] false w args /\ laidMetH Tryz.prog Ll w) /\ sizedMet enc Tryz.prog Tryz.f3 (OpenSpec.ofChange Rows.replayHashesSpec) false w args)
   (Rows.replayHashesSpec.post enc Tryz.prog Tryz.f3 false true false false):=by
 refine returnsInHanded_of_change_and (C:=Tryz.checked) (X:=fun w _=>laidMetH Tryz.prog Ll w) (fun _ _ _ hh h=>h.of_heap hh) own started (by kernel_rfl) Tryz.func3
  (ChangeSpec.witness_shaped (enc:=enc) (C:=Tryz.checked) (os:=os) (X:=fun w _=>laidMetH Tryz.prog Ll w) false (World.doorLaid Tryz.prog 400 os) #[.string ⟨#[]⟩] 8 rfl (World.shaped_of_RefB (by kernel_rfl) (by kernel_rfl)) (by kernel_rfl) (by kernel_rfl) (by kernel_rfl) (door_met os _)) ?_
 intro W base args ds gs before hval0 hW _ _ hL _
 have hval: ∀ (j:Nat) t v,Tryz.f3.params[j]? =some t ->args[j]? =some v ->Value.okWide Tryz.prog W .any base t v:=hval0
 have hW':=hW
 obtain ⟨p,q,hA0,hV,rfl,hfz,hnd⟩:=hW
 have hA:DataW.TrodAll enc Tryz.prog W 0 (fun _=>true) true Tryz.f3.params.toList args.toList ds p:=hA0
 rw [Tryz.params3] at hA hval
 obtain ⟨v0,vs0,d0,ds0,p0,q0,hargs,rfl,rfl,h0,r0⟩:=trodAll_cons hA
 obtain ⟨rfl,rfl,rfl⟩:=trodAll_nil r0
 obtain rfl:args= #[v0]:=by cases args;simp_all
 obtain ⟨rfl,rfl⟩:=trodVars_none hV
 obtain ⟨a0,rfl,rfl,rfl,w0⟩:=open_string Tryz.underlying9 (hval 0 9 v0 rfl rfl) h0
 clear hA0 hval0
 refine (walk a0 W hL w0).mono fun e W' ⟨he,bel⟩=> ?_
 subst he
 exact ⟨_,rfl,_,_,_, [],_, [],hW',trodAll_mk1 (shut_bool Tryz.underlying4 _),(trodAll_cons_mk (shut_string Tryz.underlying9 w0) trodAll_mk0),rfl,bel.frame _,fun h=>by cases h⟩
theorem an {a b:Bool}(x:a=true)(y:b=true):(a && b)=true:=by rw [x,y];rfl
theorem k1:laidOutB Tryz.pinned.checked.prog=true:=by kernel_rfl
theorem k2:mapsRowed Tryz.pinned.checked.prog=true:=by kernel_rfl
theorem k9:(Rows.replayHashesRow.inPlace==Tryz.pinned.checked.prog.inPlace 3)=true:=by kernel_rfl
theorem k10:(Rows.replayHashesRow.unfollowed==Tryz.pinned.checked.prog.unfollowed 3)=true:=by kernel_rfl
theorem k11:(Rows.replayHashesRow.recurses==Tryz.pinned.checked.prog.recurses 3)=true:=by kernel_rfl
theorem k12:(Rows.replayHashesRow.named==Tryz.pinned.checked.prog.varsNamed 3)=true:=by kernel_rfl
theorem k22:(Rows.replayHashesRow.plainKeys==Tryz.pinned.checked.prog.plainKeys)=true:=by kernel_rfl
theorem k24:Tryz.pinned.checked.prog.stopsHeard=true:=by kernel_rfl
theorem k25:Tryz.pinned.checked.prog.mayEnter=true:=by kernel_rfl
theorem k26:(Rows.replayHashesRow.lifted==Tryz.pinned.checked.prog.liftsFinal)=true:=by kernel_rfl
theorem k27:(Tryz.pinned.checked.prog.make==some Rows.replayHashesRow.make)=true:=by kernel_rfl
theorem kn:Tryz.pinned.checked.prog.funcNamed Rows.replayHashesRow.func=some 3:=by kernel_rfl
theorem kg:false=Rows.replayHashesRow.goesBy Tryz.pinned.checked.prog:=by kernel_rfl
theorem kl:true=Tryz.pinned.checked.prog.looks []:=by kernel_rfl
theorem km: Tryz.pinned.checked.prog.mainIs = some (true, "85e7481fbbaea671b91e530932a56239334544f32d19c35abbe1fa3215205325".toList) := by kernel_rfl
theorem closed:joinedFacts Tryz.pinned.checked.prog 3 Tryz.f3 Rows.replayHashesSpec Rows.replayHashesRow=true:=by
 unfold joinedFacts
 exact an (an (an (an (an (an (an (an (an (an (an (an (an (an (an (an (an (an (an (an (an (an (an (an (an (an (an (an (an (an (an (by kernel_rfl) k1) k2) (by kernel_rfl)) (by kernel_rfl)) (by kernel_rfl)) (by kernel_rfl)) (by kernel_rfl)) (by kernel_rfl)) k9) k10) k11) k12) (by kernel_rfl)) (by kernel_rfl)) (by kernel_rfl)) (by kernel_rfl)) (by kernel_rfl)) (by kernel_rfl)) (by kernel_rfl)) (by kernel_rfl)) (by kernel_rfl)) k22) (by kernel_rfl)) k24) k25) k26) k27) (by kernel_rfl)) (by kernel_rfl)) (by kernel_rfl)) (by kernel_rfl)
theorem over:Rows.replayHashesRow.holds Tryz.pinned (OpenSpec.ofChange Rows.replayHashesSpec):=
 OpenClaim.holds_of_wide 3 Tryz.f3 rfl rfl rfl rfl rfl rfl rfl ⟨rfl,rfl,rfl,rfl,rfl⟩ rfl rfl rfl rfl rfl kn Tryz.func3 closed
  (cU (by kernel_rfl)) (by unfold Func.isWrapper;first|(rw [if_pos (by decide+kernel)];kernel_rfl)|(rw [if_neg (by decide+kernel)];exact ⟨rfl,rfl⟩))
  (fun os started H enc _=>lifted os started H enc)
theorem proved:Rows.ReplayHashesCardSaid:=
 Claim7.holds_tied_plain_at .later [] [.data, .data, .data] true (true, "85e7481fbbaea671b91e530932a56239334544f32d19c35abbe1fa3215205325") true
  over (fun _ h=>by cases h) (by kernel_rfl) (fun _ h=>by cases h) replayHashes_row_tie rfl ⟨rfl,rfl⟩ km rfl
  (fun f fn hf hfn=>by
   obtain rfl:f=3:=dT (kn.symm.trans hf)|>.symm
   obtain rfl:fn=Tryz.f3:=(dT (Tryz.func3.symm.trans hfn)).symm
   exact ⟨kl,fun j t ht=>by
    rw [Tryz.params3] at ht
    have hm:t∈ [9]:=by simpa using Array.mem_of_getElem? ht
    have hall:([9].all fun u=> !Tryz.prog.wantsStandIn u)=true:=by kernel_rfl
    exact (show Tryz.prog.wantsStandIn t=false by simpa using cQ.1 hall t hm)⟩)
  kg
#print axioms proved
end Go.Proofs.YtadahhbefdnabaaGreatDoor.replayHashes
