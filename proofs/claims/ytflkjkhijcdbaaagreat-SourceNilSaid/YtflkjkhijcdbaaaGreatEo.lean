/- Contracts of functions, proved by walking their code. -/
import Derived.Test.YtflkjkhijcdbaaaGreatEn
import Derived.KernelRfl
set_option maxRecDepth 100000
set_option linter.unusedVariables false
set_option linter.unusedSimpArgs false
namespace Go.Proofs.YtflkjkhijcdbaaaGreat
open Go Go.RowKit Wx Go.Proofs.Tryz
attribute [local irreducible] Wx.lsH Wx.rsH Wx.stars
structure NoS (q:List HP) (pt:Option Addr):Prop where
 h:pt=none∨ ∃ p,pt=some ⟨p,0,none⟩∧Cl q ⟨p,0,none⟩ (.pointer none)
theorem NoS.le {q q':List HP}{pt:Option Addr}(h:NoS q' pt)(l:Le q q'):NoS q pt:=⟨h.h.imp id fun ⟨p,e,c⟩=>⟨p,e,c.le l⟩⟩
theorem NoS.none {q:List HP}:NoS q .none:=⟨.inl rfl⟩
section
variable {G:World}{q:List HP}{pt:Option Addr}{k:Int}{a:Option Addr}{c n:Nat}
theorem Ws (h:NoS q pt):CallF prog G 49 [.pointer pt] (q) (Ret fun v q'=>v= .bool false∧q'=q):=by
 refine CallF.of func49 ntmps49 rfl (fun F cs=> ?_)
 obtain ⟨rfl|⟨p,rfl,hc⟩⟩:=h
 · refine xo 9 ?_;refine H9 5 ?_;refine ox 8 ?_;refine Zq (q) func49 (Zm results49 rfl) ⟨_,rfl,rfl,rfl⟩
 refine xo 9 ?_;refine XO.kt 5 ?_;refine oo 3 ?_;refine ld ?_ (hc:=(hc.le leA))
 refine ox 4 ?_;refine Zq (q) func49 (Zm results49 rfl) ⟨_,rfl,rfl,rfl⟩
set_option maxHeartbeats 1000000 in
theorem Sa (h:NoS q pt):CallF prog G 19 [.pointer pt,.int .i64 k] (q) (Ret fun v q'=>v= .tuple [.agg (evC (evZ 0 0)).toArray,.int .i64 1].toArray∧q'=q):=by
 refine CallF.of func19 ntmps19 rfl (fun F cs=> ?_)
 refine xo 2 ?_;refine XO.al zeroValue47 fun n1=> ?_
 refine oo 6 ?_;refine XO.cR call49 (Ws (h.le leA)) ?_;refine XO.pu (Pu.not rfl) ?_;refine ox 1 ?_;refine X.kt 9 ?_;refine xo 4 ?_;refine stA ?_;refine ox 2 ?_;refine Zq (q) func19 (Hk results19) ⟨_,rfl,rfl,rfl⟩
set_option maxHeartbeats 1000000 in
theorem Do_no (h:NoS q pt):CallF prog G 30 [.pointer pt,.int .i64 k] (q) (Ret fun v q'=>v= .tuple [.agg (evC (evZ 0 0)).toArray,.int .i64 1].toArray∧q'=q):=by
 refine CallF.of func30 ntmps30 rfl (fun F cs=> ?_)
 refine xo 2 ?_;refine XO.al zeroValue47 fun n1=> ?_
 refine oo 7 ?_;refine XO.cR call49 (Ws (h.le leA)) ?_;refine XO.pu (Pu.not rfl) ?_;refine ox 2 ?_;refine X.kt 8 ?_;refine xo 4 ?_;refine stA ?_;refine ox 2 ?_;refine Zq (q) func30 (Hk results30) ⟨_,rfl,rfl,rfl⟩
set_option maxHeartbeats 1000000 in
theorem Ob (h:NoS q pt):CallF prog G 39 [.pointer pt,.int .i64 k] (q) (Ret fun v q'=>v= .tuple [.agg [.int .i64 0,.int .i64 0,.slice none 0 0,.int .i64 0,.slice none 0 0].toArray,.int .i64 1].toArray∧q'=q):=by
 refine CallF.of func39 ntmps39 rfl (fun F cs=> ?_)
 refine xo 2 ?_;refine XO.al zeroValue101 fun n1=> ?_
 refine oo 6 ?_;refine XO.cR call49 (Ws (h.le leA)) ?_;refine XO.pu (Pu.not rfl) ?_;refine ox 1 ?_;refine X.kt 11 ?_;refine xo 4 ?_;refine stA ?_;refine ox 2 ?_;refine Zq (q) func39 (Hk results39) ⟨_,rfl,rfl,rfl⟩
set_option maxHeartbeats 1000000 in
theorem Bi (h:NoS q pt):CallF prog G 41 [.pointer pt] (q) (Ret fun v q'=>v= .int .i64 0∧q'=q):=by
 refine CallF.of func41 ntmps41 rfl (fun F cs=> ?_)
 refine xo 8 ?_;refine XO.cR call49 (Ws (h.le leA)) ?_;refine XO.pu (Pu.not rfl) ?_;refine ox 1 ?_;refine X.kt 5 ?_;refine xx 5 ?_;refine Zq (q) func41 (Zm results41 rfl) ⟨_,rfl,rfl,rfl⟩
set_option maxHeartbeats 1000000 in
theorem Cells_no (h:NoS q pt):CallF prog G 21 [.pointer pt] (q) (Ret fun v q'=>v= .slice none 0 0∧q'=q):=by
 refine CallF.of func21 ntmps21 rfl (fun F cs=> ?_)
 refine xo 8 ?_;refine XO.cR call49 (Ws (h.le leA)) ?_;refine XO.pu (Pu.not rfl) ?_;refine ox 1 ?_;refine X.kt 5 ?_;refine xx 5 ?_;refine Zq (q) func21 (Zm results21 rfl) ⟨_,rfl,rfl,rfl⟩
set_option maxHeartbeats 1000000 in
theorem Copy_no (h:NoS q pt):CallF prog G 37 [.pointer pt] (q) (Ret fun v q'=>v= .pointer none∧q'=q):=by
 refine CallF.of func37 ntmps37 rfl (fun F cs=> ?_)
 refine xo 8 ?_;refine XO.cR call49 (Ws (h.le leA)) ?_;refine XO.pu (Pu.not rfl) ?_;refine ox 1 ?_;refine X.kt 8 ?_;refine xx 5 ?_;refine Zq (q) func37 (Zm results37 rfl) ⟨_,rfl,rfl,rfl⟩
set_option maxHeartbeats 1000000 in
theorem Sync_no (h:NoS q pt):CallF prog G 42 [.pointer pt] (q) (Ret fun v q'=>v= .pointer none∧q'=q):=by
 refine CallF.of func42 ntmps42 rfl (fun F cs=> ?_)
 refine xo 8 ?_;refine XO.cR call49 (Ws (h.le leA)) ?_;refine XO.pu (Pu.not rfl) ?_;refine ox 1 ?_;refine X.kt 5 ?_;refine xx 5 ?_;refine Zq (q) func42 (Zm results42 rfl) ⟨_,rfl,rfl,rfl⟩
set_option maxHeartbeats 1000000 in
theorem P5 (h:NoS q pt):CallF prog G 22 [.pointer pt] (q) (Ret fun v q'=>v= .agg [.int .i64 0,.int .i64 0,.int .i64 0,.int .i64 0].toArray∧q'=q):=by
 refine CallF.of func22 ntmps22 rfl (fun F cs=> ?_)
 refine xo 2 ?_;refine XO.al zeroValue41 fun n1=> ?_
 refine oo 5 ?_;refine XO.cR call49 (Ws (h.le leA)) ?_;refine XO.pu (Pu.not rfl) ?_;refine ox 1 ?_;refine X.kt 6 ?_;refine xo 4 ?_;refine stA ?_;refine ox 1 ?_;refine Zq (q) func22 (rA_ results22) ⟨_,rfl,rfl,rfl⟩
set_option maxHeartbeats 1000000 in
theorem Can_no (h:NoS q pt):CallF prog G 40 [.pointer pt] (q) (Ret fun v q'=>v= .slice none 0 0∧q'=q):=by
 refine CallF.of func40 ntmps40 rfl (fun F cs=> ?_)
 refine xo 12 ?_;refine XO.cR call41 (Bi (h.le leA)) ?_;refine ox 3 ?_;refine X.at (X.loop (fun (s:Unit)=>True) (fun s=> [(0,.pointer pt),(3,.slice none 0 0),(6,.int .i64 0),(7,.int .i64 0)]) (fun s=>q++F) (fun s=>0) (fun s hi_ ih=> ?_) () trivial) Zu leA
 try dsimp only at hi_ ih⊢
 obtain _:=hi_
 refine xx 5 ?_;refine kx 8 7 ?_;refine Zq (q) func40 (Zm results40 rfl) ⟨_,rfl,rfl,rfl⟩
set_option maxHeartbeats 1000000 in
theorem Run_no {l:List Int}(h:NoS q pt)(hs:Sees q a (l.map I64))(hn:n=l.length):CallF prog G 16 [.pointer pt,.slice a n c] (q) (Ret fun v q'=>v= .tuple [.slice none 0 0,.agg [.int .i64 0,.int .i64 0,.int .i64 0,.int .i64 0].toArray].toArray∧q'=q):=by
 refine CallF.of func16 ntmps16 rfl (fun F cs=> ?_)
 subst hn
 refine xo 3 ?_;refine XO.al zeroValue41 fun n1=> ?_
 refine ox 13 ?_;refine X.at (X.loop (fun (s:Unit)=>True) (fun s=> [(0,.pointer pt),(5,.pointer (some ⟨n1,0,none⟩)),(6,.slice none 0 0),(11,.slice a l.length c),(12,.int .i64 (l.length:Int)),(13,.int .i64 0)]) (fun s=>pto n1 (.cells [.int .i64 0,.int .i64 0,.int .i64 0,.int .i64 0].toArray 41 (0,0))::(q++F)) (fun s=>0) (fun s hi_ ih=> ?_) () trivial) Zu leA
 try dsimp only at hi_ ih⊢
 obtain _:=hi_
 refine xx 5 ?_;refine X.part 14 rfl (fun h0=> ?_) (fun h0=> ?_)
 focus
  replace h0:=sp h0;refine Yb (hs.le leA) (by rw [List.length_map];omega) (fun b1 o1 e1_=> ?_);have hs_:=hs;rw [e1_] at hs_
  refine xo 6 ?_;refine XO.know 11 (.slice (some ⟨b1,o1,none⟩) l.length c) rfl (by rw [←e1_]) ?_
  refine oo 1 ?_;refine ld ?_ (hc:=((hs_.le leA).at (n:=0) rfl (by omega)))
  refine oo 6 ?_;refine XO.cR call19 (Sa (h.le leA)) ?_;refine oo 3 ?_;refine XO.al zeroValue47 fun n2=> ?_
  refine stA ?_;refine ox 8 ?_;refine X.kt 24 ?_
 rotate_left
 all_goals
  refine xo 6 ?_;refine XO.cR call22 (P5 (h.le leA)) ?_;refine oo 1 ?_;refine stA ?_;refine ox 1 ?_;refine Zq (q) func16 (Ro results16 (ResOk.tmp rfl (ResOk.cell rfl (LV.agg isAgg41 sizeOf41 Qh rfl) ResOk.nil))) ⟨_,rfl,rfl,rfl⟩
set_option maxHeartbeats 1000000 in
theorem Same_nn {pu:Option Addr}(h:NoS q pt)(h2:NoS q pu):CallF prog G 38 [.pointer pt,.pointer pu] (q) (Ret fun v q'=>v= .bool true∧q'=q):=by
 refine CallF.of func38 ntmps38 rfl (fun F cs=> ?_)
 refine xo 8 ?_;refine XO.cR call49 (Ws (h.le leA)) ?_;refine XO.pu (Pu.not rfl) ?_;refine oo 1 ?_;refine XO.kt 13 ?_;refine oo 9 ?_;refine XO.cR call49 (Ws (h.le leA)) ?_;refine XO.pu (Pu.not rfl) ?_;refine oo 1 ?_;refine XO.kt 21 ?_;refine oo 1 ?_;refine XO.cR call49 (Ws (h2.le leA)) ?_;refine XO.pu (Pu.not rfl) ?_;refine ox 3 ?_;refine Zq (q) func38 (Zm results38 rfl) ⟨_,rfl,rfl,rfl⟩
set_option maxHeartbeats 1000000 in
theorem Same_ny {pu:Option Addr}(h:NoS q pt){pp:Nat}(h2:Cl q ⟨n,0,none⟩ (.pointer (some ⟨pp,0,none⟩))):CallF prog G 38 [.pointer pt,.pointer (some ⟨n,0,none⟩)] (q) (Ret fun v q'=>v= .bool false∧q'=q):=by
 refine CallF.of func38 ntmps38 rfl (fun F cs=> ?_)
 refine xo 8 ?_;refine XO.cR call49 (Ws (h.le leA)) ?_;refine XO.pu (Pu.not rfl) ?_;refine oo 1 ?_;refine XO.kt 13 ?_;refine oo 9 ?_;refine XO.cR call49 (Ws (h.le leA)) ?_;refine XO.pu (Pu.not rfl) ?_;refine oo 1 ?_;refine XO.kt 21 ?_;refine oo 1 ?_;refine XO.cR call49 (Vt (p:=n) (h2.le leA)) ?_
 refine XO.pu (Pu.not rfl) ?_;refine ox 3 ?_;refine Zq (q) func38 (Zm results38 rfl) ⟨_,rfl,rfl,rfl⟩
set_option maxHeartbeats 1000000 in
theorem Same_yn {pu:Option Addr}(h:NoS q pt){pp:Nat}(h2:Cl q ⟨n,0,none⟩ (.pointer (some ⟨pp,0,none⟩))):CallF prog G 38 [.pointer (some ⟨n,0,none⟩),.pointer pt] (q) (Ret fun v q'=>v= .bool false∧q'=q):=by
 refine CallF.of func38 ntmps38 rfl (fun F cs=> ?_)
 refine xo 8 ?_;refine XO.cR call49 (Vt (p:=n) (h2.le leA)) ?_
 refine XO.pu (Pu.not rfl) ?_;refine oo 1 ?_;refine H9 13 ?_;refine oo 1 ?_;refine XO.cR call49 (Ws (h.le leA)) ?_;refine XO.pu (Pu.not rfl) ?_;refine ox 2 ?_;refine X.kt 17 ?_;refine xo 4 ?_;refine XO.cR call49 (Vt (p:=n) (h2.le leA)) ?_
 refine XO.pu (Pu.not rfl) ?_;refine oo 1 ?_;refine H9 21 ?_;refine ox 6 ?_;refine Zq (q) func38 (Zm results38 rfl) ⟨_,rfl,rfl,rfl⟩
theorem NoS.drop7 {pt:Option Addr}{A:HP}{σ:StC}{B C:HP}(h:NoS q pt):NoS (A::(Zr σ++(B::C::q))) pt:=h.le (by
 show Le (A::_::_::_::_::B::C::q) q
 exact (Le.drop _ _).trans ((Le.drop _ _).trans ((Le.drop _ _).trans ((Le.drop _ _).trans ((Le.drop _ _).trans ((Le.drop _ _).trans (Le.drop _ _)))))))
theorem gSame_ny {p N:Nat}{F:Fnd}{s:SS}(h:NoS q pt):CallF prog G 38 [.pointer pt,.pointer (some ⟨p,0,none⟩)] (gH p F N s::q) (Ret fun v q'=>v= .bool false∧q'=gH p F N s::q):=
 Rk fun σ pp g e1 e2 hH=>CallF.conv (Le.refl _) (Same_ny (pu:=none) (n:=p) (pp:=pp) h.drop7 clA) (by
  subst e1 e2
  rintro _ _ ⟨_,rfl,rfl,rfl⟩
  exact ⟨_,⟨_,rfl,rfl,rfl⟩,Dk hH []⟩)
theorem gSame_yn {p N:Nat}{F:Fnd}{s:SS}(h:NoS q pt):CallF prog G 38 [.pointer (some ⟨p,0,none⟩),.pointer pt] (gH p F N s::q) (Ret fun v q'=>v= .bool false∧q'=gH p F N s::q):=
 Rk fun σ pp g e1 e2 hH=>CallF.conv (Le.refl _) (Same_yn (pu:=none) (n:=p) (pp:=pp) h.drop7 clA) (by
  subst e1 e2
  rintro _ _ ⟨_,rfl,rfl,rfl⟩
  exact ⟨_,⟨_,rfl,rfl,rfl⟩,Dk hH []⟩)
end
theorem la_info3:(prog.info? 3).map (fun i=>(i.zero,i.size,i.bytes))=some (some (.int .i64 0),1,8):=by kernel_rfl
def J0 (s:ByteArray):Option Fnd:=if 3000<s.size then none else Je (bs s)
theorem R2 {s:ByteArray}{F:Fnd}(h:J0 s=some F):Je (bs s)=some F:=by
 unfold J0 at h
 split at h
 · cases h
 exact h
inductive PrIs (s:ByteArray) (g:FC):Bool→Prop
 |no (h:J0 s=none):PrIs s g false
 |yes (h:J0 s=some g.er):PrIs s g true
abbrev knB:ByteArray:=⟨#[118,97,114,32,120,32,61,32,49,59,32,116,104,114,101,97,100,32,109,97,105,110,32,123,32,120,32,61,32,120,32,43,32,49,59,32,112,114,105,110,116,32,120,59,32,125]⟩
def knE (F:Fnd):Bool:=
 let r:=Yn F.pr (V3 F.pr) [0,0,0]
 r.2.length==2 && ((r.2.getD 1 zE0).outv==2 && (r.2.getD 1 zE0).told && (r.1.outc F.pr).kind==2 && r.1.cells== [2])
def knS:Bool:=match J0 knB with|none=>false|some F=>knE F
theorem knS_ok:knS=true:=by decide+kernel
theorem knS_at: ∃ F,J0 knB=some F∧knE F=true:=by
 have h:=knS_ok
 unfold knS at h
 split at h
 · cases h
 rename_i F hF;exact ⟨F,hF,h⟩
structure KnRun (F:Fnd) (L:List PEv) (s:SS):Prop where
 l: ∃ a b,L= [a,b]∧b.outv=2∧b.told=true
 o:(s.outc F.pr).kind=2
 c:s.cells= [2]
theorem knE_at {F:Fnd}(h:knE F=true):KnRun F (Yn F.pr (V3 F.pr) [0,0,0]).2 (Yn F.pr (V3 F.pr) [0,0,0]).1:=by
 unfold knE at h
 dsimp only at h
 generalize Yn F.pr (V3 F.pr) [0,0,0]=r at h⊢
 obtain ⟨s,L⟩:=r
 simp only [Bool.and_eq_true,beq_iff_eq] at h
 obtain ⟨h1,⟨⟨h2,h3⟩,h4⟩,h5⟩:=h
 refine ⟨?_,h4,h5⟩
 match L,h1 with
 | [a,b],_=>exact ⟨a,b,rfl,h2,h3⟩
section
variable {G:World}{q:List HP}{s:ByteArray}
set_option maxHeartbeats 4000000 in
theorem L8:CallF prog G 13 [.string s] (q) (Ret fun v q'=> ∃ (g:FC) (bb:Bool),v= .tuple [.agg (pgC g).toArray,.bool bb].toArray∧q'=fcM g::q∧PrIs s g bb):=by
 refine CallF.of func13 ntmps13 rfl (fun F cs=> ?_)
 refine xo 2 ?_;refine XO.al zeroValue29 fun n1=> ?_
 refine ox 9 ?_;refine X.part 9 rfl (fun h0=> ?_) (fun h0=> ?_)
 · replace h0:=sp h0;have hp:J0 s=none:=(by unfold J0;rw [if_pos (by omega)])
   refine xo 4 ?_;refine stA ?_;refine ox 2 ?_;refine X.le (q':=fcM FC.z::_) (Kn.add (fun _ _ _=>N2 _)) ?_
   refine Zq (fcM FC.z::q) func13 (Hk results13) ⟨_,rfl,FC.z,false,rfl,rfl,.no hp⟩
 replace h0:=sp h0;have hp:J0 s=Je (bs s):=(by unfold J0;rw [if_neg (by omega)])
 refine xo 5 ?_;refine Zb call43 (Le.refl _) (text_ok (s:=s)) ?_
 rintro _ _ ⟨g,y,z,e,rfl,rfl,hF⟩
 refine oo 4 ?_;refine XO.al zeroValue29 fun n2=> ?_
 refine XO.al zeroValue107 fun n3=> ?_
 refine stA ?_;refine stA ?_;refine oo 4 ?_;refine ldA ?_;refine oo 2 ?_;refine stA ?_;refine ox 2 ?_;refine Zq (fcM g::q) func13 (Hk results13) ⟨_,rfl,g,decide (e=0),rfl,rfl,by cases hx:Je (bs s) with|none=>(rw [hx] at hF;rw [decide_eq_false hF];exact .no (hp.trans hx))|some F=>(rw [hx] at hF;rw [decide_eq_true hF.1];exact .yes (by rw [hF.2];exact hp.trans hx))⟩
set_option maxHeartbeats 8000000 in
theorem known_ok:CallF prog G 14 [] (q) (Ret fun v q'=>v= .bool true∧q'=q):=by
 refine CallF.of func14 ntmps14 rfl (fun F cs=> ?_)
 obtain ⟨F,hF,hE⟩:=knS_at;have hR:=knE_at hE
 refine xo 6 ?_;refine Zb call13 (Le.refl _) (L8 (s:=knB)) ?_
 rintro _ _ ⟨g,bb,rfl,rfl,hP⟩
 obtain ⟨rfl,hg⟩:bb=true∧g.er=F:=(by cases hP with|no h=>(rw [hF] at h;cases h)|yes h=>(rw [hF] at h;exact ⟨rfl,(Option.some.inj h).symm⟩));have hT:=R2 hF;rw [←hg] at hT hR
 refine oo 3 ?_;refine XO.al zeroValue29 fun n1=> ?_
 refine stA ?_;refine oo 4 ?_;refine ldA ?_;refine Vd call15 (Sh (q:= [fcM g]) hT Kn.fc) ?_
 rintro _ _ ⟨p,rfl,rfl⟩ _ e_;simp only [ca,na] at e_;subst e_
 refine oo 9 ?_;refine XO.ef (Yp I64 [0,0,0] underlying22 la_info3 rfl rfl rfl rfl rfl rfl (fun _=>rfl)) ?_
 rintro _ _ ⟨g3,rfl,rfl⟩
 refine Vd call16 (gRun_ok (p:=p) (N:=0) (F:=g.er) (q:= [lsH I64 3 (some ⟨g3,0,none⟩) 3 [0,0,0]]) (picks:= [0,0,0]) (by decide) (Sees.lsH _) (fun k hk=>by simp at hk;omega)) ?_
 rintro _ _ ⟨L,a1,c1,rfl,rfl,hL,hl⟩ _ e_;simp only [ca,na] at e_;subst e_
 simp only [Gl,ca,na]
 obtain ⟨r,r2⟩: ∃ r:SS×List PEv,r=Yn g.er.pr (V3 g.er.pr) [0,0,0]:=⟨_,rfl⟩;rw [←r2] at hR hL⊢;obtain ⟨⟨e0,e1,hl2,ho,ht⟩,hk,hc⟩:=hR;rw [hl2] at hL
 obtain ⟨x0,x1,rfl⟩: ∃ a b,L= [a,b]:=(by match L,hL with| [a,b],_=>exact ⟨a,b,rfl⟩)
 have hx1:x1.e=e1:=(by simp only [List.map_cons,List.map_nil,List.cons.injEq,and_true] at hL;exact hL.2);rw [←hx1] at ho ht
 refine G7 (l:= [x0,x1]) (Nat.zero_lt_succ 1) (fun gb e_=> ?_)
 have hs1: ∀ r,Sees (rsH evC 9 47 a1 c1 [x0,x1]::r) (some ⟨gb,0,none⟩) ([x0,x1].flatMap evC):=fun r=>by rw [←e_];exact Sees.rsH r
 refine oo 3 ?_;refine XO.al zeroValue41 fun n2=> ?_
 refine oo 1 ?_;refine stA ?_;refine oo 5 ?_;refine XO.kt 23 ?_;refine oo 4 ?_;refine XO.kt 27 ?_;refine oo 5 ?_;refine XO.kt 32 ?_;refine oo 1 ?_;refine XO.know 33 (.slice (some ⟨gb,0,none⟩) [x0,x1].length c1) rfl (by rw [←e_]) ?_
 refine oo 2 ?_;refine ld ?_ (hc:=(Cl.row (j:=1) (n:=1) (hs1 _) leA Rv (Nat.lt_succ_self 1) rfl 6 _ rfl))
 refine oo 3 ?_;refine XO.know 39 (.bool true) rfl (congrArg Value.bool (decide_eq_true ho)) ?_;refine oo 1 ?_;refine XO.know 40 (.slice (some ⟨gb,0,none⟩) [x0,x1].length c1) rfl (by rw [←e_]) ?_
 refine oo 2 ?_;refine ld ?_ (hc:=(Cl.row (j:=1) (n:=1) (hs1 _) leA Rv (Nat.lt_succ_self 1) rfl 5 _ rfl))
 refine oo 2 ?_;refine XO.know 45 (.bool true) rfl (congrArg Value.bool (ht)) ?_;refine ol 1 ?_;refine oo 3 ?_;refine XO.know 50 (.bool true) rfl (congrArg Value.bool (decide_eq_true hk)) ?_;refine oo 1 ?_;refine Vd call21 (De (p:=p) (F:=g.er) (N:=0+ [0,0,0].length) (s:=r.1) (q:= [])) ?_
 rintro _ _ ⟨a52,c52,rfl,rfl⟩ _ e_;simp only [ca,na] at e_;subst e_
 rw [hc]
 refine oo 4 ?_;refine XO.kt 56 ?_;refine oo 1 ?_;refine Vd call21 (De (p:=p) (F:=g.er) (N:=0+ [0,0,0].length) (s:=r.1) (q:= [])) ?_
 rintro _ _ ⟨a58,c58,rfl,rfl⟩ _ e_;simp only [ca,na] at e_;subst e_
 rw [hc]
 refine XO.lsadr (a:=a58) (c:=c58) (l:=([2]:List Int)) (Nat.zero_lt_succ 0) (fun gd e2_=> ?_)
 have hs2: ∀ r,Sees (lsH I64 2 a58 c58 [2]::r) (some ⟨gd,0,none⟩) (([2]:List Int).map I64):=fun r=>by rw [←e2_];exact Sees.lsH r
 refine XO.know 58 (.slice (some ⟨gd,0,none⟩) ([2]:List Int).length c58) rfl (by rw [←e2_]) ?_
 refine oo 1 ?_;refine ld ?_ (hc:=(((hs2 _).le leA).at rfl (Nat.zero_lt_succ 0)))
 refine ox 4 ?_;refine Zq (q) func14 (Zm results14 rfl) ⟨_,rfl,rfl,rfl⟩
end
theorem lh_info3:(prog.info? 3).map (fun i=>(i.zero,i.size,i.bytes))=some (some (.int .i64 0),1,8):=by kernel_rfl
abbrev nlB:ByteArray:=⟨#[116,104,114,101,97,100,32,109,97,105,110,32,123,32,125]⟩
def nlS:Bool:=match J0 nlB with|none=>false|some _=>true
theorem nlS_ok:nlS=true:=by decide+kernel
theorem nlS_at:J0 nlB≠none:=fun h=>by
 have k:=nlS_ok
 unfold nlS at k
 rw [h] at k
 cases k
section
variable {G:World}{q:List HP}{n:Int}
set_option maxHeartbeats 8000000 in
theorem Eu:CallF prog G 12 [.int .i64 n] (q) (Ret fun v q'=>v= .bool true∧q'=q):=by
 refine CallF.of func12 ntmps12 rfl (fun F cs=> ?_)
 refine xo 11 ?_;refine Y2 fun n1=> ?_
 refine oo 6 ?_;refine XO.cR call19 (Sa (k:=n) NoS.none) ?_
 refine oo 3 ?_;refine XO.al zeroValue47 fun n2=> ?_
 refine stA ?_;refine oo 6 ?_;refine XO.cR call30 (Do_no (k:=n) ⟨.inr ⟨n1,rfl,by exact clA⟩⟩) ?_
 refine oo 3 ?_;refine XO.al zeroValue47 fun n3=> ?_
 refine stA ?_;refine oo 6 ?_;refine XO.ef (Yp I64 [n] underlying22 lh_info3 rfl rfl rfl rfl rfl rfl (fun _=>rfl)) ?_
 rintro _ _ ⟨g3,rfl,rfl⟩
 refine XO.cR call16 (Run_no (l:= [n]) NoS.none ((Sees.lsH _).le Zk) rfl) ?_
 refine oo 3 ?_;refine XO.al zeroValue41 fun n4=> ?_
 refine oo 1 ?_;refine stA ?_;refine oo 5 ?_;refine XO.cR call39 (Ob (k:=n) ⟨.inr ⟨n1,rfl,by exact clA⟩⟩) ?_
 refine oo 3 ?_;refine XO.al zeroValue101 fun n5=> ?_
 refine stA ?_;refine oo 4 ?_;refine Zb call13 (Le.refl _) (L8 (s:=nlB)) ?_
 rintro _ _ ⟨gF,bb,rfl,rfl,hP⟩
 obtain ⟨rfl,hP2⟩:bb=true∧J0 nlB=some gF.er:=(by cases hP with|no h=>exact absurd h nlS_at|yes h=>exact ⟨rfl,h⟩);have hT:=R2 hP2
 refine oo 3 ?_;refine XO.al zeroValue29 fun n6=> ?_
 refine stA ?_;refine oo 4 ?_;refine ldA ?_;refine Vd call15 (Sh (q:= [fcM gF]) hT Kn.fc) ?_
 rintro _ _ ⟨p,rfl,rfl⟩ _ e_;simp only [ca,na] at e_;subst e_
 refine oo 8 ?_;refine ldA ?_;refine oo 1 ?_;refine XO.know 53 (.agg (evC (evZ 0 0)).toArray) rfl (rfl) ?_;refine XO.know 54 (.agg (evC (evZ 0 0)).toArray) rfl (rfl) ?_;refine XO.cR call27 (Nk (x:=evZ 0 0) (y:=evZ 0 0) rfl (Sees.nil _ _) (Sees.nil _ _) (Sees.nil _ _) (Sees.nil _ _) ⟨Nat.zero_le _,Nat.zero_le _⟩) ?_
 refine oo 1 ?_;refine XO.kt 56 ?_;refine oo 4 ?_;refine XO.kt 60 ?_;refine ldA ?_;refine ldA ?_;refine XO.know 61 (.agg (evC (evZ 0 0)).toArray) rfl (rfl) ?_;refine XO.know 62 (.agg (evC (evZ 0 0)).toArray) rfl (rfl) ?_;refine XO.cR call27 (Nk (x:=evZ 0 0) (y:=evZ 0 0) rfl (Sees.nil _ _) (Sees.nil _ _) (Sees.nil _ _) (Sees.nil _ _) ⟨Nat.zero_le _,Nat.zero_le _⟩) ?_
 refine oo 2 ?_;refine XO.kt 65 ?_;refine oo 4 ?_;refine XO.kt 69 ?_;refine oo 5 ?_;refine XO.kt 74 ?_;refine ldA ?_;refine oo 1 ?_;refine XO.pu (Pu.eqlA rfl rfl (by kernel_rfl) (EqV.struct underlying41 (by kernel_rfl) (by kernel_rfl) ⟨_,_,_,_,rfl,rfl,isAgg38,(EqV.int underlying38 _ _),⟨_,_,_,_,rfl,rfl,isAgg39,(EqV.int underlying39 _ _),⟨_,_,_,_,rfl,rfl,isAgg3,(EqV.int underlying3 _ _),⟨_,_,_,_,rfl,rfl,isAgg3,(EqV.int underlying3 _ _),rfl,rfl⟩,rfl⟩,rfl⟩,rfl⟩)) ?_
 refine oo 2 ?_;refine XO.kt 79 ?_;refine oo 4 ?_;refine XO.kt 83 ?_;refine oo 1 ?_;refine XO.cR call40 (Can_no ⟨.inr ⟨n1,rfl,by exact clA⟩⟩) ?_
 refine oo 4 ?_;refine XO.kt 89 ?_;refine oo 1 ?_;refine XO.cR call41 (Bi NoS.none) ?_;refine oo 3 ?_;refine XO.kt 94 ?_;refine oo 1 ?_;refine XO.cR call21 (Cells_no ⟨.inr ⟨n1,rfl,by exact clA⟩⟩) ?_
 refine oo 4 ?_;refine XO.kt 100 ?_;refine oo 1 ?_;refine XO.cR call37 (Copy_no NoS.none) ?_;refine oo 3 ?_;refine XO.kt 105 ?_;refine oo 1 ?_;refine XO.cR call42 (Sync_no ⟨.inr ⟨n1,rfl,by exact clA⟩⟩) ?_
 refine oo 3 ?_;refine XO.kt 110 ?_;refine oo 2 ?_;refine XO.cR call38 (Same_nn NoS.none ⟨.inr ⟨n1,rfl,by exact clA⟩⟩) ?_
 refine oo 2 ?_;refine XO.kt 115 ?_;refine oo 2 ?_;refine Vd call38 (gSame_ny (q:= []) (p:=p) NoS.none) ?_
 rintro _ _ ⟨rfl,rfl⟩ _ e_;simp only [ca,na] at e_;subst e_
 refine XO.pu (Pu.not rfl) ?_;refine oo 2 ?_;refine XO.kt 121 ?_;refine oo 2 ?_;refine Vd call38 (gSame_yn (q:= [pto n1 (.cells [.pointer none,.slice none 0 0,.pointer none,.slice none 0 0,.int .i64 0,.int .i64 0,.int .i64 0,.int .i64 0].toArray 98 (0,0))]) (p:=p) ⟨.inr ⟨n1,rfl,by exact clA⟩⟩) ?_
 rintro _ _ ⟨rfl,rfl⟩ _ e_;simp only [ca,na] at e_;subst e_
 refine XO.pu (Pu.not rfl) ?_;refine oo 2 ?_;refine XO.kt 127 ?_;refine Vd call14 (known_ok (q:= [])) ?_
 rintro _ _ ⟨rfl,rfl⟩ _ e_;simp only [ca,na] at e_;subst e_
 refine ox 3 ?_;refine Zq (q) func12 (Zm results12 rfl) ⟨_,rfl,rfl,rfl⟩
end
end Go.Proofs.YtflkjkhijcdbaaaGreat
