/- Contracts of functions, proved by walking their code. -/
import Derived.Test.YtgonllbkcgaliaaGreatDoorVj
import Derived.KernelRfl
set_option maxRecDepth 100000
set_option linter.unusedVariables false
set_option linter.unusedSimpArgs false
namespace Go.Proofs.YtgonllbkcgaliaaGreatDoor
open Go Go.RowKit Wx Go.Proofs.Tryz
attribute [local irreducible] Wx.lsH Wx.rsH Wx.stars
section
variable {q:List HP}{f:FC}
theorem FC.At.v {M:Hp}{f:FC}{x:Sv Int}{y:Sv ByteArray}(h:f.At M)(h1:x.At M iC)(h2:y.At M sC):({ f with vars:=x,nv:=y } :FC).At M:=⟨h1,h.arrs,h.chs,h.ths,h.bod,h2,h.na,h.nm,h.nc,h.nh,h.names⟩
theorem FC.At.a {M:Hp}{f:FC}{x:Sv Int}{y:Sv ByteArray}{c:Int}(h:f.At M)(h1:x.At M iC)(h2:y.At M sC):({ f with cells:=c,arrs:=x,na:=y } :FC).At M:=⟨h.vars,h1,h.chs,h.ths,h.bod,h.nv,h2,h.nm,h.nc,h.nh,h.names⟩
theorem FC.At.m {M:Hp}{f:FC}{y:Sv ByteArray}{c:Int}(h:f.At M)(h2:y.At M sC):({ f with mu:=c,nm:=y } :FC).At M:=⟨h.vars,h.arrs,h.chs,h.ths,h.bod,h.nv,h.na,h2,h.nc,h.nh,h.names⟩
theorem FC.At.c {M:Hp}{f:FC}{y:Sv ByteArray}{c:Int}(h:f.At M)(h2:y.At M sC):({ f with co:=c,nc:=y } :FC).At M:=⟨h.vars,h.arrs,h.chs,h.ths,h.bod,h.nv,h.na,h.nm,h2,h.nh,h.names⟩
theorem FC.At.h {M:Hp}{f:FC}{x:Sv Int}{y:Sv ByteArray}(h:f.At M)(h1:x.At M iC)(h2:y.At M sC):({ f with chs:=x,nh:=y } :FC).At M:=⟨h.vars,h.arrs,h1,h.ths,h.bod,h.nv,h.na,h.nm,h.nc,h2,h.names⟩
theorem FC.At.t {M:Hp}{f:FC}{x:Sv Th}(h:f.At M)(h1:x.At M thC)(h2:Ths.At M x.l):({ f with ths:=x } :FC).At M:=⟨h.vars,h.arrs,h.chs,h1,h2,h.nv,h.na,h.nm,h.nc,h.nh,h.names⟩
theorem FC.At.n {M:Hp}{f:FC}{x:Sv Nm}(h:f.At M)(h1:x.At M nmC):({ f with names:=x } :FC).At M:=⟨h.vars,h.arrs,h.chs,h.ths,h.bod,h.nv,h.na,h.nm,h.nc,h.nh,h1⟩
theorem svI {x:Sv Int}(h:Kn q fun M=>x.At M iC):Sees q x.a (x.l.map I64):=by rw [←Kw];exact Sv.sees h
theorem svS {x:Sv ByteArray}(h:Kn q fun M=>x.At M sC):Sees q x.a (x.l.map Value.string):=by rw [←Tl];exact Sv.sees h
end
section
variable {G:World}{q:List HP}{f:FC}{d:Dec}
set_option maxHeartbeats 4000000 in
theorem Pv (h:Kn q fun M=>f.At M)(hb:f.er.le 100000)(hk:1≤d.k∧d.k≤6)(hd: -2147483647≤d.n∧d.n≤2147483647):CallF prog G 99 [.agg (fcC f).toArray,.agg (dcC d).toArray] (q) (Ret fun v q'=> ∃ g:FC,v= .agg (fcC g).toArray∧q'=fcM g::q∧g.er=f.er.decl d.er):=by
 refine CallF.of func99 ntmps99 rfl (fun F cs=> ?_)
 obtain ⟨k,ln,cl,nm,z,body,ba,bc⟩:=d;dsimp only at hk hd;obtain ⟨hb1,hb2,hb3,hb4,hb5,hb6,hb7,hb8,hb9,hb10,⟨hb11,hb12⟩,⟨hb13,hb14⟩,hb15,hb16⟩:=hb;dsimp only [FC.er] at hb1 hb2 hb3 hb4 hb5 hb6 hb7 hb8 hb9 hb10 hb11 hb12 hb13 hb14 hb15 hb16;rw [List.length_map] at hb4
 obtain ⟨R,hR⟩: ∃ R,f.er.decl (Dec.er ⟨k,ln,cl,nm,z,body,ba,bc⟩)=R:=⟨_,rfl⟩;rw [hR]
 obtain ⟨D,hD⟩: ∃ D,f.er.decl1 ⟨k,ln,cl,nm,z,Zk body⟩=D:=⟨_,rfl⟩
 replace hR:(if f.er.at nm≠0 then f.er.fl 130 else if D.2.2=false then D.1 else if 64≤D.1.names.length then D.1.fl 134 else { D.1 with names:=D.1.names++ [⟨nm,k,D.2.1⟩] })=R:=by rw [←hD];exact hR
 refine xo 2 ?_;refine Zb fun n1=> ?_
 refine Zb fun n2=> ?_
 refine Zy zeroValue199 fun n3=> ?_
 refine oo 4 ?_;refine ldA ?_;refine oo 1 ?_;refine ld ?_;refine XO.cR call100 (Sp (f:=f) (h.le leA)) ?_
 refine ox 2 ?_;refine X.part 10 rfl (fun h0=> ?_) (fun h0=> ?_)
 · replace h0:=sp h0;rw [if_pos (show f.er.at nm≠0 by omega)] at hR
   refine xo 3 ?_;refine ldA ?_;refine oo 1 ?_;refine ldA ?_;refine Zh call101 (Le.refl _) (Um (f:=f) (h.le leA)) ?_
   rintro _ _ ⟨g,rfl,rfl,hg⟩
   refine stA ?_;refine ox 1 ?_;refine Zq (fcM g::q) func99 (rA_ results99) ⟨_,rfl,g,rfl,rfl,hg.trans hR⟩
 replace h0:=sp h0;rw [if_neg (show ¬f.er.at nm≠0 by omega)] at hR
 unfold Fnd.decl1 at hD;dsimp only at hD
 refine xo 10 ?_;refine ld ?_;refine ox 1 ?_;refine X.join (fun (x:FC×Int)=> [(5,.int .i64 x.2),(2,.pointer (some ⟨n1,0,none⟩)),(3,.pointer (some ⟨n2,0,none⟩)),(4,.pointer (some ⟨n3,0,none⟩))]) (fun x=>fcM x.1::pto n1 (.cells (fcC x.1).toArray 199 (0,0))::pto n2 (.cells (dcC ⟨k,ln,cl,nm,z,body,ba,bc⟩).toArray 188 (0,0))::pto n3 (.cells [.slice none 0 0,.slice none 0 0,.int .i64 0,.int .i64 0,.slice none 0 0,.slice none 0 0,.int .i64 0,.int .i64 0,.slice none 0 0,.slice none 0 0,.slice none 0 0,.slice none 0 0,.slice none 0 0,.slice none 0 0,.int .i64 0,.int .i64 0,.int .i64 0,.int .i64 0,.int .i64 0,.int .i64 0].toArray 199 (0,0))::(q++F)) (fun x=>D=(x.1.er,x.2,true)∧x.1.names.l.length≤100000) (fun x hx_=> ?_) (fun K=> ?_)
 · obtain ⟨g,n⟩:=x;dsimp only at hx_⊢;obtain ⟨hx1,hx2⟩:=hx_;rw [hx1] at hR;dsimp only at hR;rw [if_neg (show ¬true=false by decide)] at hR
   refine xo 4 ?_;refine ld ?_;refine ox 3 ?_;refine X.part 217 rfl (fun h1=> ?_) (fun h1=> ?_)
   · replace h1:=sp h1;rw [if_pos (show 64≤g.er.names.length by simp only [FC.er];omega)] at hR
     refine xo 3 ?_;refine ldA ?_;refine oo 1 ?_;refine ldA ?_;refine Zh call101 (Le.refl _) (Um (f:=g) knA) ?_
     rintro _ _ ⟨g2,rfl,rfl,hg⟩
     refine stA ?_;refine ox 1 ?_;refine Zq (fcM g2::q) func99 (rA_ results99) ⟨_,rfl,g2,rfl,rfl,hg.trans hR⟩
   replace h1:=sp h1;rw [if_neg (show ¬64≤g.er.names.length by simp only [FC.er];omega)] at hR
   refine xx 3 ?_;refine drw ?_;refine dd [0] ?_;refine ldD 1 ?_;refine dd [3] ?_;refine ldD 4 ?_;refine dd [5] ?_;refine ldD 6 ?_;refine dd [7,8] ?_;refine XD.le (q':=rsH nmC 3 204 none 0 ([])::_) (Wq nmC 3 204 _) ?_
   refine Yy (fl:= [⟨9,231,fun g=> .slice (some ⟨g,0,none⟩) 1 1,fun g=>rsH nmC 3 204 (some ⟨g,0,none⟩) 1 ([⟨nm,k,n⟩])⟩]) ?_
   refine XF.ef 2 ⟨⟨_,rfl,rfl,rfl,rfl,rfl,rfl,fun q=>Ws (u:=⟨nm,k,n⟩) nmC underlying197 Ql rfl rfl (fun _=>rfl) rfl⟩,trivial⟩ (Ez (f:=nmC) (sz:=3) (l:= []) (m:=g.names.l) underlying197 Ql rfl rfl (fun _=>rfl) rfl rfl Zw (Sv.sees (Kn.imp (φ:=fun M=>g.At M) knA fun M h=>h.names)) (fun _=>rfl) (by simp;omega) (by simp;omega)) ?_
   rintro _ _ ⟨aa,ac,rfl,rfl⟩
   refine ⟨hlA,?_⟩
   refine Wv (e0:=⟨9,231,fun g=> .slice (some ⟨g,0,none⟩) 1 1,fun g=>rsH nmC 3 204 (some ⟨g,0,none⟩) 1 ([⟨nm,k,n⟩])⟩) (hnd:=by simp) 9 ⟨⟨_,rfl,rfl,rfl,rfl,rfl,rfl,fun q=>Ws (u:=⟨nm,k,n⟩) nmC underlying197 Ql rfl rfl (fun _=>rfl) rfl⟩,trivial⟩ (fun gl=> ?_)
   change XF _ _ _ _ _ _ _ [] _ _ _ ((231,.slice (some ⟨gl,0,none⟩) 1 1)::_) _ _ (rsH nmC 3 204 (some ⟨gl,0,none⟩) 1 ([⟨nm,k,n⟩])::_)
   refine XF.back ?_
   try rw [List.nil_append]
   refine XD.ef 10 rfl (Z5 (f:=nmC) (l:=g.names.l) (m:= [⟨nm,k,n⟩]) underlying197 Ql rfl rfl (fun _=>rfl) rfl rfl Zw ((Sees.rsH _).le Zw) (fun _=>rfl) (by simp;omega) (by simp;omega)) ?_
   rintro _ _ ⟨ba2,bc2,rfl,rfl⟩
   refine ⟨hlA,?_⟩
   refine dd [11] ?_;refine stD 12 ?_;refine XD.nil ?_;refine xo 2 ?_;refine ldA ?_;refine stA ?_;refine ox 1 ?_;refine E2 ?_;refine X.le (q':=fcM ({ g with names:=⟨g.names.l++ [⟨nm,k,n⟩],ba2,bc2⟩ } :FC)::_) (Kn.add ((Kn.and (φ:=fun M=>g.At M) knA (svK (x:=⟨_,ba2,bc2⟩) (f:=nmC))).imp fun M h=>FC.At.n h.1 h.2)) ?_
   refine Zq (fcM ({ g with names:=⟨g.names.l++ [⟨nm,k,n⟩],ba2,bc2⟩ } :FC)::q) func99 (rA_ results99) ⟨_,rfl, { g with names:=⟨g.names.l++ [⟨nm,k,n⟩],ba2,bc2⟩ },rfl,rfl,hR⟩
 have hcl:k=1∨k=2∨k=3∨k=4∨k=5∨k=6:=by omega
 rcases hcl with rfl|rfl|rfl|rfl|rfl|rfl
 · rw [if_pos rfl] at hD
   refine xx 6 ?_;refine X.kt 17 ?_;refine xo 5 ?_;refine ld ?_;refine oo 7 ?_;refine ld ?_;refine oo 2 ?_;refine Zf [26,5,4,3,2] ?_
   apply Zx 4 30 26 rfl
   · intro g1 M1;have h1:=sp g1
     refine oo 1 ?_;refine ld ?_;refine oo 2 ?_;exact Zz M1 ⟨orF g1,Zv⟩
   · intro g1 M1;have h1:=sp g1
     refine oo 4 ?_;exact Zz M1 ⟨orT g1,Zv⟩
   refine ox 1 ?_;refine X.part 30 rfl (fun h1=> ?_) (fun h1=> ?_)
   · replace h1:=sp h1
     refine xo 3 ?_;refine ldA ?_;refine oo 1 ?_;refine ldA ?_;refine Zh call101 (Le.refl _) (Um (f:=f) (h.le leA)) ?_
     rintro _ _ ⟨g,rfl,rfl,hg⟩
     refine stA ?_;refine ox 1 ?_
     rw [if_pos (by omega)] at hD;rw [←hD,if_pos rfl] at hR
     refine Zq (fcM g::q) func99 (rA_ results99) ⟨_,rfl,g,rfl,rfl,hg.trans hR⟩
   replace h1:=sp h1
   refine xx 3 ?_;refine drw ?_;refine dd [0,1] ?_;refine ldD 2 ?_;refine dd [4] ?_;refine ldD 5 ?_;refine XD.le (q':=lsH I64 2 none 0 ([])::_) (Yw _ _ _) ?_
   refine Yy (fl:= [⟨6,41,fun g=> .slice (some ⟨g,0,none⟩) 1 1,fun g=>lsH I64 2 (some ⟨g,0,none⟩) 1 ([z])⟩]) ?_
   refine XF.ef 3 ⟨⟨_,rfl,rfl,rfl,rfl,rfl,rfl,fun q=>Yj I64 [z] underlying22 E5 rfl rfl rfl rfl rfl rfl (fun _=>rfl)⟩,trivial⟩ (Kk (fe:=I64) (l:= []) (m:=f.vars.l) underlying22 E5 rfl rfl rfl Zw (svI (Kn.le (h.imp fun M h=>h.vars))) (fun _=>rfl) (by simp;omega) (by simp;omega)) ?_
   rintro _ _ ⟨aaa,aca,rfl,rfl⟩
   refine ⟨hlA,?_⟩
   refine Wv (e0:=⟨6,41,fun g=> .slice (some ⟨g,0,none⟩) 1 1,fun g=>lsH I64 2 (some ⟨g,0,none⟩) 1 ([z])⟩) (hnd:=by simp) 6 ⟨⟨_,rfl,rfl,rfl,rfl,rfl,rfl,fun q=>Yj I64 [z] underlying22 E5 rfl rfl rfl rfl rfl rfl (fun _=>rfl)⟩,trivial⟩ (fun gla=> ?_)
   change XF _ _ _ _ _ _ _ [] _ _ _ ((41,.slice (some ⟨gla,0,none⟩) 1 1)::_) _ _ (lsH I64 2 (some ⟨gla,0,none⟩) 1 ([z])::_)
   refine XF.back ?_
   try rw [List.nil_append]
   refine XD.ef 7 rfl (Yt (f:=I64) (l:=f.vars.l) (m:= [z]) underlying22 E5 rfl rfl rfl Zw ((Sees.lsH _).le Zw) (fun _=>rfl) (by simp;omega) (by simp;omega)) ?_
   rintro _ _ ⟨ba2a,bc2a,rfl,rfl⟩
   refine ⟨hlA,?_⟩
   refine dd [8,9] ?_;refine stD 10 ?_;refine XD.nil ?_;refine drw ?_;refine dd [0,1,2] ?_;refine ldD 3 ?_;refine dd [5] ?_;refine ldD 6 ?_;refine XD.le (q':=lsH Value.string 9 none 0 ([])::_) (Yw _ _ _) ?_
   refine Yy (fl:= [⟨7,52,fun g=> .slice (some ⟨g,0,none⟩) 1 1,fun g=>lsH Value.string 9 (some ⟨g,0,none⟩) 1 ([nm])⟩]) ?_
   refine XF.ef 4 ⟨⟨_,rfl,rfl,rfl,rfl,rfl,rfl,fun q=>Yj Value.string [nm] underlying55 W4 rfl rfl rfl rfl rfl rfl (fun _=>rfl)⟩,trivial⟩ (Kk (fe:=Value.string) (l:= []) (m:=f.nv.l) underlying55 W4 rfl rfl rfl Zw (svS (Kn.le (h.imp fun M h=>h.nv))) (fun _=>rfl) (by simp;omega) (by simp;omega)) ?_
   rintro _ _ ⟨aab,acb,rfl,rfl⟩
   refine ⟨hlA,?_⟩
   refine Wv (e0:=⟨7,52,fun g=> .slice (some ⟨g,0,none⟩) 1 1,fun g=>lsH Value.string 9 (some ⟨g,0,none⟩) 1 ([nm])⟩) (hnd:=by simp) 7 ⟨⟨_,rfl,rfl,rfl,rfl,rfl,rfl,fun q=>Yj Value.string [nm] underlying55 W4 rfl rfl rfl rfl rfl rfl (fun _=>rfl)⟩,trivial⟩ (fun glb=> ?_)
   change XF _ _ _ _ _ _ _ [] _ _ _ ((52,.slice (some ⟨glb,0,none⟩) 1 1)::_) _ _ (lsH Value.string 9 (some ⟨glb,0,none⟩) 1 ([nm])::_)
   refine XF.back ?_
   try rw [List.nil_append]
   refine XD.ef 8 rfl (Yt (f:=Value.string) (l:=f.nv.l) (m:= [nm]) underlying55 W4 rfl rfl rfl Zw ((Sees.lsH _).le Zw) (fun _=>rfl) (by simp;omega) (by simp;omega)) ?_
   rintro _ _ ⟨ba2b,bc2b,rfl,rfl⟩
   refine ⟨hlA,?_⟩
   refine dd [9,10,11] ?_;refine stD 12 ?_;refine XD.nil ?_;refine xx 1 ?_
   rw [if_neg (by omega)] at hD
   refine Nk (f':=iC) (fe:=I64) Kw ?_
   refine Nk (f':=sC) (fe:=Value.string) Tl ?_
   refine X.le (q':=fcM ({ f with vars:=⟨f.vars.l++ [z],ba2a,bc2a⟩,nv:=⟨f.nv.l++ [nm],ba2b,bc2b⟩ } :FC)::_) (Kn.add ((Kn.and (Kn.le h) (Kn.and (svK (x:=⟨f.vars.l++ [z],ba2a,bc2a⟩) (f:=iC)) (svK (x:=⟨f.nv.l++ [nm],ba2b,bc2b⟩) (f:=sC)))).imp fun M h=>FC.At.v h.1 h.2.1 h.2.2)) ?_
   exact X.at (K (({ f with vars:=⟨f.vars.l++ [z],ba2a,bc2a⟩,nv:=⟨f.nv.l++ [nm],ba2b,bc2b⟩ } :FC),(f.vars.l.length:Int)) ⟨by first|(rw [←hD];done)|(rw [←hD];rfl)|(rw [←hD];simp only [FC.er,List.map_append,List.length_map];done)|(rw [←hD];simp only [FC.er,List.map_append,List.length_map];rfl),hb10⟩) Zt leA
 · rw [if_neg (by decide),if_pos rfl] at hD
   rw [show f.er.cells=f.cells from rfl] at hD
   refine xx 6 ?_;refine Zj 17 ?_;refine xx 6 ?_;refine X.kt 57 ?_;refine xo 5 ?_;refine ld ?_;refine oo 7 ?_;refine ld ?_;refine oo 2 ?_;refine Zf [66,5,4,3,2] ?_
   apply Zx 4 70 66 rfl
   · intro g1 M1;have h1:=sp g1
     refine oo 1 ?_;refine ld ?_;refine oo 2 ?_;exact Zz M1 ⟨orF g1,Zv⟩
   · intro g1 M1;have h1:=sp g1
     refine oo 4 ?_;exact Zz M1 ⟨orT g1,Zv⟩
   refine oo 1 ?_;refine Zf [71,5,4,3,2] ?_
   apply Zx 7 78 71 rfl
   · intro g1 M1;have h1:=sp g1
     refine oo 1 ?_;refine ld ?_;refine oo 1 ?_;refine ld ?_;refine oo 3 ?_;exact Zz M1 ⟨orF g1,Zv⟩
   · intro g1 M1;have h1:=sp g1
     refine oo 7 ?_;exact Zz M1 ⟨orT g1,Zv⟩
   refine ox 1 ?_;refine X.part 78 rfl (fun h1=> ?_) (fun h1=> ?_)
   · replace h1:=sp h1
     refine xo 3 ?_;refine ldA ?_;refine oo 1 ?_;refine ldA ?_;refine Zh call101 (Le.refl _) (Um (f:=f) (h.le leA)) ?_
     rintro _ _ ⟨g,rfl,rfl,hg⟩
     refine stA ?_;refine ox 1 ?_
     rw [if_pos (by omega)] at hD;rw [←hD,if_pos rfl] at hR
     refine Zq (fcM g::q) func99 (rA_ results99) ⟨_,rfl,g,rfl,rfl,hg.trans hR⟩
   replace h1:=sp h1
   refine xo 5 ?_;refine ld ?_;refine oo 1 ?_;refine ld ?_;refine oo 2 ?_;refine st ?_;refine ox 2 ?_;refine drw ?_;refine dd [0,1] ?_;refine ldD 2 ?_;refine dd [4] ?_;refine ldD 5 ?_;refine XD.le (q':=lsH I64 3 none 0 ([])::_) (Yw _ _ _) ?_
   refine Yy (fl:= [⟨6,95,fun g=> .slice (some ⟨g,0,none⟩) 1 1,fun g=>lsH I64 3 (some ⟨g,0,none⟩) 1 ([z])⟩]) ?_
   refine XF.ef 3 ⟨⟨_,rfl,rfl,rfl,rfl,rfl,rfl,fun q=>Yj I64 [z] underlying23 U3 rfl rfl rfl rfl rfl rfl (fun _=>rfl)⟩,trivial⟩ (Kk (fe:=I64) (l:= []) (m:=f.arrs.l) underlying23 U3 rfl rfl rfl Zw (svI (Kn.le (h.imp fun M h=>h.arrs))) (fun _=>rfl) (by simp;omega) (by simp;omega)) ?_
   rintro _ _ ⟨aaa,aca,rfl,rfl⟩
   refine ⟨hlA,?_⟩
   refine Wv (e0:=⟨6,95,fun g=> .slice (some ⟨g,0,none⟩) 1 1,fun g=>lsH I64 3 (some ⟨g,0,none⟩) 1 ([z])⟩) (hnd:=by simp) 6 ⟨⟨_,rfl,rfl,rfl,rfl,rfl,rfl,fun q=>Yj I64 [z] underlying23 U3 rfl rfl rfl rfl rfl rfl (fun _=>rfl)⟩,trivial⟩ (fun gla=> ?_)
   change XF _ _ _ _ _ _ _ [] _ _ _ ((95,.slice (some ⟨gla,0,none⟩) 1 1)::_) _ _ (lsH I64 3 (some ⟨gla,0,none⟩) 1 ([z])::_)
   refine XF.back ?_
   try rw [List.nil_append]
   refine XD.ef 7 rfl (Yt (f:=I64) (l:=f.arrs.l) (m:= [z]) underlying23 U3 rfl rfl rfl Zw ((Sees.lsH _).le Zw) (fun _=>rfl) (by simp;omega) (by simp;omega)) ?_
   rintro _ _ ⟨ba2a,bc2a,rfl,rfl⟩
   refine ⟨hlA,?_⟩
   refine dd [8,9] ?_;refine stD 10 ?_;refine XD.nil ?_;refine drw ?_;refine dd [0,1,2] ?_;refine ldD 3 ?_;refine dd [5] ?_;refine ldD 6 ?_;refine XD.le (q':=lsH Value.string 9 none 0 ([])::_) (Yw _ _ _) ?_
   refine Yy (fl:= [⟨7,106,fun g=> .slice (some ⟨g,0,none⟩) 1 1,fun g=>lsH Value.string 9 (some ⟨g,0,none⟩) 1 ([nm])⟩]) ?_
   refine XF.ef 4 ⟨⟨_,rfl,rfl,rfl,rfl,rfl,rfl,fun q=>Yj Value.string [nm] underlying55 W4 rfl rfl rfl rfl rfl rfl (fun _=>rfl)⟩,trivial⟩ (Kk (fe:=Value.string) (l:= []) (m:=f.na.l) underlying55 W4 rfl rfl rfl Zw (svS (Kn.le (h.imp fun M h=>h.na))) (fun _=>rfl) (by simp;omega) (by simp;omega)) ?_
   rintro _ _ ⟨aab,acb,rfl,rfl⟩
   refine ⟨hlA,?_⟩
   refine Wv (e0:=⟨7,106,fun g=> .slice (some ⟨g,0,none⟩) 1 1,fun g=>lsH Value.string 9 (some ⟨g,0,none⟩) 1 ([nm])⟩) (hnd:=by simp) 7 ⟨⟨_,rfl,rfl,rfl,rfl,rfl,rfl,fun q=>Yj Value.string [nm] underlying55 W4 rfl rfl rfl rfl rfl rfl (fun _=>rfl)⟩,trivial⟩ (fun glb=> ?_)
   change XF _ _ _ _ _ _ _ [] _ _ _ ((106,.slice (some ⟨glb,0,none⟩) 1 1)::_) _ _ (lsH Value.string 9 (some ⟨glb,0,none⟩) 1 ([nm])::_)
   refine XF.back ?_
   try rw [List.nil_append]
   refine XD.ef 8 rfl (Yt (f:=Value.string) (l:=f.na.l) (m:= [nm]) underlying55 W4 rfl rfl rfl Zw ((Sees.lsH _).le Zw) (fun _=>rfl) (by simp;omega) (by simp;omega)) ?_
   rintro _ _ ⟨ba2b,bc2b,rfl,rfl⟩
   refine ⟨hlA,?_⟩
   refine dd [9,10,11] ?_;refine stD 12 ?_;refine XD.nil ?_;refine xx 1 ?_
   rw [if_neg (by omega)] at hD
   refine Nk (f':=iC) (fe:=I64) Kw ?_
   refine Nk (f':=sC) (fe:=Value.string) Tl ?_
   refine X.le (q':=fcM ({ f with cells:=f.cells+z,arrs:=⟨f.arrs.l++ [z],ba2a,bc2a⟩,na:=⟨f.na.l++ [nm],ba2b,bc2b⟩ } :FC)::_) (Kn.add ((Kn.and (Kn.le h) (Kn.and (svK (x:=⟨f.arrs.l++ [z],ba2a,bc2a⟩) (f:=iC)) (svK (x:=⟨f.na.l++ [nm],ba2b,bc2b⟩) (f:=sC)))).imp fun M h=>FC.At.a h.1 h.2.1 h.2.2)) ?_
   exact X.at (K (({ f with cells:=f.cells+z,arrs:=⟨f.arrs.l++ [z],ba2a,bc2a⟩,na:=⟨f.na.l++ [nm],ba2b,bc2b⟩ } :FC),(f.arrs.l.length:Int)) ⟨by first|(rw [←hD];done)|(rw [←hD];rfl)|(rw [←hD];simp only [FC.er,List.map_append,List.length_map];done)|(rw [←hD];simp only [FC.er,List.map_append,List.length_map];rfl),hb10⟩) Zt leA
 · rw [if_neg (by decide),if_neg (by decide),if_pos rfl] at hD
   refine xx 6 ?_;refine Zj 17 ?_;refine xx 6 ?_;refine Zj 57 ?_;refine xx 6 ?_;refine X.kt 111 ?_;refine xo 5 ?_;refine ld ?_;refine oo 6 ?_;refine ld ?_;refine oo 3 ?_;refine st ?_;refine ox 1 ?_;refine drw ?_;refine dd [0,1,2] ?_;refine ldD 3 ?_;refine dd [5] ?_;refine ldD 6 ?_;refine XD.le (q':=lsH Value.string 9 none 0 ([])::_) (Yw _ _ _) ?_
   refine Yy (fl:= [⟨7,129,fun g=> .slice (some ⟨g,0,none⟩) 1 1,fun g=>lsH Value.string 9 (some ⟨g,0,none⟩) 1 ([nm])⟩]) ?_
   refine XF.ef 4 ⟨⟨_,rfl,rfl,rfl,rfl,rfl,rfl,fun q=>Yj Value.string [nm] underlying55 W4 rfl rfl rfl rfl rfl rfl (fun _=>rfl)⟩,trivial⟩ (Kk (fe:=Value.string) (l:= []) (m:=f.nm.l) underlying55 W4 rfl rfl rfl Zw (svS (Kn.le (h.imp fun M h=>h.nm))) (fun _=>rfl) (by simp;omega) (by simp;omega)) ?_
   rintro _ _ ⟨aaa,aca,rfl,rfl⟩
   refine ⟨hlA,?_⟩
   refine Wv (e0:=⟨7,129,fun g=> .slice (some ⟨g,0,none⟩) 1 1,fun g=>lsH Value.string 9 (some ⟨g,0,none⟩) 1 ([nm])⟩) (hnd:=by simp) 7 ⟨⟨_,rfl,rfl,rfl,rfl,rfl,rfl,fun q=>Yj Value.string [nm] underlying55 W4 rfl rfl rfl rfl rfl rfl (fun _=>rfl)⟩,trivial⟩ (fun gla=> ?_)
   change XF _ _ _ _ _ _ _ [] _ _ _ ((129,.slice (some ⟨gla,0,none⟩) 1 1)::_) _ _ (lsH Value.string 9 (some ⟨gla,0,none⟩) 1 ([nm])::_)
   refine XF.back ?_
   try rw [List.nil_append]
   refine XD.ef 8 rfl (Yt (f:=Value.string) (l:=f.nm.l) (m:= [nm]) underlying55 W4 rfl rfl rfl Zw ((Sees.lsH _).le Zw) (fun _=>rfl) (by simp;omega) (by simp;omega)) ?_
   rintro _ _ ⟨ba2a,bc2a,rfl,rfl⟩
   refine ⟨hlA,?_⟩
   refine dd [9,10,11] ?_;refine stD 12 ?_;refine XD.nil ?_;refine xx 1 ?_;refine Nk (f':=sC) (fe:=Value.string) Tl ?_
   refine X.le (q':=fcM ({ f with mu:=f.mu+1,nm:=⟨f.nm.l++ [nm],ba2a,bc2a⟩ } :FC)::_) (Kn.add ((Kn.and (Kn.le h) (svK (x:=⟨f.nm.l++ [nm],ba2a,bc2a⟩) (f:=sC))).imp fun M h=>FC.At.m h.1 h.2)) ?_
   exact X.at (K (({ f with mu:=f.mu+1,nm:=⟨f.nm.l++ [nm],ba2a,bc2a⟩ } :FC),(f.mu:Int)) ⟨by first|(rw [←hD];done)|(rw [←hD];rfl)|(rw [←hD];simp only [FC.er,List.map_append,List.length_map];done)|(rw [←hD];simp only [FC.er,List.map_append,List.length_map];rfl),hb10⟩) Zt leA
 · rw [if_neg (by decide),if_neg (by decide),if_neg (by decide),if_pos rfl] at hD
   refine xx 6 ?_;refine Zj 17 ?_;refine xx 6 ?_;refine Zj 57 ?_;refine xx 6 ?_;refine Zj 111 ?_;refine xx 6 ?_;refine X.kt 134 ?_;refine xo 5 ?_;refine ld ?_;refine oo 6 ?_;refine ld ?_;refine oo 3 ?_;refine st ?_;refine ox 1 ?_;refine drw ?_;refine dd [0,1,2] ?_;refine ldD 3 ?_;refine dd [5] ?_;refine ldD 6 ?_;refine XD.le (q':=lsH Value.string 9 none 0 ([])::_) (Yw _ _ _) ?_
   refine Yy (fl:= [⟨7,152,fun g=> .slice (some ⟨g,0,none⟩) 1 1,fun g=>lsH Value.string 9 (some ⟨g,0,none⟩) 1 ([nm])⟩]) ?_
   refine XF.ef 4 ⟨⟨_,rfl,rfl,rfl,rfl,rfl,rfl,fun q=>Yj Value.string [nm] underlying55 W4 rfl rfl rfl rfl rfl rfl (fun _=>rfl)⟩,trivial⟩ (Kk (fe:=Value.string) (l:= []) (m:=f.nc.l) underlying55 W4 rfl rfl rfl Zw (svS (Kn.le (h.imp fun M h=>h.nc))) (fun _=>rfl) (by simp;omega) (by simp;omega)) ?_
   rintro _ _ ⟨aaa,aca,rfl,rfl⟩
   refine ⟨hlA,?_⟩
   refine Wv (e0:=⟨7,152,fun g=> .slice (some ⟨g,0,none⟩) 1 1,fun g=>lsH Value.string 9 (some ⟨g,0,none⟩) 1 ([nm])⟩) (hnd:=by simp) 7 ⟨⟨_,rfl,rfl,rfl,rfl,rfl,rfl,fun q=>Yj Value.string [nm] underlying55 W4 rfl rfl rfl rfl rfl rfl (fun _=>rfl)⟩,trivial⟩ (fun gla=> ?_)
   change XF _ _ _ _ _ _ _ [] _ _ _ ((152,.slice (some ⟨gla,0,none⟩) 1 1)::_) _ _ (lsH Value.string 9 (some ⟨gla,0,none⟩) 1 ([nm])::_)
   refine XF.back ?_
   try rw [List.nil_append]
   refine XD.ef 8 rfl (Yt (f:=Value.string) (l:=f.nc.l) (m:= [nm]) underlying55 W4 rfl rfl rfl Zw ((Sees.lsH _).le Zw) (fun _=>rfl) (by simp;omega) (by simp;omega)) ?_
   rintro _ _ ⟨ba2a,bc2a,rfl,rfl⟩
   refine ⟨hlA,?_⟩
   refine dd [9,10,11] ?_;refine stD 12 ?_;refine XD.nil ?_;refine xx 1 ?_;refine Nk (f':=sC) (fe:=Value.string) Tl ?_
   refine X.le (q':=fcM ({ f with co:=f.co+1,nc:=⟨f.nc.l++ [nm],ba2a,bc2a⟩ } :FC)::_) (Kn.add ((Kn.and (Kn.le h) (svK (x:=⟨f.nc.l++ [nm],ba2a,bc2a⟩) (f:=sC))).imp fun M h=>FC.At.c h.1 h.2)) ?_
   exact X.at (K (({ f with co:=f.co+1,nc:=⟨f.nc.l++ [nm],ba2a,bc2a⟩ } :FC),(f.co:Int)) ⟨by first|(rw [←hD];done)|(rw [←hD];rfl)|(rw [←hD];simp only [FC.er,List.map_append,List.length_map];done)|(rw [←hD];simp only [FC.er,List.map_append,List.length_map];rfl),hb10⟩) Zt leA
 · rw [if_neg (by decide),if_neg (by decide),if_neg (by decide),if_neg (by decide),if_pos rfl] at hD
   refine xx 6 ?_;refine Zj 17 ?_;refine xx 6 ?_;refine Zj 57 ?_;refine xx 6 ?_;refine Zj 111 ?_;refine xx 6 ?_;refine Zj 134 ?_;refine xx 6 ?_;refine X.kt 157 ?_;refine xo 5 ?_;refine ld ?_;refine oo 7 ?_;refine ld ?_;refine oo 2 ?_;refine Zf [166,5,4,3,2] ?_
   apply Zx 4 170 166 rfl
   · intro g1 M1;have h1:=sp g1
     refine oo 1 ?_;refine ld ?_;refine oo 2 ?_;exact Zz M1 ⟨orF g1,Zv⟩
   · intro g1 M1;have h1:=sp g1
     refine oo 4 ?_;exact Zz M1 ⟨orT g1,Zv⟩
   refine ox 1 ?_;refine X.part 170 rfl (fun h1=> ?_) (fun h1=> ?_)
   · replace h1:=sp h1
     refine xo 3 ?_;refine ldA ?_;refine oo 1 ?_;refine ldA ?_;refine Zh call101 (Le.refl _) (Um (f:=f) (h.le leA)) ?_
     rintro _ _ ⟨g,rfl,rfl,hg⟩
     refine stA ?_;refine ox 1 ?_
     rw [if_pos (by omega)] at hD;rw [←hD,if_pos rfl] at hR
     refine Zq (fcM g::q) func99 (rA_ results99) ⟨_,rfl,g,rfl,rfl,hg.trans hR⟩
   replace h1:=sp h1
   refine xx 3 ?_;refine drw ?_;refine dd [0,1] ?_;refine ldD 2 ?_;refine dd [4] ?_;refine ldD 5 ?_;refine XD.le (q':=lsH I64 3 none 0 ([])::_) (Yw _ _ _) ?_
   refine Yy (fl:= [⟨6,181,fun g=> .slice (some ⟨g,0,none⟩) 1 1,fun g=>lsH I64 3 (some ⟨g,0,none⟩) 1 ([z])⟩]) ?_
   refine XF.ef 3 ⟨⟨_,rfl,rfl,rfl,rfl,rfl,rfl,fun q=>Yj I64 [z] underlying23 U3 rfl rfl rfl rfl rfl rfl (fun _=>rfl)⟩,trivial⟩ (Kk (fe:=I64) (l:= []) (m:=f.chs.l) underlying23 U3 rfl rfl rfl Zw (svI (Kn.le (h.imp fun M h=>h.chs))) (fun _=>rfl) (by simp;omega) (by simp;omega)) ?_
   rintro _ _ ⟨aaa,aca,rfl,rfl⟩
   refine ⟨hlA,?_⟩
   refine Wv (e0:=⟨6,181,fun g=> .slice (some ⟨g,0,none⟩) 1 1,fun g=>lsH I64 3 (some ⟨g,0,none⟩) 1 ([z])⟩) (hnd:=by simp) 6 ⟨⟨_,rfl,rfl,rfl,rfl,rfl,rfl,fun q=>Yj I64 [z] underlying23 U3 rfl rfl rfl rfl rfl rfl (fun _=>rfl)⟩,trivial⟩ (fun gla=> ?_)
   change XF _ _ _ _ _ _ _ [] _ _ _ ((181,.slice (some ⟨gla,0,none⟩) 1 1)::_) _ _ (lsH I64 3 (some ⟨gla,0,none⟩) 1 ([z])::_)
   refine XF.back ?_
   try rw [List.nil_append]
   refine XD.ef 7 rfl (Yt (f:=I64) (l:=f.chs.l) (m:= [z]) underlying23 U3 rfl rfl rfl Zw ((Sees.lsH _).le Zw) (fun _=>rfl) (by simp;omega) (by simp;omega)) ?_
   rintro _ _ ⟨ba2a,bc2a,rfl,rfl⟩
   refine ⟨hlA,?_⟩
   refine dd [8,9] ?_;refine stD 10 ?_;refine XD.nil ?_;refine drw ?_;refine dd [0,1,2] ?_;refine ldD 3 ?_;refine dd [5] ?_;refine ldD 6 ?_;refine XD.le (q':=lsH Value.string 9 none 0 ([])::_) (Yw _ _ _) ?_
   refine Yy (fl:= [⟨7,192,fun g=> .slice (some ⟨g,0,none⟩) 1 1,fun g=>lsH Value.string 9 (some ⟨g,0,none⟩) 1 ([nm])⟩]) ?_
   refine XF.ef 4 ⟨⟨_,rfl,rfl,rfl,rfl,rfl,rfl,fun q=>Yj Value.string [nm] underlying55 W4 rfl rfl rfl rfl rfl rfl (fun _=>rfl)⟩,trivial⟩ (Kk (fe:=Value.string) (l:= []) (m:=f.nh.l) underlying55 W4 rfl rfl rfl Zw (svS (Kn.le (h.imp fun M h=>h.nh))) (fun _=>rfl) (by simp;omega) (by simp;omega)) ?_
   rintro _ _ ⟨aab,acb,rfl,rfl⟩
   refine ⟨hlA,?_⟩
   refine Wv (e0:=⟨7,192,fun g=> .slice (some ⟨g,0,none⟩) 1 1,fun g=>lsH Value.string 9 (some ⟨g,0,none⟩) 1 ([nm])⟩) (hnd:=by simp) 7 ⟨⟨_,rfl,rfl,rfl,rfl,rfl,rfl,fun q=>Yj Value.string [nm] underlying55 W4 rfl rfl rfl rfl rfl rfl (fun _=>rfl)⟩,trivial⟩ (fun glb=> ?_)
   change XF _ _ _ _ _ _ _ [] _ _ _ ((192,.slice (some ⟨glb,0,none⟩) 1 1)::_) _ _ (lsH Value.string 9 (some ⟨glb,0,none⟩) 1 ([nm])::_)
   refine XF.back ?_
   try rw [List.nil_append]
   refine XD.ef 8 rfl (Yt (f:=Value.string) (l:=f.nh.l) (m:= [nm]) underlying55 W4 rfl rfl rfl Zw ((Sees.lsH _).le Zw) (fun _=>rfl) (by simp;omega) (by simp;omega)) ?_
   rintro _ _ ⟨ba2b,bc2b,rfl,rfl⟩
   refine ⟨hlA,?_⟩
   refine dd [9,10,11] ?_;refine stD 12 ?_;refine XD.nil ?_;refine xx 1 ?_
   rw [if_neg (by omega)] at hD
   refine Nk (f':=iC) (fe:=I64) Kw ?_
   refine Nk (f':=sC) (fe:=Value.string) Tl ?_
   refine X.le (q':=fcM ({ f with chs:=⟨f.chs.l++ [z],ba2a,bc2a⟩,nh:=⟨f.nh.l++ [nm],ba2b,bc2b⟩ } :FC)::_) (Kn.add ((Kn.and (Kn.le h) (Kn.and (svK (x:=⟨f.chs.l++ [z],ba2a,bc2a⟩) (f:=iC)) (svK (x:=⟨f.nh.l++ [nm],ba2b,bc2b⟩) (f:=sC)))).imp fun M h=>FC.At.h h.1 h.2.1 h.2.2)) ?_
   exact X.at (K (({ f with chs:=⟨f.chs.l++ [z],ba2a,bc2a⟩,nh:=⟨f.nh.l++ [nm],ba2b,bc2b⟩ } :FC),(f.chs.l.length:Int)) ⟨by first|(rw [←hD];done)|(rw [←hD];rfl)|(rw [←hD];simp only [FC.er,List.map_append,List.length_map];done)|(rw [←hD];simp only [FC.er,List.map_append,List.length_map];rfl),hb10⟩) Zt leA
 rw [if_neg (by decide),if_neg (by decide),if_neg (by decide),if_neg (by decide),if_neg (by decide),if_pos rfl] at hD
 refine xx 6 ?_;refine Zj 17 ?_;refine xx 6 ?_;refine Zj 57 ?_;refine xx 6 ?_;refine Zj 111 ?_;refine xx 6 ?_;refine Zj 134 ?_;refine xx 6 ?_;refine Zj 157 ?_;refine xx 6 ?_;refine X.kt 197 ?_;refine xo 5 ?_;refine ld ?_;refine ox 3 ?_;refine drw ?_;refine dd [0,1] ?_;refine ldD 2 ?_;refine dd [4] ?_;refine ldD 5 ?_;refine dd [6] ?_;refine XD.le (q':=rsH thC 3 105 none 0 ([])::_) (Wq thC 3 105 _) ?_
 refine Yy (fl:= [⟨7,210,fun g=> .slice (some ⟨g,0,none⟩) 1 1,fun g=>rsH thC 3 105 (some ⟨g,0,none⟩) 1 ([⟨nm,0, [],none,0⟩])⟩]) ?_
 refine XF.ef 3 ⟨⟨_,rfl,rfl,rfl,rfl,rfl,rfl,fun q=>Ws (u:=⟨nm,0, [],none,0⟩) thC underlying54 Hs rfl rfl (fun _=>rfl) rfl⟩,trivial⟩ (Ez (f:=thC) (sz:=3) (l:= []) (m:=f.ths.l) underlying54 Hs rfl rfl (fun _=>rfl) rfl rfl Zw (Sv.sees (Kn.le (h.imp fun M h=>h.ths))) (fun _=>rfl) (by simp;omega) (by simp;omega)) ?_
 rintro _ _ ⟨aaa,aca,rfl,rfl⟩
 refine ⟨hlA,?_⟩
 refine Wv (e0:=⟨7,210,fun g=> .slice (some ⟨g,0,none⟩) 1 1,fun g=>rsH thC 3 105 (some ⟨g,0,none⟩) 1 ([⟨nm,0, [],none,0⟩])⟩) (hnd:=by simp) 7 ⟨⟨_,rfl,rfl,rfl,rfl,rfl,rfl,fun q=>Ws (u:=⟨nm,0, [],none,0⟩) thC underlying54 Hs rfl rfl (fun _=>rfl) rfl⟩,trivial⟩ (fun gla=> ?_)
 change XF _ _ _ _ _ _ _ [] _ _ _ ((210,.slice (some ⟨gla,0,none⟩) 1 1)::_) _ _ (rsH thC 3 105 (some ⟨gla,0,none⟩) 1 ([⟨nm,0, [],none,0⟩])::_)
 refine XF.back ?_
 try rw [List.nil_append]
 refine XD.ef 8 rfl (Z5 (f:=thC) (l:=f.ths.l) (m:= [⟨nm,0, [],none,0⟩]) underlying54 Hs rfl rfl (fun _=>rfl) rfl rfl Zw ((Sees.rsH _).le Zw) (fun _=>rfl) (by simp;omega) (by simp;omega)) ?_
 rintro _ _ ⟨ba2a,bc2a,rfl,rfl⟩
 refine ⟨hlA,?_⟩
 refine dd [9,10] ?_;refine stD 11 ?_;refine XD.nil ?_;refine xx 1 ?_;refine E2 ?_;refine X.le (q':=fcM ({ f with ths:=⟨f.ths.l++ [⟨nm,0, [],none,0⟩],ba2a,bc2a⟩ } :FC)::_) (Kn.add ((Kn.and (Kn.le h) (svK (x:=⟨f.ths.l++ [⟨nm,0, [],none,0⟩],ba2a,bc2a⟩) (f:=thC))).imp fun M h=>FC.At.t h.1 h.2 (fun y hy=>by rcases List.mem_append.1 hy with hy|hy;exact h.1.bod y hy;rw [List.mem_singleton.1 hy];exact ⟨SlAt.nil M,trivial⟩))) ?_
 exact X.at (K (({ f with ths:=⟨f.ths.l++ [⟨nm,0, [],none,0⟩],ba2a,bc2a⟩ } :FC),(f.ths.l.length:Int)) ⟨by first|(rw [←hD];done)|(rw [←hD];rfl)|(rw [←hD];simp only [FC.er,List.map_append,List.length_map];done)|(rw [←hD];simp only [FC.er,List.map_append,List.length_map];rfl),hb10⟩) Zt leA
end
mutual
def PEx.thin:PEx→Prop
 | .mk _ _ _ _ _ _ args=>args.length≤2∧K1 args
def K1:List PEx→Prop
 | []=>True
 |e::r=>e.thin∧K1 r
end
theorem Ny {x:PEx}: ∀ {l:List PEx},K1 l→x∈l→x.thin
 |y::r,⟨h1,h2⟩,h=>by
  rcases List.mem_cons.1 h with rfl|h
  · exact h1
  exact Ny h2 h
mutual
theorem Jr: ∀ {e:PEx} {d:Nat},e.right d=true→e.thin
 | .mk k n nm _ _ op args,d,h=>by
  simp only [PEx.right] at h
  split at h
  · cases h
  split at h
  · rw [Bool.and_eq_true,Bool.and_eq_true,decide_eq_true_eq] at h
    refine ⟨?_,Hi h.2⟩
    have:=h.1.2;unfold Nq at this;split at this<;>(try split at this)<;>omega
  cases h
theorem Hi: ∀ {l:List PEx} {d:Nat},Wd l d=true→K1 l
 | [],_,_=>trivial
 |e::r,d,h=>by
  simp only [Wd,Bool.and_eq_true] at h
  exact ⟨Jr h.1,Hi h.2⟩
end
theorem Tm: ∀ {e:PEx},e.nil=true→e.thin
 | .mk k n nm _ _ op args,h=>by
  simp only [PEx.nil,Bool.and_eq_true,decide_eq_true_eq] at h
  have h0:=List.eq_nil_of_length_eq_zero h.2;subst h0
  exact ⟨Nat.zero_le _,trivial⟩
theorem P8 {M:Hp}{l m:List Ex}(h:Ex.Ats M l)(k:Ex.Ats M m):Ex.Ats M (l++m):=Js.2 fun x hx=>(List.mem_append.1 hx).elim (Js.1 h x) (Js.1 k x)
section
variable {P:Program}{G:World}{fr:Fc}{Q:Y9}{todo:List Item}{p:PE}{ds:List Deferred}{cs:List Frame}{q q0 q1 q2:List HP}{a:Option Addr}{c:Nat}{l:List Ex}{e:Ex}{kd n:Int}{nm:ByteArray}{slot:Int}{loc:Bool}{op:Int}
theorem X.exs (h1:Le q (exsM l::q1))(h2:Le q1 (exM e::q2))(K:X P G fr Q todo p ds cs (exsM (l++ [e])::q2)):X P G fr Q todo p ds cs q:=by
 have h3:Kn (exsM l::exM e::q2) fun M=>Ex.Ats M (l++ [e]):=((show Kn (exsM l::exM e::q2) fun M=>Ex.Ats M l from Kn.here).and (Kn.there (show Kn (exM e::q2) fun M=>e.At M from Kn.here))).imp fun M h=>P8 h.1 ⟨h.2,trivial⟩
 exact .le ((h1.trans (Le.cons _ h2)).trans ((Kn.add (mn:=fun e h=>Ex.Ats.mono e h) h3).trans (Le.cons _ ((Le.drop _ _).trans (Le.drop _ _))))) K
theorem X.fzEs (K:X P G fr Q todo p ds cs (exM (.mk kd n nm slot loc op l a c)::q0))(hq:Le q (rsH exC 7 215 a c l::q0):=by exact Zw)(h:Kn q0 fun M=>Ex.Ats M l:=by exact knA):X P G fr Q todo p ds cs q:= .frzR (Kn.here.and h.there) K hq
end
section
variable {G:World}{q:List HP}{f:FC}{e:Ex}{pl pc:Int}
set_option maxHeartbeats 4000000 in
theorem Pj (IH: ∀ (x:Ex),x.sz<e.sz→x.er.thin→ ∀ {f:FC} {pl pc:Int} {q:List HP},(Kn q fun M=>f.At M)→(Kn q fun M=>x.At M)→CallF prog G 187 [.agg (fcC f).toArray,.agg (exC x).toArray,.agg [.int .i64 pl,.int .i64 pc].toArray] q (Ret fun v q'=> ∃ (g:FC) (y:Ex),v= .tuple [.agg (fcC g).toArray,.agg (exC y).toArray].toArray∧q'=fcM g::exM y::q∧(g.er,y.er)=f.er.expr x.er))(hf:Kn q fun M=>f.At M)(h:Kn q fun M=>e.At M)(ht:e.er.thin):CallF prog G 187 [.agg (fcC f).toArray,.agg (exC e).toArray,.agg [.int .i64 pl,.int .i64 pc].toArray] (q) (Ret fun v q'=> ∃ (g:FC) (x:Ex),v= .tuple [.agg (fcC g).toArray,.agg (exC x).toArray].toArray∧q'=fcM g::exM x::q∧(g.er,x.er)=f.er.expr e.er):=by
 refine CallF.of func187 ntmps187 rfl (fun F cs=> ?_)
 obtain ⟨k,z,nm,sl,lo,op,args,aa,ac⟩:=e;have hA:=Rk h;have hlen:=Zm (f:=exC) (sz:=7) Zl args
 have ht1:args.length≤2:=by have:=ht.1;rw [Ja] at this;exact this
 have ht2:K1 (Za args):=ht.2
 obtain ⟨R,hR⟩: ∃ R,f.er.expr (Ex.er (.mk k z nm sl lo op args aa ac))=R:=⟨_,rfl⟩;rw [hR];simp only [Ex.er,Fnd.expr] at hR
 refine xo 2 ?_;refine Zb fun n1=> ?_
 refine Zb fun n2=> ?_
 refine Zb fun n3=> ?_
 refine Zy zeroValue199 fun n4=> ?_
 refine Zy zeroValue215 fun n5=> ?_
 refine oo 5 ?_;refine ld ?_;refine ox 1 ?_;refine X.join (fun (x:FC×Int×Bool)=> [(3,.pointer (some ⟨n1,0,none⟩)),(4,.pointer (some ⟨n2,0,none⟩)),(5,.pointer (some ⟨n3,0,none⟩)),(6,.pointer (some ⟨n4,0,none⟩)),(7,.pointer (some ⟨n5,0,none⟩))]) (fun x=>fcM x.1::pto n1 (.cells (fcC x.1).toArray 199 (0,0))::pto n2 (.cells (exC (.mk k z nm x.2.1 x.2.2 op args aa ac)).toArray 215 (0,0))::pto n3 (.cells [.int .i64 pl,.int .i64 pc].toArray 87 (0,0))::pto n4 (.cells [.slice none 0 0,.slice none 0 0,.int .i64 0,.int .i64 0,.slice none 0 0,.slice none 0 0,.int .i64 0,.int .i64 0,.slice none 0 0,.slice none 0 0,.slice none 0 0,.slice none 0 0,.slice none 0 0,.slice none 0 0,.int .i64 0,.int .i64 0,.int .i64 0,.int .i64 0,.int .i64 0,.int .i64 0].toArray 199 (0,0))::pto n5 (.cells [.int .i64 0,.int .i64 0,.string ⟨#[]⟩,.int .i64 0,.bool false,.int .i64 0,.slice none 0 0].toArray 215 (0,0))::(q++F)) (fun x=>R=((Fnd.exprs x.1.er (Za args)).1,.mk k z nm x.2.1 x.2.2 op (Fnd.exprs x.1.er (Za args)).2)) (fun x hx_=> ?_) (fun K=> ?_)
 · obtain ⟨g,sl2,lo2⟩:=x;dsimp only at hx_⊢;clear hR
   refine xx 10 ?_;refine X.at (X.loop (fun (s:FC×(Option Addr×Nat×List Ex)×Option Addr)=>s.2.1.2.2.length≤args.length∧s.2.2=aa∧R=((Fnd.exprs s.1.er (Za (args.drop s.2.1.2.2.length))).1,.mk k z nm sl2 lo2 op (Za s.2.1.2.2++(Fnd.exprs s.1.er (Za (args.drop s.2.1.2.2.length))).2))) (fun s=> [(12,.slice s.2.1.1 s.2.1.2.2.length s.2.1.2.1),(13,.int .i64 (s.2.1.2.2.length:Int)),(3,.pointer (some ⟨n1,0,none⟩)),(4,.pointer (some ⟨n2,0,none⟩)),(5,.pointer (some ⟨n3,0,none⟩)),(6,.pointer (some ⟨n4,0,none⟩)),(7,.pointer (some ⟨n5,0,none⟩))]) (fun s=>rsH exC 7 215 s.2.1.1 s.2.1.2.1 s.2.1.2.2::exsM s.2.1.2.2::fcM s.1::pto n1 (.cells (fcC s.1).toArray 199 (0,0))::pto n2 (.cells (exC (.mk k z nm sl2 lo2 op args s.2.2 ac)).toArray 215 (0,0))::pto n3 (.cells [.int .i64 pl,.int .i64 pc].toArray 87 (0,0))::pto n4 (.cells [.slice none 0 0,.slice none 0 0,.int .i64 0,.int .i64 0,.slice none 0 0,.slice none 0 0,.int .i64 0,.int .i64 0,.slice none 0 0,.slice none 0 0,.slice none 0 0,.slice none 0 0,.slice none 0 0,.slice none 0 0,.int .i64 0,.int .i64 0,.int .i64 0,.int .i64 0,.int .i64 0,.int .i64 0].toArray 199 (0,0))::pto n5 (.cells [.int .i64 0,.int .i64 0,.string ⟨#[]⟩,.int .i64 0,.bool false,.int .i64 0,.slice none 0 0].toArray 215 (0,0))::(q++F)) (fun s=>args.length - s.2.1.2.2.length) (fun s hi_ ih=> ?_) (g,(none,0, []),aa) ⟨Nat.zero_le _,rfl,hx_⟩) Zt (Le.trans leA (Le.trans (Wq exC 7 215 _) (Le.trans (Kn.add (φ:=fun M=>Ex.Ats M []) (mn:=fun e h=>Ex.Ats.mono e h) (fun _ _ _=>trivial)) leA)))
   try dsimp only at hi_ ih⊢
   obtain ⟨hi1,hi2,hi3⟩:=hi_
   obtain ⟨g,⟨a,c,out⟩,aa2⟩:=s;dsimp only at*;subst hi2;clear hx_
   refine xo 5 ?_;refine ld ?_;refine ox 3 ?_;refine X.part 54 rfl (fun h0=> ?_) (fun h0=> ?_)
   · replace h0:=sp h0;have hlt:out.length<args.length:=by omega
     obtain ⟨y,hy⟩: ∃ y,args[out.length]=y:=⟨_,rfl⟩;obtain ⟨k3,z3,s3,l3,o3,p3,y3,u3,w3⟩:=y
     refine xx 5 ?_;refine drw ?_;refine Z4 0 ?_;refine dd [1] ?_;refine ldD 2 ?_;refine dd [3] ?_;refine Yp hA (by rw [hlen];omega) (fun b1 o1 e1=> ?_);subst e1
     have hrw: ∀ (Q:List HP),Le Q q→ ∀ (j:Nat) (v:Value),nth (exC (.mk k3 z3 s3 l3 o3 p3 y3 u3 w3)) j=some v→Cl Q ⟨b1,o1+(out.length:Int).toNat*7+j,none⟩ v:=fun Q hQ j v hv=>Yi hA hQ Zl hlt rfl j v (by rw [hy,←Vn];exact hv)
     refine dd [4] ?_;refine XD.rdCs 5 (us:=exC (.mk k3 z3 s3 l3 o3 p3 y3 u3 w3)) rfl rfl isAgg215 sizeOf215 rfl (fun k v hk=>hrw _ leA k v (by rw [Vn];exact hk)) ?_
     refine Z4 6 ?_;refine Yy (fl:= [⟨11,14,fun g=> .pointer (some ⟨g,0,none⟩),fun g=>pto g (.cells [.slice none 0 0,.slice none 0 0,.int .i64 0,.int .i64 0,.slice none 0 0,.slice none 0 0,.int .i64 0,.int .i64 0,.slice none 0 0,.slice none 0 0,.slice none 0 0,.slice none 0 0,.slice none 0 0,.slice none 0 0,.int .i64 0,.int .i64 0,.int .i64 0,.int .i64 0,.int .i64 0,.int .i64 0].toArray 199 (0,0))⟩,⟨12,15,fun g=> .pointer (some ⟨g,0,none⟩),fun g=>pto g (.cells [.int .i64 0,.int .i64 0,.string ⟨#[]⟩,.int .i64 0,.bool false,.int .i64 0,.slice none 0 0].toArray 215 (0,0))⟩]) ?_
     refine Jd 7 ⟨⟨_,rfl,rfl,rfl,rfl,rfl,rfl,fun q=>Ef.alloc zeroValue199⟩,⟨_,rfl,rfl,rfl,rfl,rfl,rfl,fun q=>Ef.alloc zeroValue215⟩,trivial⟩ call187 (Le.refl _) (IH (.mk k3 z3 s3 l3 o3 p3 y3 u3 w3) (by have:=K5 (List.getElem_mem hlt);rw [hy] at this;simp only [Ex.sz] at this⊢;omega) (by have:=Ny ht2 (by rw [Jl];exact List.mem_map_of_mem (List.getElem_mem hlt));rw [hy] at this;exact this) (f:=g) knA (Kn.le (by have:=Vc h hlt;rw [hy] at this;exact this) leA)) ?_ (hL:=(hlA (h:=by repeat first|exact trivial|refine ⟨clA,?_⟩|refine ⟨hrw _ leA 0 _ rfl,?_⟩|refine ⟨hrw _ leA 1 _ rfl,?_⟩|refine ⟨hrw _ leA 2 _ rfl,?_⟩|refine ⟨hrw _ leA 3 _ rfl,?_⟩|refine ⟨hrw _ leA 4 _ rfl,?_⟩|refine ⟨hrw _ leA 5 _ rfl,?_⟩|refine ⟨hrw _ leA 6 _ rfl,?_⟩)))
     rintro _ _ ⟨g2,⟨k2,z2,s2,l2,o2,p2,y2,u2,w2⟩,rfl,rfl,hge⟩
     refine ⟨(hlA (h:=by repeat first|exact trivial|refine ⟨clA,?_⟩|refine ⟨hrw _ leA 0 _ rfl,?_⟩|refine ⟨hrw _ leA 1 _ rfl,?_⟩|refine ⟨hrw _ leA 2 _ rfl,?_⟩|refine ⟨hrw _ leA 3 _ rfl,?_⟩|refine ⟨hrw _ leA 4 _ rfl,?_⟩|refine ⟨hrw _ leA 5 _ rfl,?_⟩|refine ⟨hrw _ leA 6 _ rfl,?_⟩)),?_⟩
     refine Mq 8 ⟨⟨_,rfl,rfl,rfl,rfl,rfl,rfl,fun q=>Ef.alloc zeroValue199⟩,⟨_,rfl,rfl,rfl,rfl,rfl,rfl,fun q=>Ef.alloc zeroValue215⟩,trivial⟩ (Pu.move rfl) ?_ (hL:=(hlA (h:=by repeat first|exact trivial|refine ⟨clA,?_⟩|refine ⟨hrw _ leA 0 _ rfl,?_⟩|refine ⟨hrw _ leA 1 _ rfl,?_⟩|refine ⟨hrw _ leA 2 _ rfl,?_⟩|refine ⟨hrw _ leA 3 _ rfl,?_⟩|refine ⟨hrw _ leA 4 _ rfl,?_⟩|refine ⟨hrw _ leA 5 _ rfl,?_⟩|refine ⟨hrw _ leA 6 _ rfl,?_⟩)))
     refine Mq 9 ⟨⟨_,rfl,rfl,rfl,rfl,rfl,rfl,fun q=>Ef.alloc zeroValue199⟩,⟨_,rfl,rfl,rfl,rfl,rfl,rfl,fun q=>Ef.alloc zeroValue215⟩,trivial⟩ (Pu.extract rfl rfl) ?_ (hL:=(hlA (h:=by repeat first|exact trivial|refine ⟨clA,?_⟩|refine ⟨hrw _ leA 0 _ rfl,?_⟩|refine ⟨hrw _ leA 1 _ rfl,?_⟩|refine ⟨hrw _ leA 2 _ rfl,?_⟩|refine ⟨hrw _ leA 3 _ rfl,?_⟩|refine ⟨hrw _ leA 4 _ rfl,?_⟩|refine ⟨hrw _ leA 5 _ rfl,?_⟩|refine ⟨hrw _ leA 6 _ rfl,?_⟩)))
     refine Mq 10 ⟨⟨_,rfl,rfl,rfl,rfl,rfl,rfl,fun q=>Ef.alloc zeroValue199⟩,⟨_,rfl,rfl,rfl,rfl,rfl,rfl,fun q=>Ef.alloc zeroValue215⟩,trivial⟩ (Pu.extract rfl rfl) ?_ (hL:=(hlA (h:=by repeat first|exact trivial|refine ⟨clA,?_⟩|refine ⟨hrw _ leA 0 _ rfl,?_⟩|refine ⟨hrw _ leA 1 _ rfl,?_⟩|refine ⟨hrw _ leA 2 _ rfl,?_⟩|refine ⟨hrw _ leA 3 _ rfl,?_⟩|refine ⟨hrw _ leA 4 _ rfl,?_⟩|refine ⟨hrw _ leA 5 _ rfl,?_⟩|refine ⟨hrw _ leA 6 _ rfl,?_⟩)))
     refine Wv (e0:=⟨11,14,fun g=> .pointer (some ⟨g,0,none⟩),fun g=>pto g (.cells [.slice none 0 0,.slice none 0 0,.int .i64 0,.int .i64 0,.slice none 0 0,.slice none 0 0,.int .i64 0,.int .i64 0,.slice none 0 0,.slice none 0 0,.slice none 0 0,.slice none 0 0,.slice none 0 0,.slice none 0 0,.int .i64 0,.int .i64 0,.int .i64 0,.int .i64 0,.int .i64 0,.int .i64 0].toArray 199 (0,0))⟩) (hnd:=by simp) 11 ⟨⟨_,rfl,rfl,rfl,rfl,rfl,rfl,fun q=>Ef.alloc zeroValue199⟩,⟨_,rfl,rfl,rfl,rfl,rfl,rfl,fun q=>Ef.alloc zeroValue215⟩,trivial⟩ (fun ga=> ?_) (hL:=(hlA (h:=by repeat first|exact trivial|refine ⟨clA,?_⟩|refine ⟨hrw _ leA 0 _ rfl,?_⟩|refine ⟨hrw _ leA 1 _ rfl,?_⟩|refine ⟨hrw _ leA 2 _ rfl,?_⟩|refine ⟨hrw _ leA 3 _ rfl,?_⟩|refine ⟨hrw _ leA 4 _ rfl,?_⟩|refine ⟨hrw _ leA 5 _ rfl,?_⟩|refine ⟨hrw _ leA 6 _ rfl,?_⟩)))
     change XF _ _ _ _ _ _ _ [⟨12,15,fun g=> .pointer (some ⟨g,0,none⟩),fun g=>pto g (.cells [.int .i64 0,.int .i64 0,.string ⟨#[]⟩,.int .i64 0,.bool false,.int .i64 0,.slice none 0 0].toArray 215 (0,0))⟩] _ _ _ ((14,.pointer (some ⟨ga,0,none⟩))::_) _ _ (pto ga (.cells [.slice none 0 0,.slice none 0 0,.int .i64 0,.int .i64 0,.slice none 0 0,.slice none 0 0,.int .i64 0,.int .i64 0,.slice none 0 0,.slice none 0 0,.slice none 0 0,.slice none 0 0,.slice none 0 0,.slice none 0 0,.int .i64 0,.int .i64 0,.int .i64 0,.int .i64 0,.int .i64 0,.int .i64 0].toArray 199 (0,0))::_)
     refine Wv (e0:=⟨12,15,fun g=> .pointer (some ⟨g,0,none⟩),fun g=>pto g (.cells [.int .i64 0,.int .i64 0,.string ⟨#[]⟩,.int .i64 0,.bool false,.int .i64 0,.slice none 0 0].toArray 215 (0,0))⟩) (hnd:=by simp) 12 ⟨⟨_,rfl,rfl,rfl,rfl,rfl,rfl,fun q=>Ef.alloc zeroValue215⟩,trivial⟩ (fun gb=> ?_) (hL:=(hlA (h:=by repeat first|exact trivial|refine ⟨clA,?_⟩|refine ⟨hrw _ leA 0 _ rfl,?_⟩|refine ⟨hrw _ leA 1 _ rfl,?_⟩|refine ⟨hrw _ leA 2 _ rfl,?_⟩|refine ⟨hrw _ leA 3 _ rfl,?_⟩|refine ⟨hrw _ leA 4 _ rfl,?_⟩|refine ⟨hrw _ leA 5 _ rfl,?_⟩|refine ⟨hrw _ leA 6 _ rfl,?_⟩)))
     change XF _ _ _ _ _ _ _ [] _ _ _ ((15,.pointer (some ⟨gb,0,none⟩))::_) _ _ (pto gb (.cells [.int .i64 0,.int .i64 0,.string ⟨#[]⟩,.int .i64 0,.bool false,.int .i64 0,.slice none 0 0].toArray 215 (0,0))::_)
     refine XF.back ?_ (hL:=(hlA (h:=by repeat first|exact trivial|refine ⟨clA,?_⟩|refine ⟨hrw _ leA 0 _ rfl,?_⟩|refine ⟨hrw _ leA 1 _ rfl,?_⟩|refine ⟨hrw _ leA 2 _ rfl,?_⟩|refine ⟨hrw _ leA 3 _ rfl,?_⟩|refine ⟨hrw _ leA 4 _ rfl,?_⟩|refine ⟨hrw _ leA 5 _ rfl,?_⟩|refine ⟨hrw _ leA 6 _ rfl,?_⟩)))
     refine Z9 13 ?_;refine Z9 14 ?_;refine XD.nil ?_;refine xo 2 ?_;refine ldA ?_;refine stA ?_;refine oo 3 ?_;refine ldA ?_;refine XO.ef (Ws (u:=(.mk k2 z2 s2 l2 o2 p2 y2 u2 w2)) exC underlying213 Kd rfl rfl Zl rfl) ?_
     rintro _ _ ⟨gl,rfl,rfl⟩
     refine XO.ef (Z5 (f:=exC) (l:=out) (m:= [(.mk k2 z2 s2 l2 o2 p2 y2 u2 w2)]) underlying213 Kd rfl rfl Zl rfl rfl Zw ((Sees.rsH _).le Zw) Sj (by simp;omega) (by simp;omega)) ?_
     rintro _ _ ⟨a3,c3,rfl,rfl⟩
     refine ox 8 ?_;refine X.exs (l:=out) (e:=(.mk k2 z2 s2 l2 o2 p2 y2 u2 w2)) Zw Zw ?_
     have hst:R=((Fnd.exprs g2.er (Za (args.drop (out.length+1)))).1,.mk k z nm sl2 lo2 op (Za (out++ [(.mk k2 z2 s2 l2 o2 p2 y2 u2 w2)])++(Fnd.exprs g2.er (Za (args.drop (out.length+1)))).2)):=by
      rw [hi3,List.drop_eq_getElem_cons hlt,hy,D8];simp only [Za,Fnd.exprs,←hge,List.append_assoc,List.singleton_append]
     refine X.at (ih (g2,(a3,c3,out++ [(.mk k2 z2 s2 l2 o2 p2 y2 u2 w2)]),_) ⟨by simp;omega,rfl,by rw [List.length_append];exact hst⟩ (by simp;omega)) Zt leA
   replace h0:=sp h0;have hl:out.length=args.length:=by omega
   refine xo 6 ?_;refine st ?_;refine ox 2 ?_;refine drw ?_;refine Z4 0 ?_;refine Z4 1 ?_;refine Z9 2 ?_;refine Z9 3 ?_;refine XD.nil ?_;refine X.fzEs (kd:=k) (n:=z) (nm:=nm) (slot:=sl2) (loc:=lo2) (op:=op) ?_
   refine Zq (fcM g::exM (.mk k z nm sl2 lo2 op out a c)::q) func187 (Ut results187) ⟨_,rfl,g,(.mk k z nm sl2 lo2 op out a c),rfl,rfl,by rw [hi3,hl,List.drop_length];simp only [Za,Fnd.exprs,List.append_nil,Ex.er]⟩
 have hcl:k=2∨k=3∨ ¬ (k=2∨k=3):=by omega
 rcases hcl with rfl|rfl|hcl
 · rw [if_pos rfl] at hR
   refine xx 6 ?_;refine X.kt 18 ?_;refine xo 3 ?_;refine ldA ?_;refine oo 1 ?_;refine ld ?_;refine ldA ?_;refine Zh call189 (Le.refl _) (wants_ok (f:=f) (Kn.le hf)) ?_
   rintro _ _ ⟨g,x,rfl,rfl,hw⟩
   refine oo 3 ?_;refine Zy zeroValue199 fun n6=> ?_
   refine Zy zeroValue204 fun n7=> ?_
   refine stA ?_;refine stA ?_;refine oo 3 ?_;refine ldA ?_;refine stA ?_;refine ox 1 ?_;refine drw ?_;refine dd [0] ?_;refine ldD 1 ?_;refine dd [2] ?_;refine ldD 3 ?_;refine dd [4,5] ?_;refine stD 6 ?_;refine dd [7] ?_;refine stD 8 ?_;refine XD.nil ?_;refine xx 1 ?_
   rw [←hw] at hR;dsimp only at hR
   exact X.at (K (g,x.s,x.k==100) hR.symm) Zt leA
 · rw [if_neg (by decide),if_pos rfl] at hR
   refine xx 6 ?_;refine Zj 18 ?_;refine xx 6 ?_;refine X.kt 36 ?_;refine xo 3 ?_;refine ldA ?_;refine oo 1 ?_;refine ld ?_;refine ldA ?_;refine Zh call189 (Le.refl _) (wants_ok (f:=f) (Kn.le hf)) ?_
   rintro _ _ ⟨g,x,rfl,rfl,hw⟩
   refine oo 3 ?_;refine Zy zeroValue199 fun n8=> ?_
   refine Zy zeroValue204 fun n9=> ?_
   refine stA ?_;refine stA ?_;refine oo 3 ?_;refine ldA ?_;refine stA ?_;refine oo 3 ?_;refine ld ?_;refine oo 1 ?_;refine st ?_;refine ox 2 ?_
   rw [←hw] at hR;dsimp only at hR
   exact X.at (K (g,x.s,lo) hR.symm) Zt leA
 rw [if_neg (fun e=>hcl (.inl e)),if_neg (fun e=>hcl (.inr e))] at hR
 refine xx 6 ?_;refine X.know 18 (.bool false) rfl (congrArg Value.bool (beq_eq_false_iff_ne.2 (by omega))) ?_
 refine xx 6 ?_;refine X.know 36 (.bool false) rfl (congrArg Value.bool (beq_eq_false_iff_ne.2 (by omega))) ?_
 refine xx 3 ?_;refine X.le (q':=fcM f::_) (Kn.add (Kn.le hf)) ?_
 exact X.at (K (f,sl,lo) hR.symm) Zt leA
theorem Dy: ∀ (N:Nat) (x:Ex),x.sz≤N→x.er.thin→ ∀ {f:FC} {pl pc:Int} {q:List HP},(Kn q fun M=>f.At M)→(Kn q fun M=>x.At M)→CallF prog G 187 [.agg (fcC f).toArray,.agg (exC x).toArray,.agg [.int .i64 pl,.int .i64 pc].toArray] q (Ret fun v q'=> ∃ (g:FC) (y:Ex),v= .tuple [.agg (fcC g).toArray,.agg (exC y).toArray].toArray∧q'=fcM g::exM y::q∧(g.er,y.er)=f.er.expr x.er)
 |N,x,hN,ht,_,_,_,_,hf,hx=>Pj (fun y hy hty _ _ _ _ h1 h2=>by
  cases N with
  |zero=>omega
  |succ N=>exact Dy N y (by omega) hty h1 h2) hf hx ht
end
theorem Fnd.fl_eq (f:Fnd)(w:Int): ∃ x,f.fl w= { f with flaw:=x } :=by unfold Fnd.fl;split;exact ⟨_,rfl⟩;exact ⟨f.flaw,rfl⟩
theorem Fnd.wants_eq (f:Fnd)(s:ByteArray)(a b:Int): ∃ x,(f.wants s a b).1= { f with flaw:=x } :=by
 unfold Fnd.wants
 split
 · exact f.fl_eq 131
 dsimp only;split
 · exact f.fl_eq 132
 exact ⟨f.flaw,rfl⟩
mutual
theorem R6: ∀ (e:PEx) (f:Fnd),∃ x,(f.expr e).1= { f with flaw:=x }
 | .mk k n nm slot loc op args,f=>by
  simp only [Fnd.expr]
  split
  · obtain ⟨x,hx⟩:=f.wants_eq nm 1 100;obtain ⟨y,hy⟩:=Jv args (f.wants nm 1 100).1;exact ⟨y,by rw [hy,hx]⟩
  split
  · obtain ⟨x,hx⟩:=f.wants_eq nm 2 2;obtain ⟨y,hy⟩:=Jv args (f.wants nm 2 2).1;exact ⟨y,by rw [hy,hx]⟩
  exact Jv args f
theorem Jv: ∀ (l:List PEx) (f:Fnd),∃ x,(f.exprs l).1= { f with flaw:=x }
 | [],f=>⟨f.flaw,rfl⟩
 |e::r,f=>by
  simp only [Fnd.exprs]
  obtain ⟨x,hx⟩:=R6 e f;obtain ⟨y,hy⟩:=Jv r (f.expr e).1;exact ⟨y,by rw [hy,hx]⟩
end
structure Fnd.To (f g:Fnd) (N:Nat):Prop where
 n:g.names.length≤f.names.length+N
 l:f.locals≤g.locals∧g.locals≤f.locals+N
 s:f.stm≤g.stm
 e:g.vars=f.vars∧g.arrs=f.arrs∧g.mu=f.mu∧g.co=f.co∧g.chs=f.chs∧g.ths=f.ths∧g.main=f.main∧g.nv=f.nv∧g.na=f.na∧g.nm=f.nm∧g.nc=f.nc∧g.nh=f.nh∧g.cells=f.cells
theorem Fnd.To.flaw (f:Fnd)(x:Int):f.To { f with flaw:=x } 0:=⟨Nat.le_refl _,⟨Int.le_refl _,by dsimp only;omega⟩,Int.le_refl _,rfl,rfl,rfl,rfl,rfl,rfl,rfl,rfl,rfl,rfl,rfl,rfl,rfl⟩
theorem Fnd.To.refl (f:Fnd):f.To f 0:=Fnd.To.flaw f f.flaw
theorem Fnd.To.trans {f g h:Fnd}{N M:Nat}(a:f.To g N)(b:g.To h M):f.To h (N+M):=by
 obtain ⟨a1,a2,a3,a4⟩:=a;obtain ⟨b1,b2,b3,b4⟩:=b
 refine ⟨by omega,by omega,by omega,?_⟩
 obtain ⟨x1,x2,x3,x4,x5,x6,x7,x8,x9,x10,x11,x12,x13⟩:=a4
 obtain ⟨y1,y2,y3,y4,y5,y6,y7,y8,y9,y10,y11,y12,y13⟩:=b4
 exact ⟨y1.trans x1,y2.trans x2,y3.trans x3,y4.trans x4,y5.trans x5,y6.trans x6,y7.trans x7,y8.trans x8,y9.trans x9,y10.trans x10,y11.trans x11,y12.trans x12,y13.trans x13⟩
theorem Fnd.To.up {f g:Fnd}{N M:Nat}(a:f.To g N)(h:N≤M):f.To g M:=⟨by have:=a.n;omega,by have:=a.l;omega,a.s,a.e⟩
theorem Fnd.To.back {f g:Fnd}{N:Nat}(a:f.To g N)(h:Fnd){M:Nat}(hn:h.names.length≤f.names.length+M)(hl:f.locals≤h.locals∧h.locals≤f.locals+M):f.To { g with names:=h.names,locals:=h.locals } M:=⟨hn,hl,a.s,a.e⟩
theorem Fnd.To.wants (f:Fnd)(s:ByteArray)(a b:Int):f.To (f.wants s a b).1 0:=by obtain ⟨x,hx⟩:=f.wants_eq s a b;rw [hx];exact .flaw f x
theorem Fnd.To.expr (f:Fnd)(e:PEx):f.To (f.expr e).1 0:=by obtain ⟨x,hx⟩:=R6 e f;rw [hx];exact .flaw f x
theorem Fnd.To.fl (f:Fnd)(w:Int):f.To (f.fl w) 0:=by obtain ⟨x,hx⟩:=f.fl_eq w;rw [hx];exact .flaw f x
theorem Fnd.To.loc1 (f:Fnd)(s:ByteArray):f.To (f.loc1 s) 0:=by unfold Fnd.loc1;split;exact .fl f _;exact .refl f
theorem Fnd.To.loc2 (f:Fnd):f.To f.loc2 0:=by unfold Fnd.loc2;split;exact .fl f _;exact .refl f
theorem Fnd.To.own1 (f:Fnd)(k:Int)(nm:ByteArray)(sl:Int)(lo:Bool):f.To (f.own1 k nm sl lo).1 0:=by unfold Fnd.own1;split;exact .wants ..;exact .refl f
theorem Fnd.To.own2 (f:Fnd)(k:Int)(nm wt:ByteArray)(sl ot:Int)(lo:Bool):f.To (f.own2 k nm wt sl ot lo).1 1:=by
 unfold Fnd.own2
 split
 · have h:=(Fnd.To.loc1 f nm).trans (Fnd.To.loc2 (f.loc1 nm))
   refine ⟨by have:=h.n;simp [Fnd.loc3];omega,by have:=h.l;simp only [Fnd.loc3];omega,h.s,h.e⟩
 split
 · exact (Fnd.To.wants f ..).up (by decide)
 split
 · exact (Fnd.To.wants f ..).up (by decide)
 exact (Fnd.To.refl f).up (by decide)
theorem Fnd.To.own (f:Fnd)(k:Int)(nm wt:ByteArray)(sl ot:Int)(lo:Bool):f.To (f.own k nm wt sl ot lo).1 1:=(Fnd.To.own1 f k nm sl lo).trans (Fnd.To.own2 _ k nm wt _ ot _)
theorem Fnd.To.stm (f:Fnd)(n:Int)(h:f.stm≤n):f.To { f with stm:=n } 0:=⟨Nat.le_refl _,⟨Int.le_refl _,by dsimp only;omega⟩,h,rfl,rfl,rfl,rfl,rfl,rfl,rfl,rfl,rfl,rfl,rfl,rfl,rfl⟩
mutual
theorem Fnd.To.stmt: ∀ (s:PStm) (f:Fnd),f.To (f.stmt s).1 1
 | .mk k ln cl nm wt e ix body els id slot other loc,f=>by
  simp only [Fnd.stmt]
  split
  · exact (Fnd.To.fl f _).up (by decide)
  dsimp only
  have h1:=(Fnd.To.stm f (f.stm+1) (by omega)).trans ((Fnd.To.expr { f with stm:=f.stm+1 } ix).trans (Fnd.To.expr _ e))
  have h2:=h1.trans (Fnd.To.own _ k nm wt slot other loc)
  obtain ⟨g,hg⟩: ∃ g,Fnd.own (Fnd.expr (Fnd.expr { f with stm:=f.stm+1 } ix).1 e).1 k nm wt slot other loc=g:=⟨_,rfl⟩
  rw [hg]
  have h3:f.To g.1 1:=by rw [←hg];exact h2
  have h4:=h3.trans (Fnd.To.blk body g.1)
  have h5:=(h4.back g.1 h3.n h3.l).trans (Fnd.To.blk els _)
  exact h5.back g.1 h3.n h3.l
theorem Fnd.To.blk: ∀ (l:List PStm) (f:Fnd),f.To (f.blk l).1 l.length
 | [],f=> .refl f
 |s::r,f=>by
  simp only [Fnd.blk]
  split
  · exact ((Fnd.To.stmt s f).trans (Fnd.To.blk r (f.stmt s).1)).up (by simp;omega)
  exact (Fnd.To.refl f).up (by simp)
end
mutual
def PStm.thin:PStm→Prop
 | .mk _ _ _ _ _ e ix body els _ _ _ _=>e.thin∧ix.thin∧Vj body∧Vj els
def Vj:List PStm→Prop
 | []=>True
 |s::r=>s.thin∧Vj r
end
theorem Mz {x:PStm}: ∀ {l:List PStm},Vj l→x∈l→x.thin
 |y::r,⟨h1,h2⟩,h=>by
  rcases List.mem_cons.1 h with rfl|h
  · exact h1
  exact Mz h2 h
mutual
theorem Eb: ∀ {s:PStm} {n:Nat},s.may n=true→s.thin
 | .mk k _ _ nm wt e ix body els _ _ _ _,n,h=>by
  simp only [PStm.may] at h
  split at h;cases h
  split at h;cases h
  split at h;cases h
  rename_i h3
  split at h;cases h
  rw [Bool.and_eq_true] at h
  have he:e.thin:=by
   unfold G7 at h3
   cases hE:Ew k with
   |true=>exact Jr (d:=24) (by cases hr:e.right 24 with|true=>rfl|false=>simp [hE,hr] at h3)
   |false=>exact Tm (by cases hr:e.nil with|true=>rfl|false=>simp [hE,hr] at h3)
  have hi:ix.thin:=by
   unfold G7 at h3
   rcases Classical.em (k=3) with hk|hk
   · exact Jr (d:=24) (by cases hr:ix.right 24 with|true=>rfl|false=>simp [hk,hr] at h3)
   exact Tm (by cases hr:ix.nil with|true=>rfl|false=>simp [hk,hr] at h3)
  exact ⟨he,hi,Qz h.1,Qz h.2⟩
theorem Qz: ∀ {l:List PStm} {n:Nat},Wu l n=true→Vj l
 | [],_,_=>trivial
 |s::r,n,h=>by
  simp only [Wu,Bool.and_eq_true] at h
  exact ⟨Eb h.1,Qz h.2⟩
end
theorem Ax {f:Fnd}{k ln cl:Int}{nm wt:ByteArray}{e ix:PEx}{body els:List PStm}{id slot other:Int}{loc:Bool}{a b:Fnd×PEx}{c:Fnd×Int×Int×Bool}{x y:Fnd×List PStm}(h: ¬512≤f.stm)(ha:a=Fnd.expr { f with stm:=f.stm+1 } ix)(hb:b=a.1.expr e)(hc:c=b.1.own k nm wt slot other loc)(hx:x=c.1.block body)(hy:y=x.1.block els):
 f.stmt (.mk k ln cl nm wt e ix body els id slot other loc)=(y.1,.mk k ln cl nm wt b.2 a.2 x.2 y.2 f.stm c.2.1 c.2.2.1 c.2.2.2):=by
 subst ha hb hc hx hy;simp only [Fnd.stmt,if_neg h];rfl
theorem FC.At.s {M:Hp}{f:FC}{n:Int}(h:f.At M):({ f with stm:=n } :FC).At M:=⟨h.vars,h.arrs,h.chs,h.ths,h.bod,h.nv,h.na,h.nm,h.nc,h.nh,h.names⟩
theorem FC.At.l {M:Hp}{f:FC}{x:Sv Nm}{n m:Int}(h:f.At M)(h1:x.At M nmC):({ f with names:=x,locals:=n,most:=m } :FC).At M:=⟨h.vars,h.arrs,h.chs,h.ths,h.bod,h.nv,h.na,h.nm,h.nc,h.nh,h1⟩
theorem FC.At.b {M:Hp}{f g:FC}{n:Int}(h:f.At M)(h1:g.At M):({ f with names:=g.names,locals:=n } :FC).At M:=⟨h.vars,h.arrs,h.chs,h.ths,h.bod,h.nv,h.na,h.nm,h.nc,h.nh,h1.names⟩
section
variable {G:World}{q:List HP}{f:FC}{x:Stm}{m:List Stm}{a:Option Addr}{c:Nat}
set_option maxHeartbeats 8000000 in
theorem Pq (IH: ∀ (m:List Stm) (a:Option Addr) (c:Nat),Z2 m<x.sz→Vj (Zk m)→ ∀ {f:FC} {q:List HP},(Kn q fun M=>f.At M)→(Kn q fun M=>BlkAt M a c m)→(f.names.l.length+Z2 m≤300000∧(0≤f.locals∧f.locals+Z2 m≤300000)∧0≤f.stm)→CallF prog G 102 [.agg (fcC f).toArray,.slice a m.length c] q (Ret fun v q'=> ∃ (g:FC) (b:Option Addr) (d:Nat) (m':List Stm),v= .tuple [.agg (fcC g).toArray,.slice b m'.length d].toArray∧q'=fcM g::blM b d m'::q∧(g.er,Zk m')=f.er.block (Zk m)))(hf:Kn q fun M=>f.At M)(h:Kn q fun M=>x.At M)(ht:x.er.thin)(hb:(f.names.l.length+x.sz≤300000∧(0≤f.locals∧f.locals+x.sz≤300000)∧0≤f.stm)):CallF prog G 152 [.agg (fcC f).toArray,.agg (stC x).toArray] (q) (Ret fun v q'=> ∃ (g:FC) (y:Stm),v= .tuple [.agg (fcC g).toArray,.agg (stC y).toArray].toArray∧q'=fcM g::stM y::q∧(g.er,y.er)=f.er.stmt x.er):=by
 refine CallF.of func152 ntmps152 rfl (fun F cs=> ?_)
 obtain ⟨k,ln,cl,nm,wt,⟨k1,z1,s1,l1,o1,p1,y1,u1,w1⟩,⟨k2,z2,s2,l2,o2,p2,y2,u2,w2⟩,body,els,ba,bc,ea,ec,id,slot,other,loc⟩:=x
 obtain ⟨ht1,ht2,ht3,ht4⟩:=ht;have hE:=Gq h;have hX:=F8 h;have hB:=Gz h;have hL:=F9 h;simp only [Stm.sz] at hb;obtain ⟨hb1,⟨hb2,hb3⟩,hb4⟩:=hb
 refine xo 2 ?_;refine Zb fun n1=> ?_
 refine Zb fun n2=> ?_
 refine Zy zeroValue199 fun n3=> ?_
 refine Zy zeroValue217 fun n4=> ?_
 refine oo 6 ?_;refine ld ?_;refine ox 2 ?_;refine X.part 18 rfl (fun h0=> ?_) (fun h0=> ?_)
 · replace h0:=sp h0;have h512:512≤f.er.stm:=h0
   refine xx 2 ?_;refine drw ?_;refine Z4 0 ?_;refine dd [1] ?_;refine Z4 2 ?_;refine Z4 4 ?_;refine Yf 3 call101 (Le.refl _) (Um (f:=f) (Kn.le hf)) ?_
   rintro _ _ ⟨gf,rfl,rfl,hg⟩
   refine ⟨hlA,?_⟩
   refine Z9 5 ?_;refine Z9 6 ?_;refine XD.nil ?_;refine X.le (q':=stM (.mk k ln cl nm wt (.mk k1 z1 s1 l1 o1 p1 y1 u1 w1) (.mk k2 z2 s2 l2 o2 p2 y2 u2 w2) body els ba bc ea ec id slot other loc)::_) (Kn.add (Kn.le h)) ?_
   refine Zq (fcM gf::stM (.mk k ln cl nm wt (.mk k1 z1 s1 l1 o1 p1 y1 u1 w1) (.mk k2 z2 s2 l2 o2 p2 y2 u2 w2) body els ba bc ea ec id slot other loc)::q) func152 (Ut results152) ⟨_,rfl,gf,(.mk k ln cl nm wt (.mk k1 z1 s1 l1 o1 p1 y1 u1 w1) (.mk k2 z2 s2 l2 o2 p2 y2 u2 w2) body els ba bc ea ec id slot other loc),rfl,rfl,by simp only [Stm.er,Fnd.stmt,if_pos h512,hg]⟩
 replace h0:=sp h0;have h512: ¬512≤f.er.stm:=(by show ¬512≤f.stm;omega)
 refine xo 6 ?_;refine ld ?_;refine oo 1 ?_;refine st ?_;refine oo 5 ?_;refine ld ?_;refine oo 3 ?_;refine st ?_;refine oo 3 ?_;refine ldA ?_;refine oo 1 ?_;refine ldA ?_;refine oo 1 ?_;refine ldA ?_;refine Zh call187 (Le.refl _) (Dy _ (.mk k2 z2 s2 l2 o2 p2 y2 u2 w2) (Nat.le_refl _) ht2 (f:=({ f with stm:=f.stm+1 } :FC)) ((Kn.le hf).imp fun M h=>FC.At.s h) (Kn.le hX)) ?_
 rintro _ _ ⟨g1,⟨k3,z3,s3,l3,o3,p3,y3,u3,w3⟩,rfl,rfl,he1⟩
 refine oo 3 ?_;refine stA ?_;refine oo 1 ?_;refine stA ?_;refine oo 3 ?_;refine ldA ?_;refine oo 1 ?_;refine ldA ?_;refine oo 1 ?_;refine ldA ?_;refine Zh call187 (Le.refl _) (Dy _ (.mk k1 z1 s1 l1 o1 p1 y1 u1 w1) (Nat.le_refl _) ht1 (f:=g1) knA (Kn.le hE)) ?_
 rintro _ _ ⟨g2,⟨k4,z4,s4,l4,o4,p4,y4,u4,w4⟩,rfl,rfl,he2⟩
 have hto:f.er.To g2.er 0:=by have h1:=(Fnd.To.stm f.er (f.stm+1) (by show f.stm≤f.stm+1;omega)).trans ((Fnd.To.expr _ _).trans (Fnd.To.expr (Fnd.expr { f.er with stm:=f.stm+1 } (Ex.er (.mk k2 z2 s2 l2 o2 p2 y2 u2 w2))).1 (Ex.er (.mk k1 z1 s1 l1 o1 p1 y1 u1 w1))));rw [show g2.er=(Fnd.expr (Fnd.expr { f.er with stm:=f.stm+1 } (Ex.er (.mk k2 z2 s2 l2 o2 p2 y2 u2 w2))).1 (Ex.er (.mk k1 z1 s1 l1 o1 p1 y1 u1 w1))).1 from by rw [show (Fnd.expr { f.er with stm:=f.stm+1 } (Ex.er (.mk k2 z2 s2 l2 o2 p2 y2 u2 w2))).1=g1.er from (congrArg Prod.fst he1).symm];exact congrArg Prod.fst he2];exact h1
 refine oo 3 ?_;refine stA ?_;refine oo 1 ?_;refine stA ?_;refine oo 4 ?_;refine ld ?_;refine oo 5 ?_;refine XO.cR call188 (want_ok) ?_;refine ox 12 ?_;refine X.join (fun (x:FC×Int×Bool)=> [(2,.pointer (some ⟨n1,0,none⟩)),(3,.pointer (some ⟨n2,0,none⟩)),(4,.pointer (some ⟨n3,0,none⟩)),(5,.pointer (some ⟨n4,0,none⟩)),(6,.int .i64 k)]) (fun x=>fcM x.1::pto n1 (.cells (fcC x.1).toArray 199 (0,0))::pto n2 (.cells (stC (.mk k ln cl nm wt (.mk k4 z4 s4 l4 o4 p4 y4 u4 w4) (.mk k3 z3 s3 l3 o3 p3 y3 u3 w3) body els ba bc ea ec f.stm x.2.1 other x.2.2)).toArray 217 (0,0))::pto n3 (.cells [.slice none 0 0,.slice none 0 0,.int .i64 0,.int .i64 0,.slice none 0 0,.slice none 0 0,.int .i64 0,.int .i64 0,.slice none 0 0,.slice none 0 0,.slice none 0 0,.slice none 0 0,.slice none 0 0,.slice none 0 0,.int .i64 0,.int .i64 0,.int .i64 0,.int .i64 0,.int .i64 0,.int .i64 0].toArray 199 (0,0))::pto n4 (.cells [.int .i64 0,.int .i64 0,.int .i64 0,.string ⟨#[]⟩,.string ⟨#[]⟩,.int .i64 0,.int .i64 0,.string ⟨#[]⟩,.int .i64 0,.bool false,.int .i64 0,.slice none 0 0,.int .i64 0,.int .i64 0,.string ⟨#[]⟩,.int .i64 0,.bool false,.int .i64 0,.slice none 0 0,.slice none 0 0,.slice none 0 0,.int .i64 0,.int .i64 0,.int .i64 0,.bool false].toArray 217 (0,0))::exM (.mk k3 z3 s3 l3 o3 p3 y3 u3 w3)::exM (.mk k4 z4 s4 l4 o4 p4 y4 u4 w4)::(q++F)) (fun x=>x=(x.1,x.2.1,x.2.2)∧(x.1.er,x.2.1,x.2.2)=g2.er.own1 k nm slot loc∧f.er.To x.1.er 0) (fun x hx_=> ?_) (fun K=> ?_)
 · obtain ⟨g,sl,lo⟩:=x;dsimp only at hx_⊢;obtain ⟨_,hw1,hto1⟩:=hx_;clear hto
   refine xx 5 ?_;refine X.join (fun (x:FC×Int×Int×Bool)=> [(2,.pointer (some ⟨n1,0,none⟩)),(3,.pointer (some ⟨n2,0,none⟩)),(4,.pointer (some ⟨n3,0,none⟩)),(5,.pointer (some ⟨n4,0,none⟩))]) (fun x=>fcM x.1::pto n1 (.cells (fcC x.1).toArray 199 (0,0))::pto n2 (.cells (stC (.mk k ln cl nm wt (.mk k4 z4 s4 l4 o4 p4 y4 u4 w4) (.mk k3 z3 s3 l3 o3 p3 y3 u3 w3) body els ba bc ea ec f.stm x.2.1 x.2.2.1 x.2.2.2)).toArray 217 (0,0))::pto n3 (.cells [.slice none 0 0,.slice none 0 0,.int .i64 0,.int .i64 0,.slice none 0 0,.slice none 0 0,.int .i64 0,.int .i64 0,.slice none 0 0,.slice none 0 0,.slice none 0 0,.slice none 0 0,.slice none 0 0,.slice none 0 0,.int .i64 0,.int .i64 0,.int .i64 0,.int .i64 0,.int .i64 0,.int .i64 0].toArray 199 (0,0))::pto n4 (.cells [.int .i64 0,.int .i64 0,.int .i64 0,.string ⟨#[]⟩,.string ⟨#[]⟩,.int .i64 0,.int .i64 0,.string ⟨#[]⟩,.int .i64 0,.bool false,.int .i64 0,.slice none 0 0,.int .i64 0,.int .i64 0,.string ⟨#[]⟩,.int .i64 0,.bool false,.int .i64 0,.slice none 0 0,.slice none 0 0,.slice none 0 0,.int .i64 0,.int .i64 0,.int .i64 0,.bool false].toArray 217 (0,0))::exM (.mk k3 z3 s3 l3 o3 p3 y3 u3 w3)::exM (.mk k4 z4 s4 l4 o4 p4 y4 u4 w4)::(q++F)) (fun x=>(x.1.er,x.2.1,x.2.2.1,x.2.2.2)=g.er.own2 k nm wt sl other lo) (fun x hx_=> ?_) (fun K2=> ?_)
   · obtain ⟨g3,sl3,ot3,lo3⟩:=x;dsimp only at hx_⊢
     have hto3:f.er.To g3.er 1:=by have h1:=hto1.trans (Fnd.To.own2 g.er k nm wt sl other lo);rw [←hx_] at h1;exact h1
     have hto4:=hto3;obtain ⟨hn3,⟨hl3,hm3⟩,hs3,_⟩:=hto4;dsimp only [FC.er] at hn3 hl3 hm3 hs3
     refine xo 2 ?_;refine ldA ?_;refine oo 1 ?_;refine ld ?_;refine Zh call102 (Le.refl _) (IH body ba bc (by simp only [Stm.sz];omega) ht3 (f:=g3) knA (Kn.le hB) ⟨by omega,⟨by omega,by omega⟩,by omega⟩) ?_
     rintro _ _ ⟨g5,a5,c5,l5,rfl,rfl,hb5⟩
     have h51:g5.er.names=g3.er.names:=by rw [show g5.er=(g3.er.block (Zk body)).1 from congrArg Prod.fst hb5];rfl
     have h52:g5.er.locals=g3.er.locals:=by rw [show g5.er=(g3.er.block (Zk body)).1 from congrArg Prod.fst hb5];rfl
     have h53:g3.er.stm≤g5.er.stm:=by rw [show g5.er=(g3.er.block (Zk body)).1 from congrArg Prod.fst hb5];exact (Fnd.To.blk (Zk body) g3.er).s
     dsimp only [FC.er] at h51 h52 h53;have h54:=congrArg List.length h51
     refine oo 3 ?_;refine stA ?_;refine oo 1 ?_;refine st ?_;refine oo 3 ?_;refine ldA ?_;refine oo 1 ?_;refine ld ?_;refine Zh call102 (Le.refl _) (IH els ea ec (by simp only [Stm.sz];omega) ht4 (f:=g5) knA (Kn.le hL) ⟨by omega,⟨by omega,by omega⟩,by omega⟩) ?_
     rintro _ _ ⟨g6,a6,c6,l6,rfl,rfl,hb6⟩
     refine oo 3 ?_;refine stA ?_;refine oo 1 ?_;refine st ?_;refine ox 2 ?_;refine drw ?_;refine Z4 0 ?_;refine Z4 1 ?_;refine Z9 2 ?_;refine Z9 3 ?_;refine XD.nil ?_;refine Qm (.mk k ln cl nm wt (.mk k4 z4 s4 l4 o4 p4 y4 u4 w4) (.mk k3 z3 s3 l3 o3 p3 y3 u3 w3) l5 l6 a5 c5 a6 c6 f.stm sl3 ot3 lo3) Kn.st ?_;refine Zq (fcM g6::stM (.mk k ln cl nm wt (.mk k4 z4 s4 l4 o4 p4 y4 u4 w4) (.mk k3 z3 s3 l3 o3 p3 y3 u3 w3) l5 l6 a5 c5 a6 c6 f.stm sl3 ot3 lo3)::q) func152 (Ut results152) ⟨_,rfl,g6,(.mk k ln cl nm wt (.mk k4 z4 s4 l4 o4 p4 y4 u4 w4) (.mk k3 z3 s3 l3 o3 p3 y3 u3 w3) l5 l6 a5 c5 a6 c6 f.stm sl3 ot3 lo3),rfl,rfl,(Ax h512 he1 he2 (show (g3.er,sl3,ot3,lo3)=_ from by unfold Fnd.own;dsimp only;rw [←hw1];exact hx_) hb5 hb6).symm⟩
   have hcl:k=1∨k=8∨k=12∨ ¬ (k=1∨k=8∨k=12):=by omega
   rcases hcl with hcl|hcl|hcl|hcl
   · unfold Fnd.own2 at K2;simp only [if_pos hcl] at K2
     refine xx 6 ?_;refine X.kt 83 ?_;refine xo 4 ?_;refine ldA ?_;refine oo 1 ?_;refine ld ?_;refine XO.cR call100 (Sp (f:=g) knA) ?_
     refine ox 2 ?_;refine X.join (fun (x:FC)=> [(2,.pointer (some ⟨n1,0,none⟩)),(3,.pointer (some ⟨n2,0,none⟩)),(4,.pointer (some ⟨n3,0,none⟩)),(5,.pointer (some ⟨n4,0,none⟩))]) (fun x=>fcM x::pto n1 (.cells (fcC x).toArray 199 (0,0))::pto n2 (.cells (stC (.mk k ln cl nm wt (.mk k4 z4 s4 l4 o4 p4 y4 u4 w4) (.mk k3 z3 s3 l3 o3 p3 y3 u3 w3) body els ba bc ea ec f.stm sl other lo)).toArray 217 (0,0))::pto n3 (.cells [.slice none 0 0,.slice none 0 0,.int .i64 0,.int .i64 0,.slice none 0 0,.slice none 0 0,.int .i64 0,.int .i64 0,.slice none 0 0,.slice none 0 0,.slice none 0 0,.slice none 0 0,.slice none 0 0,.slice none 0 0,.int .i64 0,.int .i64 0,.int .i64 0,.int .i64 0,.int .i64 0,.int .i64 0].toArray 199 (0,0))::pto n4 (.cells [.int .i64 0,.int .i64 0,.int .i64 0,.string ⟨#[]⟩,.string ⟨#[]⟩,.int .i64 0,.int .i64 0,.string ⟨#[]⟩,.int .i64 0,.bool false,.int .i64 0,.slice none 0 0,.int .i64 0,.int .i64 0,.string ⟨#[]⟩,.int .i64 0,.bool false,.int .i64 0,.slice none 0 0,.slice none 0 0,.slice none 0 0,.int .i64 0,.int .i64 0,.int .i64 0,.bool false].toArray 217 (0,0))::exM (.mk k3 z3 s3 l3 o3 p3 y3 u3 w3)::exM (.mk k4 z4 s4 l4 o4 p4 y4 u4 w4)::(q++F)) (fun x=>x.er=g.er.loc1 nm) (fun x hx_=> ?_) (fun K3=> ?_)
     · obtain ⟨g3,hg3⟩: ∃ y,y=x:=⟨_,rfl⟩;rw [←hg3] at hx_⊢;clear hg3
       refine xo 4 ?_;refine ld ?_;refine ox 2 ?_;refine X.join (fun (x:FC)=> [(2,.pointer (some ⟨n1,0,none⟩)),(3,.pointer (some ⟨n2,0,none⟩)),(4,.pointer (some ⟨n3,0,none⟩)),(5,.pointer (some ⟨n4,0,none⟩))]) (fun x=>fcM x::pto n1 (.cells (fcC x).toArray 199 (0,0))::pto n2 (.cells (stC (.mk k ln cl nm wt (.mk k4 z4 s4 l4 o4 p4 y4 u4 w4) (.mk k3 z3 s3 l3 o3 p3 y3 u3 w3) body els ba bc ea ec f.stm sl other lo)).toArray 217 (0,0))::pto n3 (.cells [.slice none 0 0,.slice none 0 0,.int .i64 0,.int .i64 0,.slice none 0 0,.slice none 0 0,.int .i64 0,.int .i64 0,.slice none 0 0,.slice none 0 0,.slice none 0 0,.slice none 0 0,.slice none 0 0,.slice none 0 0,.int .i64 0,.int .i64 0,.int .i64 0,.int .i64 0,.int .i64 0,.int .i64 0].toArray 199 (0,0))::pto n4 (.cells [.int .i64 0,.int .i64 0,.int .i64 0,.string ⟨#[]⟩,.string ⟨#[]⟩,.int .i64 0,.int .i64 0,.string ⟨#[]⟩,.int .i64 0,.bool false,.int .i64 0,.slice none 0 0,.int .i64 0,.int .i64 0,.string ⟨#[]⟩,.int .i64 0,.bool false,.int .i64 0,.slice none 0 0,.slice none 0 0,.slice none 0 0,.int .i64 0,.int .i64 0,.int .i64 0,.bool false].toArray 217 (0,0))::exM (.mk k3 z3 s3 l3 o3 p3 y3 u3 w3)::exM (.mk k4 z4 s4 l4 o4 p4 y4 u4 w4)::(q++F)) (fun x=>x.er=(g.er.loc1 nm).loc2) (fun x hx_=> ?_) (fun K4=> ?_)
       · obtain ⟨g4,hg4⟩: ∃ y,y=x:=⟨_,rfl⟩;rw [←hg4] at hx_⊢;clear hg4
         have hto4:f.er.To g4.er 0:=by have h1:=hto1.trans ((Fnd.To.loc1 g.er nm).trans (Fnd.To.loc2 (g.er.loc1 nm)));rw [←hx_] at h1;exact h1
         obtain ⟨hn4,⟨hl4,hm4⟩,hs4,_⟩:=hto4;dsimp only [FC.er] at hn4 hl4 hm4 hs4
         refine xo 3 ?_;refine ld ?_;refine oo 1 ?_;refine st ?_;refine oo 1 ?_;refine st ?_;refine ox 2 ?_;refine drw ?_;refine dd [0] ?_;refine ldD 1 ?_;refine dd [3] ?_;refine ldD 4 ?_;refine dd [5] ?_;refine ldD 6 ?_;refine dd [7] ?_;refine XD.le (q':=rsH nmC 3 204 none 0 ([])::_) (Wq nmC 3 204 _) ?_
         refine Yy (fl:= [⟨8,113,fun g=> .slice (some ⟨g,0,none⟩) 1 1,fun g=>rsH nmC 3 204 (some ⟨g,0,none⟩) 1 ([⟨nm,100,g4.locals⟩])⟩]) ?_
         refine XF.ef 2 ⟨⟨_,rfl,rfl,rfl,rfl,rfl,rfl,fun q=>Ws (u:=⟨nm,100,g4.locals⟩) nmC underlying197 Ql rfl rfl (fun _=>rfl) rfl⟩,trivial⟩ (Ez (f:=nmC) (sz:=3) (l:= []) (m:=g4.names.l) underlying197 Ql rfl rfl (fun _=>rfl) rfl rfl Zw (Sv.sees (Kn.imp (φ:=fun M=>g4.At M) knA fun M h=>h.names)) (fun _=>rfl) (by simp;omega) (by simp;omega)) ?_
         rintro _ _ ⟨aa,ac,rfl,rfl⟩
         refine ⟨hlA,?_⟩
         refine Wv (e0:=⟨8,113,fun g=> .slice (some ⟨g,0,none⟩) 1 1,fun g=>rsH nmC 3 204 (some ⟨g,0,none⟩) 1 ([⟨nm,100,g4.locals⟩])⟩) (hnd:=by simp) 8 ⟨⟨_,rfl,rfl,rfl,rfl,rfl,rfl,fun q=>Ws (u:=⟨nm,100,g4.locals⟩) nmC underlying197 Ql rfl rfl (fun _=>rfl) rfl⟩,trivial⟩ (fun gl=> ?_)
         change XF _ _ _ _ _ _ _ [] _ _ _ ((113,.slice (some ⟨gl,0,none⟩) 1 1)::_) _ _ (rsH nmC 3 204 (some ⟨gl,0,none⟩) 1 ([⟨nm,100,g4.locals⟩])::_)
         refine XF.back ?_
         try rw [List.nil_append]
         refine XD.ef 9 rfl (Z5 (f:=nmC) (l:=g4.names.l) (m:= [⟨nm,100,g4.locals⟩]) underlying197 Ql rfl rfl (fun _=>rfl) rfl rfl Zw ((Sees.rsH _).le Zw) (fun _=>rfl) (by simp;omega) (by simp;omega)) ?_
         rintro _ _ ⟨ba2,bc2,rfl,rfl⟩
         refine ⟨hlA,?_⟩
         refine dd [10] ?_;refine stD 11 ?_;refine XD.nil ?_;refine xo 3 ?_;refine ld ?_;refine oo 2 ?_;refine st ?_;refine oo 3 ?_;refine ld ?_;refine oo 1 ?_;refine ld ?_;refine oo 2 ?_;refine st ?_;refine ox 2 ?_;refine E2 ?_;refine X.le (q':=fcM ({ g4 with names:=⟨g4.names.l++ [⟨nm,100,g4.locals⟩],ba2,bc2⟩,locals:=g4.locals+1,most:=max g4.most (g4.locals+1) } :FC)::_) (Kn.add ((Kn.and (φ:=fun M=>g4.At M) knA (svK (x:=⟨_,ba2,bc2⟩) (f:=nmC))).imp fun M h=>FC.At.l h.1 h.2)) ?_
         exact X.at (K2 (({ g4 with names:=⟨g4.names.l++ [⟨nm,100,g4.locals⟩],ba2,bc2⟩,locals:=g4.locals+1,most:=max g4.most (g4.locals+1) } :FC),g4.locals,other,true) (by rw [←hx_];rfl)) Zt leA
       refine X.part 96 rfl (fun h4=> ?_) (fun h4=> ?_)
       · replace h4:=sp h4
         refine xo 2 ?_;refine ldA ?_;refine oo 1 ?_;refine ldA ?_;refine Zh call101 (Le.refl _) (Um (f:=g3) knA) ?_
         rintro _ _ ⟨gf,rfl,rfl,hg⟩
         refine stA ?_;refine ox 1 ?_;exact X.at (K4 gf (by rw [←hx_];unfold Fnd.loc2;rw [if_pos (show 32≤g3.er.locals from h4)];exact hg)) Zt leA
       replace h4:=sp h4
       refine xx 2 ?_;exact X.at (K4 g3 (by rw [←hx_];unfold Fnd.loc2;rw [if_neg (show ¬32≤g3.er.locals from (by show ¬32≤g3.locals;omega))])) Zt leA
     refine X.part 89 rfl (fun h3=> ?_) (fun h3=> ?_)
     · replace h3:=sp h3
       refine xo 2 ?_;refine ldA ?_;refine oo 1 ?_;refine ldA ?_;refine Zh call101 (Le.refl _) (Um (f:=g) knA) ?_
       rintro _ _ ⟨gf,rfl,rfl,hg⟩
       refine stA ?_;refine ox 1 ?_;exact X.at (K3 gf (by unfold Fnd.loc1;rw [if_pos (show g.er.at nm≠0 by omega)];exact hg)) Zt leA
     replace h3:=sp h3
     refine xx 2 ?_;exact X.at (K3 g (by unfold Fnd.loc1;rw [if_neg (show ¬g.er.at nm≠0 by omega)])) Zt leA
   · unfold Fnd.own2 at K2;simp only [if_neg (show ¬k=1 by omega),if_pos hcl] at K2
     refine xx 6 ?_;refine Zj 83 ?_;refine xx 6 ?_;refine X.kt 126 ?_;refine xo 3 ?_;refine ldA ?_;refine oo 1 ?_;refine ld ?_;refine oo 1 ?_;refine ldA ?_;refine Zh call189 (Le.refl _) (wants_ok (f:=g) knA) ?_
     rintro _ _ ⟨gw,xw,rfl,rfl,hww⟩
     refine oo 3 ?_;refine Zy zeroValue199 fun n5=> ?_
     refine Zy zeroValue204 fun n6=> ?_
     refine stA ?_;refine stA ?_;refine oo 3 ?_;refine ldA ?_;refine stA ?_;refine oo 3 ?_;refine ld ?_;refine oo 1 ?_;refine st ?_;refine ox 2 ?_;exact X.at (K2 (gw,sl,xw.s,lo) (by rw [←hww])) Zt leA
   · unfold Fnd.own2 at K2;simp only [if_neg (show ¬k=1 by omega),if_neg (show ¬k=8 by omega),if_pos hcl] at K2
     refine xx 6 ?_;refine Zj 83 ?_;refine xx 6 ?_;refine Zj 126 ?_;refine xx 6 ?_;refine X.kt 141 ?_;refine xo 3 ?_;refine ldA ?_;refine oo 1 ?_;refine ld ?_;refine oo 1 ?_;refine ldA ?_;refine Zh call189 (Le.refl _) (wants_ok (f:=g) knA) ?_
     rintro _ _ ⟨gw,xw,rfl,rfl,hww⟩
     refine oo 3 ?_;refine Zy zeroValue199 fun n7=> ?_
     refine Zy zeroValue204 fun n8=> ?_
     refine stA ?_;refine stA ?_;refine oo 3 ?_;refine ldA ?_;refine stA ?_;refine ox 1 ?_;refine drw ?_;refine dd [0] ?_;refine ldD 1 ?_;refine dd [2] ?_;refine ldD 3 ?_;refine dd [4,5] ?_;refine stD 6 ?_;refine dd [7] ?_;refine stD 8 ?_;refine XD.nil ?_;refine xx 1 ?_;exact X.at (K2 (gw,sl,xw.s,xw.k==100) (by rw [←hww])) Zt leA
   unfold Fnd.own2 at K2;simp only [if_neg (show ¬k=1 by omega),if_neg (show ¬k=8 by omega),if_neg (show ¬k=12 by omega)] at K2
   refine xx 6 ?_;refine X.know 83 (.bool false) rfl (congrArg Value.bool (beq_eq_false_iff_ne.2 (by omega))) ?_
   refine xx 6 ?_;refine X.know 126 (.bool false) rfl (congrArg Value.bool (beq_eq_false_iff_ne.2 (by omega))) ?_
   refine xx 6 ?_;refine X.know 141 (.bool false) rfl (congrArg Value.bool (beq_eq_false_iff_ne.2 (by omega))) ?_
   refine xx 3 ?_;exact X.at (K2 (g,sl,other,lo) rfl) Zt leA
 refine X.part 62 rfl (fun h1=> ?_) (fun h1=> ?_)
 · replace h1:=sp h1
   refine xo 3 ?_;refine ldA ?_;refine oo 1 ?_;refine ld ?_;refine oo 3 ?_;refine ldA ?_;refine Zh call189 (Le.refl _) (wants_ok (f:=g2) knA) ?_
   rintro _ _ ⟨gw,xw,rfl,rfl,hww⟩
   refine oo 3 ?_;refine Zy zeroValue199 fun n9=> ?_
   refine Zy zeroValue204 fun n10=> ?_
   refine stA ?_;refine stA ?_;refine oo 3 ?_;refine ldA ?_;refine stA ?_;refine ox 1 ?_;refine drw ?_;refine dd [0] ?_;refine ldD 1 ?_;refine dd [2] ?_;refine ldD 3 ?_;refine dd [4,5] ?_;refine stD 6 ?_;refine dd [7] ?_;refine stD 8 ?_;refine XD.nil ?_;exact X.at (K (gw,xw.s,xw.k==100) ⟨rfl,by unfold Fnd.own1;rw [if_pos (by simpa using h1),←hww],by have h2:=hto.trans (Fnd.To.wants g2.er nm (J1 k).1 (J1 k).2);rw [←hww] at h2;exact h2⟩) Zt leA
 replace h1:=sp h1
 refine xx 2 ?_;exact X.at (K (g2,slot,loc) ⟨rfl,by unfold Fnd.own1;rw [if_neg (by simpa using h1)],hto⟩) Zt leA
end
section
variable {G:World}{q:List HP}{f:FC}{x:Stm}{m:List Stm}{a:Option Addr}{c:Nat}
theorem Fs {l:List Stm}{k:Nat}(h:k<l.length):Z2 (l.drop k)=l[k].sz+Z2 (l.drop (k+1)):=by rw [List.drop_eq_getElem_cons h];rfl
theorem Stm.sz_pos (x:Stm):1≤x.sz:=by cases x;simp only [Stm.sz];omega
theorem R1: ∀ (l:List Stm),l.length≤Z2 l
 | []=>Nat.zero_le _
 |x::r=>by have:=Stm.sz_pos x;have:=R1 r;simp only [Z2,List.length_cons];omega
set_option maxHeartbeats 8000000 in
theorem Rs (IH: ∀ (x:Stm),x.sz≤Z2 m→x.er.thin→ ∀ {f:FC} {q:List HP},(Kn q fun M=>f.At M)→(Kn q fun M=>x.At M)→(f.names.l.length+x.sz≤300000∧(0≤f.locals∧f.locals+x.sz≤300000)∧0≤f.stm)→CallF prog G 152 [.agg (fcC f).toArray,.agg (stC x).toArray] q (Ret fun v q'=> ∃ (g:FC) (y:Stm),v= .tuple [.agg (fcC g).toArray,.agg (stC y).toArray].toArray∧q'=fcM g::stM y::q∧(g.er,y.er)=f.er.stmt x.er))(hf:Kn q fun M=>f.At M)(h:Kn q fun M=>BlkAt M a c m)(ht:Vj (Zk m))(hb:(f.names.l.length+Z2 m≤300000∧(0≤f.locals∧f.locals+Z2 m≤300000)∧0≤f.stm)):CallF prog G 102 [.agg (fcC f).toArray,.slice a m.length c] (q) (Ret fun v q'=> ∃ (g:FC) (b:Option Addr) (d:Nat) (m':List Stm),v= .tuple [.agg (fcC g).toArray,.slice b m'.length d].toArray∧q'=fcM g::blM b d m'::q∧(g.er,Zk m')=f.er.block (Zk m)):=by
 refine CallF.of func102 ntmps102 rfl (fun F cs=> ?_)
 have hzl:=R1 m;have hA:=P4 h;have hlen:=Zm (f:=stC) (sz:=25) Ug m;refine X.fact (fun w s=>P2 (h.le leA) s) (fun hal=> ?_)
 obtain ⟨R,hR⟩: ∃ R,f.er.blk (Zk m)=R:=⟨_,rfl⟩
 obtain ⟨fn,hfn⟩: ∃ x,x=f.names:=⟨_,rfl⟩;obtain ⟨fl,hfl⟩: ∃ x,x=f.locals:=⟨_,rfl⟩
 refine xo 2 ?_;refine Zb fun n1=> ?_
 refine Zy zeroValue199 fun n2=> ?_
 refine ox 3 ?_;refine drw ?_;refine dd [0] ?_;refine ldD 1 ?_;refine dd [2] ?_;refine ldD 3 ?_;refine dd [4,5] ?_;refine XD.nil ?_;refine xx 10 ?_;refine X.at (X.loop (fun (s:FC×(Option Addr×Nat×List Stm)×Option Addr)=>s.2.1.2.2.length≤m.length∧s.2.2=a∧R=((Fnd.blk s.1.er (Zk (m.drop s.2.1.2.2.length))).1,Zk s.2.1.2.2++(Fnd.blk s.1.er (Zk (m.drop s.2.1.2.2.length))).2)∧(s.1.names.l.length+Z2 (m.drop s.2.1.2.2.length)≤300000∧(0≤s.1.locals∧s.1.locals+Z2 (m.drop s.2.1.2.2.length)≤300000)∧0≤s.1.stm)) (fun s=> [(8,.slice s.2.1.1 s.2.1.2.2.length s.2.1.2.1),(9,.int .i64 (s.2.1.2.2.length:Int)),(1,.slice s.2.2 m.length c),(2,.pointer (some ⟨n1,0,none⟩)),(4,.pointer (some ⟨n2,0,none⟩)),(5,.slice none 0 0),(6,f.names.v),(7,.int .i64 f.locals)]) (fun s=>rsH stC 25 217 s.2.1.1 s.2.1.2.1 s.2.1.2.2::stsM s.2.1.2.2::fcM s.1::pto n1 (.cells (fcC s.1).toArray 199 (0,0))::pto n2 (.cells [.slice none 0 0,.slice none 0 0,.int .i64 0,.int .i64 0,.slice none 0 0,.slice none 0 0,.int .i64 0,.int .i64 0,.slice none 0 0,.slice none 0 0,.slice none 0 0,.slice none 0 0,.slice none 0 0,.slice none 0 0,.int .i64 0,.int .i64 0,.int .i64 0,.int .i64 0,.int .i64 0,.int .i64 0].toArray 199 (0,0))::(q++F)) (fun s=>m.length - s.2.1.2.2.length) (fun s hi_ ih=> ?_) (f,(none,0, []),a) ⟨Nat.zero_le _,rfl,hR.symm,hb⟩) Zt (Le.trans leA (Le.trans (Wq stC 25 217 _) (Le.trans Do (Le.trans (Kn.add (φ:=fun M=>f.At M) (mn:=fun e h=>FC.At.mono e h) (Kn.le hf)) leA))))
 try dsimp only at hi_ ih⊢
 obtain ⟨hi1,hi2,hi3,hi4⟩:=hi_
 obtain ⟨g,⟨a2,c2,out⟩,aa2⟩:=s;dsimp only at*;subst hi2
 refine xo 8 ?_;refine Zf [20,8,9,1,2,4,5,6,7] ?_
 apply Zg 4 24 20 rfl
 · intro g1 M1;have h1:=sp g1
   refine oo 1 ?_;refine ld ?_;refine oo 2 ?_;exact Zz M1 ⟨Yd g1,Zv⟩
 · intro g1 M1;have h1:=sp g1
   refine oo 4 ?_;exact Zz M1 ⟨Yc g1,Zv⟩
 refine ox 1 ?_;refine X.part 24 rfl (fun h0=> ?_) (fun h0=> ?_)
 · obtain ⟨hlt,h9⟩:out.length<m.length∧g.flaw=0:=(by rw [Bool.and_eq_true] at h0;exact ⟨by simpa using h0.1,by simpa using h0.2⟩)
   have hz:=Fs hlt;rw [hz] at hi4
   obtain ⟨y,hy⟩: ∃ y,m[out.length]=y:=⟨_,rfl⟩;rw [hy] at hi4;obtain ⟨k3,ln3,cl3,nm3,wt3,⟨k3a,z3a,s3a,l3a,o3a,p3a,y3a,u3a,w3a⟩,⟨k3b,z3b,s3b,l3b,o3b,p3b,y3b,u3b,w3b⟩,body3,els3,ba3,bc3,ea3,ec3,id3,slot3,other3,loc3⟩:=y;have hp:=Stm.sz_pos (.mk k3 ln3 cl3 nm3 wt3 (.mk k3a z3a s3a l3a o3a p3a y3a u3a w3a) (.mk k3b z3b s3b l3b o3b p3b y3b u3b w3b) body3 els3 ba3 bc3 ea3 ec3 id3 slot3 other3 loc3)
   refine xx 5 ?_;refine drw ?_;refine Z4 0 ?_;refine dd [1,2] ?_;refine Yp hA (by rw [hlen];omega) (fun b1 o1 e1=> ?_);subst e1
   have hrw: ∀ (Q:List HP),Le Q q→ ∀ (j:Nat) (v:Value),nth (stC (.mk k3 ln3 cl3 nm3 wt3 (.mk k3a z3a s3a l3a o3a p3a y3a u3a w3a) (.mk k3b z3b s3b l3b o3b p3b y3b u3b w3b) body3 els3 ba3 bc3 ea3 ec3 id3 slot3 other3 loc3)) j=some v→Cl Q ⟨b1,o1+(out.length:Int).toNat*25+j,none⟩ v:=fun Q hQ j v hv=>Yi hA hQ Ug hlt rfl j v (by rw [hy,←Vn];exact hv)
   have hrL: ∀ (Q:List HP) (i:Nat),Le Q q→HL Q (rdA i b1 (o1+(out.length:Int).toNat*25) (stC (.mk k3 ln3 cl3 nm3 wt3 (.mk k3a z3a s3a l3a o3a p3a y3a u3a w3a) (.mk k3b z3b s3b l3b o3b p3b y3b u3b w3b) body3 els3 ba3 bc3 ea3 ec3 id3 slot3 other3 loc3))):=fun Q i hQ=>HL.rdA fun j v hk=>hrw Q hQ j v (by rw [Vn];exact hk)
   refine dd [3] ?_;refine XD.rdCs 4 (us:=stC (.mk k3 ln3 cl3 nm3 wt3 (.mk k3a z3a s3a l3a o3a p3a y3a u3a w3a) (.mk k3b z3b s3b l3b o3b p3b y3b u3b w3b) body3 els3 ba3 bc3 ea3 ec3 id3 slot3 other3 loc3)) rfl rfl isAgg217 sizeOf217 rfl (fun k v hk=>hrw _ leA k v (by rw [Vn];exact hk)) ?_
   refine Yy (fl:= [⟨9,10,fun g=> .pointer (some ⟨g,0,none⟩),fun g=>pto g (.cells [.slice none 0 0,.slice none 0 0,.int .i64 0,.int .i64 0,.slice none 0 0,.slice none 0 0,.int .i64 0,.int .i64 0,.slice none 0 0,.slice none 0 0,.slice none 0 0,.slice none 0 0,.slice none 0 0,.slice none 0 0,.int .i64 0,.int .i64 0,.int .i64 0,.int .i64 0,.int .i64 0,.int .i64 0].toArray 199 (0,0))⟩,⟨10,11,fun g=> .pointer (some ⟨g,0,none⟩),fun g=>pto g (.cells [.int .i64 0,.int .i64 0,.int .i64 0,.string ⟨#[]⟩,.string ⟨#[]⟩,.int .i64 0,.int .i64 0,.string ⟨#[]⟩,.int .i64 0,.bool false,.int .i64 0,.slice none 0 0,.int .i64 0,.int .i64 0,.string ⟨#[]⟩,.int .i64 0,.bool false,.int .i64 0,.slice none 0 0,.slice none 0 0,.slice none 0 0,.int .i64 0,.int .i64 0,.int .i64 0,.bool false].toArray 217 (0,0))⟩]) ?_
   refine Jd 5 ⟨⟨_,rfl,rfl,rfl,rfl,rfl,rfl,fun q=>Ef.alloc zeroValue199⟩,⟨_,rfl,rfl,rfl,rfl,rfl,rfl,fun q=>Ef.alloc zeroValue217⟩,trivial⟩ call152 (Le.refl _) (IH (.mk k3 ln3 cl3 nm3 wt3 (.mk k3a z3a s3a l3a o3a p3a y3a u3a w3a) (.mk k3b z3b s3b l3b o3b p3b y3b u3b w3b) body3 els3 ba3 bc3 ea3 ec3 id3 slot3 other3 loc3) (by have:=Qn (List.getElem_mem hlt);rw [hy] at this;exact this) (by have:=Mz ht (by rw [Uo];exact List.mem_map_of_mem (List.getElem_mem hlt));rw [hy] at this;exact this) (f:=g) knA (Kn.le (by have:=P3 h hlt;rw [hy] at this;exact this) leA) ⟨by omega,⟨by omega,by omega⟩,by omega⟩) ?_ (hL:=(hlA (h:=by repeat first|exact trivial|refine ⟨clA,?_⟩|refine HL.app (hrL _ _ leA) ?_|refine ⟨hrw _ leA 0 _ rfl,?_⟩|refine ⟨hrw _ leA _ _ rfl,?_⟩)))
   rintro _ _ ⟨g2,⟨k2,ln2,cl2,nm2,wt2,⟨k2a,z2a,s2a,l2a,o2a,p2a,y2a,u2a,w2a⟩,⟨k2b,z2b,s2b,l2b,o2b,p2b,y2b,u2b,w2b⟩,body2,els2,ba2,bc2,ea2,ec2,id2,slot2,other2,loc2⟩,rfl,rfl,hge⟩
   refine ⟨trivial,?_⟩
   refine Mq 6 ⟨⟨_,rfl,rfl,rfl,rfl,rfl,rfl,fun q=>Ef.alloc zeroValue199⟩,⟨_,rfl,rfl,rfl,rfl,rfl,rfl,fun q=>Ef.alloc zeroValue217⟩,trivial⟩ (Pu.move rfl) ?_
   refine Mq 7 ⟨⟨_,rfl,rfl,rfl,rfl,rfl,rfl,fun q=>Ef.alloc zeroValue199⟩,⟨_,rfl,rfl,rfl,rfl,rfl,rfl,fun q=>Ef.alloc zeroValue217⟩,trivial⟩ (Pu.extract rfl rfl) ?_
   refine Mq 8 ⟨⟨_,rfl,rfl,rfl,rfl,rfl,rfl,fun q=>Ef.alloc zeroValue199⟩,⟨_,rfl,rfl,rfl,rfl,rfl,rfl,fun q=>Ef.alloc zeroValue217⟩,trivial⟩ (Pu.extract rfl rfl) ?_
   refine Wv (e0:=⟨9,10,fun g=> .pointer (some ⟨g,0,none⟩),fun g=>pto g (.cells [.slice none 0 0,.slice none 0 0,.int .i64 0,.int .i64 0,.slice none 0 0,.slice none 0 0,.int .i64 0,.int .i64 0,.slice none 0 0,.slice none 0 0,.slice none 0 0,.slice none 0 0,.slice none 0 0,.slice none 0 0,.int .i64 0,.int .i64 0,.int .i64 0,.int .i64 0,.int .i64 0,.int .i64 0].toArray 199 (0,0))⟩) (hnd:=by simp) 9 ⟨⟨_,rfl,rfl,rfl,rfl,rfl,rfl,fun q=>Ef.alloc zeroValue199⟩,⟨_,rfl,rfl,rfl,rfl,rfl,rfl,fun q=>Ef.alloc zeroValue217⟩,trivial⟩ (fun ga=> ?_)
   change XF _ _ _ _ _ _ _ [⟨10,11,fun g=> .pointer (some ⟨g,0,none⟩),fun g=>pto g (.cells [.int .i64 0,.int .i64 0,.int .i64 0,.string ⟨#[]⟩,.string ⟨#[]⟩,.int .i64 0,.int .i64 0,.string ⟨#[]⟩,.int .i64 0,.bool false,.int .i64 0,.slice none 0 0,.int .i64 0,.int .i64 0,.string ⟨#[]⟩,.int .i64 0,.bool false,.int .i64 0,.slice none 0 0,.slice none 0 0,.slice none 0 0,.int .i64 0,.int .i64 0,.int .i64 0,.bool false].toArray 217 (0,0))⟩] _ _ _ ((10,.pointer (some ⟨ga,0,none⟩))::_) _ _ (pto ga (.cells [.slice none 0 0,.slice none 0 0,.int .i64 0,.int .i64 0,.slice none 0 0,.slice none 0 0,.int .i64 0,.int .i64 0,.slice none 0 0,.slice none 0 0,.slice none 0 0,.slice none 0 0,.slice none 0 0,.slice none 0 0,.int .i64 0,.int .i64 0,.int .i64 0,.int .i64 0,.int .i64 0,.int .i64 0].toArray 199 (0,0))::_)
   refine Wv (e0:=⟨10,11,fun g=> .pointer (some ⟨g,0,none⟩),fun g=>pto g (.cells [.int .i64 0,.int .i64 0,.int .i64 0,.string ⟨#[]⟩,.string ⟨#[]⟩,.int .i64 0,.int .i64 0,.string ⟨#[]⟩,.int .i64 0,.bool false,.int .i64 0,.slice none 0 0,.int .i64 0,.int .i64 0,.string ⟨#[]⟩,.int .i64 0,.bool false,.int .i64 0,.slice none 0 0,.slice none 0 0,.slice none 0 0,.int .i64 0,.int .i64 0,.int .i64 0,.bool false].toArray 217 (0,0))⟩) (hnd:=by simp) 10 ⟨⟨_,rfl,rfl,rfl,rfl,rfl,rfl,fun q=>Ef.alloc zeroValue217⟩,trivial⟩ (fun gb=> ?_)
   change XF _ _ _ _ _ _ _ [] _ _ _ ((11,.pointer (some ⟨gb,0,none⟩))::_) _ _ (pto gb (.cells [.int .i64 0,.int .i64 0,.int .i64 0,.string ⟨#[]⟩,.string ⟨#[]⟩,.int .i64 0,.int .i64 0,.string ⟨#[]⟩,.int .i64 0,.bool false,.int .i64 0,.slice none 0 0,.int .i64 0,.int .i64 0,.string ⟨#[]⟩,.int .i64 0,.bool false,.int .i64 0,.slice none 0 0,.slice none 0 0,.slice none 0 0,.int .i64 0,.int .i64 0,.int .i64 0,.bool false].toArray 217 (0,0))::_)
   refine XF.back ?_;refine Z9 11 ?_;refine Z9 12 ?_;refine XD.nil ?_;refine xo 2 ?_;refine ldA ?_;refine stA ?_;refine oo 3 ?_;refine ldA ?_;refine XO.ef (Ws (u:=(.mk k2 ln2 cl2 nm2 wt2 (.mk k2a z2a s2a l2a o2a p2a y2a u2a w2a) (.mk k2b z2b s2b l2b o2b p2b y2b u2b w2b) body2 els2 ba2 bc2 ea2 ec2 id2 slot2 other2 loc2)) stC underlying103 Ns rfl rfl Ug rfl) ?_
   rintro _ _ ⟨gl,rfl,rfl⟩
   refine XO.ef (Z5 (f:=stC) (l:=out) (m:= [(.mk k2 ln2 cl2 nm2 wt2 (.mk k2a z2a s2a l2a o2a p2a y2a u2a w2a) (.mk k2b z2b s2b l2b o2b p2b y2b u2b w2b) body2 els2 ba2 bc2 ea2 ec2 id2 slot2 other2 loc2)]) underlying103 Ns rfl rfl Ug rfl rfl Zw ((Sees.rsH _).le Zw) Lf (by simp;omega) (by simp;omega)) ?_
   rintro _ _ ⟨a3,c3,rfl,rfl⟩
   refine ox 8 ?_;refine X.sts (l:=out) (s:=(.mk k2 ln2 cl2 nm2 wt2 (.mk k2a z2a s2a l2a o2a p2a y2a u2a w2a) (.mk k2b z2b s2b l2b o2b p2b y2b u2b w2b) body2 els2 ba2 bc2 ea2 ec2 id2 slot2 other2 loc2)) Zw Zw ?_
   have hto:=Fnd.To.stmt (Stm.er (.mk k3 ln3 cl3 nm3 wt3 (.mk k3a z3a s3a l3a o3a p3a y3a u3a w3a) (.mk k3b z3b s3b l3b o3b p3b y3b u3b w3b) body3 els3 ba3 bc3 ea3 ec3 id3 slot3 other3 loc3)) g.er;rw [←congrArg Prod.fst hge] at hto;obtain ⟨hn3,⟨hl3,hm3⟩,hs3,_⟩:=hto;dsimp only [FC.er] at hn3 hl3 hm3 hs3
   have hst:R=((Fnd.blk g2.er (Zk (m.drop (out.length+1)))).1,Zk (out++ [(.mk k2 ln2 cl2 nm2 wt2 (.mk k2a z2a s2a l2a o2a p2a y2a u2a w2a) (.mk k2b z2b s2b l2b o2b p2b y2b u2b w2b) body2 els2 ba2 bc2 ea2 ec2 id2 slot2 other2 loc2)])++(Fnd.blk g2.er (Zk (m.drop (out.length+1)))).2):=by
    rw [hi3,List.drop_eq_getElem_cons hlt,hy,J7];simp only [Zk,Fnd.blk];rw [if_pos (show g.er.flaw=0 from h9)];simp only [←hge,List.append_assoc,List.singleton_append]
   have hi5:(g2.names.l.length+Z2 (m.drop (out.length+1))≤300000∧(0≤g2.locals∧g2.locals+Z2 (m.drop (out.length+1))≤300000)∧0≤g2.stm):=⟨by omega,⟨by omega,by omega⟩,by omega⟩
   refine X.at (ih (g2,(a3,c3,out++ [(.mk k2 ln2 cl2 nm2 wt2 (.mk k2a z2a s2a l2a o2a p2a y2a u2a w2a) (.mk k2b z2b s2b l2b o2b p2b y2b u2b w2b) body2 els2 ba2 bc2 ea2 ec2 id2 slot2 other2 loc2)]),_) ⟨by simp;omega,rfl,by rw [List.length_append];exact hst,by rw [List.length_append];exact hi5⟩ (by simp;omega)) Zt leA
 have hR2:R=(g.er,Zk out):=by
  rcases Nat.lt_or_ge out.length m.length with hlt|hlt
  · rw [hi3,List.drop_eq_getElem_cons hlt];simp only [Zk,Fnd.blk];rw [if_neg (show ¬g.er.flaw=0 from fun hg=>by revert h0;rw [decide_eq_true (show (out.length:Int)<m.length by omega),show g.flaw=0 from hg];decide)];simp
  rw [hi3,List.drop_eq_nil_of_le hlt];simp only [Zk,Fnd.blk,List.append_nil]
 refine xo 7 ?_;refine st ?_;refine oo 1 ?_;refine st ?_;refine oo 3 ?_;refine ldA ?_;refine oo 1 ?_;refine stA ?_;refine ox 2 ?_;refine X.le (q':=fcM ({ g with names:=f.names,locals:=f.locals } :FC)::_) (Kn.add ((Kn.and (φ:=fun M=>g.At M) knA (Kn.le hf)).imp fun M h=>FC.At.b h.1 h.2)) ?_
 refine X.fzB (m:=out) ?_
 refine Zq (fcM ({ g with names:=f.names,locals:=f.locals } :FC)::blM a2 c2 out::q) func102 (Te results102) ⟨_,rfl,({ g with names:=f.names,locals:=f.locals } :FC),a2,c2,out,rfl,rfl,by unfold Fnd.block;rw [hR,hR2];rfl⟩
theorem I5: ∀ N:Nat,(∀ (x:Stm),x.sz≤N→x.er.thin→ ∀ {f:FC} {q:List HP},(Kn q fun M=>f.At M)→(Kn q fun M=>x.At M)→(f.names.l.length+x.sz≤300000∧(0≤f.locals∧f.locals+x.sz≤300000)∧0≤f.stm)→CallF prog G 152 [.agg (fcC f).toArray,.agg (stC x).toArray] q (Ret fun v q'=> ∃ (g:FC) (y:Stm),v= .tuple [.agg (fcC g).toArray,.agg (stC y).toArray].toArray∧q'=fcM g::stM y::q∧(g.er,y.er)=f.er.stmt x.er))∧(∀ (m:List Stm) (a:Option Addr) (c:Nat),Z2 m≤N→Vj (Zk m)→ ∀ {f:FC} {q:List HP},(Kn q fun M=>f.At M)→(Kn q fun M=>BlkAt M a c m)→(f.names.l.length+Z2 m≤300000∧(0≤f.locals∧f.locals+Z2 m≤300000)∧0≤f.stm)→CallF prog G 102 [.agg (fcC f).toArray,.slice a m.length c] q (Ret fun v q'=> ∃ (g:FC) (b:Option Addr) (d:Nat) (m':List Stm),v= .tuple [.agg (fcC g).toArray,.slice b m'.length d].toArray∧q'=fcM g::blM b d m'::q∧(g.er,Zk m')=f.er.block (Zk m))):=by
 intro N
 induction N with
 |zero=>
  have h1: ∀ (x:Stm),x.sz≤0→x.er.thin→ ∀ {f:FC} {q:List HP},(Kn q fun M=>f.At M)→(Kn q fun M=>x.At M)→(f.names.l.length+x.sz≤300000∧(0≤f.locals∧f.locals+x.sz≤300000)∧0≤f.stm)→CallF prog G 152 [.agg (fcC f).toArray,.agg (stC x).toArray] q (Ret fun v q'=> ∃ (g:FC) (y:Stm),v= .tuple [.agg (fcC g).toArray,.agg (stC y).toArray].toArray∧q'=fcM g::stM y::q∧(g.er,y.er)=f.er.stmt x.er):=fun x hx=>by have:=Stm.sz_pos x;omega
  exact ⟨h1,fun m a c hm ht _ _ hf h hb=>Rs (fun x hx=>h1 x (by omega)) hf h ht hb⟩
 |succ N ih=>
  have h1: ∀ (x:Stm),x.sz≤N+1→x.er.thin→ ∀ {f:FC} {q:List HP},(Kn q fun M=>f.At M)→(Kn q fun M=>x.At M)→(f.names.l.length+x.sz≤300000∧(0≤f.locals∧f.locals+x.sz≤300000)∧0≤f.stm)→CallF prog G 152 [.agg (fcC f).toArray,.agg (stC x).toArray] q (Ret fun v q'=> ∃ (g:FC) (y:Stm),v= .tuple [.agg (fcC g).toArray,.agg (stC y).toArray].toArray∧q'=fcM g::stM y::q∧(g.er,y.er)=f.er.stmt x.er):=fun x hx ht _ _ hf h hb=>Pq (fun m a c hm=>ih.2 m a c (by omega)) hf h ht hb
  exact ⟨h1,fun m a c hm ht _ _ hf h hb=>Rs (fun x hx=>h1 x (by omega)) hf h ht hb⟩
end
end Go.Proofs.YtgonllbkcgaliaaGreatDoor
