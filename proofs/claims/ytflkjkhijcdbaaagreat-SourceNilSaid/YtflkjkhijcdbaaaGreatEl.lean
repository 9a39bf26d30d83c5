/- Contracts of functions, proved by walking their code. -/
import Derived.Test.YtflkjkhijcdbaaaGreatEk
import Derived.KernelRfl
set_option maxRecDepth 100000
set_option linter.unusedVariables false
set_option linter.unusedSimpArgs false
namespace Go.Proofs.YtflkjkhijcdbaaaGreat
open Go Go.RowKit Wx Go.Proofs.Tryz
attribute [local irreducible] Wx.lsH Wx.rsH Wx.stars
theorem W2 (σ:StC)(n:Nat)(x:TC):({ σ with ths:=σ.ths.set n x } :StC).er=σ.er.put n x.er:=by
 unfold StC.er SS.put;simp [List.map_set]
theorem Fz {σ:StC}{n:Nat}(hn:n<σ.ths.length):σ.er.put n (σ.ths[n]).er=σ.er:=by
 unfold StC.er SS.put
 simp only [SS.mk.injEq,true_and,and_true]
 rw [←List.map_set,List.set_getElem_self]
def PStm.slt:PStm→Int
 | .mk _ _ _ _ _ _ _ _ _ _ slot _ _=>slot
theorem TodoAt.of {M:Hp}{l m:List TC}(h:m.map TC.todo=l.map TC.todo)(k:TodoAt M l):TodoAt M m:=fun t ht y hy=>by
 have h1:t.todo∈l.map TC.todo:=h ▸ List.mem_map_of_mem (f:=TC.todo) ht
 obtain ⟨u,hu,e⟩:=List.mem_map.1 h1
 exact k u hu y (e ▸ hy)
theorem K8 {l:List TC}{n:Nat}{x:TC}(hn:n<l.length)(h:x.todo=l[n].todo):(l.set n x).map TC.todo=l.map TC.todo:=by
 rw [List.map_set,h]
 apply List.ext_getElem (by simp)
 intro i h1 h2
 by_cases e:n=i
 · subst e;simp
 simp [List.getElem_set_ne e]
theorem T7 {l:List TC}{n:Nat}{x:TC}(hn:n<l.length)(h:trH x=trH l[n]):(l.set n x).map trH=l.map trH:=by
 rw [List.map_set,h]
 apply List.ext_getElem (by simp)
 intro i h1 h2
 by_cases e:n=i
 · subst e;simp
 simp [List.getElem_set_ne e]
theorem Mi {ths:List TC}{n:Nat}(hn:n<ths.length)(r:List HP):Le (stars (ths.map trH)::r) (lsH I64 2 ths[n].la ths[n].lc ths[n].loc::lsH PS.v 146 ths[n].ta ths[n].tc ths[n].todo::lsH I64 3 ths[n].sa ths[n].sc ths[n].sp::stars ((ths.eraseIdx n).map trH)::r):=
 (Le.focus trH hn r).trans (Z0 (trL ths[n]) _)
theorem Mr {ths:List TC}{n:Nat}(hn:n<ths.length)(x:TC)(r:List HP):Le (lsH I64 2 x.la x.lc x.loc::lsH PS.v 146 x.ta x.tc x.todo::lsH I64 3 x.sa x.sc x.sp::stars ((ths.eraseIdx n).map trH)::r) (stars ((ths.set n x).map trH)::r):=
 (Z5 (trL x) _).trans (Mt trH hn x r)
theorem rs_same {l m:List TC}{a:Option Addr}{c ty:Nat}(h:l.flatMap trC=m.flatMap trC):rsH trC 5 ty a c l=rsH trC 5 ty a c m:=by
 have hl:l.length=m.length:=by have:=congrArg List.length h;rw [Zv Zd,Zv Zd] at this;omega
 unfold rsH;rw [h,hl]
theorem E2 {l:List TC}{n:Nat}{x:TC}(hn:n<l.length)(h:trC x=trC l[n]):(l.set n x).flatMap trC=l.flatMap trC:=by
 rw [List.flatMap_def,List.flatMap_def,List.map_set,h]
 congr 1
 apply List.ext_getElem (by simp)
 intro i h1 h2
 by_cases e:n=i
 · subst e;simp
 simp [List.getElem_set_ne e]
structure PO (g:FC) (N who:Nat) (σ:StC):Prop where
 w:who<σ.ths.length
 h8:σ.ths.length≤8
 cl:(σ.cells.length:Int)=g.vars.l.length+Y8 g.arrs.l
 cv: ∀ x∈σ.cells,val x
 lv: ∀ x∈σ.ths[who].loc,val x
 ll:σ.ths[who].loc.length≤32
 y:σ.sy.ok N
 n9:N≤900
 mu:(σ.sy.owners.length:Int)=g.er.cn.mu
 co:(σ.sy.conds.length:Int)=g.er.cn.co
 ch:(σ.sy.chans.length:Int)=g.er.cn.ch
 cd: ∀ l∈σ.sy.conds,∀ t∈l,t.toNat<σ.ths.length
 td:σ.ths[who].todo.length≤600*(N+1)
 sp:σ.ths[who].sp.length≤8∧ ∀ i∈σ.ths[who].sp,0≤i∧i<σ.ths.length
section
variable {G:World}{q:List HP}{p pp who n N:Nat}{g:FC}{σ:StC}{ev:EvC}{k sl ot u:Int}{bb:Bool}
variable {hc gh c:Nat}{ths:List TC}{x:TC}{a:Option Addr}{l:List Stm}
theorem Ia (hn:n<ths.length)(hK:Kn q fun M=>BlkAt M a c l)(hl:l.length≤1000000∧x.todo.length≤1000000):CallF prog G 84 [.pointer (some ⟨gh,0+(n:Int).toNat*5,none⟩),.slice a l.length c] (rsH trC 5 116 (some ⟨gh,0,none⟩) hc (ths.set n x)::lsH PS.v 146 x.ta x.tc x.todo::q) (Ret fun v q'=> ∃ a1 c1 b1 o1,(0<l.length→a=some ⟨b1,o1,none⟩)∧q'=rsH trC 5 116 (some ⟨gh,0,none⟩) hc (ths.set n { x with ta:=a1,tc:=c1,todo:=x.todo++(psL b1 o1 l).reverse })::lsH PS.v 146 a1 c1 (x.todo++(psL b1 o1 l).reverse)::q):=by
 have h:=R1 (G:=G) (q:=q) (gh:=gh) (hc:=hc) (ths:=ths.set n x) (n:=n) (a:=a) (c:=c) (l:=l) (by rw [List.length_set];exact hn) hK (by rw [List.getElem_set_self];exact hl)
 have hg:(ths.set n x).getD n zTC=x:=by rw [Wc (by rw [List.length_set];exact hn),List.getElem_set_self]
 simp only [List.getElem_set_self,hg,List.set_set] at h
 exact h
set_option maxHeartbeats 4000000 in
theorem Sb (hO:PO g N who σ)(hin:inV g.er.cn (σ.ths[who]'(hO.w)).loc.length sl bb)(hl:ev.e.acc.length≤1000000000)(hM:MayP g.er):CallF prog G 165 [.pointer (some ⟨p,0,none⟩),.int .i64 sl,.bool bb,.int .i64 u] (Zx p pp who σ ev++q) (Ret fun v q'=> ∃ (σ':StC) (ev':EvC),(σ'.er=(σ.er.into who sl bb u).1∧ev'.e=ev.e.ac (σ.er.into who sl bb u).2∧σ'.ths.map TC.todo=σ.ths.map TC.todo)∧q'=Zx p pp who σ' ev'++q):=by
 refine CallF.of func165 ntmps165 rfl (fun F cs=> ?_)
 have hwho:=hO.w;have h8:=hO.h8;unfold inV at hin;obtain ⟨S,rfl⟩:=Int.eq_ofNat_of_zero_le hin.1;obtain ⟨IX,hX⟩: ∃ X,X=σ.er.into who S bb u:=⟨_,rfl⟩;rw [←hX];unfold SS.into at hX;rw [Ze hwho,show ((S:Int)).toNat=S from rfl] at hX
 change X _ _ _ _ _ _ _ _ (pto p (.cells (Yu pp σ++(.int .i64 (who:Int)::evC ev)).toArray 145 (0,0))::lsH I64 2 σ.ca σ.cc σ.cells::yH σ.sp σ.sy::rsH trC 5 116 σ.ha σ.hc σ.ths::stars (σ.ths.map trH)::rsH acC 3 140 ev.aa ev.ac ev.e.acc::rsH snC 3 50 ev.na ev.nc ev.e.syn::(q++F))
 refine Yk (l:=σ.ths) (by omega) (fun ga e_=> ?_)
 have hr: ∀ r,Sees (rsH trC 5 116 σ.ha σ.hc σ.ths::r) (some ⟨ga,0,none⟩) (σ.ths.flatMap trC):=fun r=>by rw [←e_];exact Sees.rsH r
 refine xx 5 ?_;refine X.part 8 rfl (fun h1=> ?_) (fun h1=> ?_)
 · replace h1:=sp h1;rw [if_pos h1] at hX hin;have hlt:S<σ.ths[who].loc.length:=(by omega)
   refine X.le (q':=stars (σ.ths.map trH)::_) Zk (X.le (Mi hwho _) ?_)
   refine V8 (l:=σ.ths[who].loc) (by omega) (fun gl el_=> ?_)
   refine xo 4 ?_;refine XO.cR call95 (Q1 (p:=p) (who:=who) (ga:=ga) (m:=σ.ths.length) (c:=σ.hc) (by rw [←e_];exact clA) clA hwho) ?_
   refine oo 2 ?_;refine ld ?_ (hc:=(Cl.row (n:=who) (hr _) leA Zd hwho rfl 2 _ rfl))
   refine oo 2 ?_;refine XO.know 13 (.slice (some ⟨gl,0,none⟩) σ.ths[who].loc.length σ.ths[who].lc) rfl (by rw [←el_]) ?_
   refine oo 1 ?_;refine XO.le (q':=lsH I64 2 (some ⟨gl,0,none⟩) σ.ths[who].lc σ.ths[who].loc::_) (by rw [←el_];exact Zk) ?_
   refine XO.ef0 (Rf (f:=I64) (l:=σ.ths[who].loc) (n:=S) (u:=u) rfl rfl sizeOf2 rfl hlt rfl rfl Zk) ?_
   rintro _ _ ⟨rfl,rfl⟩
   refine ox 1 ?_
   rw [←el_]
   refine X.le (q':=stars ((σ.ths.set who ({ σ.ths[who] with loc:=σ.ths[who].loc.set S u } :TC)).map trH)::_) (Le.trans (b:=lsH I64 2 σ.ths[who].la σ.ths[who].lc (σ.ths[who].loc.set S u)::lsH PS.v 146 σ.ths[who].ta σ.ths[who].tc σ.ths[who].todo::lsH I64 3 σ.ths[who].sa σ.ths[who].sc σ.ths[who].sp::stars ((σ.ths.eraseIdx who).map trH)::_) (Le.pick Zk (Le.pick Zk (Le.pick Zk Zk))) (Mr hwho ({ σ.ths[who] with loc:=σ.ths[who].loc.set S u } :TC) _)) ?_
   refine X.le (q':=rsH trC 5 116 σ.ha σ.hc (σ.ths.set who ({ σ.ths[who] with loc:=σ.ths[who].loc.set S u } :TC))::_) (by rw [show rsH trC 5 116 σ.ha σ.hc (σ.ths.set who ({ σ.ths[who] with loc:=σ.ths[who].loc.set S u } :TC))=rsH trC 5 116 σ.ha σ.hc σ.ths from rs_same (E2 hwho (by simp [trC]))];exact Zk) ?_
   refine X.le (q':=Zx p pp who ({ σ with ths:=σ.ths.set who ({ σ.ths[who] with loc:=σ.ths[who].loc.set S u } :TC) } :StC) ev++(q++F)) (by unfold Zx spP Yu Zr;simp only [List.length_set];exact leA) ?_
   refine Zq (Zx p pp who ({ σ with ths:=σ.ths.set who ({ σ.ths[who] with loc:=σ.ths[who].loc.set S u } :TC) } :StC) ev++q) func165 (Vx results165) ⟨_,rfl,({ σ with ths:=σ.ths.set who ({ σ.ths[who] with loc:=σ.ths[who].loc.set S u } :TC) } :StC),ev,⟨by rw [hX,W2];rfl,by rw [hX];exact (Mc _).symm,K8 hwho rfl⟩,rfl⟩ (by rw [List.append_assoc];exact Le.refl _)
 replace h1:=sp h1;rw [if_neg (by rw [h1];decide)] at hX hin;have hcl:=hO.cl;have hcn:S<σ.cells.length:=(by have:=U7 (l:=g.arrs.l) (k:=256) (fun y hy=>by have:=hM.a y hy;omega) (by decide);have:=hin.2;rw [Np] at this;omega)
 refine xo 6 ?_;refine Zb call167 leA (Fr (p:=p) (pp:=pp) (who:=who) (σ:=σ) (ev:=ev) (n:=S) (u:=u) (q:=q++F) hcn hl) ?_
 rintro _ _ ⟨ev2,he2,rfl⟩
 refine ox 1 ?_;refine Z7 (Zx p pp who ({ σ with cells:=σ.cells.set S u } :StC) ev2++q) func165 (Vx results165) ⟨_,rfl,({ σ with cells:=σ.cells.set S u } :StC),ev2,⟨by rw [hX];rfl,by rw [hX];exact he2,rfl⟩,rfl⟩ (by rw [List.append_assoc];exact Le.refl _)
set_option maxHeartbeats 4000000 in
theorem Lt {y:PS}(hP:Prg q pp g)(hM:MayP g.er)(hO:PO g N who σ)(hev:ev.e.acc= []∧ev.e.syn= [])(hyA:Kn q fun M=>y.At M)(hg:y.s.er.good g.er.cn (σ.ths[who]'(hO.w)).loc.length)(hTd:Kn q fun M=>TodoAt M σ.ths)(hk:y.s.er.kd=1∨y.s.er.kd=2):CallF prog G 129 [.pointer (some ⟨p,0,none⟩),.pointer (some ⟨y.b,y.o,none⟩)] (Zx p pp who σ ev++q) (RP (fun v q'=> ∃ (σ':StC) (ev':EvC),((σ.er.data g.er.pr who y.s.er ev.e).2.2=0∧σ'.er=(σ.er.data g.er.pr who y.s.er ev.e).1∧ev'.e=(σ.er.data g.er.pr who y.s.er ev.e).2.1∧Kn q fun M=>TodoAt M σ'.ths)∧q'=Zx p pp who σ' ev'++q) (fun ch q'=> ∃ (σ':StC) (ev':EvC),((σ.er.data g.er.pr who y.s.er ev.e).2.2≠0∧ch= [Vh (σ.er.data g.er.pr who y.s.er ev.e).2.2]∧ev'.e=(σ.er.data g.er.pr who y.s.er ev.e).2.1)∧q'=Zx p pp who σ' ev'++q)):=by
 refine CallF.of func129 ntmps129 rfl (fun F cs=> ?_)
 obtain ⟨yb,yo,ys⟩:=y
 obtain ⟨kk,ln,cl,nm,wt,⟨ek,en,enm,esl,elo,eop,el,ea,ec⟩,⟨xk,xn,xnm,xsl,xlo,xop,xl,xa,xc⟩,bd,es2,ba,bc,ea2,ec2,id,sl,ot,lo_⟩:=ys
 have hCs:=Kn.stC hyA;dsimp only at hCs hg hyA hk⊢;simp only [Stm.er,PStm.kd] at hk
 have hwho:=hO.w;have h8:=hO.h8;have hys:=hO.y;have hN9:=hO.n9;obtain ⟨hev1,hev2⟩:=hev
 have hKe:Kn q fun M=>ExAt M ⟨yb,yo+5,none⟩ (Ex.mk ek en enm esl elo eop el ea ec):=hyA.imp fun M h=>Yq (pre:= [.int .i64 kk,.int .i64 ln,.int .i64 cl,.string nm,.string wt]) h.1 rfl h.2.1 rfl
 have hKx:Kn q fun M=>ExAt M ⟨yb,yo+12,none⟩ (Ex.mk xk xn xnm xsl xlo xop xl xa xc):=hyA.imp fun M h=>Yq (pre:= [.int .i64 kk,.int .i64 ln,.int .i64 cl,.string nm,.string wt]++exC (Ex.mk ek en enm esl elo eop el ea ec)) h.1 rfl h.2.2.1 rfl
 have hKb:Kn q fun M=>BlkAt M ba bc bd:=hyA.imp fun M h=>h.2.2.2.1;have hKl:Kn q fun M=>BlkAt M ea2 ec2 es2:=hyA.imp fun M h=>⟨h.2.2.2.2.1,h.2.2.2.2.2⟩
 obtain ⟨hg1,hg2,hg3,_⟩:=hg;obtain ⟨hs1,hs2,hs3,hs6,hs8,hs8o,hs11,hs12,hs13⟩:=Yc hg2;obtain ⟨hpe,hpx⟩:=Wm hg1;rw [Zf,Zf] at hg3
 obtain ⟨R,hR⟩: ∃ R,R=σ.er.data g.er.pr who (Stm.er (Stm.mk kk ln cl nm wt (Ex.mk ek en enm esl elo eop el ea ec) (Ex.mk xk xn xnm xsl xlo xop xl xa xc) bd es2 ba bc ea2 ec2 id sl ot lo_)) ev.e:=⟨_,rfl⟩;rw [←hR];unfold SS.data at hR;simp only [Stm.er] at hR;rw [Ze hwho] at hR
 change X _ _ _ _ _ _ _ _ (pto p (.cells (Yu pp σ++(.int .i64 (who:Int)::evC ev)).toArray 145 (0,0))::lsH I64 2 σ.ca σ.cc σ.cells::yH σ.sp σ.sy::rsH trC 5 116 σ.ha σ.hc σ.ths::stars (σ.ths.map trH)::rsH acC 3 140 ev.aa ev.ac ev.e.acc::rsH snC 3 50 ev.na ev.nc ev.e.syn::(q++F))
 rw [if_neg (show ¬kk=3 by omega)] at hR;dsimp only at hR;rw [if_neg (fun k=>k rfl)] at hR
 refine drw ?_;refine dd [0,1,2,3] ?_;refine ldD 4 ?_ (hc:=((hCs.le leA) 22 _ rfl))
 refine dd [5,6,7] ?_;refine ldD 8 ?_ (hc:=((hCs.le leA) 24 _ rfl))
 refine dd [9,10,11,12] ?_;obtain ⟨A1,hA1⟩: ∃ A,A=(Ex.er (Ex.mk ek en enm esl elo eop el ea ec)).made g.er.pr σ.cells σ.ths[who].loc:=⟨_,rfl⟩;have hok1:=Yh (p:=g.er.pr) hO.cv hO.lv (hpe (by omega));rw [←hA1] at hok1
 try rw [show (σ.ths[who].er).loc=σ.ths[who].loc from rfl] at hR
 try rw [show σ.er.cells=σ.cells from rfl] at hR
 rw [←hA1] at hR
 have hpw1:A1.2.2.length≤16777216:=Nat.le_trans hok1.2 (by decide)
 refine D7 13 call166 leA (Qa (p:=p) (pp:=pp) (who:=who) (hwho:=hwho) (Ex.sz (Ex.mk ek en enm esl elo eop el ea ec)) (e:=(Ex.mk ek en enm esl elo eop el ea ec)) (d:=24) (ev:=ev) (q:=q++F) (Nat.le_refl _) trivial (by decide) (hpe (by omega)) (by rw [hev1];decide) (hKe.le leA) (hP.le leA) hM hO.cl hO.cv hO.lv) ?_ ?_ trivial
 · rintro _ _ ⟨ht,rfl,ev9,he_,rfl⟩
   exact FQ.panic func129 (RP.thr (by rw [←hA1] at ht he_⊢;have hRR:=hR;rw [if_pos ht] at hRR;rw [hRR];exact ⟨σ,ev9,⟨ht,rfl,by rw [he_];unfold PEv.ac;simp only [hev1,List.nil_append]⟩,rfl⟩)) (by rw [List.append_assoc];exact Le.refl _)
 rintro _ _ ⟨ht1,rfl,ev2,he2,eq_⟩;simp only [Zx,spP,Zr,evL,ca,na] at eq_;subst eq_
 refine ⟨(hlA (h:=by repeat first|exact trivial|refine ⟨clA,?_⟩|refine ⟨(hCs.le leA) 21 _ rfl,?_⟩|refine ⟨(hCs.le leA) 22 _ rfl,?_⟩|refine ⟨(hCs.le leA) 23 _ rfl,?_⟩|refine ⟨(hCs.le leA) 24 _ rfl,?_⟩|refine ⟨(hCs.le leA) 19 _ rfl,?_⟩|refine ⟨(hCs.le leA) 20 _ rfl,?_⟩)),?_⟩
 rw [←hA1] at ht1 he2⊢
 rw [if_neg (fun k=>k ht1)] at hR
 rw [if_pos (by omega)] at hR
 refine Ww 14 call165 leA (Sb (p:=p) (pp:=pp) (who:=who) (g:=g) (N:=N) (σ:=σ) (ev:=ev2) (sl:=sl) (bb:=lo_) (u:=A1.1) (q:=q++F) hO (hs2 (by omega)) (by rw [he2];unfold PEv.ac;rw [hev1];simp;omega) hM) ?_
 rintro _ _ ⟨σ2,ev3,⟨hk1,hk2,hk3⟩,rfl⟩
 refine ⟨trivial,?_⟩
 refine XD.nil ?_;refine Z7 (Zx p pp who σ2 ev3++q) func129 (Vx results129) (RP.ret ⟨σ2,ev3,⟨by rw [hR],by rw [hR];exact hk1,by rw [hR,hk2,he2];unfold PEv.ac;simp only [hev1,List.nil_append],hTd.imp fun M h=>TodoAt.of hk3 h⟩,rfl⟩) (by rw [List.append_assoc];exact Le.refl _)
set_option maxHeartbeats 4000000 in
theorem xput_ok {y:PS}(hP:Prg q pp g)(hM:MayP g.er)(hO:PO g N who σ)(hev:ev.e.acc= []∧ev.e.syn= [])(hyA:Kn q fun M=>y.At M)(hg:y.s.er.good g.er.cn (σ.ths[who]'(hO.w)).loc.length)(hTd:Kn q fun M=>TodoAt M σ.ths)(hk:y.s.er.kd=3):CallF prog G 130 [.pointer (some ⟨p,0,none⟩),.pointer (some ⟨y.b,y.o,none⟩)] (Zx p pp who σ ev++q) (RP (fun v q'=> ∃ (σ':StC) (ev':EvC),((σ.er.data g.er.pr who y.s.er ev.e).2.2=0∧σ'.er=(σ.er.data g.er.pr who y.s.er ev.e).1∧ev'.e=(σ.er.data g.er.pr who y.s.er ev.e).2.1∧Kn q fun M=>TodoAt M σ'.ths)∧q'=Zx p pp who σ' ev'++q) (fun ch q'=> ∃ (σ':StC) (ev':EvC),((σ.er.data g.er.pr who y.s.er ev.e).2.2≠0∧ch= [Vh (σ.er.data g.er.pr who y.s.er ev.e).2.2]∧ev'.e=(σ.er.data g.er.pr who y.s.er ev.e).2.1)∧q'=Zx p pp who σ' ev'++q)):=by
 refine CallF.of func130 ntmps130 rfl (fun F cs=> ?_)
 obtain ⟨yb,yo,ys⟩:=y
 obtain ⟨kk,ln,cl,nm,wt,⟨ek,en,enm,esl,elo,eop,el,ea,ec⟩,⟨xk,xn,xnm,xsl,xlo,xop,xl,xa,xc⟩,bd,es2,ba,bc,ea2,ec2,id,sl,ot,lo_⟩:=ys
 have hCs:=Kn.stC hyA;dsimp only at hCs hg hyA hk⊢;simp only [Stm.er,PStm.kd] at hk
 have hwho:=hO.w;have h8:=hO.h8;have hys:=hO.y;have hN9:=hO.n9;obtain ⟨hev1,hev2⟩:=hev
 have hKe:Kn q fun M=>ExAt M ⟨yb,yo+5,none⟩ (Ex.mk ek en enm esl elo eop el ea ec):=hyA.imp fun M h=>Yq (pre:= [.int .i64 kk,.int .i64 ln,.int .i64 cl,.string nm,.string wt]) h.1 rfl h.2.1 rfl
 have hKx:Kn q fun M=>ExAt M ⟨yb,yo+12,none⟩ (Ex.mk xk xn xnm xsl xlo xop xl xa xc):=hyA.imp fun M h=>Yq (pre:= [.int .i64 kk,.int .i64 ln,.int .i64 cl,.string nm,.string wt]++exC (Ex.mk ek en enm esl elo eop el ea ec)) h.1 rfl h.2.2.1 rfl
 have hKb:Kn q fun M=>BlkAt M ba bc bd:=hyA.imp fun M h=>h.2.2.2.1;have hKl:Kn q fun M=>BlkAt M ea2 ec2 es2:=hyA.imp fun M h=>⟨h.2.2.2.2.1,h.2.2.2.2.2⟩
 obtain ⟨hg1,hg2,hg3,_⟩:=hg;obtain ⟨hs1,hs2,hs3,hs6,hs8,hs8o,hs11,hs12,hs13⟩:=Yc hg2;obtain ⟨hpe,hpx⟩:=Wm hg1;rw [Zf,Zf] at hg3
 obtain ⟨R,hR⟩: ∃ R,R=σ.er.data g.er.pr who (Stm.er (Stm.mk kk ln cl nm wt (Ex.mk ek en enm esl elo eop el ea ec) (Ex.mk xk xn xnm xsl xlo xop xl xa xc) bd es2 ba bc ea2 ec2 id sl ot lo_)) ev.e:=⟨_,rfl⟩;rw [←hR];unfold SS.data at hR;simp only [Stm.er] at hR;rw [Ze hwho] at hR
 change X _ _ _ _ _ _ _ _ (pto p (.cells (Yu pp σ++(.int .i64 (who:Int)::evC ev)).toArray 145 (0,0))::lsH I64 2 σ.ca σ.cc σ.cells::yH σ.sp σ.sy::rsH trC 5 116 σ.ha σ.hc σ.ths::stars (σ.ths.map trH)::rsH acC 3 140 ev.aa ev.ac ev.e.acc::rsH snC 3 50 ev.na ev.nc ev.e.syn::(q++F))
 obtain rfl:kk=3:=(by omega)
 rw [if_pos rfl] at hR
 refine xo 6 ?_;obtain ⟨A1,hA1⟩: ∃ A,A=(Ex.er (Ex.mk xk xn xnm xsl xlo xop xl xa xc)).made g.er.pr σ.cells σ.ths[who].loc:=⟨_,rfl⟩;have hok1:=Yh (p:=g.er.pr) hO.cv hO.lv (hpx rfl);rw [←hA1] at hok1
 try rw [show (σ.ths[who].er).loc=σ.ths[who].loc from rfl] at hR
 try rw [show σ.er.cells=σ.cells from rfl] at hR
 rw [←hA1] at hR
 have hpw1:A1.2.2.length≤16777216:=Nat.le_trans hok1.2 (by decide)
 refine Vb call166 leA (Qa (p:=p) (pp:=pp) (who:=who) (hwho:=hwho) (Ex.sz (Ex.mk xk xn xnm xsl xlo xop xl xa xc)) (e:=(Ex.mk xk xn xnm xsl xlo xop xl xa xc)) (d:=24) (ev:=ev) (q:=q++F) (Nat.le_refl _) trivial (by decide) (hpx rfl) (by rw [hev1];decide) (hKx.le leA) (hP.le leA) hM hO.cl hO.cv hO.lv) ?_ ?_
 · rintro _ _ ⟨ht,rfl,ev9,he_,rfl⟩
   exact FQ.panic func130 (RP.thr (by rw [←hA1] at ht he_⊢;have hRR:=hR;rw [if_pos ht] at hRR;rw [hRR];exact ⟨σ,ev9,⟨ht,rfl,by rw [he_];unfold PEv.ac;simp only [hev1,List.nil_append]⟩,rfl⟩)) (by rw [List.append_assoc];exact Le.refl _)
 rintro _ _ ⟨ht1,rfl,ev2,he2,eq_⟩;simp only [Zx,spP,Zr,evL,ca,na] at eq_;subst eq_
 rw [←hA1] at ht1 he2⊢
 rw [if_neg (fun k=>k ht1)] at hR
 try dsimp only at hR
 refine oo 8 ?_;obtain ⟨A2,hA2⟩: ∃ A,A=(Ex.er (Ex.mk ek en enm esl elo eop el ea ec)).made g.er.pr σ.cells σ.ths[who].loc:=⟨_,rfl⟩;have hok2:=Yh (p:=g.er.pr) hO.cv hO.lv (hpe (by omega));rw [←hA2] at hok2
 try rw [show (σ.ths[who].er).loc=σ.ths[who].loc from rfl] at hR
 try rw [show σ.er.cells=σ.cells from rfl] at hR
 rw [←hA2] at hR
 have hpw2:A2.2.2.length≤16777216:=Nat.le_trans hok2.2 (by decide)
 refine Vb call166 leA (Qa (p:=p) (pp:=pp) (who:=who) (hwho:=hwho) (Ex.sz (Ex.mk ek en enm esl elo eop el ea ec)) (e:=(Ex.mk ek en enm esl elo eop el ea ec)) (d:=24) (ev:=ev2) (q:=q++F) (Nat.le_refl _) trivial (by decide) (hpe (by omega)) (by rw [he2];unfold PEv.ac;rw [hev1];simp only [List.nil_append];have hpd:(2:Nat) ^ (24:Int).toNat=16777216:=(by decide);have:=hpw1;omega) (hKe.le leA) (hP.le leA) hM hO.cl hO.cv hO.lv) ?_ ?_
 · rintro _ _ ⟨ht,rfl,ev9,he_,rfl⟩
   exact FQ.panic func130 (RP.thr (by rw [←hA2] at ht he_⊢;have hRR:=hR;rw [if_pos ht] at hRR;rw [hRR];exact ⟨σ,ev9,⟨ht,rfl,by rw [he_,he2];unfold PEv.ac;simp only [hev1,List.nil_append]⟩,rfl⟩)) (by rw [List.append_assoc];exact Le.refl _)
 rintro _ _ ⟨ht2,rfl,ev3,he3,eq_⟩;simp only [Zx,spP,Zr,evL,ca,na] at eq_;subst eq_
 rw [←hA2] at ht2 he3⊢
 rw [if_neg (fun k=>k ht2)] at hR
 rw [if_neg (by omega),if_pos rfl] at hR
 refine oo 8 ?_;refine ld ?_ (hc:=((hCs.le leA) 22 _ rfl))
 refine oo 1 ?_;obtain ⟨An,hAn⟩:=Int.eq_ofNat_of_zero_le (hs3 rfl).1;have hAl:An<g.arrs.l.length:=by have:=(hs3 rfl).2;rw [Nu] at this;omega
 refine XO.know 21 (.int .i64 (An:Int)) rfl (by rw [hAn]) ?_
 rw [hAn] at hR
 refine Vb call168 leA (Gz (p:=p) (pp:=pp) (who:=who) (σ:=σ) (ev:=ev3) (n:=An) (u:=A1.1) (q:=q++F) (hP.le leA) hM hAl hok1.1) ?_ ?_
 · rintro _ _ ⟨⟨hneg,rfl⟩,rfl⟩
   exact FQ.panic func130 (RP.thr (by rw [if_pos hneg] at hR;rw [hR];exact ⟨σ,ev3,⟨(show (3:Int)≠0 by decide),rfl,by rw [he3,he2];unfold PEv.ac;simp only [hev1,List.nil_append]⟩,rfl⟩)) (by rw [List.append_assoc];exact Le.refl _)
 rintro _ _ ⟨⟨hpos,rfl⟩,eq_⟩;simp only [Zx,spP,Zr,evL,ca,na] at eq_;subst eq_
 rw [if_neg (by omega)] at hR;obtain ⟨Cn_,hCn⟩:=Int.eq_ofNat_of_zero_le hpos
 refine XO.know 23 (.int .i64 (Cn_:Int)) rfl (by rw [hCn]) ?_
 have hcl:=hO.cl;have hcn:Cn_<σ.cells.length:=by
  have hx:=hCn;unfold PPr.cell at hx;rw [show g.er.pr.arrs=g.arrs.l from rfl,show g.er.pr.vars=g.vars.l from rfl,show ((An:Int)).toNat=An from rfl] at hx
  have hst:=N3 (l:=g.arrs.l) hM.a hAl
  split at hx<;>omega
 rw [hCn,show ((Cn_:Int)).toNat=Cn_ from rfl] at hR
 refine oo 1 ?_;refine Zb call167 leA (Fr (p:=p) (pp:=pp) (who:=who) (σ:=σ) (ev:=ev3) (n:=Cn_) (u:=A2.1) (q:=q++F) hcn (by rw [he3,he2];unfold PEv.ac;rw [hev1];simp only [List.nil_append,List.length_append];omega)) ?_
 rintro _ _ ⟨ev4,he4,rfl⟩
 refine ox 1 ?_;refine Z7 (Zx p pp who ({ σ with cells:=σ.cells.set Cn_ A2.1 } :StC) ev4++q) func130 (Vx results130) (RP.ret ⟨({ σ with cells:=σ.cells.set Cn_ A2.1 } :StC),ev4,⟨by rw [hR],by rw [hR];rfl,by rw [hR,he4,he3,he2];unfold PEv.ac;simp only [hev1,List.nil_append,List.append_assoc],hTd⟩,rfl⟩) (by rw [List.append_assoc];exact Le.refl _)
set_option maxHeartbeats 8000000 in
theorem C7 {y:PS}(hP:Prg q pp g)(hM:MayP g.er)(hO:PO g N who σ)(hev:ev.e.acc= []∧ev.e.syn= [])(hyA:Kn q fun M=>y.At M)(hg:y.s.er.good g.er.cn (σ.ths[who]'(hO.w)).loc.length)(hTd:Kn q fun M=>TodoAt M σ.ths)(hk:y.s.er.kd=4):CallF prog G 131 [.pointer (some ⟨p,0,none⟩),.pointer (some ⟨y.b,y.o,none⟩)] (Zx p pp who σ ev++q) (RP (fun v q'=> ∃ (σ':StC) (ev':EvC),((σ.er.data g.er.pr who y.s.er ev.e).2.2=0∧σ'.er=(σ.er.data g.er.pr who y.s.er ev.e).1∧ev'.e=(σ.er.data g.er.pr who y.s.er ev.e).2.1∧Kn q fun M=>TodoAt M σ'.ths)∧q'=Zx p pp who σ' ev'++q) (fun ch q'=> ∃ (σ':StC) (ev':EvC),((σ.er.data g.er.pr who y.s.er ev.e).2.2≠0∧ch= [Vh (σ.er.data g.er.pr who y.s.er ev.e).2.2]∧ev'.e=(σ.er.data g.er.pr who y.s.er ev.e).2.1)∧q'=Zx p pp who σ' ev'++q)):=by
 refine CallF.of func131 ntmps131 rfl (fun F cs=> ?_)
 obtain ⟨yb,yo,ys⟩:=y
 obtain ⟨kk,ln,cl,nm,wt,⟨ek,en,enm,esl,elo,eop,el,ea,ec⟩,⟨xk,xn,xnm,xsl,xlo,xop,xl,xa,xc⟩,bd,es2,ba,bc,ea2,ec2,id,sl,ot,lo_⟩:=ys
 have hCs:=Kn.stC hyA;dsimp only at hCs hg hyA hk⊢;simp only [Stm.er,PStm.kd] at hk
 have hwho:=hO.w;have h8:=hO.h8;have hys:=hO.y;have hN9:=hO.n9;obtain ⟨hev1,hev2⟩:=hev
 have hKe:Kn q fun M=>ExAt M ⟨yb,yo+5,none⟩ (Ex.mk ek en enm esl elo eop el ea ec):=hyA.imp fun M h=>Yq (pre:= [.int .i64 kk,.int .i64 ln,.int .i64 cl,.string nm,.string wt]) h.1 rfl h.2.1 rfl
 have hKx:Kn q fun M=>ExAt M ⟨yb,yo+12,none⟩ (Ex.mk xk xn xnm xsl xlo xop xl xa xc):=hyA.imp fun M h=>Yq (pre:= [.int .i64 kk,.int .i64 ln,.int .i64 cl,.string nm,.string wt]++exC (Ex.mk ek en enm esl elo eop el ea ec)) h.1 rfl h.2.2.1 rfl
 have hKb:Kn q fun M=>BlkAt M ba bc bd:=hyA.imp fun M h=>h.2.2.2.1;have hKl:Kn q fun M=>BlkAt M ea2 ec2 es2:=hyA.imp fun M h=>⟨h.2.2.2.2.1,h.2.2.2.2.2⟩
 obtain ⟨hg1,hg2,hg3,_⟩:=hg;obtain ⟨hs1,hs2,hs3,hs6,hs8,hs8o,hs11,hs12,hs13⟩:=Yc hg2;obtain ⟨hpe,hpx⟩:=Wm hg1;rw [Zf,Zf] at hg3
 obtain ⟨R,hR⟩: ∃ R,R=σ.er.data g.er.pr who (Stm.er (Stm.mk kk ln cl nm wt (Ex.mk ek en enm esl elo eop el ea ec) (Ex.mk xk xn xnm xsl xlo xop xl xa xc) bd es2 ba bc ea2 ec2 id sl ot lo_)) ev.e:=⟨_,rfl⟩;rw [←hR];unfold SS.data at hR;simp only [Stm.er] at hR;rw [Ze hwho] at hR
 change X _ _ _ _ _ _ _ _ (pto p (.cells (Yu pp σ++(.int .i64 (who:Int)::evC ev)).toArray 145 (0,0))::lsH I64 2 σ.ca σ.cc σ.cells::yH σ.sp σ.sy::rsH trC 5 116 σ.ha σ.hc σ.ths::stars (σ.ths.map trH)::rsH acC 3 140 ev.aa ev.ac ev.e.acc::rsH snC 3 50 ev.na ev.nc ev.e.syn::(q++F))
 obtain rfl:kk=4:=(by omega)
 rw [if_neg (show ¬ (4:Int)=3 by decide)] at hR;try dsimp only at hR
 rw [if_neg (fun k=>k rfl)] at hR
 refine Yk (l:=σ.ths) (by omega) (fun ga e_=> ?_)
 have hr: ∀ r,Sees (rsH trC 5 116 σ.ha σ.hc σ.ths::r) (some ⟨ga,0,none⟩) (σ.ths.flatMap trC):=fun r=>by rw [←e_];exact Sees.rsH r
 refine xo 7 ?_;obtain ⟨A1,hA1⟩: ∃ A,A=(Ex.er (Ex.mk ek en enm esl elo eop el ea ec)).made g.er.pr σ.cells σ.ths[who].loc:=⟨_,rfl⟩;have hok1:=Yh (p:=g.er.pr) hO.cv hO.lv (hpe (by omega));rw [←hA1] at hok1
 try rw [show (σ.ths[who].er).loc=σ.ths[who].loc from rfl] at hR
 try rw [show σ.er.cells=σ.cells from rfl] at hR
 rw [←hA1] at hR
 have hpw1:A1.2.2.length≤16777216:=Nat.le_trans hok1.2 (by decide)
 refine Vb call166 leA (Qa (p:=p) (pp:=pp) (who:=who) (hwho:=hwho) (Ex.sz (Ex.mk ek en enm esl elo eop el ea ec)) (e:=(Ex.mk ek en enm esl elo eop el ea ec)) (d:=24) (ev:=ev) (q:=q++F) (Nat.le_refl _) trivial (by decide) (hpe (by omega)) (by rw [hev1];decide) (hKe.le leA) (hP.le leA) hM hO.cl hO.cv hO.lv) ?_ ?_
 · rintro _ _ ⟨ht,rfl,ev9,he_,rfl⟩
   exact FQ.panic func131 (RP.thr (by rw [←hA1] at ht he_⊢;have hRR:=hR;rw [if_pos ht] at hRR;rw [hRR];exact ⟨σ,ev9,⟨ht,rfl,by rw [he_];unfold PEv.ac;simp only [hev1,List.nil_append]⟩,rfl⟩)) (by rw [List.append_assoc];exact Le.refl _)
 rintro _ _ ⟨ht1,rfl,ev2,he2,eq_⟩;simp only [Zx,spP,Zr,evL,ca,na] at eq_;subst eq_
 rw [←hA1] at ht1 he2⊢
 rw [if_neg (fun k=>k ht1)] at hR
 rw [if_neg (by decide),if_neg (by decide),if_pos rfl] at hR
 refine oo 3 ?_;refine st ?_;refine ol 7 ?_;refine ox 2 ?_;refine X.part 18 rfl (fun h5=> ?_) (fun h5=> ?_)
 · replace h5:=sp h5
   rw [if_neg (show ¬A1.1=0 by omega)] at hR
   refine X.le (q':=stars (σ.ths.map trH)::_) Zk (X.le (Mi hwho _) ?_)
   refine X.le (q':=rsH trC 5 116 (some ⟨ga,0,none⟩) σ.hc σ.ths::_) (by rw [←e_];exact Zk) ?_
   refine xx 1 ?_;refine drw ?_;refine dd [0,2,3,4] ?_;refine ldD 5 ?_ (hc:=((hCs.le leA) 19 _ rfl))
   refine Y0 1 call95 (Q1 (p:=p) (who:=who) (ga:=ga) (m:=σ.ths.length) (c:=σ.hc) (by rw [←e_];exact clA) clA hwho) ?_ (hL:=(hlA (h:=by repeat first|exact trivial|refine ⟨clA,?_⟩|refine ⟨(hCs.le leA) 21 _ rfl,?_⟩|refine ⟨(hCs.le leA) 22 _ rfl,?_⟩|refine ⟨(hCs.le leA) 23 _ rfl,?_⟩|refine ⟨(hCs.le leA) 24 _ rfl,?_⟩|refine ⟨(hCs.le leA) 19 _ rfl,?_⟩|refine ⟨(hCs.le leA) 20 _ rfl,?_⟩)))
   refine Ww 6 call84 (Le.pick Zk Zk) (R1 (gh:=ga) (n:=who) (hc:=σ.hc) (ths:=σ.ths) (l:=bd) (a:=ba) (c:=bc) hwho (hKb.le leA) ⟨by omega,by have:=hO.td;omega⟩) ?_
   rintro _ _ ⟨a1,c1,b1,o1,hbo,rfl⟩
   refine ⟨trivial,?_⟩
   refine XD.nil ?_
   rw [Wc hwho]
   rw [←e_]
   refine X.le (q':=stars ((σ.ths.set who ({ σ.ths[who] with ta:=a1,tc:=c1,todo:=σ.ths[who].todo++(psL b1 o1 bd).reverse } :TC)).map trH)::_) (Le.trans (b:=lsH I64 2 (({ σ.ths[who] with ta:=a1,tc:=c1,todo:=σ.ths[who].todo++(psL b1 o1 bd).reverse } :TC)).la (({ σ.ths[who] with ta:=a1,tc:=c1,todo:=σ.ths[who].todo++(psL b1 o1 bd).reverse } :TC)).lc (({ σ.ths[who] with ta:=a1,tc:=c1,todo:=σ.ths[who].todo++(psL b1 o1 bd).reverse } :TC)).loc::lsH PS.v 146 (({ σ.ths[who] with ta:=a1,tc:=c1,todo:=σ.ths[who].todo++(psL b1 o1 bd).reverse } :TC)).ta (({ σ.ths[who] with ta:=a1,tc:=c1,todo:=σ.ths[who].todo++(psL b1 o1 bd).reverse } :TC)).tc (({ σ.ths[who] with ta:=a1,tc:=c1,todo:=σ.ths[who].todo++(psL b1 o1 bd).reverse } :TC)).todo::lsH I64 3 (({ σ.ths[who] with ta:=a1,tc:=c1,todo:=σ.ths[who].todo++(psL b1 o1 bd).reverse } :TC)).sa (({ σ.ths[who] with ta:=a1,tc:=c1,todo:=σ.ths[who].todo++(psL b1 o1 bd).reverse } :TC)).sc (({ σ.ths[who] with ta:=a1,tc:=c1,todo:=σ.ths[who].todo++(psL b1 o1 bd).reverse } :TC)).sp::stars ((σ.ths.eraseIdx who).map trH)::_) (Le.pick Zk (Le.pick Zk (Le.pick Zk Zk))) (Mr hwho ({ σ.ths[who] with ta:=a1,tc:=c1,todo:=σ.ths[who].todo++(psL b1 o1 bd).reverse } :TC) _)) ?_
   refine X.le (q':=Zx p pp who ({ σ with ths:=σ.ths.set who ({ σ.ths[who] with ta:=a1,tc:=c1,todo:=σ.ths[who].todo++(psL b1 o1 bd).reverse } :TC) } :StC) ({ ev2 with e:= { ev2.e with value:=A1.1 } } :EvC)++(q++F)) (by unfold Zx spP Yu Zr;simp only [List.length_set];exact leA) ?_
   refine Z7 (Zx p pp who ({ σ with ths:=σ.ths.set who ({ σ.ths[who] with ta:=a1,tc:=c1,todo:=σ.ths[who].todo++(psL b1 o1 bd).reverse } :TC) } :StC) ({ ev2 with e:= { ev2.e with value:=A1.1 } } :EvC)++q) func131 (Vx results131) (RP.ret ⟨({ σ with ths:=σ.ths.set who ({ σ.ths[who] with ta:=a1,tc:=c1,todo:=σ.ths[who].todo++(psL b1 o1 bd).reverse } :TC) } :StC),({ ev2 with e:= { ev2.e with value:=A1.1 } } :EvC),⟨by rw [hR],by rw [hR];dsimp only;rw [W2];congr 1;simp only [TC.er,List.map_append,List.map_reverse,Ei,List.reverse_append,List.reverse_reverse,List.map_cons,List.map_nil,List.reverse_cons,List.reverse_nil,List.nil_append,List.append_assoc,Stm.er,List.cons_append],by rw [hR];dsimp only;rw [he2];unfold PEv.ac;simp only [hev1,List.nil_append],(hTd.and ((hyA.and hKb))).imp fun M h t ht z hz=>by
    rcases List.mem_or_eq_of_mem_set ht with ht|rfl
    · exact h.1 t ht z hz
    rcases List.mem_append.1 hz with hz|hz
    · exact h.1 _ (List.getElem_mem hwho) z hz
    have hz2:=List.mem_reverse.1 hz
    have hb:=h.2.2
    rw [hbo (by rw [←Hl b1 o1 bd];exact List.length_pos_of_mem hz2)] at hb
    exact El hb z hz2⟩,rfl⟩) (by rw [List.append_assoc];exact Le.refl _)
 replace h5:=sp h5
 rw [if_pos (show A1.1=0 by omega)] at hR
 refine X.le (q':=stars (σ.ths.map trH)::_) Zk (X.le (Mi hwho _) ?_)
 refine X.le (q':=rsH trC 5 116 (some ⟨ga,0,none⟩) σ.hc σ.ths::_) (by rw [←e_];exact Zk) ?_
 refine xx 1 ?_;refine drw ?_;refine dd [0,2,3,4] ?_;refine ldD 5 ?_ (hc:=((hCs.le leA) 20 _ rfl))
 refine Y0 1 call95 (Q1 (p:=p) (who:=who) (ga:=ga) (m:=σ.ths.length) (c:=σ.hc) (by rw [←e_];exact clA) clA hwho) ?_ (hL:=(hlA (h:=by repeat first|exact trivial|refine ⟨clA,?_⟩|refine ⟨(hCs.le leA) 21 _ rfl,?_⟩|refine ⟨(hCs.le leA) 22 _ rfl,?_⟩|refine ⟨(hCs.le leA) 23 _ rfl,?_⟩|refine ⟨(hCs.le leA) 24 _ rfl,?_⟩|refine ⟨(hCs.le leA) 19 _ rfl,?_⟩|refine ⟨(hCs.le leA) 20 _ rfl,?_⟩)))
 refine Ww 6 call84 (Le.pick Zk Zk) (R1 (gh:=ga) (n:=who) (hc:=σ.hc) (ths:=σ.ths) (l:=es2) (a:=ea2) (c:=ec2) hwho (hKl.le leA) ⟨by omega,by have:=hO.td;omega⟩) ?_
 rintro _ _ ⟨a1,c1,b1,o1,hbo,rfl⟩
 refine ⟨trivial,?_⟩
 refine XD.nil ?_
 rw [Wc hwho]
 rw [←e_]
 refine X.le (q':=stars ((σ.ths.set who ({ σ.ths[who] with ta:=a1,tc:=c1,todo:=σ.ths[who].todo++(psL b1 o1 es2).reverse } :TC)).map trH)::_) (Le.trans (b:=lsH I64 2 (({ σ.ths[who] with ta:=a1,tc:=c1,todo:=σ.ths[who].todo++(psL b1 o1 es2).reverse } :TC)).la (({ σ.ths[who] with ta:=a1,tc:=c1,todo:=σ.ths[who].todo++(psL b1 o1 es2).reverse } :TC)).lc (({ σ.ths[who] with ta:=a1,tc:=c1,todo:=σ.ths[who].todo++(psL b1 o1 es2).reverse } :TC)).loc::lsH PS.v 146 (({ σ.ths[who] with ta:=a1,tc:=c1,todo:=σ.ths[who].todo++(psL b1 o1 es2).reverse } :TC)).ta (({ σ.ths[who] with ta:=a1,tc:=c1,todo:=σ.ths[who].todo++(psL b1 o1 es2).reverse } :TC)).tc (({ σ.ths[who] with ta:=a1,tc:=c1,todo:=σ.ths[who].todo++(psL b1 o1 es2).reverse } :TC)).todo::lsH I64 3 (({ σ.ths[who] with ta:=a1,tc:=c1,todo:=σ.ths[who].todo++(psL b1 o1 es2).reverse } :TC)).sa (({ σ.ths[who] with ta:=a1,tc:=c1,todo:=σ.ths[who].todo++(psL b1 o1 es2).reverse } :TC)).sc (({ σ.ths[who] with ta:=a1,tc:=c1,todo:=σ.ths[who].todo++(psL b1 o1 es2).reverse } :TC)).sp::stars ((σ.ths.eraseIdx who).map trH)::_) (Le.pick Zk (Le.pick Zk (Le.pick Zk Zk))) (Mr hwho ({ σ.ths[who] with ta:=a1,tc:=c1,todo:=σ.ths[who].todo++(psL b1 o1 es2).reverse } :TC) _)) ?_
 refine X.le (q':=Zx p pp who ({ σ with ths:=σ.ths.set who ({ σ.ths[who] with ta:=a1,tc:=c1,todo:=σ.ths[who].todo++(psL b1 o1 es2).reverse } :TC) } :StC) ({ ev2 with e:= { ev2.e with value:=A1.1 } } :EvC)++(q++F)) (by unfold Zx spP Yu Zr;simp only [List.length_set];exact leA) ?_
 refine Z7 (Zx p pp who ({ σ with ths:=σ.ths.set who ({ σ.ths[who] with ta:=a1,tc:=c1,todo:=σ.ths[who].todo++(psL b1 o1 es2).reverse } :TC) } :StC) ({ ev2 with e:= { ev2.e with value:=A1.1 } } :EvC)++q) func131 (Vx results131) (RP.ret ⟨({ σ with ths:=σ.ths.set who ({ σ.ths[who] with ta:=a1,tc:=c1,todo:=σ.ths[who].todo++(psL b1 o1 es2).reverse } :TC) } :StC),({ ev2 with e:= { ev2.e with value:=A1.1 } } :EvC),⟨by rw [hR],by rw [hR];dsimp only;rw [W2];congr 1;simp only [TC.er,List.map_append,List.map_reverse,Ei,List.reverse_append,List.reverse_reverse,List.map_cons,List.map_nil,List.reverse_cons,List.reverse_nil,List.nil_append,List.append_assoc,Stm.er,List.cons_append],by rw [hR];dsimp only;rw [he2];unfold PEv.ac;simp only [hev1,List.nil_append],(hTd.and ((hyA.and hKl))).imp fun M h t ht z hz=>by
  rcases List.mem_or_eq_of_mem_set ht with ht|rfl
  · exact h.1 t ht z hz
  rcases List.mem_append.1 hz with hz|hz
  · exact h.1 _ (List.getElem_mem hwho) z hz
  have hz2:=List.mem_reverse.1 hz
  have hb:=h.2.2
  rw [hbo (by rw [←Hl b1 o1 es2];exact List.length_pos_of_mem hz2)] at hb
  exact El hb z hz2⟩,rfl⟩) (by rw [List.append_assoc];exact Le.refl _)
set_option maxHeartbeats 8000000 in
theorem C6 {y:PS}(hP:Prg q pp g)(hM:MayP g.er)(hO:PO g N who σ)(hev:ev.e.acc= []∧ev.e.syn= [])(hyA:Kn q fun M=>y.At M)(hg:y.s.er.good g.er.cn (σ.ths[who]'(hO.w)).loc.length)(hTd:Kn q fun M=>TodoAt M σ.ths)(hk:y.s.er.kd=5):CallF prog G 132 [.pointer (some ⟨p,0,none⟩),.pointer (some ⟨y.b,y.o,none⟩)] (Zx p pp who σ ev++q) (RP (fun v q'=> ∃ (σ':StC) (ev':EvC),((σ.er.data g.er.pr who y.s.er ev.e).2.2=0∧σ'.er=(σ.er.data g.er.pr who y.s.er ev.e).1∧ev'.e=(σ.er.data g.er.pr who y.s.er ev.e).2.1∧Kn q fun M=>TodoAt M σ'.ths)∧q'=Zx p pp who σ' ev'++q) (fun ch q'=> ∃ (σ':StC) (ev':EvC),((σ.er.data g.er.pr who y.s.er ev.e).2.2≠0∧ch= [Vh (σ.er.data g.er.pr who y.s.er ev.e).2.2]∧ev'.e=(σ.er.data g.er.pr who y.s.er ev.e).2.1)∧q'=Zx p pp who σ' ev'++q)):=by
 refine CallF.of func132 ntmps132 rfl (fun F cs=> ?_)
 obtain ⟨yb,yo,ys⟩:=y
 obtain ⟨kk,ln,cl,nm,wt,⟨ek,en,enm,esl,elo,eop,el,ea,ec⟩,⟨xk,xn,xnm,xsl,xlo,xop,xl,xa,xc⟩,bd,es2,ba,bc,ea2,ec2,id,sl,ot,lo_⟩:=ys
 have hCs:=Kn.stC hyA;dsimp only at hCs hg hyA hk⊢;simp only [Stm.er,PStm.kd] at hk
 have hwho:=hO.w;have h8:=hO.h8;have hys:=hO.y;have hN9:=hO.n9;obtain ⟨hev1,hev2⟩:=hev
 have hKe:Kn q fun M=>ExAt M ⟨yb,yo+5,none⟩ (Ex.mk ek en enm esl elo eop el ea ec):=hyA.imp fun M h=>Yq (pre:= [.int .i64 kk,.int .i64 ln,.int .i64 cl,.string nm,.string wt]) h.1 rfl h.2.1 rfl
 have hKx:Kn q fun M=>ExAt M ⟨yb,yo+12,none⟩ (Ex.mk xk xn xnm xsl xlo xop xl xa xc):=hyA.imp fun M h=>Yq (pre:= [.int .i64 kk,.int .i64 ln,.int .i64 cl,.string nm,.string wt]++exC (Ex.mk ek en enm esl elo eop el ea ec)) h.1 rfl h.2.2.1 rfl
 have hKb:Kn q fun M=>BlkAt M ba bc bd:=hyA.imp fun M h=>h.2.2.2.1;have hKl:Kn q fun M=>BlkAt M ea2 ec2 es2:=hyA.imp fun M h=>⟨h.2.2.2.2.1,h.2.2.2.2.2⟩
 obtain ⟨hg1,hg2,hg3,_⟩:=hg;obtain ⟨hs1,hs2,hs3,hs6,hs8,hs8o,hs11,hs12,hs13⟩:=Yc hg2;obtain ⟨hpe,hpx⟩:=Wm hg1;rw [Zf,Zf] at hg3
 obtain ⟨R,hR⟩: ∃ R,R=σ.er.data g.er.pr who (Stm.er (Stm.mk kk ln cl nm wt (Ex.mk ek en enm esl elo eop el ea ec) (Ex.mk xk xn xnm xsl xlo xop xl xa xc) bd es2 ba bc ea2 ec2 id sl ot lo_)) ev.e:=⟨_,rfl⟩;rw [←hR];unfold SS.data at hR;simp only [Stm.er] at hR;rw [Ze hwho] at hR
 change X _ _ _ _ _ _ _ _ (pto p (.cells (Yu pp σ++(.int .i64 (who:Int)::evC ev)).toArray 145 (0,0))::lsH I64 2 σ.ca σ.cc σ.cells::yH σ.sp σ.sy::rsH trC 5 116 σ.ha σ.hc σ.ths::stars (σ.ths.map trH)::rsH acC 3 140 ev.aa ev.ac ev.e.acc::rsH snC 3 50 ev.na ev.nc ev.e.syn::(q++F))
 obtain rfl:kk=5:=(by omega)
 rw [if_neg (show ¬ (5:Int)=3 by decide)] at hR;try dsimp only at hR
 rw [if_neg (fun k=>k rfl)] at hR
 refine Yk (l:=σ.ths) (by omega) (fun ga e_=> ?_)
 have hr: ∀ r,Sees (rsH trC 5 116 σ.ha σ.hc σ.ths::r) (some ⟨ga,0,none⟩) (σ.ths.flatMap trC):=fun r=>by rw [←e_];exact Sees.rsH r
 refine xo 7 ?_;obtain ⟨A1,hA1⟩: ∃ A,A=(Ex.er (Ex.mk ek en enm esl elo eop el ea ec)).made g.er.pr σ.cells σ.ths[who].loc:=⟨_,rfl⟩;have hok1:=Yh (p:=g.er.pr) hO.cv hO.lv (hpe (by omega));rw [←hA1] at hok1
 try rw [show (σ.ths[who].er).loc=σ.ths[who].loc from rfl] at hR
 try rw [show σ.er.cells=σ.cells from rfl] at hR
 rw [←hA1] at hR
 have hpw1:A1.2.2.length≤16777216:=Nat.le_trans hok1.2 (by decide)
 refine Vb call166 leA (Qa (p:=p) (pp:=pp) (who:=who) (hwho:=hwho) (Ex.sz (Ex.mk ek en enm esl elo eop el ea ec)) (e:=(Ex.mk ek en enm esl elo eop el ea ec)) (d:=24) (ev:=ev) (q:=q++F) (Nat.le_refl _) trivial (by decide) (hpe (by omega)) (by rw [hev1];decide) (hKe.le leA) (hP.le leA) hM hO.cl hO.cv hO.lv) ?_ ?_
 · rintro _ _ ⟨ht,rfl,ev9,he_,rfl⟩
   exact FQ.panic func132 (RP.thr (by rw [←hA1] at ht he_⊢;have hRR:=hR;rw [if_pos ht] at hRR;rw [hRR];exact ⟨σ,ev9,⟨ht,rfl,by rw [he_];unfold PEv.ac;simp only [hev1,List.nil_append]⟩,rfl⟩)) (by rw [List.append_assoc];exact Le.refl _)
 rintro _ _ ⟨ht1,rfl,ev2,he2,eq_⟩;simp only [Zx,spP,Zr,evL,ca,na] at eq_;subst eq_
 rw [←hA1] at ht1 he2⊢
 rw [if_neg (fun k=>k ht1)] at hR
 rw [if_neg (by decide),if_neg (by decide),if_neg (by decide),if_pos rfl] at hR
 refine oo 3 ?_;refine st ?_;refine ol 7 ?_;refine ox 2 ?_;refine X.part 18 rfl (fun h5=> ?_) (fun h5=> ?_)
 · replace h5:=sp h5
   rw [if_neg (show ¬A1.1=0 by omega)] at hR
   refine X.le (q':=stars (σ.ths.map trH)::_) Zk (X.le (Mi hwho _) ?_)
   refine X.le (q':=rsH trC 5 116 (some ⟨ga,0,none⟩) σ.hc σ.ths::_) (by rw [←e_];exact Zk) ?_
   refine xo 4 ?_;refine XO.cR call95 (Q1 (p:=p) (who:=who) (ga:=ga) (m:=σ.ths.length) (c:=σ.hc) (by rw [←e_];exact clA) clA hwho) ?_
   refine oo 1 ?_;refine XO.cR call95 (Q1 (p:=p) (who:=who) (ga:=ga) (m:=σ.ths.length) (c:=σ.hc) (by rw [←e_];exact clA) clA hwho) ?_
   refine oo 2 ?_;refine ld ?_ (hc:=(Cl.row (n:=who) (Sees.rsH _) leA Zd hwho rfl 3 _ rfl))
   refine oo 1 ?_;refine XO.ef (U9 (u:=(⟨yb,yo,(Stm.mk 5 ln cl nm wt (Ex.mk ek en enm esl elo eop el ea ec) (Ex.mk xk xn xnm xsl xlo xop xl xa xc) bd es2 ba bc ea2 ec2 id sl ot lo_)⟩:PS)) PS.v underlying114 Wa rfl rfl) ?_
   rintro _ _ ⟨g2,rfl,rfl⟩
   refine XO.ef (Yw (f:=PS.v) (l:=σ.ths[who].todo) (m:= [(⟨yb,yo,(Stm.mk 5 ln cl nm wt (Ex.mk ek en enm esl elo eop el ea ec) (Ex.mk xk xn xnm xsl xlo xop xl xa xc) bd es2 ba bc ea2 ec2 id sl ot lo_)⟩:PS)]) underlying114 Wa rfl rfl rfl Zk ((Sees.lsH _).le leA) (fun _=>rfl) (by have:=hO.td;simp only [List.length_singleton];omega) (by have:=hO.td;simp only [List.length_singleton];omega)) ?_
   rintro _ _ ⟨a5,c5,rfl,rfl⟩
   refine oo 2 ?_;refine XO.ef0 (Yi (g:=ga) (f:=trC) (l:=σ.ths) (u:=({ σ.ths[who] with ta:=a5,tc:=c5,todo:=σ.ths[who].todo++ [(⟨yb,yo,(Stm.mk 5 ln cl nm wt (Ex.mk ek en enm esl elo eop el ea ec) (Ex.mk xk xn xnm xsl xlo xop xl xa xc) bd es2 ba bc ea2 ec2 id sl ot lo_)⟩:PS)] } :TC)) (n:=who) (k:=3) (j:=(who:Int)) rfl rfl sizeOf114 Zd rfl hwho rfl rfl rfl rfl Zk) ?_
   rintro _ _ ⟨rfl,rfl⟩
   refine ox 1 ?_;refine drw ?_;refine dd [0,2,3,4] ?_;refine ldD 5 ?_ (hc:=((hCs.le leA) 19 _ rfl))
   refine Y0 1 call95 (Q1 (p:=p) (who:=who) (ga:=ga) (m:=σ.ths.length) (c:=σ.hc) (by rw [←e_];exact clA) clA hwho) ?_ (hL:=(hlA (h:=by repeat first|exact trivial|refine ⟨clA,?_⟩|refine ⟨(hCs.le leA) 21 _ rfl,?_⟩|refine ⟨(hCs.le leA) 22 _ rfl,?_⟩|refine ⟨(hCs.le leA) 23 _ rfl,?_⟩|refine ⟨(hCs.le leA) 24 _ rfl,?_⟩|refine ⟨(hCs.le leA) 19 _ rfl,?_⟩|refine ⟨(hCs.le leA) 20 _ rfl,?_⟩)))
   refine Ww 6 call84 (Le.pick Zk Zk) (Ia (gh:=ga) (n:=who) (hc:=σ.hc) (ths:=σ.ths) (x:=({ σ.ths[who] with ta:=a5,tc:=c5,todo:=σ.ths[who].todo++ [(⟨yb,yo,(Stm.mk 5 ln cl nm wt (Ex.mk ek en enm esl elo eop el ea ec) (Ex.mk xk xn xnm xsl xlo xop xl xa xc) bd es2 ba bc ea2 ec2 id sl ot lo_)⟩:PS)] } :TC)) (l:=bd) (a:=ba) (c:=bc) hwho (hKb.le leA) ⟨by omega,by have:=hO.td;simp only [List.length_append,List.length_singleton];omega⟩) ?_
   rintro _ _ ⟨a1,c1,b1,o1,hbo,rfl⟩
   refine ⟨trivial,?_⟩
   refine XD.nil ?_
   rw [←e_]
   refine X.le (q':=stars ((σ.ths.set who ({ σ.ths[who] with ta:=a1,tc:=c1,todo:=σ.ths[who].todo++ [(⟨yb,yo,(Stm.mk 5 ln cl nm wt (Ex.mk ek en enm esl elo eop el ea ec) (Ex.mk xk xn xnm xsl xlo xop xl xa xc) bd es2 ba bc ea2 ec2 id sl ot lo_)⟩:PS)]++(psL b1 o1 bd).reverse } :TC)).map trH)::_) (Le.trans (b:=lsH I64 2 (({ σ.ths[who] with ta:=a1,tc:=c1,todo:=σ.ths[who].todo++ [(⟨yb,yo,(Stm.mk 5 ln cl nm wt (Ex.mk ek en enm esl elo eop el ea ec) (Ex.mk xk xn xnm xsl xlo xop xl xa xc) bd es2 ba bc ea2 ec2 id sl ot lo_)⟩:PS)]++(psL b1 o1 bd).reverse } :TC)).la (({ σ.ths[who] with ta:=a1,tc:=c1,todo:=σ.ths[who].todo++ [(⟨yb,yo,(Stm.mk 5 ln cl nm wt (Ex.mk ek en enm esl elo eop el ea ec) (Ex.mk xk xn xnm xsl xlo xop xl xa xc) bd es2 ba bc ea2 ec2 id sl ot lo_)⟩:PS)]++(psL b1 o1 bd).reverse } :TC)).lc (({ σ.ths[who] with ta:=a1,tc:=c1,todo:=σ.ths[who].todo++ [(⟨yb,yo,(Stm.mk 5 ln cl nm wt (Ex.mk ek en enm esl elo eop el ea ec) (Ex.mk xk xn xnm xsl xlo xop xl xa xc) bd es2 ba bc ea2 ec2 id sl ot lo_)⟩:PS)]++(psL b1 o1 bd).reverse } :TC)).loc::lsH PS.v 146 (({ σ.ths[who] with ta:=a1,tc:=c1,todo:=σ.ths[who].todo++ [(⟨yb,yo,(Stm.mk 5 ln cl nm wt (Ex.mk ek en enm esl elo eop el ea ec) (Ex.mk xk xn xnm xsl xlo xop xl xa xc) bd es2 ba bc ea2 ec2 id sl ot lo_)⟩:PS)]++(psL b1 o1 bd).reverse } :TC)).ta (({ σ.ths[who] with ta:=a1,tc:=c1,todo:=σ.ths[who].todo++ [(⟨yb,yo,(Stm.mk 5 ln cl nm wt (Ex.mk ek en enm esl elo eop el ea ec) (Ex.mk xk xn xnm xsl xlo xop xl xa xc) bd es2 ba bc ea2 ec2 id sl ot lo_)⟩:PS)]++(psL b1 o1 bd).reverse } :TC)).tc (({ σ.ths[who] with ta:=a1,tc:=c1,todo:=σ.ths[who].todo++ [(⟨yb,yo,(Stm.mk 5 ln cl nm wt (Ex.mk ek en enm esl elo eop el ea ec) (Ex.mk xk xn xnm xsl xlo xop xl xa xc) bd es2 ba bc ea2 ec2 id sl ot lo_)⟩:PS)]++(psL b1 o1 bd).reverse } :TC)).todo::lsH I64 3 (({ σ.ths[who] with ta:=a1,tc:=c1,todo:=σ.ths[who].todo++ [(⟨yb,yo,(Stm.mk 5 ln cl nm wt (Ex.mk ek en enm esl elo eop el ea ec) (Ex.mk xk xn xnm xsl xlo xop xl xa xc) bd es2 ba bc ea2 ec2 id sl ot lo_)⟩:PS)]++(psL b1 o1 bd).reverse } :TC)).sa (({ σ.ths[who] with ta:=a1,tc:=c1,todo:=σ.ths[who].todo++ [(⟨yb,yo,(Stm.mk 5 ln cl nm wt (Ex.mk ek en enm esl elo eop el ea ec) (Ex.mk xk xn xnm xsl xlo xop xl xa xc) bd es2 ba bc ea2 ec2 id sl ot lo_)⟩:PS)]++(psL b1 o1 bd).reverse } :TC)).sc (({ σ.ths[who] with ta:=a1,tc:=c1,todo:=σ.ths[who].todo++ [(⟨yb,yo,(Stm.mk 5 ln cl nm wt (Ex.mk ek en enm esl elo eop el ea ec) (Ex.mk xk xn xnm xsl xlo xop xl xa xc) bd es2 ba bc ea2 ec2 id sl ot lo_)⟩:PS)]++(psL b1 o1 bd).reverse } :TC)).sp::stars ((σ.ths.eraseIdx who).map trH)::_) (Le.pick Zk (Le.pick Zk (Le.pick Zk Zk))) (Mr hwho ({ σ.ths[who] with ta:=a1,tc:=c1,todo:=σ.ths[who].todo++ [(⟨yb,yo,(Stm.mk 5 ln cl nm wt (Ex.mk ek en enm esl elo eop el ea ec) (Ex.mk xk xn xnm xsl xlo xop xl xa xc) bd es2 ba bc ea2 ec2 id sl ot lo_)⟩:PS)]++(psL b1 o1 bd).reverse } :TC) _)) ?_
   refine X.le (q':=Zx p pp who ({ σ with ths:=σ.ths.set who ({ σ.ths[who] with ta:=a1,tc:=c1,todo:=σ.ths[who].todo++ [(⟨yb,yo,(Stm.mk 5 ln cl nm wt (Ex.mk ek en enm esl elo eop el ea ec) (Ex.mk xk xn xnm xsl xlo xop xl xa xc) bd es2 ba bc ea2 ec2 id sl ot lo_)⟩:PS)]++(psL b1 o1 bd).reverse } :TC) } :StC) ({ ev2 with e:= { ev2.e with value:=A1.1 } } :EvC)++(q++F)) (by unfold Zx spP Yu Zr;simp only [List.length_set];exact leA) ?_
   refine Z7 (Zx p pp who ({ σ with ths:=σ.ths.set who ({ σ.ths[who] with ta:=a1,tc:=c1,todo:=σ.ths[who].todo++ [(⟨yb,yo,(Stm.mk 5 ln cl nm wt (Ex.mk ek en enm esl elo eop el ea ec) (Ex.mk xk xn xnm xsl xlo xop xl xa xc) bd es2 ba bc ea2 ec2 id sl ot lo_)⟩:PS)]++(psL b1 o1 bd).reverse } :TC) } :StC) ({ ev2 with e:= { ev2.e with value:=A1.1 } } :EvC)++q) func132 (Vx results132) (RP.ret ⟨({ σ with ths:=σ.ths.set who ({ σ.ths[who] with ta:=a1,tc:=c1,todo:=σ.ths[who].todo++ [(⟨yb,yo,(Stm.mk 5 ln cl nm wt (Ex.mk ek en enm esl elo eop el ea ec) (Ex.mk xk xn xnm xsl xlo xop xl xa xc) bd es2 ba bc ea2 ec2 id sl ot lo_)⟩:PS)]++(psL b1 o1 bd).reverse } :TC) } :StC),({ ev2 with e:= { ev2.e with value:=A1.1 } } :EvC),⟨by rw [hR],by rw [hR];dsimp only;rw [W2];congr 1;simp only [TC.er,List.map_append,List.map_reverse,Ei,List.reverse_append,List.reverse_reverse,List.map_cons,List.map_nil,List.reverse_cons,List.reverse_nil,List.nil_append,List.append_assoc,Stm.er,List.cons_append],by rw [hR];dsimp only;rw [he2];unfold PEv.ac;simp only [hev1,List.nil_append],(hTd.and ((hyA.and hKb))).imp fun M h t ht z hz=>by
    rcases List.mem_or_eq_of_mem_set ht with ht|rfl
    · exact h.1 t ht z hz
    rcases List.mem_append.1 hz with hz|hz
    · rcases List.mem_append.1 hz with hz|hz
      · exact h.1 _ (List.getElem_mem hwho) z hz
      rw [List.mem_singleton.1 hz];exact h.2.1
    have hz2:=List.mem_reverse.1 hz
    have hb:=h.2.2
    rw [hbo (by rw [←Hl b1 o1 bd];exact List.length_pos_of_mem hz2)] at hb
    exact El hb z hz2⟩,rfl⟩) (by rw [List.append_assoc];exact Le.refl _)
 replace h5:=sp h5
 rw [if_pos (show A1.1=0 by omega)] at hR
 refine xx 2 ?_;refine Z7 (Zx p pp who σ ({ ev2 with e:= { ev2.e with value:=A1.1 } } :EvC)++q) func132 (Vx results132) (RP.ret ⟨σ,({ ev2 with e:= { ev2.e with value:=A1.1 } } :EvC),⟨by rw [hR],by rw [hR];dsimp only;rw [List.nil_append];exact (Fz hwho).symm,by rw [hR];dsimp only;rw [he2];unfold PEv.ac;simp only [hev1,List.nil_append],hTd⟩,rfl⟩) (by rw [List.append_assoc];exact Le.refl _)
set_option maxHeartbeats 4000000 in
theorem Iq {y:PS}(hP:Prg q pp g)(hM:MayP g.er)(hO:PO g N who σ)(hev:ev.e.acc= []∧ev.e.syn= [])(hyA:Kn q fun M=>y.At M)(hg:y.s.er.good g.er.cn (σ.ths[who]'(hO.w)).loc.length)(hTd:Kn q fun M=>TodoAt M σ.ths)(hk:y.s.er.kd=15):CallF prog G 142 [.pointer (some ⟨p,0,none⟩),.pointer (some ⟨y.b,y.o,none⟩)] (Zx p pp who σ ev++q) (RP (fun v q'=> ∃ (σ':StC) (ev':EvC),((σ.er.data g.er.pr who y.s.er ev.e).2.2=0∧σ'.er=(σ.er.data g.er.pr who y.s.er ev.e).1∧ev'.e=(σ.er.data g.er.pr who y.s.er ev.e).2.1∧Kn q fun M=>TodoAt M σ'.ths)∧q'=Zx p pp who σ' ev'++q) (fun ch q'=> ∃ (σ':StC) (ev':EvC),((σ.er.data g.er.pr who y.s.er ev.e).2.2≠0∧ch= [Vh (σ.er.data g.er.pr who y.s.er ev.e).2.2]∧ev'.e=(σ.er.data g.er.pr who y.s.er ev.e).2.1)∧q'=Zx p pp who σ' ev'++q)):=by
 refine CallF.of func142 ntmps142 rfl (fun F cs=> ?_)
 obtain ⟨yb,yo,ys⟩:=y
 obtain ⟨kk,ln,cl,nm,wt,⟨ek,en,enm,esl,elo,eop,el,ea,ec⟩,⟨xk,xn,xnm,xsl,xlo,xop,xl,xa,xc⟩,bd,es2,ba,bc,ea2,ec2,id,sl,ot,lo_⟩:=ys
 have hCs:=Kn.stC hyA;dsimp only at hCs hg hyA hk⊢;simp only [Stm.er,PStm.kd] at hk
 have hwho:=hO.w;have h8:=hO.h8;have hys:=hO.y;have hN9:=hO.n9;obtain ⟨hev1,hev2⟩:=hev
 have hKe:Kn q fun M=>ExAt M ⟨yb,yo+5,none⟩ (Ex.mk ek en enm esl elo eop el ea ec):=hyA.imp fun M h=>Yq (pre:= [.int .i64 kk,.int .i64 ln,.int .i64 cl,.string nm,.string wt]) h.1 rfl h.2.1 rfl
 have hKx:Kn q fun M=>ExAt M ⟨yb,yo+12,none⟩ (Ex.mk xk xn xnm xsl xlo xop xl xa xc):=hyA.imp fun M h=>Yq (pre:= [.int .i64 kk,.int .i64 ln,.int .i64 cl,.string nm,.string wt]++exC (Ex.mk ek en enm esl elo eop el ea ec)) h.1 rfl h.2.2.1 rfl
 have hKb:Kn q fun M=>BlkAt M ba bc bd:=hyA.imp fun M h=>h.2.2.2.1;have hKl:Kn q fun M=>BlkAt M ea2 ec2 es2:=hyA.imp fun M h=>⟨h.2.2.2.2.1,h.2.2.2.2.2⟩
 obtain ⟨hg1,hg2,hg3,_⟩:=hg;obtain ⟨hs1,hs2,hs3,hs6,hs8,hs8o,hs11,hs12,hs13⟩:=Yc hg2;obtain ⟨hpe,hpx⟩:=Wm hg1;rw [Zf,Zf] at hg3
 obtain ⟨R,hR⟩: ∃ R,R=σ.er.data g.er.pr who (Stm.er (Stm.mk kk ln cl nm wt (Ex.mk ek en enm esl elo eop el ea ec) (Ex.mk xk xn xnm xsl xlo xop xl xa xc) bd es2 ba bc ea2 ec2 id sl ot lo_)) ev.e:=⟨_,rfl⟩;rw [←hR];unfold SS.data at hR;simp only [Stm.er] at hR;rw [Ze hwho] at hR
 change X _ _ _ _ _ _ _ _ (pto p (.cells (Yu pp σ++(.int .i64 (who:Int)::evC ev)).toArray 145 (0,0))::lsH I64 2 σ.ca σ.cc σ.cells::yH σ.sp σ.sy::rsH trC 5 116 σ.ha σ.hc σ.ths::stars (σ.ths.map trH)::rsH acC 3 140 ev.aa ev.ac ev.e.acc::rsH snC 3 50 ev.na ev.nc ev.e.syn::(q++F))
 obtain rfl:kk=15:=(by omega)
 rw [if_neg (show ¬ (15:Int)=3 by decide)] at hR;try dsimp only at hR
 rw [if_neg (fun k=>k rfl)] at hR
 refine xo 7 ?_;obtain ⟨A1,hA1⟩: ∃ A,A=(Ex.er (Ex.mk ek en enm esl elo eop el ea ec)).made g.er.pr σ.cells σ.ths[who].loc:=⟨_,rfl⟩;have hok1:=Yh (p:=g.er.pr) hO.cv hO.lv (hpe (by omega));rw [←hA1] at hok1
 try rw [show (σ.ths[who].er).loc=σ.ths[who].loc from rfl] at hR
 try rw [show σ.er.cells=σ.cells from rfl] at hR
 rw [←hA1] at hR
 have hpw1:A1.2.2.length≤16777216:=Nat.le_trans hok1.2 (by decide)
 refine Vb call166 leA (Qa (p:=p) (pp:=pp) (who:=who) (hwho:=hwho) (Ex.sz (Ex.mk ek en enm esl elo eop el ea ec)) (e:=(Ex.mk ek en enm esl elo eop el ea ec)) (d:=24) (ev:=ev) (q:=q++F) (Nat.le_refl _) trivial (by decide) (hpe (by omega)) (by rw [hev1];decide) (hKe.le leA) (hP.le leA) hM hO.cl hO.cv hO.lv) ?_ ?_
 · rintro _ _ ⟨ht,rfl,ev9,he_,rfl⟩
   exact FQ.panic func142 (RP.thr (by rw [←hA1] at ht he_⊢;have hRR:=hR;rw [if_pos ht] at hRR;rw [hRR];exact ⟨σ,ev9,⟨ht,rfl,by rw [he_];unfold PEv.ac;simp only [hev1,List.nil_append]⟩,rfl⟩)) (by rw [List.append_assoc];exact Le.refl _)
 rintro _ _ ⟨ht1,rfl,ev2,he2,eq_⟩;simp only [Zx,spP,Zr,evL,ca,na] at eq_;subst eq_
 rw [←hA1] at ht1 he2⊢
 rw [if_neg (fun k=>k ht1)] at hR
 rw [if_neg (by decide),if_neg (by decide),if_neg (by decide),if_neg (by decide),if_neg (by decide)] at hR
 refine oo 3 ?_;refine st ?_;refine oo 6 ?_;refine st ?_;refine ox 1 ?_;refine Z7 (Zx p pp who σ ({ ev2 with e:= { ev2.e with told:=true,outv:=A1.1 } } :EvC)++q) func142 (Vx results142) (RP.ret ⟨σ,({ ev2 with e:= { ev2.e with told:=true,outv:=A1.1 } } :EvC),⟨by rw [hR],by rw [hR],by rw [hR];dsimp only;rw [he2];unfold PEv.ac;simp only [hev1,List.nil_append],hTd⟩,rfl⟩) (by unfold Zx spP;exact leA)
set_option maxHeartbeats 4000000 in
theorem xsend_ok {y:PS}(hP:Prg q pp g)(hM:MayP g.er)(hO:PO g N who σ)(hev:ev.e.acc= []∧ev.e.syn= [])(hyA:Kn q fun M=>y.At M)(hg:y.s.er.good g.er.cn (σ.ths[who]'(hO.w)).loc.length)(hTd:Kn q fun M=>TodoAt M σ.ths)(hk:y.s.er.kd=11)(hroom:((σ.sy.chans.getD y.s.er.slt.toNat ch0).items.length:Int)<(σ.sy.chans.getD y.s.er.slt.toNat ch0).room):CallF prog G 138 [.pointer (some ⟨p,0,none⟩),.pointer (some ⟨y.b,y.o,none⟩)] (Zx p pp who σ ev++q) (RP (fun v q'=> ∃ (σ':StC) (ev':EvC),((σ.er.data g.er.pr who y.s.er ev.e).2.2=0∧σ'.er=(σ.er.data g.er.pr who y.s.er ev.e).1∧ev'.e=(σ.er.data g.er.pr who y.s.er ev.e).2.1∧Kn q fun M=>TodoAt M σ'.ths)∧q'=Zx p pp who σ' ev'++q) (fun ch q'=> ∃ (σ':StC) (ev':EvC),((σ.er.data g.er.pr who y.s.er ev.e).2.2≠0∧ch= [Vh (σ.er.data g.er.pr who y.s.er ev.e).2.2]∧ev'.e=(σ.er.data g.er.pr who y.s.er ev.e).2.1)∧q'=Zx p pp who σ' ev'++q)):=by
 refine CallF.of func138 ntmps138 rfl (fun F cs=> ?_)
 obtain ⟨yb,yo,ys⟩:=y
 obtain ⟨kk,ln,cl,nm,wt,⟨ek,en,enm,esl,elo,eop,el,ea,ec⟩,⟨xk,xn,xnm,xsl,xlo,xop,xl,xa,xc⟩,bd,es2,ba,bc,ea2,ec2,id,sl,ot,lo_⟩:=ys
 have hCs:=Kn.stC hyA;dsimp only at hCs hg hyA hk⊢;simp only [Stm.er,PStm.kd] at hk
 have hwho:=hO.w;have h8:=hO.h8;have hys:=hO.y;have hN9:=hO.n9;obtain ⟨hev1,hev2⟩:=hev
 have hKe:Kn q fun M=>ExAt M ⟨yb,yo+5,none⟩ (Ex.mk ek en enm esl elo eop el ea ec):=hyA.imp fun M h=>Yq (pre:= [.int .i64 kk,.int .i64 ln,.int .i64 cl,.string nm,.string wt]) h.1 rfl h.2.1 rfl
 have hKx:Kn q fun M=>ExAt M ⟨yb,yo+12,none⟩ (Ex.mk xk xn xnm xsl xlo xop xl xa xc):=hyA.imp fun M h=>Yq (pre:= [.int .i64 kk,.int .i64 ln,.int .i64 cl,.string nm,.string wt]++exC (Ex.mk ek en enm esl elo eop el ea ec)) h.1 rfl h.2.2.1 rfl
 have hKb:Kn q fun M=>BlkAt M ba bc bd:=hyA.imp fun M h=>h.2.2.2.1;have hKl:Kn q fun M=>BlkAt M ea2 ec2 es2:=hyA.imp fun M h=>⟨h.2.2.2.2.1,h.2.2.2.2.2⟩
 obtain ⟨hg1,hg2,hg3,_⟩:=hg;obtain ⟨hs1,hs2,hs3,hs6,hs8,hs8o,hs11,hs12,hs13⟩:=Yc hg2;obtain ⟨hpe,hpx⟩:=Wm hg1;rw [Zf,Zf] at hg3
 obtain ⟨R,hR⟩: ∃ R,R=σ.er.data g.er.pr who (Stm.er (Stm.mk kk ln cl nm wt (Ex.mk ek en enm esl elo eop el ea ec) (Ex.mk xk xn xnm xsl xlo xop xl xa xc) bd es2 ba bc ea2 ec2 id sl ot lo_)) ev.e:=⟨_,rfl⟩;rw [←hR];unfold SS.data at hR;simp only [Stm.er] at hR;rw [Ze hwho] at hR
 change X _ _ _ _ _ _ _ _ (pto p (.cells (Yu pp σ++(.int .i64 (who:Int)::evC ev)).toArray 145 (0,0))::lsH I64 2 σ.ca σ.cc σ.cells::yH σ.sp σ.sy::rsH trC 5 116 σ.ha σ.hc σ.ths::stars (σ.ths.map trH)::rsH acC 3 140 ev.aa ev.ac ev.e.acc::rsH snC 3 50 ev.na ev.nc ev.e.syn::(q++F))
 obtain rfl:kk=11:=(by omega)
 rw [if_neg (show ¬ (11:Int)=3 by decide)] at hR;try dsimp only at hR
 rw [if_neg (fun k=>k rfl)] at hR
 have hin11:=hs11 (.inl rfl);have hch:=hO.ch
 refine xx 1 ?_;refine drw ?_;refine dl [0,1,2,3] 4 ?_;refine dd [5,6,7] ?_;refine ldD 8 ?_ (hc:=((hCs.le leA) 22 _ rfl))
 refine dd [9,10,11,12] ?_;obtain ⟨A1,hA1⟩: ∃ A,A=(Ex.er (Ex.mk ek en enm esl elo eop el ea ec)).made g.er.pr σ.cells σ.ths[who].loc:=⟨_,rfl⟩;have hok1:=Yh (p:=g.er.pr) hO.cv hO.lv (hpe (by omega));rw [←hA1] at hok1
 try rw [show (σ.ths[who].er).loc=σ.ths[who].loc from rfl] at hR
 try rw [show σ.er.cells=σ.cells from rfl] at hR
 rw [←hA1] at hR
 have hpw1:A1.2.2.length≤16777216:=Nat.le_trans hok1.2 (by decide)
 refine D7 13 call166 leA (Qa (p:=p) (pp:=pp) (who:=who) (hwho:=hwho) (Ex.sz (Ex.mk ek en enm esl elo eop el ea ec)) (e:=(Ex.mk ek en enm esl elo eop el ea ec)) (d:=24) (ev:=ev) (q:=q++F) (Nat.le_refl _) trivial (by decide) (hpe (by omega)) (by rw [hev1];decide) (hKe.le leA) (hP.le leA) hM hO.cl hO.cv hO.lv) ?_ ?_ trivial
 · rintro _ _ ⟨ht,rfl,ev9,he_,rfl⟩
   exact FQ.panic func138 (RP.thr (by rw [←hA1] at ht he_⊢;have hRR:=hR;rw [if_pos ht] at hRR;rw [hRR];exact ⟨σ,ev9,⟨ht,rfl,by rw [he_];unfold PEv.ac;simp only [hev1,List.nil_append]⟩,rfl⟩)) (by rw [List.append_assoc];exact Le.refl _)
 rintro _ _ ⟨ht1,rfl,ev2,he2,eq_⟩;simp only [Zx,spP,Zr,evL,ca,na] at eq_;subst eq_
 refine ⟨(hlA (h:=by repeat first|exact trivial|refine ⟨clA,?_⟩|refine ⟨(hCs.le leA) 21 _ rfl,?_⟩|refine ⟨(hCs.le leA) 22 _ rfl,?_⟩|refine ⟨(hCs.le leA) 23 _ rfl,?_⟩|refine ⟨(hCs.le leA) 24 _ rfl,?_⟩|refine ⟨(hCs.le leA) 19 _ rfl,?_⟩|refine ⟨(hCs.le leA) 20 _ rfl,?_⟩)),?_⟩
 rw [←hA1] at ht1 he2⊢
 rw [if_neg (fun k=>k ht1)] at hR
 rw [if_neg (by decide),if_neg (by decide),if_neg (by decide),if_neg (by decide),if_pos rfl] at hR
 refine Un 14 call174 (Send_Y (k:=sl) (t:=A1.1) hys (by omega)) ?_
 rintro _ _ ⟨rfl,rfl⟩ _ e_;simp only [ca,na] at e_;subst e_
 refine ⟨trivial,?_⟩
 refine dd [15,16,17,18,19,20,21] ?_;refine XD.nil ?_;refine xo 5 ?_;refine ld ?_ (hc:=((hCs.le leA) 22 _ rfl))
 refine oo 1 ?_;refine Zb call98 leA (V0 (p:=p) (pp:=pp) (who:=who) (σ:=({ σ with sy:=(Vz σ.sy sl A1.1).1 } :StC)) (ev:=ev2) (q:=q++F) (by rw [he2];unfold PEv.ac;dsimp only;rw [hev2];decide)) ?_
 rintro _ _ ⟨ev3,he3,rfl⟩
 refine ox 1 ?_
 replace hroom:((σ.sy.chans.getD sl.toNat ch0).items.length:Int)<(σ.sy.chans.getD sl.toNat ch0).room:=hroom
 have hsn:(Vz σ.sy sl A1.1).2.1=((σ.sy.chans.getD sl.toNat ch0).all.length:Int):=by unfold Vz;rw [if_pos ⟨hin11.1,by omega⟩,if_pos hok1.1,if_pos hroom]
 refine Z7 (Zx p pp who ({ σ with sy:=(Vz σ.sy sl A1.1).1 } :StC) ev3++q) func138 (Vx results138) (RP.ret ⟨({ σ with sy:=(Vz σ.sy sl A1.1).1 } :StC),ev3,⟨by rw [hR],by rw [hR];rfl,by rw [hR,he3,he2,hsn];unfold PEv.ac PEv.sn;dsimp only;rw [hev1,hev2,Int.max_eq_left (by omega)];simp;rfl,hTd⟩,rfl⟩) (by rw [List.append_assoc];exact Le.refl _)
end
structure SS.fine (F:Fnd) (N:Nat) (s:SS):Prop where
 ok:SS.ok F N s
 u:s.sy.conds.flatten.Nodup
 q: ∀ t∈s.ths,t.sp.length<s.ths.length
structure PTr.ok0 (F:Fnd) (N nth:Nat) (t:PTr):Prop where
 d:0≤t.decl∧t.decl<F.ths.length
 s:1≤t.st∧t.st≤4
 l:t.loc.length≤32
 v: ∀ x∈t.loc,val x
 g:Wg F.cn t.loc.length t.left
 n:t.left.length≤600*(N+1)
 p:t.sp.length<nth∧ ∀ i∈t.sp,0≤i∧i<nth
structure PTr.ok1 (t:PTr):Prop where
 e:t.left= []↔t.st=4
 w:t.st=2∨t.st=3→t.next.kd=8
theorem ThOk.parts {F:Fnd}{N nth:Nat}{t:PTr}(h:ThOk F N nth t)(q:t.sp.length<nth):t.ok0 F N nth∧t.ok1:=⟨⟨h.d,h.s,h.l,h.v,h.g,h.n,q,h.p.2⟩,⟨h.e,h.w⟩⟩
theorem ThOk.of {F:Fnd}{N nth:Nat}{t:PTr}(h:t.ok0 F N nth)(k:t.ok1)(l:nth≤8):ThOk F N nth t:=⟨h.d,h.s,h.l,h.v,h.g,h.n,k.e,k.w,by have:=h.p.1;omega,h.p.2⟩
structure SS.okx (F:Fnd) (N n:Nat) (s:SS):Prop where
 c:(s.cells.length:Int)=F.vars.length+Y8 F.arrs
 v: ∀ x∈s.cells,val x
 y:s.sy.ok N
 z:(s.sy.owners.length:Int)=F.mu∧(s.sy.conds.length:Int)=F.co∧s.sy.chans.map Ch.room=F.chs
 t:1≤s.ths.length∧s.ths.length≤8
 nn:n<s.ths.length
 h: ∀ i,i<s.ths.length→(s.th i).ok0 F N s.ths.length
 o: ∀ i,i<s.ths.length→i≠n→(s.th i).ok1
 m:(s.th n).st=1∨((s.th n).st=2∧(s.th n).next.kd=8∧(s.th n).left≠ [])
 w: ∀ l∈s.sy.conds,∀ t∈l,t.toNat<s.ths.length∧(s.th t.toNat).st=2
 u:s.sy.conds.flatten.Nodup
theorem SS.put_len (s:SS)(n:Nat)(t:PTr):(s.put n t).ths.length=s.ths.length:=by simp [SS.put]
theorem Uw {s:SS}{n:Nat}{t:PTr}(h:n<s.ths.length)(i:Nat):(s.put n t).th i=if i=n then t else s.th i:=by
 unfold SS.th SS.put
 by_cases e:i=n
 · subst e;simp [List.getD,h]
 rw [if_neg e];simp only [List.getD_eq_getElem?_getD,List.getElem?_set_ne (Ne.symm e)]
theorem PTr.ok0.mono {F:Fnd}{N N' m m':Nat}{t:PTr}(h:t.ok0 F N m)(l:N≤N')(k:m≤m'):t.ok0 F N' m':=
 ⟨h.d,h.s,h.l,h.v,h.g,by have:=h.n;omega,by have:=h.p.1;omega,fun i hi=>by have:=h.p.2 i hi;omega⟩
theorem SS.okx.mono {F:Fnd}{N N' n:Nat}{s:SS}(h:s.okx F N n)(l:N≤N'):s.okx F N' n:=
 ⟨h.c,h.v,h.y.mono l,h.z,h.t,h.nn,fun i hi=>(h.h i hi).mono l (Nat.le_refl _),h.o,h.m,h.w,h.u⟩
theorem SS.okx.put {F:Fnd}{N n:Nat}{s:SS}{t:PTr}(h:s.okx F N n)(h0:t.ok0 F N s.ths.length)(hm:t.st=1∨(t.st=2∧t.next.kd=8∧t.left≠ []))(hw:(s.th n).st=2→t.st=2):(s.put n t).okx F N n:=by
 have hl:=s.put_len n t
 have ha:=Uw (t:=t) h.nn
 refine ⟨h.c,h.v,h.y,h.z,by rw [hl];exact h.t,by rw [hl];exact h.nn,fun i hi=> ?_,fun i hi hne=> ?_,?_,fun l hl' t' ht=> ?_,h.u⟩
 · rw [hl] at hi⊢;rw [ha];split
   · exact h0
   exact h.h i hi
 · rw [hl] at hi;rw [ha,if_neg hne];exact h.o i hi hne
 · rw [ha,if_pos rfl];exact hm
 obtain ⟨k1,k2⟩:=h.w l hl' t' ht
 rw [hl,ha]
 refine ⟨k1,?_⟩
 split
 · rename_i e;rw [e] at k2;exact hw k2
 exact k2
theorem SS.okx.cell {F:Fnd}{N n:Nat}{s:SS}{l:List Int}(h:s.okx F N n)(hl:l.length=s.cells.length)(hv: ∀ x∈l,val x):({ s with cells:=l } :SS).okx F N n:=
 ⟨by show (l.length:Int)=_;rw [hl];exact h.c,hv,h.y,h.z,h.t,h.nn,h.h,h.o,h.m,h.w,h.u⟩
theorem SS.okx.sync {F:Fnd}{N N' n:Nat}{s:SS}{y:Sy}(h:s.okx F N n)(l:N≤N')(hy:y.ok N')(h1:y.owners.length=s.sy.owners.length)(h2:y.conds=s.sy.conds)(h3:y.chans.map Ch.room=s.sy.chans.map Ch.room):({ s with sy:=y } :SS).okx F N' n:=
 ⟨h.c,h.v,hy,⟨by show (y.owners.length:Int)=_;rw [h1];exact h.z.1,by show (y.conds.length:Int)=_;rw [h2];exact h.z.2.1,by show y.chans.map Ch.room=_;rw [h3];exact h.z.2.2⟩,h.t,h.nn,fun i hi=>(h.h i hi).mono l (Nat.le_refl _),h.o,h.m,by show ∀ l∈y.conds,_;rw [h2];exact h.w,by show y.conds.flatten.Nodup;rw [h2];exact h.u⟩
theorem Ed {l:List Int}{i:Nat}{v:Int}(h: ∀ x∈l,val x)(hv:val v): ∀ x∈l.set i v,val x:=fun x hx=>by
 rcases List.mem_or_eq_of_mem_set hx with hx|rfl
 · exact h x hx
 exact hv
theorem SS.okx.into {F:Fnd}{N n:Nat}{s:SS}{v slot:Int}{loc:Bool}(h:s.okx F N n)(hv:val v):(s.into n slot loc v).1.okx F N n∧((s.into n slot loc v).1.th n).st=(s.th n).st:=by
 unfold SS.into
 split
 · have k:=h.h n h.nn
   refine ⟨h.put ⟨k.d,k.s,by simpa using k.l,Ed k.v hv,by rw [List.length_set];exact k.g,k.n,k.p⟩ (by exact h.m) (fun e=>e),?_⟩
   dsimp only;rw [Uw h.nn,if_pos rfl]
 exact ⟨h.cell (by simp) (Ed h.v hv),rfl⟩
theorem F6 (s:Sy)(k v:Int):(Vz s k v).1.conds=s.conds:=by unfold Vz;(repeat' split)<;>rfl
theorem Ip (s:Sy)(k v:Int):(Vz s k v).1.owners=s.owners:=by unfold Vz;(repeat' split)<;>rfl
theorem F5 {l:List Ch}{i:Nat}{x:Ch}(h:x.room=(l.getD i ch0).room):(l.set i x).map Ch.room=l.map Ch.room:=by
 rw [List.map_set]
 apply List.ext_getElem (by simp)
 intro j h1 h2
 by_cases e:i=j
 · subst e;have:i<l.length:=by simpa using h2
   simp [h,List.getD,this]
 simp [List.getElem_set_ne e]
theorem Ak (s:Sy)(k v:Int):(Vz s k v).1.chans.map Ch.room=s.chans.map Ch.room:=by
 unfold Vz
 split
 · split
   · split
     · exact F5 rfl
     rfl
   rfl
 rfl
theorem Ay (s:Sy)(k:Int):(W5 s k).1.chans.map Ch.room=s.chans.map Ch.room:=by
 unfold W5
 split
 · split
   · rfl
   exact F5 rfl
 rfl
theorem Bv (s:Sy)(m t:Int):(Wi s m t).1.owners.length=s.owners.length∧(Wi s m t).1.conds=s.conds∧(Wi s m t).1.chans=s.chans:=by
 unfold Wi;(repeat' split)<;>simp
theorem Ms (s:Sy)(m t:Int):(Z6 s m t).1.owners.length=s.owners.length∧(Z6 s m t).1.conds=s.conds∧(Z6 s m t).1.chans=s.chans:=by
 unfold Z6;(repeat' split)<;>simp
theorem A4 {s:SS}{n:Nat}{t:PTr}(h:n<s.ths.length):((s.put n t).th n)=t:=by rw [Uw h,if_pos rfl]
set_option maxHeartbeats 2000000 in
theorem Pa {F:Fnd}{N n:Nat}{s:SS}{x:PStm}{ev:PEv}(h:s.okx F N n)(hM:MayP F)(hs:(s.th n).st=1)(hx:x.good F.cn (s.th n).loc.length)(hl:(s.th n).left.length+1≤600*(N+1))(hk:x.kd≤5∨x.kd=11∨x.kd=15)(ht:(s.data F.pr n x ev).2.2=0):(s.data F.pr n x ev).1.okx F (N+1) n:=by
 have h':=h.mono (Nat.le_succ N)
 obtain ⟨k,ln,cl,nm,wt,e,ix,body,els,id,slot,other,loc⟩:=x
 simp only [PStm.kd] at hk
 obtain ⟨hg1,hg2,hg3,hg4,hg5⟩:=hx
 obtain ⟨hs1,hs2,hs3,hs6,hs8,hs8o,hs11,hs12,hs13⟩:=Yc hg2
 obtain ⟨hpe,hpx⟩:=Wm hg1
 have k0:=h.h n h.nn
 have hev:=(Yh (p:=F.pr) h.v k0.v (hpe (by omega))).1
 unfold SS.data at ht⊢
 dsimp only at ht⊢
 generalize (if k=3 then ix.made F.pr s.cells (s.th n).loc else (0,0, []))=i at ht⊢
 generalize e.made F.pr s.cells (s.th n).loc=v at ht⊢hev
 split at ht
 · rename_i h1;exact absurd ht h1
 rename_i h1;rw [if_neg h1]
 split at ht
 · rename_i h2;exact absurd ht h2
 rename_i h2;rw [if_neg h2]
 split at ht
 · rename_i h3;rw [if_pos h3];exact (h'.into hev).1
 rename_i h3;rw [if_neg h3]
 split at ht
 · rename_i h4;rw [if_pos h4]
   split at ht
   · exact absurd ht (by show ¬ (3:Int)=0;decide)
   rename_i h5;rw [if_neg h5];exact h'.cell (by simp) (Ed h.v hev)
 rename_i h4;rw [if_neg h4]
 have hbd: ∀ m:List PStm,m.length≤513→Wg F.cn (s.th n).loc.length m→(s.put n { s.th n with left:=m++(s.th n).left }).okx F (N+1) n:=fun m hm hg=>by
  refine h'.put ⟨k0.d,k0.s,k0.l,k0.v,Wq.2 fun y hy=> ?_,by simp only [List.length_append];omega,k0.p⟩ (.inl hs) (fun e=>e)
  rcases List.mem_append.1 hy with hy|hy
  · exact Wq.1 hg y hy
  exact Wq.1 k0.g y hy
 split at ht
 · rename_i h5;rw [if_pos h5]
   split
   · exact hbd _ (by omega) hg5
   exact hbd _ (by omega) hg4
 rename_i h5;rw [if_neg h5]
 split at ht
 · rename_i h6;rw [if_pos h6]
   split
   · exact hbd _ (by simp) trivial
   refine hbd _ (by simp only [List.length_append,List.length_singleton];omega) (Wq.2 fun y hy=> ?_)
   rcases List.mem_append.1 hy with hy|hy
   · exact Wq.1 hg4 y hy
   rw [List.mem_singleton.1 hy];exact ⟨hg1,hg2,hg3,hg4,hg5⟩
 rename_i h6;rw [if_neg h6]
 split at ht
 · rename_i h7;rw [if_pos h7]
   exact h.sync (Nat.le_succ N) (sendS_ok h.y _ _) (by rw [Ip]) (F6 _ _ _) (Ak _ _ _)
 rename_i h7;rw [if_neg h7];exact h'
end Go.Proofs.YtflkjkhijcdbaaaGreat
