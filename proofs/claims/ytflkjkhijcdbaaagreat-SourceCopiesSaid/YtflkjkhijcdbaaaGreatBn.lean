/- Contracts of functions, proved by walking their code. -/
import Derived.Test.YtflkjkhijcdbaaaGreatBm
import Derived.KernelRfl
set_option maxRecDepth 100000
set_option linter.unusedVariables false
set_option linter.unusedSimpArgs false
namespace Go.Proofs.YtflkjkhijcdbaaaGreat
open Go Go.RowKit Wx Go.Proofs.Tryz
attribute [local irreducible] Wx.lsH Wx.rsH Wx.stars
theorem Lq {F:Fnd}{N:Nat}{s:SS}{n:Nat}(ho:SS.ok F N s)(h:s.can F.pr n=true)(h3:(s.th n).st≠3):((s.th n).next.kd=11→((s.sy.chans.getD (s.th n).next.slt.toNat ch0).items.length:Int)<(s.sy.chans.getD (s.th n).next.slt.toNat ch0).room)∧((s.th n).next.kd=12→0<(s.sy.chans.getD (s.th n).next.slt.toNat ch0).items.length):=by
 have hz:F.pr.room=s.sy.chans.map Ch.room:=ho.z.2.2.symm
 unfold SS.can at h
 dsimp only at h
 split at h
 · cases h
 revert h
 generalize (s.th n).next=x
 obtain ⟨k,ln,cl,nm,wt,e,ix,body,els,id,slot,other,loc⟩:=x
 dsimp only [PStm.kd,PStm.slt]
 intro h
 first|rw [if_neg h3] at h|skip
 refine ⟨fun e=> ?_,fun e=> ?_⟩
 · subst e
   rw [if_neg (by decide),if_pos rfl,hz] at h
   have h':=of_decide_eq_true h
   by_cases hk:slot.toNat<s.sy.chans.length
   · rwa [Sb hk] at h'
   have e1:(s.sy.chans.map Ch.room).getD slot.toNat 0=0:=by rw [List.getD_eq_getElem?_getD,List.getElem?_eq_none (by simp only [List.length_map];omega)];rfl
   rw [e1] at h'
   have e2:s.sy.chans.getD slot.toNat ch0=ch0:=by rw [List.getD_eq_getElem?_getD,List.getElem?_eq_none (by omega)];rfl
   rw [e2];decide
 subst e
 rw [if_neg (by decide),if_neg (by decide),if_pos rfl] at h
 have h':=of_decide_eq_true h
 omega
theorem Cs {p:PPr}{s:SS}{n:Nat}{x:PStm}{ev:PEv}(h:ev.syn= []):(s.data p n x ev).2.1.syn.length≤1:=by
 obtain ⟨k,ln,cl,nm,wt,e,ix,body,els,id,slot,other,loc⟩:=x
 unfold SS.data
 dsimp only
 (repeat' split)<;>(simp only [h];simp)
theorem P6 {F:Fnd}{N:Nat}{s:SS}{n:Nat}{p:PPr}(h:s.fine F N)(hn:n<s.ths.length):(s.did p n).2.1.syn.length≤N+1000:=by
 have hk:=h.ok.h _ (List.getElem_mem hn)
 rw [←Hm hn] at hk
 have hp8:=hk.p.1
 unfold SS.did
 dsimp only
 split
 · simp
 split
 · exact Nat.le_trans (Cs rfl) (by omega)
 have hat:=Py (t:= { s.th n with left:=(s.th n).left.drop 1 }) hn
 generalize (s.th n).next=x
 obtain ⟨k,ln,cl,nm,wt,e,ix,body,els,id,slot,other,loc⟩:=x
 unfold SS.others
 dsimp only
 rw [hat]
 have hcc: ∀ k:Nat,(s.sy.conds.getD k []).length≤N:=fun k=>by
  by_cases hk:k<s.sy.conds.length
  · exact (h.ok.y.c _ (Y7 hk)).1
  rw [List.getD_eq_getElem?_getD,List.getElem?_eq_none (by omega)];simp
 have h2:=hcc slot.toNat
 (repeat' split)<;>(simp only [zEv,List.nil_append,List.length_append,List.length_map,List.length_take,List.length_singleton,List.length_nil,SS.put]<;>omega)
section
variable {G:World}{q:List HP}{p pp who n N:Nat}{g:FC}{σ:StC}{ev:EvC}{k sl ot u:Int}{bb:Bool}
set_option maxHeartbeats 16000000 in
theorem do_ok (hP:Prg q pp g)(hM:MayP g.er)(hF:SS.fine g.er N σ.er)(hN:N≤899)(hwho:who<σ.ths.length)(hc:σ.er.can g.er.pr who=true)(hTd:Kn q fun M=>TodoAt M σ.ths)(hev:ev.e=zEv who (σ.er.th who).next.idn):CallF prog G 61 [.pointer (some ⟨p,0,none⟩)] (Zx p pp who σ ev++q) (Ret fun v q'=> ∃ (σ':StC) (ev':EvC),(((σ.er.did g.er.pr who).2.2=0∧v= .int .i64 0∧σ'.er=((σ.er.did g.er.pr who).1.ended who (σ.er.did g.er.pr who).2.1).1∧ev'.e=((σ.er.did g.er.pr who).1.ended who (σ.er.did g.er.pr who).2.1).2∧Kn q fun M=>TodoAt M σ'.ths)∨((σ.er.did g.er.pr who).2.2≠0∧v= .int .i64 (σ.er.did g.er.pr who).2.2∧ev'.e=(σ.er.did g.er.pr who).2.1))∧q'=Zx p pp who σ' ev'++q):=by
 refine CallF.of func61 ntmps61 rfl (fun F cs=> ?_)
 have hlen:σ.er.ths.length=σ.ths.length:=StC.nth σ;have h8:=hF.ok.t.2;rw [hlen] at h8;have hR:=hF.ready (p:=g.er.pr) (by rw [hlen];exact hwho) hc;have hTh:=hF.ok.at hwho;have hO:=PO.pop hF (show N≤900 by omega) hwho
 have hthe:σ.er.th who=(σ.ths[who]).er:=Zo hwho;have hne:σ.ths[who].todo≠ []:=by
  have h1:=hR.l;rw [hthe] at h1
  intro e;rw [←Ub] at e;rw [e] at h1;cases h1
 obtain ⟨⟨yb,yo,ys⟩,hy1,hy2,hy3,hy4,hy5⟩:=Ns hne;rw [←hthe] at hy5;dsimp only at hy5;have htl:=hTh.n;rw [W2] at htl
 have hsl:=Em hF hM (by rw [hlen];exact hwho) hc
 change X _ _ _ _ _ _ _ _ (pto p (.cells (Yt pp σ++(.int .i64 (who:Int)::evC ev)).toArray 145 (0,0))::lsH I64 2 σ.ca σ.cc σ.cells::yH σ.sp σ.sy::rsH trC 5 116 σ.ha σ.hc σ.ths::stars (σ.ths.map trH)::rsH acC 3 140 ev.aa ev.ac ev.e.acc::rsH snC 3 50 ev.na ev.nc ev.e.syn::(q++F))
 refine Yz (l:=σ.ths) (by omega) (fun ga e_=> ?_)
 have hr: ∀ r,Sees (rsH trC 5 116 σ.ha σ.hc σ.ths::r) (some ⟨ga,0,none⟩) (σ.ths.flatMap trC):=fun r=>by rw [←e_];exact Sees.rsH r
 have h0:=List.length_pos_iff.2 hne;refine X.le (q':=stars (σ.ths.map trH)::_) Zk (X.le (M0 hwho _) ?_);refine V9 (l:=σ.ths[who].todo) h0 (fun gt et_=> ?_);refine X.lscap (l:=σ.ths[who].todo) (fun hcap=> ?_);refine X.lsmax (l:=σ.ths[who].todo) (fun hmx=> ?_)
 refine xo 2 ?_;refine XO.al zeroValue39 fun n1=> ?_
 refine oo 4 ?_;refine XO.dfr ?_;refine oo 4 ?_;refine XO.cR call95 (Q4 (p:=p) (who:=who) (ga:=ga) (m:=σ.ths.length) (c:=σ.hc) (by rw [←e_];exact clA) clA hwho) ?_
 refine oo 5 ?_;refine XO.cR call60 (Q1 (b:=ga) (o:=0+(who:Int).toNat*5) (todo:=σ.ths[who].todo) (Cl.row (n:=who) (hr _) leA Zy hwho rfl 3 _ rfl) ((Sees.lsH _).le leA) (by omega)) ?_
 refine XO.know 9 (.pointer (some ⟨yb,yo,none⟩)) rfl (by rw [hy1];rfl) ?_
 refine ox 3 ?_;refine drw ?_;refine dd [0,1,2,3] ?_;refine ldD 4 ?_ (hc:=(Cl.row (n:=who) (hr _) leA Zy hwho rfl 3 _ rfl))
 refine XD.know 14 (.slice (some ⟨gt,0,none⟩) σ.ths[who].todo.length σ.ths[who].tc) rfl (by rw [←et_]) ?_
 refine dd [5,6,7] ?_;refine ldD 8 ?_ (hc:=(Cl.row (n:=who) (hr _) leA Zy hwho rfl 3 _ rfl))
 refine XD.know 18 (.slice (some ⟨gt,0,none⟩) σ.ths[who].todo.length σ.ths[who].tc) rfl (by rw [←et_]) ?_
 refine dd [9,10,11,12,13] ?_;refine XD.know 21 (.slice (some ⟨gt,0,none⟩) (σ.ths[who].todo.take (σ.ths[who].todo.length - 1)).length σ.ths[who].tc) rfl (by rw [List.length_take];congr 1;omega) ?_
 refine XD.le (q':=rsH trC 5 116 (some ⟨ga,0,none⟩) σ.hc σ.ths::_) (by rw [←e_];exact Zk) ?_
 refine XD.ef0 14 rfl (Ye (g:=ga) (f:=trC) (l:=σ.ths) (u:=σ.ths[who].pop) (n:=who) (k:=3) (j:=(who:Int)) rfl rfl sizeOf114 Zy rfl hwho rfl (by rw [←et_];rfl) rfl rfl (by rw [←e_];exact Zk)) ?_
 rintro _ _ ⟨rfl,rfl⟩
 refine ⟨trivial,?_⟩
 refine XD.nil ?_;refine xo 3 ?_;refine XO.le (q':=lsH PS.v 146 σ.ths[who].ta σ.ths[who].tc (σ.ths[who].todo.take (σ.ths[who].todo.length - 1))::_) (Le.trans (b:=lsH PS.v 146 σ.ths[who].ta σ.ths[who].tc σ.ths[who].todo::_) Zk (C5 _ _ _ _ _ _ _)) ?_
 refine XO.le (q':=stars ((σ.ths.set who σ.ths[who].pop).map trH)::_) (Le.trans (b:=lsH I64 2 (σ.ths[who].pop).la (σ.ths[who].pop).lc (σ.ths[who].pop).loc::lsH PS.v 146 (σ.ths[who].pop).ta (σ.ths[who].pop).tc (σ.ths[who].pop).todo::lsH I64 3 (σ.ths[who].pop).sa (σ.ths[who].pop).sc (σ.ths[who].pop).sp::stars ((σ.ths.eraseIdx who).map trH)::_) (Le.pick Zk (Le.pick Zk (Le.pick Zk Zk))) (Mo hwho σ.ths[who].pop _)) ?_
 obtain ⟨σ1,hσ1⟩: ∃ x,x=σ.pop who hwho:=⟨_,rfl⟩
 refine XO.le (q':=pto p (.cells (Yt pp σ1++(.int .i64 (who:Int)::evC ev)).toArray 145 (0,0))::lsH I64 2 σ1.ca σ1.cc σ1.cells::yH σ1.sp σ1.sy::rsH trC 5 116 σ1.ha σ1.hc σ1.ths::stars (σ1.ths.map trH)::rsH acC 3 140 ev.aa ev.ac ev.e.acc::rsH snC 3 50 ev.na ev.nc ev.e.syn::pto n1 (.cells [.int .i64 0].toArray 39 (0,0))::(q++F)) (by subst hσ1;dsimp only [StC.pop];simp only [Yt,List.length_set];rw [e_];exact leA) ?_
 have hl1:σ1.ths.length=σ.ths.length:=by simp [hσ1]
 have hw1:who<σ1.ths.length:=(by rw [hl1];exact hwho)
 have hat:σ1.ths[who]=σ.ths[who].pop:=by subst hσ1;exact List.getElem_set_self ..
 have hst:(σ1.ths[who]).st=(σ.er.th who).st:=by rw [hat,hthe];rfl
 have her:σ1.er=σ.er.put who { σ.er.th who with left:=(σ.er.th who).left.drop 1 } :=by rw [hσ1];exact P2 hwho
 rw [←hσ1] at hO;have hz1:σ1.sy=σ.sy:=by rw [hσ1]
 have e1_:σ1.ha=some ⟨ga,0,none⟩:=by rw [hσ1];exact e_
 have hr1: ∀ r,Sees (rsH trC 5 116 σ1.ha σ1.hc σ1.ths::r) (some ⟨ga,0,none⟩) (σ1.ths.flatMap trC):=fun r=>by rw [←e1_];exact Sees.rsH r
 have hyA:Kn q fun M=>PS.At M ⟨yb,yo,ys⟩:=hTd.imp fun M h=>h σ.ths[who] (List.getElem_mem hwho) _ hy2
 have hT1:Kn q fun M=>TodoAt M σ1.ths:=hTd.imp fun M h t ht z hz=>by
  rw [hσ1] at ht
  rcases List.mem_or_eq_of_mem_set ht with ht|rfl
  · exact h t ht z hz
  exact h _ (List.getElem_mem hwho) z (List.mem_of_mem_take hz)
 have hgd:ys.er.good g.er.cn (σ1.ths[who]).loc.length:=by have h:=hR.g;rw [hy5,hthe] at h;rw [hat];exact h
 have hev2:ev.e.acc= []∧ev.e.syn= []:=by rw [hev];exact ⟨rfl,rfl⟩
 have hkd:1≤ys.er.kd∧ys.er.kd≤15:=by have h:=hgd;revert h;cases ys;intro h;exact (Yi h.2.1).1
 obtain ⟨D,hD⟩: ∃ D,D=σ.er.did g.er.pr who:=⟨_,rfl⟩;rw [←hD] at hsl⊢
 have hpan: ∀ (p_:PE) (qq:List HP) (k:Int) (y0:Value) (σ':StC) (ev':EvC),lkp p_ 2=some (.pointer (some ⟨n1,0,none⟩))→k=D.2.2→D.2.2≠0→ev'.e=D.2.1→Le qq (pto n1 (.cells [y0].toArray 39 (0,0))::(Zx p pp who σ' ev'++(q++F)))→FQ prog G 61 cs (Ret fun v q'=> ∃ (σ':StC) (ev':EvC),(((D).2.2=0∧v= .int .i64 0∧σ'.er=((D).1.ended who (D).2.1).1∧ev'.e=((D).1.ended who (D).2.1).2∧Kn q fun M=>TodoAt M σ'.ths)∨((D).2.2≠0∧v= .int .i64 (D).2.2∧ev'.e=(D).2.1))∧q'=Zx p pp who σ' ev'++q) F (.panic [Vp k]) p_ [Wx.dfr 94 [.pointer (some ⟨n1,0,none⟩)]] cs qq:=
  fun p_ qq k y0 σ' ev' h2 hk h0 he hle=>⟨rfl,Lv.catches call94 func61 (Cz (nb:=n1) (k:=k) (y0:=y0)) hle rfl (Lv.ret (q':=Zx p pp who σ' ev'++q) func61 (R4 results61 (ResOk.cell h2 (LV.cell isAgg39 clA) ResOk.nil)) ⟨_,rfl,σ',ev',.inr ⟨h0,by rw [hk],he⟩,rfl⟩ (Le.trans (Le.drop _ _) (by rw [List.append_assoc];exact Le.refl _)))⟩
 refine oo 3 ?_;refine ld ?_ (hc:=(Cl.row (n:=who) (hr1 _) leA Zy hw1 rfl 1 _ rfl))
 refine ox 2 ?_
 have hse: ∀ ev2:EvC,ev2.e=D.2.1→ev2.e.syn.length≤1000000000:=fun ev2 h=>by rw [h,hD];exact Nat.le_trans (P6 hF (by rw [hlen];exact hwho)) (by omega)
 refine X.part 28 rfl (fun h5=> ?_) (fun h5=> ?_)
 focus
  replace h5:=sp h5;have h3:(σ.er.th who).st=3:=(by rw [←hst];exact h5)
  have hDw:D=σ1.er.woken who ys.er ev.e:=by rw [hD,Ci (by rw [hlen];exact hwho) h3,her,hev,hy5]
  refine xo 4 ?_;refine Vh call96 leA (L3 (pto n1 (.cells [.int .i64 0].toArray 39 (0,0))) F (xwake_ok (q:=q) (σ:=σ1) (ev:=ev) (y:=⟨yb,yo,ys⟩) (p:=p) (pp:=pp) hP hM hO hev2 hyA hgd hT1 (by have:=hR.w h3;rw [hy5] at this;exact this))) ?_ ?_
  · rintro _ _ ⟨σ2,ev2,⟨h0,_⟩,_⟩
    exact absurd rfl h0
  rintro _ _ ⟨σ2,ev2,⟨h0,hE,hV,hT2⟩,eq_⟩;simp only [Zx,spP,Zc,evL,ca,na] at eq_;subst eq_
  dsimp only at h0 hE hV;rw [←hDw] at h0 hE hV
  refine oo 4 ?_
 rotate_left
 focus
  replace h5:=sp h5;have h3:(σ.er.th who).st≠3:=(by rw [←hst];exact h5)
  have hDw:D=σ1.er.does g.er.pr who ys.er ev.e:=by rw [hD,P7 h3,her,hev,hy5]
  have hcan:=Lq hF.ok hc h3;rw [hy5] at hcan;rw [show σ.er.sy=σ1.sy from hz1.symm] at hcan
  have hC0:CellsAt q yb yo [.int .i64 ys.er.kd]:=by have h:=Kn.stC hyA;cases ys;exact fun k v e=>h k v (by match k,e with|0,e=>exact e|(k+1),e=>cases e)
  refine xx 1 ?_;refine X.draw [(2,.pointer (some ⟨n1,0,none⟩))] Tryz.mixed (by kernel_rfl) (by kernel_rfl) rfl ?_
  refine dd [1,2,3] ?_;refine ldD 4 ?_ (hc:=((hC0.le leA) 0 _ rfl))
  refine dd [6,7] ?_;refine Uy 0 call97 (doers_ok) ?_;rintro _ _ ⟨nm,rfl,rfl⟩ _ e_;simp only [ca,na] at e_;subst e_
  refine ⟨(hlA (h:=by repeat first|exact trivial|refine ⟨clA,?_⟩|refine ⟨((hC0.le leA) 0 _ rfl),?_⟩)),?_⟩
  obtain ⟨aF,hF1,hA⟩:=Ta (kd:= .i64) (c:=ys.er.kd) dL 0
  rcases hA with ⟨rfl,hno⟩|⟨jF,eF,rfl,hmem,hec⟩
  · exact absurd hno (dL_has hkd)
  obtain ⟨fF,hf1,hf2⟩:=doer_at (σ:=σ1) (ev:=ev) (y:=⟨yb,yo,ys⟩) (p:=p) (pp:=pp) (q:=q) hP hM hO hev2 hyA hgd hT1 hcan.1 hcan.2 hmem hec.symm
  refine XD.ef 5 rfl (Rd.ef (Rd.lookup (es:=dL.map dE) (clock:=15) underlying204 underlying119 rfl rfl Zk zeroValue203 hF1)) ?_
  rintro _ _ ⟨rfl,rfl⟩
  refine ⟨trivial,?_⟩
  refine XD.know 37 (.func (.func fF) #[] #[]) rfl (by exact hf1) ?_
  refine XD.cVP 8 (pre:=Zx p pp who σ1 ev++(pto n1 (.cells [.int .i64 0].toArray 39 (0,0))::(q++F))) leA (L2 (pto n1 (.cells [.int .i64 0].toArray 39 (0,0))) F hf2) ?_ ?_ (pk:= [(2,.pointer (some ⟨n1,0,none⟩))]) ⟨rfl,trivial⟩
  · rintro _ _ ⟨σ2,ev2,⟨h0,rfl,hV⟩,rfl⟩
    dsimp only at h0 hV;rw [←hDw] at h0 hV⊢
    exact hpan _ _ _ _ σ2 ev2 rfl rfl h0 hV (by unfold Zx spP;exact leA)
  rintro _ _ ⟨σ2,ev2,⟨h0,hE,hV,hT2⟩,eq_⟩;simp only [Zx,spP,Zc,evL,ca,na] at eq_;subst eq_
  refine ⟨trivial,?_⟩
  dsimp only at h0 hE hV;rw [←hDw] at h0 hE hV
  refine XD.nil ?_;refine xo 3 ?_
 all_goals
  skip
  obtain ⟨hc1,hc2,hc3,hc4,hc5,hc6,hc7,hc8,hc9,hc10,hc11⟩:=hsl h0;rw [←hE] at hc5 hc6 hc7;rw [StC.nth] at hc5 hc6
  have hk0:=hc7 who (by rw [StC.nth];exact hc6);rw [Zo hc6] at hk0;have hkn:=hk0.n;rw [W2] at hkn
  refine Cg (l:=σ2.ths) (by omega) (fun gb e2_=> ?_);have hr2: ∀ r,Sees (rsH trC 5 116 σ2.ha σ2.hc σ2.ths::r) (some ⟨gb,0,none⟩) (σ2.ths.flatMap trC):=fun r=>by rw [←e2_];exact Sees.rsH r
  refine oo 1 ?_;refine XO.cR call95 (Q4 (p:=p) (who:=who) (ga:=gb) (m:=σ2.ths.length) (c:=σ2.hc) (by rw [←e2_];exact clA) clA hc6) ?_
  refine XO.cR call60 (Q1 (b:=gb) (o:=0+(who:Int).toNat*5) (todo:=σ2.ths[who].todo) (Cl.row (n:=who) (hr2 _) leA Zy hc6 rfl 3 _ rfl) ((Sees.todo hc6).le leA) (by omega)) ?_
  have hte:(D.1.th who).left= []↔σ2.ths[who].todo= []:=by rw [←hE,Zo hc6];exact Ub
  rcases hq2:σ2.ths[who].todo.getLast? with _|y2
  · have hq3:σ2.ths[who].todo= []:=List.getLast?_eq_none_iff.1 hq2
    refine XO.know 43 (.pointer none) rfl (rfl) ?_;refine ox 2 ?_;refine X.kt 44 ?_;refine xo 4 ?_;refine XO.cR call95 (Q4 (p:=p) (who:=who) (ga:=gb) (m:=σ2.ths.length) (c:=σ2.hc) (by rw [←e2_];exact clA) clA hc6) ?_
    refine oo 2 ?_;refine XO.le (q':=rsH trC 5 116 (some ⟨gb,0,none⟩) σ2.hc σ2.ths::_) (by rw [←e2_];exact Zk) ?_
    refine XO.ef0 (Ye (g:=gb) (f:=trC) (l:=σ2.ths) (u:=({ σ2.ths[who] with st:=4 } :TC)) (n:=who) (k:=1) (j:=(who:Int)) rfl rfl sizeOf99 Zy rfl hc6 rfl rfl rfl rfl Zk) ?_
    rintro _ _ ⟨rfl,rfl⟩
    rw [←e2_]
    refine oo 3 ?_;refine Zf call98 (by unfold Zx spP Yt Zc;simp only [List.length_set];rw [Rx hc6 (show trH ({ σ2.ths[who] with st:=4 } :TC)=trH σ2.ths[who] from rfl)];exact leA) (V2 (p:=p) (pp:=pp) (who:=who) (σ:=({ σ2 with ths:=σ2.ths.set who ({ σ2.ths[who] with st:=4 } :TC) } :StC)) (ev:=ev2) (k:=8) (sl:=0) (ot:=0) (q:=pto n1 (.cells [.int .i64 0].toArray 39 (0,0))::(q++F)) (hse ev2 hV)) ?_
    rintro _ _ ⟨ev3,hv3,eq_⟩;simp only [Zx,spP,Zc,evL,ca,na] at eq_;subst eq_
    refine oo 3 ?_;refine st ?_;refine ox 1 ?_;exact X.ret ⟨rfl,C4 call94 func61 (Ek (nb:=n1)) (Lv.ret (q':=Zx p pp who ({ σ2 with ths:=σ2.ths.set who ({ σ2.ths[who] with st:=4 } :TC) } :StC) ev3++q) func61 (R4 results61 (ResOk.cell rfl (LV.cell isAgg39 clA) ResOk.nil)) ⟨_,rfl,({ σ2 with ths:=σ2.ths.set who ({ σ2.ths[who] with st:=4 } :TC) } :StC),ev3,.inl ⟨h0,rfl,by unfold SS.ended;rw [if_pos (hte.2 hq3),W6,hE];congr 1;rw [←hE,Zo hc6];rfl,by unfold SS.ended;rw [if_pos (hte.2 hq3),hv3,hV];rfl,hT2.imp fun M h=>TodoAt.of (Hq hc6 rfl) h⟩,rfl⟩ (by unfold Zx spP;rw [List.append_assoc];exact leA))⟩
  have hq3: ¬σ2.ths[who].todo= []:=fun e=>by rw [e] at hq2;cases hq2
  refine XO.know 43 (.pointer (some ⟨y2.b,y2.o,none⟩)) rfl (rfl) ?_
  refine ox 2 ?_;refine Wy 44 ?_;refine xo 4 ?_;refine st ?_;refine ox 1 ?_;exact X.ret ⟨rfl,C4 call94 func61 (Ek (nb:=n1)) (Lv.ret (q':=Zx p pp who σ2 ev2++q) func61 (R4 results61 (ResOk.cell rfl (LV.cell isAgg39 clA) ResOk.nil)) ⟨_,rfl,σ2,ev2,.inl ⟨h0,rfl,by unfold SS.ended;rw [if_neg (fun e=>hq3 (hte.1 e))];exact hE,by unfold SS.ended;rw [if_neg (fun e=>hq3 (hte.1 e))];exact hV,hT2⟩,rfl⟩ (by unfold Zx spP;rw [List.append_assoc];exact leA))⟩
end
def SS.outc (p:PPr)(s:SS):POut:=if s.out.kind=4 then s.out else (s.stands p).out
def otC (x:POut):List Value:= [.int .i64 x.kind,.int .i64 x.trap,.int .i64 x.th,.int .i64 x.stmt]
structure VwC where
 decl:Int
 st:Int
 la:Option Addr
 lc:Nat
 loc:List Int
 nx:Int
 sa:Option Addr
 sc:Nat
 sp:List Int
def vwC (x:VwC):List Value:= [.int .i64 x.decl,.int .i64 x.st,.slice x.la x.loc.length x.lc,.int .i64 x.nx,.slice x.sa x.sp.length x.sc]
def PTr.nx (t:PTr):Int:=if t.left= [] then -1 else t.next.idn
theorem all_zero {p:PPr}{s:SS}(h: ¬s.out.kind=4):({ s with out:=⟨1,0,0,0⟩ } :SS).all p=s.all p:=by
 unfold SS.all
 congr 1
 apply List.filter_congr
 intro n _
 unfold SS.can SS.th
 simp only [show ¬ ((1:Int)=4) by decide,h]
section
variable {G:World}{q:List HP}{p pp n N:Nat}{g:FC}{σ:StC}
set_option maxHeartbeats 4000000 in
theorem Kr (hok:SS.ok g.er N σ.er)(hN:N≤900)(hTd:Kn q fun M=>TodoAt M σ.ths):CallF prog G 22 [.pointer (some ⟨p,0,none⟩)] (stP p pp σ::(Zc σ++q)) (Ret fun v q'=>v= .agg (otC (σ.er.outc g.er.pr)).toArray∧q'=stP p pp σ::(Zc σ++q)):=by
 refine CallF.of func22 ntmps22 rfl (fun F cs=> ?_)
 change X _ _ _ _ _ _ _ _ (pto p (.cells (Yt pp σ).toArray 98 (0,0))::lsH I64 2 σ.ca σ.cc σ.cells::yH σ.sp σ.sy::rsH trC 5 116 σ.ha σ.hc σ.ths::stars (σ.ths.map trH)::(q++F))
 have hlen:=Zv Zy σ.ths;have h8:σ.ths.length≤8:=by have:=hok.t.2;rwa [StC.nth] at this
 have h1_:1≤σ.ths.length:=by have:=hok.t.1;rwa [StC.nth] at this
 refine Yz (l:=σ.ths) (by omega) (fun ga e_=> ?_)
 have hr: ∀ r,Sees (rsH trC 5 116 σ.ha σ.hc σ.ths::r) (some ⟨ga,0,none⟩) (σ.ths.flatMap trC):=fun r=>by rw [←e_];exact Sees.rsH r
 obtain ⟨R,hR⟩: ∃ R,R=σ.er.outc g.er.pr:=⟨_,rfl⟩;rw [←hR];unfold SS.outc at hR
 refine xo 2 ?_;refine XO.al zeroValue41 fun n1=> ?_
 refine oo 5 ?_;refine XO.cR call49 (Vr (p:=p) (pp:=pp) clA) ?_
 refine Zt (Pu.not rfl) ?_;refine ox 1 ?_;refine Wy 6 ?_;refine xj 9 ?_;refine ox 2 ?_;refine X.part 13 rfl (fun h1=> ?_) (fun h1=> ?_)
 · replace h1:=sp h1;rw [if_pos (show σ.er.out.kind=4 from h1)] at hR
   refine xo 6 ?_;refine ldA ?_;refine stA ?_;refine ox 1 ?_;refine Zq (stP p pp σ::(Zc σ++q)) func22 (rA_ results22) ⟨_,rfl,by rw [hR];rfl,rfl⟩
 replace h1:=sp h1;have hk0: ¬σ.er.out.kind=4:=h1;rw [if_neg hk0] at hR;unfold SS.stands at hR;dsimp only at hR;rw [all_zero hk0] at hR
 refine xo 6 ?_;refine Zf call40 leA (L1 (p:=p) (pp:=pp) (σ:=σ) (q:=pto n1 (.cells [.int .i64 0,.int .i64 0,.int .i64 0,.int .i64 0].toArray 41 (0,0))::(q++F)) hok hN (hTd.le leA)) ?_
 rintro _ _ ⟨a1,c1,rfl,rfl⟩
 refine ox 3 ?_;refine X.part 21 rfl (fun h2=> ?_) (fun h2=> ?_)
 · replace h2:=sp h2;rw [if_pos (by omega)] at hR
   refine xo 4 ?_;refine stA ?_;refine ox 1 ?_;refine Zq (stP p pp σ::(Zc σ++q)) func22 (rA_ results22) ⟨_,rfl,by rw [hR];rfl,rfl⟩
 replace h2:=sp h2;rw [if_neg (by omega)] at hR;dsimp only at hR
 refine xj 8 ?_;refine ox 4 ?_;refine X.at (X.loop (fun (s:Nat)=>s≤σ.ths.length∧ ∀ t∈σ.ths.take s,t.st=4) (fun s=> [(0,.pointer (some ⟨p,0,none⟩)),(2,.pointer (some ⟨n1,0,none⟩)),(27,.int .i64 (σ.ths.length:Int)),(28,.int .i64 (s:Int))]) (fun s=>pto n1 (.cells [.int .i64 0,.int .i64 0,.int .i64 0,.int .i64 0].toArray 41 (0,0))::pto p (.cells (Yt pp σ).toArray 98 (0,0))::lsH I64 2 σ.ca σ.cc σ.cells::yH σ.sp σ.sy::rsH trC 5 116 σ.ha σ.hc σ.ths::stars (σ.ths.map trH)::(q++F)) (fun s=>σ.ths.length - s) (fun s hi_ ih=> ?_) 0 ⟨Nat.zero_le _,by simp⟩) Zd leA
 try dsimp only at hi_ ih⊢
 obtain ⟨hi1,hi2⟩:=hi_
 refine xx 5 ?_;refine X.part 29 rfl (fun h0=> ?_) (fun h0=> ?_)
 · replace h0:=sp h0;have hlt:s<σ.ths.length:=(by omega)
   refine xj 14 ?_;refine oo 1 ?_;refine XO.know 34 (.slice (some ⟨ga,0,none⟩) σ.ths.length σ.hc) rfl (by rw [←e_]) ?_
   refine oo 2 ?_;refine ld ?_ (hc:=(Cl.row (n:=s) (hr _) leA Zy hlt rfl 1 _ rfl))
   refine ox 2 ?_;refine X.part 39 rfl (fun h3=> ?_) (fun h3=> ?_)
   · replace h3:=sp h3
     refine xo 4 ?_;refine stA ?_;refine ox 1 ?_;refine Zq (stP p pp σ::(Zc σ++q)) func22 (rA_ results22) ⟨_,rfl,by rw [hR,if_neg (by rw [Bool.not_eq_true];exact List.all_eq_false.2 ⟨(σ.ths[s]).er,List.mem_map_of_mem (f:=TC.er) (List.getElem_mem hlt),by rw [beq_iff_eq];exact h3⟩)];rfl,rfl⟩
   replace h3:=sp h3
   refine xx 7 ?_
   refine X.at (ih (s+1) ⟨by omega,fun t ht=>by
    rw [List.take_succ_eq_append_getElem hlt] at ht
    rcases List.mem_append.1 ht with ht|ht
    · exact hi2 t ht
    rw [List.mem_singleton.1 ht];omega⟩ (by omega)) Zd leA
 replace h0:=sp h0;obtain rfl:s=σ.ths.length:=(by omega);rw [List.take_length] at hi2
 refine xo 5 ?_;refine stA ?_;refine ox 1 ?_;refine Zq (stP p pp σ::(Zc σ++q)) func22 (rA_ results22) ⟨_,rfl,by rw [hR,if_pos (List.all_eq_true.2 fun t ht=>by obtain ⟨x,hx,rfl⟩:=List.mem_map.1 ht;rw [beq_iff_eq];exact hi2 x hx)];rfl,rfl⟩
theorem O3 (hl:σ.cells.length≤1000000):CallF prog G 21 [.pointer (some ⟨p,0,none⟩)] (stP p pp σ::(Zc σ++q)) (Ret fun v q'=> ∃ a' c',v= .slice a' σ.cells.length c'∧q'=lsH I64 2 a' c' σ.cells::stP p pp σ::(Zc σ++q)):=by
 refine CallF.of func21 ntmps21 rfl (fun F cs=> ?_)
 change X _ _ _ _ _ _ _ _ (pto p (.cells (Yt pp σ).toArray 98 (0,0))::lsH I64 2 σ.ca σ.cc σ.cells::yH σ.sp σ.sy::rsH trC 5 116 σ.ha σ.hc σ.ths::stars (σ.ths.map trH)::(q++F))
 refine xo 8 ?_;refine XO.cR call49 (Vr (p:=p) (pp:=pp) clA) ?_
 refine Zt (Pu.not rfl) ?_;refine ox 1 ?_;refine Wy 5 ?_;refine xj 7 ?_;refine Zf call50 (Le.refl _) (Uj (l:=σ.cells) ((Sees.lsH _).le leA) (by omega)) ?_
 rintro _ _ ⟨a1,c1,rfl,rfl⟩
 refine ox 2 ?_;refine Zq (lsH I64 2 a1 c1 σ.cells::stP p pp σ::(Zc σ++q)) func21 (Zg results21 rfl) ⟨_,rfl,a1,c1,rfl,rfl⟩
set_option maxHeartbeats 4000000 in
theorem B8 (hok:SS.ok g.er N σ.er)(hN:N≤900)(hn:n<σ.ths.length)(hTd:Kn q fun M=>TodoAt M σ.ths):CallF prog G 39 [.pointer (some ⟨p,0,none⟩),.int .i64 (n:Int)] (stP p pp σ::(Zc σ++q)) (Ret fun v q'=> ∃ x:VwC,(x.decl=σ.ths[n].decl∧x.st=σ.ths[n].st∧x.loc=σ.ths[n].loc∧x.nx=(σ.ths[n]).er.nx∧x.sp=σ.ths[n].sp)∧v= .tuple [.agg (vwC x).toArray,.int .i64 0].toArray∧q'=lsH I64 2 x.la x.lc x.loc::lsH I64 3 x.sa x.sc x.sp::stP p pp σ::(Zc σ++q)):=by
 refine CallF.of func39 ntmps39 rfl (fun F cs=> ?_)
 change X _ _ _ _ _ _ _ _ (pto p (.cells (Yt pp σ).toArray 98 (0,0))::lsH I64 2 σ.ca σ.cc σ.cells::yH σ.sp σ.sy::rsH trC 5 116 σ.ha σ.hc σ.ths::stars (σ.ths.map trH)::(q++F))
 have hlen:=Zv Zy σ.ths;have h8:σ.ths.length≤8:=by have:=hok.t.2;rwa [StC.nth] at this
 have h1_:1≤σ.ths.length:=by have:=hok.t.1;rwa [StC.nth] at this
 refine Yz (l:=σ.ths) (by omega) (fun ga e_=> ?_)
 have hr: ∀ r,Sees (rsH trC 5 116 σ.ha σ.hc σ.ths::r) (some ⟨ga,0,none⟩) (σ.ths.flatMap trC):=fun r=>by rw [←e_];exact Sees.rsH r
 have hT:=hok.at hn;have hte:=Zo hn
 refine xo 2 ?_;refine XO.al zeroValue101 fun n1=> ?_
 refine oo 6 ?_;refine XO.cR call49 (Vr (p:=p) (pp:=pp) clA) ?_
 refine Zt (Pu.not rfl) ?_;refine ox 1 ?_;refine Wy 11 ?_;refine xo 8 ?_;refine XO.know 15 (.bool false) rfl (congrArg Value.bool (decide_eq_false (by omega))) ?_
 refine ol 4 ?_;refine ox 4 ?_;refine Wy 23 ?_;refine xj 7 ?_;refine oo 1 ?_;refine XO.know 28 (.slice (some ⟨ga,0,none⟩) σ.ths.length σ.hc) rfl (by rw [←e_]) ?_
 refine ox 4 ?_;refine drw ?_;refine dd [0,1,2] ?_;refine ldD 3 ?_ (hc:=(Cl.row (n:=n) (hr _) leA Zy hn rfl 0 _ rfl))
 refine dd [4,5,6] ?_;refine ldD 7 ?_ (hc:=(Cl.row (n:=n) (hr _) leA Zy hn rfl 1 _ rfl))
 refine dd [8,9,10] ?_;refine ldD 11 ?_ (hc:=(Cl.row (n:=n) (hr _) leA Zy hn rfl 2 _ rfl))
 refine dd [13,14,15] ?_;refine ldD 16 ?_ (hc:=(Cl.row (n:=n) (hr _) leA Zy hn rfl 4 _ rfl))
 refine Y3 (fl:= [⟨19,7,fun g=> .pointer (some ⟨g,0,none⟩),fun g=>pto g (.cells [.int .i64 0,.int .i64 0,.slice none 0 0,.int .i64 0,.slice none 0 0].toArray 101 (0,0))⟩]) ?_
 refine B3 12 ⟨⟨_,rfl,rfl,rfl,rfl,rfl,rfl,fun q=>Ef.alloc zeroValue101⟩,trivial⟩ call50 (Le.refl _) (Uj (l:=σ.ths[n].loc) ((H3 hn).le leA) (by have:σ.ths[n].loc.length≤32:=hT.l;omega)) ?_ (hL:=(hlA (h:=by repeat first|exact trivial|refine ⟨clA,?_⟩|refine ⟨(Cl.row (n:=n) (hr _) leA Zy hn rfl 0 _ rfl),?_⟩|refine ⟨(Cl.row (n:=n) (hr _) leA Zy hn rfl 1 _ rfl),?_⟩|refine ⟨(Cl.row (n:=n) (hr _) leA Zy hn rfl 2 _ rfl),?_⟩|refine ⟨(Cl.row (n:=n) (hr _) leA Zy hn rfl 4 _ rfl),?_⟩)))
 rintro _ _ ⟨a1,c1,rfl,rfl⟩
 refine ⟨(hlA (h:=by repeat first|exact trivial|refine ⟨clA,?_⟩|refine ⟨(Cl.row (n:=n) (hr _) leA Zy hn rfl 0 _ rfl),?_⟩|refine ⟨(Cl.row (n:=n) (hr _) leA Zy hn rfl 1 _ rfl),?_⟩|refine ⟨(Cl.row (n:=n) (hr _) leA Zy hn rfl 2 _ rfl),?_⟩|refine ⟨(Cl.row (n:=n) (hr _) leA Zy hn rfl 4 _ rfl),?_⟩)),?_⟩
 refine B3 17 ⟨⟨_,rfl,rfl,rfl,rfl,rfl,rfl,fun q=>Ef.alloc zeroValue101⟩,trivial⟩ call70 (Le.refl _) (Jw (l:=σ.ths[n].sp) ((N1 hn).le leA) (by have:σ.ths[n].sp.length≤8:=hT.p.1;omega)) ?_ (hL:=(hlA (h:=by repeat first|exact trivial|refine ⟨clA,?_⟩|refine ⟨(Cl.row (n:=n) (hr _) leA Zy hn rfl 0 _ rfl),?_⟩|refine ⟨(Cl.row (n:=n) (hr _) leA Zy hn rfl 1 _ rfl),?_⟩|refine ⟨(Cl.row (n:=n) (hr _) leA Zy hn rfl 2 _ rfl),?_⟩|refine ⟨(Cl.row (n:=n) (hr _) leA Zy hn rfl 4 _ rfl),?_⟩)))
 rintro _ _ ⟨a2,c2,rfl,rfl⟩
 refine ⟨(hlA (h:=by repeat first|exact trivial|refine ⟨clA,?_⟩|refine ⟨(Cl.row (n:=n) (hr _) leA Zy hn rfl 0 _ rfl),?_⟩|refine ⟨(Cl.row (n:=n) (hr _) leA Zy hn rfl 1 _ rfl),?_⟩|refine ⟨(Cl.row (n:=n) (hr _) leA Zy hn rfl 2 _ rfl),?_⟩|refine ⟨(Cl.row (n:=n) (hr _) leA Zy hn rfl 4 _ rfl),?_⟩)),?_⟩
 refine Qu 18 ⟨⟨_,rfl,rfl,rfl,rfl,rfl,rfl,fun q=>Ef.alloc zeroValue101⟩,trivial⟩ (Pu.build (cells:= [_,_,_,_,_]) [(0,1),(1,1),(2,1),(3,1),(4,1)] zeroValue101 underlying101 (by kernel_rfl) rfl rfl) ?_ (hL:=(hlA (h:=by repeat first|exact trivial|refine ⟨clA,?_⟩|refine ⟨(Cl.row (n:=n) (hr _) leA Zy hn rfl 0 _ rfl),?_⟩|refine ⟨(Cl.row (n:=n) (hr _) leA Zy hn rfl 1 _ rfl),?_⟩|refine ⟨(Cl.row (n:=n) (hr _) leA Zy hn rfl 2 _ rfl),?_⟩|refine ⟨(Cl.row (n:=n) (hr _) leA Zy hn rfl 4 _ rfl),?_⟩)))
 refine Vj (e0:=⟨19,7,fun g=> .pointer (some ⟨g,0,none⟩),fun g=>pto g (.cells [.int .i64 0,.int .i64 0,.slice none 0 0,.int .i64 0,.slice none 0 0].toArray 101 (0,0))⟩) (hnd:=by simp) 19 ⟨⟨_,rfl,rfl,rfl,rfl,rfl,rfl,fun q=>Ef.alloc zeroValue101⟩,trivial⟩ (fun nv=> ?_) (hL:=(hlA (h:=by repeat first|exact trivial|refine ⟨clA,?_⟩|refine ⟨(Cl.row (n:=n) (hr _) leA Zy hn rfl 0 _ rfl),?_⟩|refine ⟨(Cl.row (n:=n) (hr _) leA Zy hn rfl 1 _ rfl),?_⟩|refine ⟨(Cl.row (n:=n) (hr _) leA Zy hn rfl 2 _ rfl),?_⟩|refine ⟨(Cl.row (n:=n) (hr _) leA Zy hn rfl 4 _ rfl),?_⟩)))
 change XF _ _ _ _ _ _ _ [] _ _ _ ((7,.pointer (some ⟨nv,0,none⟩))::_) _ _ (pto nv (.cells [.int .i64 0,.int .i64 0,.slice none 0 0,.int .i64 0,.slice none 0 0].toArray 101 (0,0))::_)
 refine XF.back ?_ (hL:=(hlA (h:=by repeat first|exact trivial|refine ⟨clA,?_⟩|refine ⟨(Cl.row (n:=n) (hr _) leA Zy hn rfl 0 _ rfl),?_⟩|refine ⟨(Cl.row (n:=n) (hr _) leA Zy hn rfl 1 _ rfl),?_⟩|refine ⟨(Cl.row (n:=n) (hr _) leA Zy hn rfl 2 _ rfl),?_⟩|refine ⟨(Cl.row (n:=n) (hr _) leA Zy hn rfl 4 _ rfl),?_⟩)))
 refine V1 20 ?_;refine XD.nil ?_;refine xo 4 ?_;refine XO.cR call60 (Q1 (b:=ga) (o:=0+(n:Int).toNat*5) (todo:=σ.ths[n].todo) (Cl.row (n:=n) (hr _) leA Zy hn rfl 3 _ rfl) ((Sees.todo hn).le leA) (by have:=hT.n;rw [W2] at this;omega)) ?_
 refine oo 5 ?_
 rcases Classical.em (σ.ths[n].todo= []) with hne|hne'
 · refine XO.know 52 (.pointer none) rfl (by rw [hne];rfl) ?_
   refine XO.know 8 (.pointer none) rfl (by rw [hne];rfl) ?_
   have hl0:(σ.ths[n]).er.left= []:=Ub.2 hne
   refine ox 2 ?_;refine Wy 53 ?_;refine xo 4 ?_;refine ldA ?_;refine stA ?_;refine ox 2 ?_;refine Zq (lsH I64 2 a1 c1 σ.ths[n].loc::lsH I64 3 a2 c2 σ.ths[n].sp::stP p pp σ::(Zc σ++q)) func39 (H9 results39) ⟨_,rfl,(⟨σ.ths[n].decl,σ.ths[n].st,a1,c1,σ.ths[n].loc, -1,a2,c2,σ.ths[n].sp⟩:VwC),⟨rfl,rfl,rfl,by unfold PTr.nx;rw [if_pos hl0],rfl⟩,rfl,rfl⟩
 obtain ⟨y,hy1,hy2,hy3,hy4,hy5⟩:=Ns hne';have hyA:Kn q fun M=>y.At M:=hTd.imp fun M h=>h _ (List.getElem_mem hn) y hy2
 refine XO.know 52 (.pointer (some ⟨y.b,y.o,none⟩)) rfl (by rw [hy1];rfl) ?_
 refine XO.know 8 (.pointer (some ⟨y.b,y.o,none⟩)) rfl (by rw [hy1];rfl) ?_
 obtain ⟨yb,yo,ys⟩:=y
 obtain ⟨kk,ln,cl,nm,wt,⟨ek,en,enm,esl,elo,eop,el,ea,ec⟩,⟨xk,xn,xnm,xsl,xlo,xop,xl,xa,xc⟩,bd,es2,ba,bc,ea2,ec2,id,sl,ot,lo_⟩:=ys
 have hCs:=Kn.stC hyA;dsimp only at hCs hy1 hy4 hy5
 refine ox 2 ?_;refine X.kt 53 ?_;refine xo 5 ?_;refine ld ?_ (hc:=((hCs.le leA) 21 _ rfl))
 refine oo 1 ?_;refine st ?_;refine oo 3 ?_;refine ldA ?_;refine stA ?_;refine ox 2 ?_;refine Zq (lsH I64 2 a1 c1 σ.ths[n].loc::lsH I64 3 a2 c2 σ.ths[n].sp::stP p pp σ::(Zc σ++q)) func39 (H9 results39) ⟨_,rfl,(⟨σ.ths[n].decl,σ.ths[n].st,a1,c1,σ.ths[n].loc,id,a2,c2,σ.ths[n].sp⟩:VwC),⟨rfl,rfl,rfl,by unfold PTr.nx;rw [if_neg (by rw [hy4];simp),hy5];rfl,rfl⟩,rfl,rfl⟩
end
def zE0:PEv:=zEv 0 0
def SS.doP (p:PPr)(s:SS)(n:Int):SS×PEv×Int:=
 if n<0∨(s.ths.length:Int)≤n then (s,zE0,2) else if s.all p= [] then (s,zE0,150) else if s.can p n.toNat=false then (s,zE0,151)
 else ((s.step p n.toNat).1.pg,(s.step p n.toNat).2,0)
theorem T6: ∀ (l:List Int) (s:SS),(s.wake l).out=s.out
 | [],_=>rfl
 |i::r,s=>by show (SS.wake _ r).out=_;rw [T6 r];rfl
theorem T7 (s:SS)(n:Nat)(k:Int)(b:Bool)(v:Int):(s.into n k b v).1.out=s.out:=by unfold SS.into SS.put;split<;>rfl
theorem P8 {p:PPr}{s:SS}{n:Nat}:(s.did p n).1.out=s.out:=by
 unfold SS.did
 dsimp only
 split
 · rfl
 generalize (s.th n).next=x
 split
 · obtain ⟨k,ln,cl,nm,wt,e,ix,body,els,id,slot,other,loc⟩:=x
   unfold SS.data
   dsimp only
   (repeat' split)<;>first|rfl|(rw [T7];rfl)
 obtain ⟨k,ln,cl,nm,wt,e,ix,body,els,id,slot,other,loc⟩:=x
 unfold SS.others
 dsimp only
 (repeat' split)<;>first|rfl|(rw [T7];rfl)|(dsimp only;rw [T6];rfl)
theorem Fu {s:SS}{n:Nat}{ev:PEv}:(s.ended n ev).1.out=s.out:=by unfold SS.ended SS.put;split<;>rfl
theorem SS.pg_pg (s:SS):s.pg.pg=s.pg:=by unfold SS.pg;dsimp only;split<;>simp_all [Ax]
theorem Co {p:PPr}{s:SS}{n:Nat}(h:s.can p n=true):s.out.kind≠4:=by
 intro e;unfold SS.can at h;dsimp only at h;rw [if_pos (.inl e)] at h;cases h
theorem SS.out_z {s:SS}(h:s.pg=s)(k:s.out.kind≠4):s.out=Ax:=by
 have:=congrArg SS.out h;unfold SS.pg at this;dsimp only at this;rw [if_neg k] at this;exact this.symm
theorem P3 {p:PPr}{s:SS}{n:Nat}(h:s.pg=s)(hc:s.can p n=true)(ht:(s.did p n).2.2=0):(s.step p n).1.pg=((s.did p n).1.ended n (s.did p n).2.1).1∧(s.step p n).2=((s.did p n).1.ended n (s.did p n).2.1).2:=by
 rw [Mi,if_neg (fun k=>k ht)]
 refine ⟨?_,rfl⟩
 dsimp only
 rw [Il]
 have:((s.did p n).1.ended n (s.did p n).2.1).1.out=Ax:=by rw [Fu,P8];exact SS.out_z h (Co hc)
 rw [←this]
theorem Fh {p:PPr}{s:SS}{n:Nat}(ht:(s.did p n).2.2≠0):(s.step p n).1.pg= { s with out:=⟨4,(s.did p n).2.2,n,(s.th n).next.idn⟩ } ∧(s.step p n).2= { zEv n (s.th n).next.idn with trap:=(s.did p n).2.2,acc:=(s.did p n).2.1.acc } :=by
 rw [Mi,if_pos ht]
 exact ⟨by unfold SS.pg;rw [if_pos rfl],rfl⟩
theorem Fd {p:PPr}{s:SS}{n:Nat}{x:PStm}{ev:PEv}:(s.data p n x ev).2.1.stmt=ev.stmt:=by
 obtain ⟨k,ln,cl,nm,wt,e,ix,body,els,id,slot,other,loc⟩:=x
 unfold SS.data;dsimp only
 (repeat' split)<;>rfl
theorem Dq {p:PPr}{s:SS}{n:Nat}{x:PStm}{ev:PEv}:(s.others p n x ev).2.1.stmt=ev.stmt:=by
 obtain ⟨k,ln,cl,nm,wt,e,ix,body,els,id,slot,other,loc⟩:=x
 unfold SS.others;dsimp only
 (repeat' split)<;>rfl
theorem Ca {p:PPr}{s:SS}{n:Nat}:(s.did p n).2.1.stmt=(s.th n).next.idn:=by
 unfold SS.did;dsimp only
 split
 · rfl
 split
 · rw [Fd];rfl
 rw [Dq];rfl
structure Hd (q:List HP) (pp:Nat) (g:FC) (N:Nat) (σ:StC):Prop where
 P:Prg q pp g
 M:MayP g.er
 F:SS.fine g.er N σ.er
 G:σ.er.pg=σ.er
 T:Kn q fun M=>TodoAt M σ.ths
section
variable {G:World}{q:List HP}{p pp who n N:Nat}{g:FC}{σ:StC}{ev:EvC}{k sl ot u:Int}{bb:Bool}
variable {z:Int}
theorem do2_ok (E:List HP){F:List HP}(hP:Prg q pp g)(hM:MayP g.er)(hF:SS.fine g.er N σ.er)(hN:N≤899)(hwho:who<σ.ths.length)(hc:σ.er.can g.er.pr who=true)(hTd:Kn q fun M=>TodoAt M σ.ths)(hev:ev.e=zEv who (σ.er.th who).next.idn):CallF prog G 61 [.pointer (some ⟨p,0,none⟩)] (Zx p pp who σ ev++(E++(q++F))) (Ret fun v q'=> ∃ (σ':StC) (ev':EvC),(((σ.er.did g.er.pr who).2.2=0∧v= .int .i64 0∧σ'.er=((σ.er.did g.er.pr who).1.ended who (σ.er.did g.er.pr who).2.1).1∧ev'.e=((σ.er.did g.er.pr who).1.ended who (σ.er.did g.er.pr who).2.1).2∧Kn q fun M=>TodoAt M σ'.ths)∨((σ.er.did g.er.pr who).2.2≠0∧v= .int .i64 (σ.er.did g.er.pr who).2.2∧ev'.e=(σ.er.did g.er.pr who).2.1))∧q'=Zx p pp who σ' ev'++(E++(q++F))):=
 CallF.conv (pre':=(Zx p pp who σ ev++q)++(E++F)) (by rw [List.append_assoc];exact Le.append_left _ (Ys E q F)) (H7 (E++F) (do_ok hP hM hF hN hwho hc hTd hev)) (by
  rintro _ _ ⟨_,⟨v,rfl,σ',ev',h,rfl⟩,rfl⟩
  exact ⟨_,⟨v,rfl,σ',ev',h,rfl⟩,by rw [List.append_assoc];exact Le.append_left _ (Ys q E F)⟩)
set_option maxHeartbeats 16000000 in
theorem SDo_ok (hH:Hd q pp g N σ)(hN:N≤899):CallF prog G 30 [.pointer (some ⟨p,0,none⟩),.int .i64 z] (stP p pp σ::(Zc σ++q)) (Ret fun v q'=> ∃ (x:EvC) (σ':StC) (e:Int),v= .tuple [.agg (evC x).toArray,.int .i64 e].toArray∧q'=stP p pp σ'::(Zc σ'++(evL x++q))∧(Kn q fun M=>TodoAt M σ'.ths)∧SS.doP g.er.pr σ.er z=(σ'.er,x.e,e)):=by
 refine CallF.of func30 ntmps30 rfl (fun F cs=> ?_)
 obtain ⟨hP,hM,hF,hG,hTd⟩:=hH;have hok:=hF.ok;have hlen:σ.er.ths.length=σ.ths.length:=StC.nth σ;have h8:=hok.t.2;rw [hlen] at h8;have h1_:=hok.t.1;rw [hlen] at h1_
 change X _ _ _ _ _ _ _ _ (stP p pp σ::lsH I64 2 σ.ca σ.cc σ.cells::yH σ.sp σ.sy::rsH trC 5 116 σ.ha σ.hc σ.ths::stars (σ.ths.map trH)::(q++F))
 refine Yz (l:=σ.ths) (by omega) (fun ga e_=> ?_)
 have hr: ∀ r,Sees (rsH trC 5 116 σ.ha σ.hc σ.ths::r) (some ⟨ga,0,none⟩) (σ.ths.flatMap trC):=fun r=>by rw [←e_];exact Sees.rsH r
 refine xo 2 ?_;refine XO.al zeroValue47 fun n1=> ?_
 refine oo 7 ?_;refine XO.cR call49 (Vr (p:=p) (pp:=pp) clA) ?_
 refine Zt (Pu.not rfl) ?_;refine ox 2 ?_;refine Wy 8 ?_
 have hzc:z<0∨(¬z<0∧(σ.ths.length:Int)≤z)∨(0≤z∧z<σ.ths.length):=(by omega)
 rcases hzc with hz|hz|hz
 focus
  refine xo 6 ?_;refine XO.know 16 (.bool true) rfl (congrArg Value.bool (decide_eq_true hz)) ?_;refine oo 14 ?_
 rotate_left
 focus
  refine xo 6 ?_;refine XO.know 16 (.bool false) rfl (congrArg Value.bool (decide_eq_false hz.1)) ?_;refine ol 4 ?_;refine ox 5 ?_;refine X.know 13 (.bool true) rfl (congrArg Value.bool (decide_eq_true (by omega))) ?_
  refine xo 4 ?_
 rotate_left
 · refine xo 6 ?_;refine XO.know 16 (.bool false) rfl (congrArg Value.bool (decide_eq_false (by omega))) ?_
   refine ol 4 ?_;refine ox 5 ?_;refine X.know 13 (.bool false) rfl (congrArg Value.bool (decide_eq_false (by omega))) ?_
   refine xo 4 ?_;obtain ⟨n,rfl⟩:=Int.eq_ofNat_of_zero_le hz.1;have hn:n<σ.ths.length:=(by omega);have hnot: ¬ ((n:Int)<0∨(σ.er.ths.length:Int)≤n):=(by rw [hlen];omega)
   refine Zf call40 leA (L1 (p:=p) (pp:=pp) (σ:=σ) (q:=pto n1 _::(q++F)) hok (by omega) (hTd.le leA)) ?_
   rintro _ _ ⟨a1,c1,rfl,rfl⟩
   refine ox 4 ?_;refine X.part 26 rfl (fun h2=> ?_) (fun h2=> ?_)
   · replace h2:=sp h2;have hal:=List.eq_nil_of_length_eq_zero (show (σ.er.all g.er.pr).length=0 by omega)
     refine xo 4 ?_;refine stA ?_;refine ox 2 ?_
     skip
     refine X.le (Zl acC 3 140 _) (X.le (Zl snC 3 50 _) ?_);refine Zq (stP p pp σ::(Zc σ++(evL (⟨zE0,none,0,none,0⟩:EvC)++q))) func30 (H9 results30) ⟨_,rfl,(⟨zE0,none,0,none,0⟩:EvC),σ,150,rfl,rfl,hTd,by unfold SS.doP;rw [if_neg hnot,if_pos hal]⟩ (by unfold Zc evL;exact leA)
   replace h2:=sp h2;have hal: ¬σ.er.all g.er.pr= []:=(fun k=>by rw [k] at h2;exact h2 rfl)
   refine xo 5 ?_;refine Zf call59 leA (Iq (p:=p) (pp:=pp) (σ:=σ) (n:=n) (q:=pto n1 _::(q++F)) hok (by omega) hn (hTd.le leA)) ?_
   rintro _ _ ⟨rfl,rfl⟩
   refine Zt (Pu.not rfl) ?_;refine ox 2 ?_;refine X.part 32 rfl (fun h3=> ?_) (fun h3=> ?_)
   · replace h3:=sp h3
     refine xo 4 ?_;refine stA ?_;refine ox 2 ?_
     skip
     refine X.le (Zl acC 3 140 _) (X.le (Zl snC 3 50 _) ?_);refine Zq (stP p pp σ::(Zc σ++(evL (⟨zE0,none,0,none,0⟩:EvC)++q))) func30 (H9 results30) ⟨_,rfl,(⟨zE0,none,0,none,0⟩:EvC),σ,151,rfl,rfl,hTd,by unfold SS.doP;rw [if_neg hnot,if_neg hal,if_pos (by simpa using h3)]⟩ (by unfold Zc evL;exact leA)
   replace h3:=sp h3;have hc:σ.er.can g.er.pr n=true:=(by simpa using h3)
   have hcl:σ.cells.length≤1000000:=(by have h:=hok.c;have h2:=hM.l.1;have h3:=hM.s;have h4:(σ.er.cells.length:Int)=σ.cells.length:=rfl;omega)
   have hR:=hF.ready (p:=g.er.pr) (by rw [hlen];exact hn) hc;have hthe:σ.er.th n=(σ.ths[n]).er:=Zo hn;have hne:σ.ths[n].todo≠ []:=by
    have h1:=hR.l;rw [hthe] at h1
    intro e;rw [←Ub] at e;rw [e] at h1;cases h1
   obtain ⟨⟨yb,yo,ys⟩,hy1,hy2,hy3,hy4,hy5⟩:=Ns hne;rw [←hthe] at hy5;dsimp only at hy5;have htl:=(hok.at hn).n;rw [W2] at htl
   have hyA:Kn q fun M=>PS.At M ⟨yb,yo,ys⟩:=hTd.imp fun M h=>h σ.ths[n] (List.getElem_mem hn) _ hy2
   have hC8:Cl q ⟨yb,yo+21,none⟩ (.int .i64 ys.er.idn):=by have h:=Kn.stC hyA;obtain ⟨kk,ln,cl,nm,wt,⟨ek,en,enm,esl,elo,eop,el,ea,ec⟩,⟨xk,xn,xnm,xsl,xlo,xop,xl,xa,xc⟩,bd,es2,ba,bc,ea2,ec2,id,sl,ot,lo⟩:=ys;exact h 21 _ rfl
   refine xo 6 ?_;refine Zf call37 leA (Ce (p:=p) (pp:=pp) (σ:=σ) (q:=pto n1 (.cells (evC (⟨zE0,none,0,none,0⟩:EvC)).toArray 47 (0,0))::(q++F)) hok (by omega) hcl) ?_
   rintro _ _ ⟨p2,σ2,hs1,hs2,rfl,rfl⟩
   refine oo 1 ?_;refine ldA ?_;refine oo 2 ?_;refine Y8 fun n2=> ?_
   refine ol 10 ?_;refine oo 1 ?_;refine XO.know 51 (.slice (some ⟨ga,0,none⟩) σ.ths.length σ.hc) rfl (by rw [←e_]) ?_
   refine oo 1 ?_;refine XO.cR call60 (Q1 (b:=ga) (o:=0+(n:Int).toNat*5) (todo:=σ.ths[n].todo) (Cl.row (n:=n) (hr _) leA Zy hn rfl 3 _ rfl) ((Sees.todo hn).le leA) (by omega)) ?_
   refine XO.know 54 (.pointer (some ⟨yb,yo,none⟩)) rfl (by rw [hy1];rfl) ?_
   refine oo 2 ?_;refine ld ?_ (hc:=(hC8.le leA))
   refine oo 3 ?_;refine st ?_;refine oo 3 ?_;refine st ?_;refine oo 5 ?_
   have hl2:σ2.ths.length=σ.ths.length:=by rw [←StC.nth,hs1,StC.nth]
   have hn2:n<σ2.ths.length:=(by rw [hl2];exact hn)
   refine XO.le (Zl acC 3 140 _) (XO.le (Zl snC 3 50 _) ?_);refine Zf call61 (by unfold Zx spP Zc evL;exact leA) (do2_ok (p:=n2) (pp:=pp) (who:=n) (σ:=σ2) (ev:=(⟨zEv n ys.er.idn,none,0,none,0⟩:EvC)) (q:=q) (F:=F) (pto n1 (.cells (evC (⟨zE0,none,0,none,0⟩:EvC)).toArray 47 (0,0))::stP p pp σ::lsH I64 2 σ.ca σ.cc σ.cells::yH σ.sp σ.sy::rsH trC 5 116 σ.ha σ.hc σ.ths::stars (σ.ths.map trH):: []) hP hM (by rw [hs1];exact hF) (by omega) hn2 (by rw [hs1];exact hc) (hTd.imp fun M h=>TodoAt.of hs2 h) (by rw [hs1,hy5])) ?_
   rintro _ _ ⟨σ3,ev3,hor,eq_⟩;simp only [Zx,spP,Zc,evL,ca,na] at eq_;subst eq_
   rw [hs1] at hor;obtain ⟨D,hD⟩: ∃ D,D=σ.er.did g.er.pr n:=⟨_,rfl⟩;rw [←hD] at hor;have hst3:=Ca (p:=g.er.pr) (s:=σ.er) (n:=n);rw [←hD] at hst3
   rcases hor with ⟨h0,rfl,hE,hV,hT3⟩|⟨h0,rfl,hV⟩
   · refine ox 7 ?_;refine Wy 67 ?_;refine xo 8 ?_;refine ldA ?_;refine oo 1 ?_;refine stA ?_;refine oo 6 ?_;refine ldA ?_;refine stA ?_;refine ox 2 ?_;refine Zq (stP p pp σ3::(Zc σ3++(evL ev3++q))) func30 (H9 results30) ⟨_,rfl,ev3,σ3,0,rfl,rfl,hT3,by unfold SS.doP;rw [if_neg hnot,if_neg hal,if_neg (by rw [show ((n:Int)).toNat=n from rfl,hc];decide),show ((n:Int)).toNat=n from rfl];obtain ⟨e1,e2⟩:=P3 hG hc (by rw [←hD];exact h0);rw [e1,e2,←hD,hE,hV]⟩ (by unfold stP Zc evL;exact leA)
   have hs3:ev3.e.stmt=(σ.er.th n).next.idn:=by rw [hV];exact hst3
   refine ox 7 ?_;refine X.know 67 (.bool true) rfl (congrArg Value.bool (bne_iff_ne.2 h0)) ?_;refine xj 10 ?_;refine oo 3 ?_;refine stA ?_;refine ox 2 ?_;refine drw ?_;refine dl [0,1,2,3,4] 5 ?_;refine dl [6,7,8,9,10] 11 ?_;refine dd [12] ?_;refine V1 13 ?_;refine dd [14] ?_;refine XD.nil ?_;refine X.le (Zl snC 3 50 _) ?_;refine Zq (stP p pp ({ σ with out:=⟨4,D.2.2,n,ev3.e.stmt⟩ } :StC)::(Zc ({ σ with out:=⟨4,D.2.2,n,ev3.e.stmt⟩ } :StC)++(evL (⟨{ zEv n ev3.e.stmt with trap:=D.2.2,acc:=ev3.e.acc },ev3.aa,ev3.ac,none,0⟩:EvC)++q))) func30 (H9 results30) ⟨_,rfl,(⟨{ zEv n ev3.e.stmt with trap:=D.2.2,acc:=ev3.e.acc },ev3.aa,ev3.ac,none,0⟩:EvC),({ σ with out:=⟨4,D.2.2,n,ev3.e.stmt⟩ } :StC),0,rfl,rfl,hTd,by unfold SS.doP;rw [if_neg hnot,if_neg hal,if_neg (by rw [show ((n:Int)).toNat=n from rfl,hc];decide),show ((n:Int)).toNat=n from rfl];obtain ⟨e1,e2⟩:=Fh (p:=g.er.pr) (s:=σ.er) (n:=n) (by rw [←hD];exact h0);rw [e1,e2,←hD,←hs3,hV];rfl⟩ (by unfold stP Zc evL;exact leA)
 all_goals
  refine stA ?_;refine ox 2 ?_
  skip
  refine X.le (Zl acC 3 140 _) (X.le (Zl snC 3 50 _) ?_);refine Zq (stP p pp σ::(Zc σ++(evL (⟨zE0,none,0,none,0⟩:EvC)++q))) func30 (H9 results30) ⟨_,rfl,(⟨zE0,none,0,none,0⟩:EvC),σ,2,rfl,rfl,hTd,by unfold SS.doP;rw [if_pos (by omega)]⟩ (by unfold Zc evL;exact leA)
end
theorem SS.fine.pg {F:Fnd}{N:Nat}{s:SS}(h:s.fine F N):s.pg.fine F N:=h.out _
theorem SS.fine.doP {F:Fnd}{N:Nat}{s:SS}(h:s.fine F N)(hM:MayP F)(z:Int):(s.doP F.pr z).1.fine F (N+1):=by
 unfold SS.doP
 split
 · exact h.mono (Nat.le_succ N)
 rename_i h1
 split
 · exact h.mono (Nat.le_succ N)
 split
 · exact h.mono (Nat.le_succ N)
 rename_i h3
 exact (h.step hM (n:=z.toNat) (by omega) (by simpa using h3)).pg
theorem O1 {p:PPr}{s:SS}(h:s.pg=s)(z:Int):(s.doP p z).1.pg=(s.doP p z).1:=by
 unfold SS.doP
 split
 · exact h
 split
 · exact h
 split
 · exact h
 exact SS.pg_pg _
theorem Hd.next {q:List HP}{pp N:Nat}{g:FC}{σ σ':StC}{z:Int}(h:Hd q pp g N σ)(e:(SS.doP g.er.pr σ.er z).1=σ'.er)(hT:Kn q fun M=>TodoAt M σ'.ths):Hd q pp g (N+1) σ':=
 ⟨h.P,h.M,e ▸ h.F.doP h.M z,e ▸ O1 h.G z,hT⟩
theorem Hd.mono {q:List HP}{pp N N':Nat}{g:FC}{σ:StC}(h:Hd q pp g N σ)(l:N≤N'):Hd q pp g N' σ:=⟨h.P,h.M,h.F.mono l,h.G,h.T⟩
def SS.ix (k:Int)(n:Nat):Nat:=((k.tmod n+n).tmod n).toNat
def SS.stepP (p:PPr)(s:SS)(k:Int):SS×PEv×Int:=
 if s.all p= [] then (s,zE0,150) else s.doP p ((s.all p).getD (SS.ix k (s.all p).length) 0)
theorem Hd.step {q:List HP}{pp N:Nat}{g:FC}{σ σ':StC}{k:Int}(h:Hd q pp g N σ)(e:(SS.stepP g.er.pr σ.er k).1=σ'.er)(hT:Kn q fun M=>TodoAt M σ'.ths):Hd q pp g (N+1) σ':=by
 unfold SS.stepP at e
 split at e
 · exact ⟨h.P,h.M,e ▸ h.F.mono (Nat.le_succ N),e ▸ h.G,hT⟩
 exact h.next e hT
theorem ix_ok {k:Int}{n:Nat}(h:0<n)(h8:n≤1000):(-(n:Int)<k.tmod n∧k.tmod n<n)∧(0≤(k.tmod n+n).tmod n∧(k.tmod n+n).tmod n<n)∧SS.ix k n<n:=by
 have h1: -(n:Int)<k.tmod n∧k.tmod n<n:=by
  have a1:=Int.tmod_lt_of_pos k (b:=(n:Int)) (by omega)
  have a2:=Int.lt_tmod_of_pos k (b:=(n:Int)) (by omega)
  exact ⟨a2,a1⟩
 have h2:0≤(k.tmod n+n).tmod n∧(k.tmod n+n).tmod n<n:=⟨Int.tmod_nonneg _ (by omega),Int.tmod_lt_of_pos _ (by omega)⟩
 exact ⟨h1,h2,by unfold SS.ix;omega⟩
theorem Dz (p:PPr)(s:SS):(s.all p).length≤s.ths.length:=by
 unfold SS.all
 rw [List.length_map]
 exact Nat.le_trans (List.length_filter_le _ _) (Nat.le_of_eq List.length_range)
def Z8 (p:PPr):SS→List Int→SS×List PEv
 |s, []=>(s, [])
 |s,k::r=>if s.all p= [] then (s, []) else ((Z8 p (s.stepP p k).1 r).1,(s.stepP p k).2.1::(Z8 p (s.stepP p k).1 r).2)
theorem N3 (p:PPr)(s:SS)(k:Int)(r:List Int):Z8 p s (k::r)=if s.all p= [] then (s, []) else ((Z8 p (s.stepP p k).1 r).1,(s.stepP p k).2.1::(Z8 p (s.stepP p k).1 r).2):=by rw [Z8]
theorem P5 {p:PPr}{s:SS}{x:Int}(h:x∈s.all p): ∃ n:Nat,x=n∧n<s.ths.length∧s.can p n=true:=by
 unfold SS.all at h
 obtain ⟨n,hn,rfl⟩:=List.mem_map.1 h
 obtain ⟨h1,h2⟩:=List.mem_filter.1 hn
 exact ⟨n,rfl,List.mem_range.1 h1,h2⟩
theorem Fm {p:PPr}{s:SS}{k:Int}(h:s.all p≠ [])(h8:s.ths.length≤8): ∃ n:Nat,n<s.ths.length∧s.can p n=true∧(s.all p).getD (SS.ix k (s.all p).length) 0=n∧s.stepP p k=((s.step p n).1.pg,(s.step p n).2,0):=by
 have hl:=Dz p s
 obtain ⟨_,_,hi⟩:=ix_ok (k:=k) (List.length_pos_iff.2 h) (by omega)
 obtain ⟨n,h1,h2,h3⟩:=P5 (List.getElem_mem hi)
 refine ⟨n,h2,h3,by rw [Wl hi,h1],?_⟩
 unfold SS.stepP SS.doP
 rw [if_neg h,Wl hi,h1,if_neg (by omega),if_neg h,show ((n:Int)).toNat=n from rfl,h3]
 rfl
theorem Rn (x:EvC):(evC x).length=9:=rfl
theorem evC_one (x:EvC):(evC x).all (·.oneCell')=true:=rfl
def Br (a:Option Addr)(c:Nat)(L:List EvC):List HP:= [rsH evC 9 47 a c L,stars (L.map fun x=>stars (evL x))]
structure Goes (q:List HP) (pp:Nat) (g:FC) (N:Nat) (σ:StC) (picks:List Int) (i:Nat) (σ':StC) (L:List EvC):Prop where
 h:Hd q pp g (N+i) σ'
 e:L.map EvC.e++(Z8 g.er.pr σ'.er (picks.drop i)).2=(Z8 g.er.pr σ.er picks).2
 s:(Z8 g.er.pr σ'.er (picks.drop i)).1=(Z8 g.er.pr σ.er picks).1
 l:L.length≤i
theorem Goes.next {q:List HP}{pp N i:Nat}{g:FC}{σ σ1 σ2:StC}{picks:List Int}{L:List EvC}{x:EvC}(h:Goes q pp g N σ picks i σ1 L)(hi:i<picks.length)(hn:σ1.er.all g.er.pr≠ [])(e:SS.stepP g.er.pr σ1.er picks[i]=(σ2.er,x.e,0))(hT:Kn q fun M=>TodoAt M σ2.ths):Goes q pp g N σ picks (i+1) σ2 (L++ [x]):=by
 have hd:picks.drop i=picks[i]::picks.drop (i+1):=List.drop_eq_getElem_cons hi
 have h1:=h.e;have h2:=h.s
 rw [hd,N3] at h1 h2
 rw [if_neg hn,e] at h1 h2
 refine ⟨?_,?_,h2,by rw [List.length_append];have:=h.l;simp;omega⟩
 · have:=Hd.step (k:=picks[i]) h.h (by rw [e]) hT
   rwa [Nat.add_assoc] at this
 rw [List.map_append,List.append_assoc];exact h1
theorem Goes.stop {q:List HP}{pp N i:Nat}{g:FC}{σ σ1:StC}{picks:List Int}{L:List EvC}(h:Goes q pp g N σ picks i σ1 L)(hi:i<picks.length)(hn:σ1.er.all g.er.pr= []):σ1.er=(Z8 g.er.pr σ.er picks).1∧L.map EvC.e=(Z8 g.er.pr σ.er picks).2:=by
 have hd:picks.drop i=picks[i]::picks.drop (i+1):=List.drop_eq_getElem_cons hi
 have h1:=h.e;have h2:=h.s
 rw [hd,N3] at h1 h2
 rw [if_pos hn] at h1 h2
 exact ⟨h2,by rw [←h1,List.append_nil]⟩
theorem Goes.done {q:List HP}{pp N i:Nat}{g:FC}{σ σ1:StC}{picks:List Int}{L:List EvC}(h:Goes q pp g N σ picks i σ1 L)(hi:i=picks.length):σ1.er=(Z8 g.er.pr σ.er picks).1∧L.map EvC.e=(Z8 g.er.pr σ.er picks).2:=by
 subst hi
 have h1:=h.e;have h2:=h.s
 rw [List.drop_length] at h1 h2
 exact ⟨h2,by rw [←h1];simp [Z8]⟩
theorem F7:(prog.info? 47).map (fun i=>(i.zero,i.size,i.bytes))=some (some (.agg #[.int .i64 0,.int .i64 0,.bool false,.int .i64 0,.slice none 0 0,.bool false,.int .i64 0,.int .i64 0,.slice none 0 0]),9,104):=by kernel_rfl
section
variable {G:World}{q:List HP}{p pp who n N:Nat}{g:FC}{σ:StC}{ev:EvC}{k sl ot u:Int}{bb:Bool}
variable {z:Int}
theorem SDo2_ok (E:List HP){F:List HP}(hH:Hd q pp g N σ)(hN:N≤899):CallF prog G 30 [.pointer (some ⟨p,0,none⟩),.int .i64 z] (stP p pp σ::(Zc σ++(E++(q++F)))) (Ret fun v q'=> ∃ (x:EvC) (σ':StC) (e:Int),v= .tuple [.agg (evC x).toArray,.int .i64 e].toArray∧q'=stP p pp σ'::(Zc σ'++(evL x++(E++(q++F))))∧(Kn q fun M=>TodoAt M σ'.ths)∧SS.doP g.er.pr σ.er z=(σ'.er,x.e,e)):=
 CallF.conv (pre':=(stP p pp σ::(Zc σ++q))++(E++F)) (Le.cons _ (by show Le _ ((Zc σ++q)++(E++F));rw [List.append_assoc];exact Le.append_left _ (Ys E q F))) (H7 (E++F) (SDo_ok hH hN)) (by
  rintro _ _ ⟨_,⟨v,rfl,x,σ',e,rfl,rfl,h1,h2⟩,rfl⟩
  exact ⟨_,⟨_,rfl,x,σ',e,rfl,rfl,h1,h2⟩,Le.cons _ (by show Le ((Zc σ'++(evL x++q))++(E++F)) _;rw [List.append_assoc,List.append_assoc];exact Le.append_left _ (Le.append_left _ (Ys q E F)))⟩)
set_option maxHeartbeats 16000000 in
theorem SStep_ok (hH:Hd q pp g N σ)(hN:N≤899)(hk: -9223372036854775808≤k∧k≤9223372036854775807):CallF prog G 19 [.pointer (some ⟨p,0,none⟩),.int .i64 k] (stP p pp σ::(Zc σ++q)) (Ret fun v q'=> ∃ (x:EvC) (σ':StC) (e:Int),v= .tuple [.agg (evC x).toArray,.int .i64 e].toArray∧q'=stP p pp σ'::(Zc σ'++(evL x++q))∧(Kn q fun M=>TodoAt M σ'.ths)∧SS.stepP g.er.pr σ.er k=(σ'.er,x.e,e)):=by
 refine CallF.of func19 ntmps19 rfl (fun F cs=> ?_)
 have hF:=hH.F;have hTd:=hH.T;have hok:=hF.ok;have hlen:σ.er.ths.length=σ.ths.length:=StC.nth σ;have h8:=hok.t.2;rw [hlen] at h8;have hal8:=Dz g.er.pr σ.er;rw [hlen] at hal8
 change X _ _ _ _ _ _ _ _ (stP p pp σ::lsH I64 2 σ.ca σ.cc σ.cells::yH σ.sp σ.sy::rsH trC 5 116 σ.ha σ.hc σ.ths::stars (σ.ths.map trH)::(q++F))
 refine xo 2 ?_;refine XO.al zeroValue47 fun n1=> ?_
 refine oo 6 ?_;refine XO.cR call49 (Vr (p:=p) (pp:=pp) clA) ?_
 refine Zt (Pu.not rfl) ?_;refine ox 1 ?_;refine Wy 9 ?_;obtain ⟨L,hL⟩: ∃ L,L=σ.er.all g.er.pr:=⟨_,rfl⟩;rw [←hL] at hal8
 refine xo 5 ?_;refine Zf call40 leA (L1 (p:=p) (pp:=pp) (σ:=σ) (q:=pto n1 (.cells (evC (⟨zE0,none,0,none,0⟩:EvC)).toArray 47 (0,0))::(q++F)) hok (by omega) (hTd.le leA)) ?_
 rintro _ _ ⟨a1,c1,rfl,rfl⟩
 rw [←hL]
 refine ox 9 ?_;refine X.part 15 rfl (fun h2=> ?_) (fun h2=> ?_)
 · replace h2:=sp h2;have hal:=List.eq_nil_of_length_eq_zero (show L.length=0 by omega)
   refine xo 4 ?_;refine stA ?_;refine ox 2 ?_;refine X.le (Zl acC 3 140 _) (X.le (Zl snC 3 50 _) ?_);refine Zq (stP p pp σ::(Zc σ++(evL (⟨zE0,none,0,none,0⟩:EvC)++q))) func19 (H9 results19) ⟨_,rfl,(⟨zE0,none,0,none,0⟩:EvC),σ,150,rfl,rfl,hTd,by unfold SS.stepP;rw [if_pos (by rw [←hL];exact hal)]⟩ (by unfold Zc evL;exact leA)
 replace h2:=sp h2;have hp0:0<L.length:=(by omega);have hal: ¬σ.er.all g.er.pr= []:=(fun k=>by rw [←hL] at k;rw [k] at hp0;exact absurd hp0 (by decide));obtain ⟨hi1,hi2,hi3⟩:=ix_ok (k:=k) hp0 (by omega)
 refine V9 (l:=L) (by omega) (fun gl el_=> ?_)
 have hl_: ∀ r,Sees (lsH I64 3 a1 c1 L::r) (some ⟨gl,0,none⟩) (L.map I64):=fun r=>by rw [←el_];exact Sees.lsH r
 refine xo 16 ?_;refine XO.know 28 (.int .i64 (SS.ix k L.length:Int)) rfl (by unfold SS.ix;rw [Int.toNat_of_nonneg hi2.1]) ?_
 refine XO.know 18 (.slice (some ⟨gl,0,none⟩) L.length c1) rfl (by rw [←el_]) ?_
 refine oo 1 ?_;refine ld ?_ (hc:=(((hl_ _).le leA).at (by omega) hi3))
 refine Zf call30 (by unfold Zc;exact leA) (SDo2_ok (p:=p) (pp:=pp) (σ:=σ) (q:=q) (F:=F) (pto n1 (.cells (evC (⟨zE0,none,0,none,0⟩:EvC)).toArray 47 (0,0))::lsH I64 3 a1 c1 L:: []) hH hN) ?_
 rintro _ _ ⟨x,σ2,e2,rfl,rfl,hT2,hD2⟩
 simp only [Zc,evL,ca,na]
 refine oo 2 ?_;refine stA ?_;refine ox 2 ?_;refine Zq (stP p pp σ2::(Zc σ2++(evL x++q))) func19 (H9 results19) ⟨_,rfl,x,σ2,e2,rfl,rfl,hT2,by unfold SS.stepP;rw [if_neg hal,←hL,Wl hi3];exact hD2⟩ (by unfold Zc evL;exact leA)
theorem O0 (E:List HP){F:List HP}(hH:Hd q pp g N σ)(hN:N≤899)(hk: -9223372036854775808≤k∧k≤9223372036854775807):CallF prog G 19 [.pointer (some ⟨p,0,none⟩),.int .i64 k] (stP p pp σ::(Zc σ++(E++(q++F)))) (Ret fun v q'=> ∃ (x:EvC) (σ':StC) (e:Int),v= .tuple [.agg (evC x).toArray,.int .i64 e].toArray∧q'=stP p pp σ'::(Zc σ'++(evL x++(E++(q++F))))∧(Kn q fun M=>TodoAt M σ'.ths)∧SS.stepP g.er.pr σ.er k=(σ'.er,x.e,e)):=
 CallF.conv (pre':=(stP p pp σ::(Zc σ++q))++(E++F)) (Le.cons _ (by show Le _ ((Zc σ++q)++(E++F));rw [List.append_assoc];exact Le.append_left _ (Ys E q F))) (H7 (E++F) (SStep_ok hH hN hk)) (by
  rintro _ _ ⟨_,⟨v,rfl,x,σ',e,rfl,rfl,h1,h2⟩,rfl⟩
  exact ⟨_,⟨_,rfl,x,σ',e,rfl,rfl,h1,h2⟩,Le.cons _ (by show Le ((Zc σ'++(evL x++q))++(E++F)) _;rw [List.append_assoc,List.append_assoc];exact Le.append_left _ (Le.append_left _ (Ys q E F)))⟩)
variable {picks:List Int}{pa:Option Addr}{pc:Nat}
set_option maxHeartbeats 16000000 in
theorem SRun_ok (hH:Hd q pp g N σ)(hN:N+picks.length≤899)(hs:Sees q pa (picks.map I64))(hk: ∀ k∈picks, -9223372036854775808≤k∧k≤9223372036854775807):CallF prog G 16 [.pointer (some ⟨p,0,none⟩),.slice pa picks.length pc] (stP p pp σ::(Zc σ++q)) (Ret fun v q'=> ∃ (σ':StC) (L:List EvC) (a':Option Addr) (c':Nat),v= .tuple [.slice a' L.length c',.agg (otC (σ'.er.outc g.er.pr)).toArray].toArray∧q'=stP p pp σ'::(Zc σ'++(Br a' c' L++q))∧Hd q pp g (N+picks.length) σ'∧σ'.er=(Z8 g.er.pr σ.er picks).1∧L.map EvC.e=(Z8 g.er.pr σ.er picks).2∧L.length≤picks.length):=by
 refine CallF.of func16 ntmps16 rfl (fun F cs=> ?_)
 change X _ _ _ _ _ _ _ _ (stP p pp σ::lsH I64 2 σ.ca σ.cc σ.cells::yH σ.sp σ.sy::rsH trC 5 116 σ.ha σ.hc σ.ths::stars (σ.ths.map trH)::(q++F))
 refine xo 3 ?_;refine XO.al zeroValue41 fun n1=> ?_
 refine ox 13 ?_;refine X.at (X.loop (fun (s:Nat×StC×List EvC×Option Addr×Nat)=>s.1≤picks.length∧Goes q pp g N σ picks s.1 s.2.1 s.2.2.1) (fun s=> [(0,.pointer (some ⟨p,0,none⟩)),(5,.pointer (some ⟨n1,0,none⟩)),(6,.slice s.2.2.2.1 s.2.2.1.length s.2.2.2.2),(11,.slice pa picks.length pc),(12,.int .i64 (picks.length:Int)),(13,.int .i64 (s.1:Int))]) (fun s=>stP p pp s.2.1::lsH I64 2 s.2.1.ca s.2.1.cc s.2.1.cells::yH s.2.1.sp s.2.1.sy::rsH trC 5 116 s.2.1.ha s.2.1.hc s.2.1.ths::stars (s.2.1.ths.map trH)::pto n1 (.cells [.int .i64 0,.int .i64 0,.int .i64 0,.int .i64 0].toArray 41 (0,0))::rsH evC 9 47 s.2.2.2.1 s.2.2.2.2 s.2.2.1::stars (s.2.2.1.map fun x=>stars (evL x))::(q++F)) (fun s=>picks.length - s.1) (fun s hi_ ih=> ?_) (0,σ, [],none,0) ⟨Nat.zero_le _,⟨hH,rfl,rfl,Nat.le_refl _⟩⟩) Zd (Le.trans (Zl evC 9 47 _) (Le.trans (W5 _) leA))
 try dsimp only at hi_ ih⊢
 obtain ⟨hi,hg⟩:=hi_
 obtain ⟨i,σ1,L,ea,ec⟩:=s;dsimp only at*
 refine xx 5 ?_;refine X.part 14 rfl (fun h0=> ?_) (fun h0=> ?_)
 · replace h0:=sp h0;have hlt:i<picks.length:=(by omega)
   refine Yx (hs.le leA) (by rw [List.length_map];omega) (fun b1 o1 e1_=> ?_);have hs_:=hs;rw [e1_] at hs_
   refine xo 6 ?_;refine XO.know 11 (.slice (some ⟨b1,o1,none⟩) picks.length pc) rfl (by rw [←e1_]) ?_
   refine oo 1 ?_;refine ld ?_ (hc:=((hs_.le leA).at rfl hlt))
   refine oo 6 ?_;refine Zf call19 (by unfold Zc;exact leA) (O0 (p:=p) (pp:=pp) (σ:=σ1) (g:=g) (N:=N+i) (q:=q) (F:=F) (pto n1 (.cells [.int .i64 0,.int .i64 0,.int .i64 0,.int .i64 0].toArray 41 (0,0))::rsH evC 9 47 ea ec L::stars (L.map fun x=>stars (evL x)):: []) hg.h (by omega) (hk _ (List.getElem_mem hlt))) ?_
   rintro _ _ ⟨x,σ2,e2,rfl,rfl,hT2,hD2⟩
   simp only [Zc,evL,ca,na]
   refine oo 3 ?_;refine XO.al zeroValue47 fun n2=> ?_
   refine stA ?_;refine ox 8 ?_
   have hF1:=hg.h.F.ok.t.2;by_cases hal:σ1.er.all g.er.pr= []
   · have hD3:=hD2;unfold SS.stepP at hD3;rw [if_pos hal] at hD3;obtain ⟨hd1,hd2⟩:=Prod.mk.inj hD3;obtain ⟨hd3,rfl⟩:=Prod.mk.inj hd2;obtain ⟨hs1,hs2⟩:=hg.stop hlt hal
     refine X.kt 24 ?_
     have hHd:=Hd.step hg.h (by rw [hD2]) hT2
     refine xo 6 ?_;refine Zf call22 (by unfold Zc;exact leA) (Kr (p:=p) (pp:=pp) (σ:=σ2) (g:=g) (N:=N+i+1) (q:=pto n1 (.cells [.int .i64 0,.int .i64 0,.int .i64 0,.int .i64 0].toArray 41 (0,0))::rsH evC 9 47 ea ec L::stars (L.map fun x=>stars (evL x))::(q++F)) hHd.F.ok (by omega) (hHd.T.le leA)) ?_
     rintro _ _ ⟨rfl,rfl⟩
     simp only [Zc,ca,na]
     refine oo 1 ?_;refine stA ?_;refine ox 1 ?_;refine Zq (stP p pp σ2::(Zc σ2++(Br ea ec L++q))) func16 (Dr results16 (ResOk.tmp rfl (ResOk.cell rfl (LV.agg isAgg41 sizeOf41 Qt rfl) ResOk.nil))) ⟨_,rfl,σ2,L,ea,ec,rfl,rfl,hHd.mono (by omega),by rw [←hd1];exact hs1,hs2,by have:=hg.l;omega⟩ (by unfold Zc Br;exact leA)
   obtain ⟨_,_,_,_,hD3⟩:=Fm (k:=picks[i]) hal hF1;have hD4:=hD2;rw [hD3] at hD4;obtain ⟨_,hd2⟩:=Prod.mk.inj hD4;obtain ⟨_,rfl⟩:=Prod.mk.inj hd2;have hg2:=hg.next hlt hal hD2 hT2;have hgl:=hg.l
   refine Wy 24 ?_;refine xo 4 ?_;refine ldA ?_;refine XO.ef (Yj (u:=x) evC underlying37 F7 rfl rfl Rn rfl) ?_
   rintro _ _ ⟨g3,rfl,rfl⟩
   refine XO.ef (Yq (f:=evC) (l:=L) (m:= [x]) underlying37 F7 rfl rfl Rn rfl rfl Zk ((Sees.rsH _).le leA) evC_one (by simp;omega) (by simp;omega)) ?_
   rintro _ _ ⟨a3,c3,rfl,rfl⟩
   refine ox 7 ?_;refine X.le (q':=stars ((L++ [x]).map fun x=>stars (evL x))::_) (Le.trans (b:=stars (L.map fun x=>stars (evL x))::rsH acC 3 140 x.aa x.ac x.e.acc::rsH snC 3 50 x.na x.nc x.e.syn::_) (Le.pick Zk (Le.pick Zk Zk)) (Le.trans (Le.cons _ (Z5 (evL x) _)) (by rw [List.map_append];exact Le.stars_snoc _ _ _))) ?_
   refine X.know 11 (.slice pa picks.length pc) rfl (by rw [e1_]) ?_
   refine X.at (ih (i+1,σ2,L++ [x],a3,c3) ⟨by dsimp only;omega,hg2⟩ (by dsimp only;omega)) Zd leA
 replace h0:=sp h0;obtain ⟨hs1,hs2⟩:=hg.done (show i=picks.length by omega)
 have hHd:=hg.h
 refine xo 6 ?_;refine Zf call22 (by unfold Zc;exact leA) (Kr (p:=p) (pp:=pp) (σ:=σ1) (g:=g) (N:=N+i) (q:=pto n1 (.cells [.int .i64 0,.int .i64 0,.int .i64 0,.int .i64 0].toArray 41 (0,0))::rsH evC 9 47 ea ec L::stars (L.map fun x=>stars (evL x))::(q++F)) hHd.F.ok (by omega) (hHd.T.le leA)) ?_
 rintro _ _ ⟨rfl,rfl⟩
 simp only [Zc,ca,na]
 refine oo 1 ?_;refine stA ?_;refine ox 1 ?_;refine Zq (stP p pp σ1::(Zc σ1++(Br ea ec L++q))) func16 (Dr results16 (ResOk.tmp rfl (ResOk.cell rfl (LV.agg isAgg41 sizeOf41 Qt rfl) ResOk.nil))) ⟨_,rfl,σ1,L,ea,ec,rfl,rfl,hHd.mono (by omega),hs1,hs2,by have:=hg.l;omega⟩ (by unfold Zc Br;exact leA)
end
theorem Po {F:Fnd}(hM:MayP F):(Yl F.pr).fine F 0:=by
 have hsa:=U8 (l:=F.arrs) (k:=256) (fun y hy=>by have:=hM.a y hy;omega) (by decide)
 have hfm:=hM.f
 have hmu:((F.mu.toNat:Nat):Int)=F.mu:=by have:=hfm.1.1;omega
 have hco:((F.co.toNat:Nat):Int)=F.co:=by have:=hfm.2.1.1;omega
 have hny:=newS_ok (m:=F.mu.toNat) (c:=F.co.toNat) (rooms:=F.chs) (by rw [hmu,hco];exact hfm)
 obtain ⟨b0,b1⟩:=Tg (N:=0) (m:=1) hM hM.m (by decide)
 have hcd: ∀ l∈(Bv F.mu.toNat F.co.toNat F.chs).conds,l= []:=fun l hl=>(List.mem_replicate.1 hl).2
 refine ⟨⟨?_,?_,hny,⟨?_,?_,?_⟩,⟨Nat.le_refl 1,show 1≤8 by decide⟩,?_,?_⟩,?_,?_⟩
 · show ((F.vars++List.replicate (Wv F.arrs).toNat 0).length:Int)=_
   rw [List.length_append,List.length_replicate];omega
 · intro x hx
   rcases List.mem_append.1 (show x∈F.vars++List.replicate (Wv F.arrs).toNat 0 from hx) with hx|hx
   · exact hM.v x hx
   rw [(List.mem_replicate.1 hx).2];unfold val;omega
 · show ((List.replicate F.mu.toNat (-1:Int)).length:Int)=F.mu
   rw [List.length_replicate];exact hmu
 · show ((List.replicate F.co.toNat ([]:List Int)).length:Int)=F.co
   rw [List.length_replicate];exact hco
 · show (F.chs.map _).map Ch.room=F.chs
   rw [List.map_map];simp [Function.comp_def]
 · intro t ht
   rw [List.mem_singleton.1 (show t∈ [Vf F.pr F.main] from ht)]
   exact ThOk.of b0 b1 (by show 1≤8;decide)
 · intro l hl t ht
   rw [hcd l hl] at ht;cases ht
 · have:(Yl F.pr).sy.conds.flatten= []:=by rw [List.flatten_eq_nil_iff];exact hcd
   rw [this];exact List.nodup_nil
 intro t ht
 rw [List.mem_singleton.1 (show t∈ [Vf F.pr F.main] from ht)]
 exact b0.p.1
def Pw (F:Fnd)(N:Nat)(s:SS)(g:FC)(σ:StC):Prop:=g.er=F∧σ.er=s∧MayP F∧s.fine F N∧s.pg=s
def gH (p:Nat)(F:Fnd)(N:Nat)(s:SS):HP:=ex fun x:Nat×FC×StC=>stars (pure (Pw F N s x.2.1 x.2.2)::stP p x.1 x.2.2::(Zc x.2.2++ [prM x.1 x.2.1,tdM x.2.2.ths]))
theorem Fq {P:Program}{G:World}{fn:FuncId}{vs:List Value}{p:Nat}{F:Fnd}{N:Nat}{s:SS}{q:List HP}{R:Wx.Ug}
 (h: ∀ (σ:StC) (pp:Nat) (g:FC),g.er=F→σ.er=s→Hd (prM pp g::tdM σ.ths::q) pp g N σ→CallF P G fn vs (stP p pp σ::(Zc σ++(prM pp g::tdM σ.ths::q))) R):CallF P G fn vs (gH p F N s::q) R:=by
 intro E w st cs
 obtain ⟨⟨pp,g,σ⟩,s1⟩:=St.get_ex st
 have s2:=s1.le (Zs _ (q++E))
 obtain ⟨e1,e2,h3,h4,h5⟩:=s2.get_pure
 have s3:=s2.le (Le.drop _ _)
 subst e1 e2
 refine h σ pp g rfl rfl ⟨Prg.of Kn.prM,h3,h4,h5,Kn.there Kn.tdM⟩ E w ?_ cs
 show St G w (stP p pp σ::(Zc σ++(prM pp g::tdM σ.ths::q))++E)
 simp only [List.cons_append,List.append_assoc] at s3⊢
 exact s3
theorem Me {p pp N:Nat}{g:FC}{σ:StC}{t0:List TC}{q:List HP}(h:Hd (prM pp g::tdM t0::q) pp g N σ)(E:List HP):Le (stP p pp σ::(Zc σ++(E++(prM pp g::tdM t0::q)))) (gH p g.er N σ.er::(E++q)):=by
 have h1:Le (prM pp g::tdM t0::q) (tdM σ.ths::prM pp g::tdM t0::q):=Kn.add (φ:=fun M=>TodoAt M σ.ths) (mn:=fun e h=>TodoAt.mono e h) h.T
 have h2:Le (prM pp g::tdM t0::q) (prM pp g::tdM σ.ths::q):=h1.trans ((Le.swap _ _ _).trans (Le.cons _ (Le.cons _ (Le.drop _ _))))
 have h3:Le (E++(prM pp g::tdM t0::q)) ([prM pp g,tdM σ.ths]++(E++q)):=(Le.append_left E h2).trans (Ys E [prM pp g,tdM σ.ths] q)
 refine Df ((pp,g,σ):Nat×FC×StC) ?_;refine Le.trans ?_ (Z5 (pure (Pw g.er N σ.er g σ)::stP p pp σ::(Zc σ++ [prM pp g,tdM σ.ths])) (E++q));refine Le.trans (Le.cons _ (Le.append_left (Zc σ) h3)) (Le.trans (Qb (φ:=Pw g.er N σ.er g σ) ⟨rfl,rfl,h.M,h.F,h.G⟩ _) ?_)
 simp only [List.cons_append,List.append_assoc]
 exact Le.refl _
theorem SS.fine.cells {F:Fnd}{N:Nat}{s:SS}(h:s.fine F N)(hM:MayP F):s.cells.length≤1000:=by
 have h1:=h.ok.c;have h2:=hM.l.1;have h3:=hM.s
 omega
section
variable {G:World}{q:List HP}{p N:Nat}{F:Fnd}{s:SS}{g:FC}{z k:Int}{picks:List Int}{pa:Option Addr}{pc:Nat}
theorem S0 {l:Bs}(hT:J3 l=some g.er)(hK:Kn q fun M=>g.At M):CallF prog G 15 [.agg (pgC g).toArray] q (Ret fun v q'=> ∃ p,v= .tuple [.pointer (some ⟨p,0,none⟩),.int .i64 0].toArray∧q'=gH p g.er 0 (Yl g.er.pr)::q):=
 CallF.conv (Le.refl _) (pnew_ok (B:=14*65536) hK (FC.cp hT)) (by
  have hm:=(Gq hT).m
  have hM:=Sl hm
  rintro _ _ ⟨_,rfl,(⟨_,p,pp,g',σ,e1,e2,rfl,rfl⟩|⟨h0,_,_⟩)⟩
  · have hM':MayP g'.er:=by rw [e1];exact hM
    have hH:Hd (prM pp g'::tdM σ.ths::q) pp g' 0 σ:=⟨Prg.of Kn.prM,hM',by rw [e2,e1];exact Po hM,by rw [e2];rfl,Kn.there Kn.tdM⟩
    refine ⟨_,⟨_,rfl,p,rfl,rfl⟩,?_⟩
    rw [←e2,←e1]
    exact Me (E:= []) hH
  rw [hm] at h0;cases h0)
theorem Rm (hN:N+picks.length≤899)(hs:Sees q pa (picks.map I64))(hk: ∀ k∈picks, -9223372036854775808≤k∧k≤9223372036854775807):CallF prog G 16 [.pointer (some ⟨p,0,none⟩),.slice pa picks.length pc] (gH p F N s::q)
 (Ret fun v q'=> ∃ (L:List EvC) (a':Option Addr) (c':Nat),v= .tuple [.slice a' L.length c',.agg (otC ((Z8 F.pr s picks).1.outc F.pr)).toArray].toArray∧q'=gH p F (N+picks.length) (Z8 F.pr s picks).1::(Br a' c' L++q)∧L.map EvC.e=(Z8 F.pr s picks).2∧L.length≤picks.length):=
 Fq fun σ pp g e1 e2 hH=>CallF.conv (Le.refl _) (SRun_ok hH hN (hs.le ((Le.drop _ _).trans (Le.drop _ _))) hk) (by
  subst e1 e2
  rintro _ _ ⟨_,rfl,σ',L,a',c',rfl,rfl,hH',e3,e4,hl⟩
  refine ⟨_,⟨_,rfl,L,a',c',by rw [e3],rfl,e4,hl⟩,?_⟩
  rw [←e3]
  exact Me hH' (Br a' c' L))
theorem D8:CallF prog G 21 [.pointer (some ⟨p,0,none⟩)] (gH p F N s::q) (Ret fun v q'=> ∃ a' c',v= .slice a' s.cells.length c'∧q'=gH p F N s::lsH I64 2 a' c' s.cells::q):=
 Fq fun σ pp g e1 e2 hH=>CallF.conv (Le.refl _) (O3 (by have:=hH.F.cells hH.M;show σ.er.cells.length≤_;omega)) (by
  subst e1 e2
  rintro _ _ ⟨_,rfl,a',c',rfl,rfl⟩
  exact ⟨_,⟨_,rfl,a',c',rfl,rfl⟩,(Ys [_] (stP p pp σ::Zc σ) _).trans (Me hH [_])⟩)
theorem G1 (hN:N≤900):CallF prog G 37 [.pointer (some ⟨p,0,none⟩)] (gH p F N s::q) (Ret fun v q'=> ∃ p2,v= .pointer (some ⟨p2,0,none⟩)∧q'=gH p F N s::gH p2 F N s::q):=
 Fq fun σ pp g e1 e2 hH=>CallF.conv (Le.refl _) (Ce hH.F.ok hN (by have:=hH.F.cells hH.M;show σ.er.cells.length≤_;omega)) (by
  subst e1 e2
  rintro _ _ ⟨_,rfl,p2,σ2,e3,e4,rfl,rfl⟩
  refine ⟨_,⟨_,rfl,p2,rfl,rfl⟩,?_⟩
  have hH2:Hd (prM pp g::tdM σ.ths::q) pp g N σ2:=⟨hH.P,hH.M,e3 ▸ hH.F,e3 ▸ hH.G,hH.T.imp fun M h=>TodoAt.of e4 h⟩
  have d:Le (prM pp g::tdM σ.ths::q) ((prM pp g::tdM σ.ths:: [])++(prM pp g::tdM σ.ths::q)):=(Kn.add (φ:=fun M=>PrgM M pp g) (mn:=fun e h=>PrgM.mono e h) Kn.prM).trans (Le.cons _ (Kn.add (φ:=fun M=>TodoAt M σ.ths) (mn:=fun e h=>TodoAt.mono e h) (Kn.there Kn.tdM)))
  have a1:Le (stP p2 pp σ2::(Zc σ2++(stP p pp σ::(Zc σ++(prM pp g::tdM σ.ths::q))))) (stP p2 pp σ2::(Zc σ2++((stP p pp σ::Zc σ++ [prM pp g,tdM σ.ths])++(prM pp g::tdM σ.ths::q)))):=by
   refine Le.cons _ (Le.append_left _ ?_)
   simp only [List.cons_append,List.append_assoc]
   exact Le.cons _ (Le.append_left _ d)
  have a2:=Me (p:=p2) hH2 (stP p pp σ::Zc σ++ [prM pp g,tdM σ.ths])
  rw [e3] at a2
  have hH0:Hd (prM pp g::tdM σ.ths::q) pp g N σ:=hH
  have a3:Le ((stP p pp σ::Zc σ++ [prM pp g,tdM σ.ths])++q) (gH p g.er N σ.er::q):=by
   have:=Me (p:=p) hH0 []
   simp only [List.cons_append,List.append_assoc,List.nil_append] at this⊢
   exact this
  exact a1.trans (a2.trans ((Le.cons _ a3).trans (Le.swap _ _ _))))
end
theorem yH_call2 {P:Program}{G:World}{fn:FuncId}{vs:List Value}{p p2:Nat}{s s2:Sy}{R:Wx.Ug}(h: ∀ σ τ,Real σ s→Real τ s2→CallF P G fn vs (syL p σ++syL p2 τ) R):CallF P G fn vs [yH p s,yH p2 s2] R:=by
 intro F w st cs
 obtain ⟨σ,s1⟩:=St.get_ex st
 have s2_:=s1.le (Zs (pure (Real σ s)::syL p σ) _)
 have hr:=s2_.get_pure
 have s3:=s2_.le (Le.drop _ _)
 have s4:=s3.le (Ys (syL p σ) [yH p2 s2] F)
 obtain ⟨τ,s5⟩:=St.get_ex s4
 have s6:=s5.le (Zs (pure (Real τ s2)::syL p2 τ) _)
 refine h σ τ hr s6.get_pure F w ?_ cs
 have s7:=s6.le (Le.drop _ _)
 have s8:=s7.le (Ys (syL p2 τ) (syL p σ) F)
 rw [List.append_assoc]
 exact s8
theorem Le.yIn2 {p p2:Nat}{s s2:Sy}{σ τ:SyC}(h:Real σ s)(k:Real τ s2):Le (syL p σ++syL p2 τ) [yH p s,yH p2 s2]:=(Fs (p:=p) h _).trans (Le.cons _ (Uq k))
theorem stC_id (s:Stm):(stC s)[21]? =some (.int .i64 s.er.idn):=by
 obtain ⟨kk,ln,cl,nm,wt,⟨ek,en,enm,esl,elo,eop,el,ea,ec⟩,⟨xk,xn,xnm,xsl,xlo,xop,xl,xa,xc⟩,bd,es2,ba,bc,ea2,ec2,id,sl,ot,lo⟩:=s
 rfl
theorem PS.idK {q:List HP}{x:PS}(h:Kn q fun M=>x.At M):Cl q ⟨x.b,x.o+21,none⟩ (.int .i64 x.s.er.idn):=(Kn.sees (h.imp fun M h=>h.1)).cl (stC_id x.s)
section
variable {G:World}{q:List HP}{p p2 pp pp2 N N2 n:Nat}{g g2:FC}{σ σ2:StC}{a b:Option Addr}{c d:Nat}{x y:PS}{s s2:Sy}
theorem SameY_ok {M:Nat}(hs:s.ok M)(hM:M≤1000)(he:s2=s):CallF prog G 75 [.pointer (some ⟨p,0,none⟩),.pointer (some ⟨p2,0,none⟩)] [yH p s,yH p2 s2] (Ret fun v q'=>v= .bool true∧q'= [yH p s,yH p2 s2]):=by
 subst he
 exact yH_call2 fun σ τ h1 h2=>CallF.conv (Le.refl _) (Same_ok (SySee.of p σ (syL p2 τ)) ((SySee.of p2 τ (syL p σ)).le (by have:=Ys (syL p σ) (syL p2 τ) [];simpa using this)) h1 h2 hs hM) (by
  rintro _ _ ⟨_,rfl,rfl,rfl⟩
  exact ⟨_,⟨_,rfl,by rw [decide_eq_true (show D4 s2 s2 from ⟨rfl,rfl,rfl⟩)],rfl⟩,Le.yIn2 h1 h2⟩)
set_option maxHeartbeats 1000000 in
theorem Ie (hx:Kn q fun M=>x.At M)(hy:Kn q fun M=>y.At M)(he:x.s.er=y.s.er):CallF prog G 74 [x.v,y.v] (q) (Ret fun v q'=>v= .bool true∧q'=q):=by
 refine CallF.of func74 ntmps74 rfl (fun F cs=> ?_)
 have h1:=PS.idK hx;have h2:=PS.idK hy;rw [←he] at h2;unfold PS.v
 refine xx 5 ?_;refine drw ?_;refine dd [0,1,2] ?_;refine ldD 3 ?_ (hc:=(h1.le leA))
 refine dd [4,5,6] ?_;refine ldD 7 ?_ (hc:=(h2.le leA))
 refine dd [8,9] ?_;refine XD.nil ?_;refine X.know 4 (.bool true) rfl (by simp) ?_
 refine Zq (q) func74 (Zg results74 rfl) ⟨_,rfl,rfl,rfl⟩
set_option maxHeartbeats 1000000 in
theorem EqT_ok {l m:List PS}(hs:Sees q a (l.map PS.v))(ht:Sees q b (m.map PS.v))(hL:l.length≤1000000000)(he:l.map (fun y=>y.s.er)=m.map (fun y=>y.s.er))(hl: ∀ x∈l,Kn q fun M=>x.At M)(hm: ∀ x∈m,Kn q fun M=>x.At M):CallF prog G 73 [.slice a l.length c,.slice b m.length d,.func (.func 74) #[] #[]] (q) (Ret fun v q'=>v= .bool true∧q'=q):=by
 refine CallF.of func73 ntmps73 rfl (fun F cs=> ?_)
 have hle:l.length=m.length:=by have:=congrArg List.length he;simpa using this
 refine xx 13 ?_;refine X.know 14 (.bool false) rfl (congrArg Value.bool (by simp [hle])) ?_
 refine xx 10 ?_;refine X.at (X.loop (fun (s:Nat)=>s≤l.length) (fun s=> [(1,.slice b m.length d),(2,.func (.func 74) #[] #[]),(15,.slice a l.length c),(16,.int .i64 (l.length:Int)),(17,.int .i64 (s:Int))]) (fun s=>q++F) (fun s=>l.length - s) (fun s hi_ ih=> ?_) 0 (Nat.zero_le _)) Zd leA
 try dsimp only at hi_ ih⊢
 obtain hi:=hi_
 refine xx 5 ?_;refine X.part 18 rfl (fun h0=> ?_) (fun h0=> ?_)
 · replace h0:=sp h0;have hi:s<l.length:=(by omega);have hj:s<m.length:=(by omega);refine Yx (hs.le leA) (by rw [List.length_map];omega) (fun b1 o1 e1_=> ?_);have hs_:=hs;rw [e1_] at hs_;refine Yx (ht.le leA) (by rw [List.length_map];omega) (fun b2 o2 e2_=> ?_);have ht_:=ht;rw [e2_] at ht_;have hex:(l[s]).s.er=(m[s]).s.er:=(by have h5:=congrArg (·[s]?) he;simp only [List.getElem?_map,List.getElem?_eq_getElem hi,List.getElem?_eq_getElem hj,Option.map_some] at h5;exact Option.some.inj h5)
   refine xo 7 ?_;refine XO.know 15 (.slice (some ⟨b1,o1,none⟩) l.length c) rfl (by rw [←e1_]) ?_
   refine oo 1 ?_;refine ld ?_ (hc:=((hs_.le leA).at rfl hi))
   refine oo 7 ?_;refine XO.know 22 (.slice (some ⟨b2,o2,none⟩) m.length d) rfl (by rw [←e2_]) ?_
   refine oo 1 ?_;refine ld ?_ (hc:=((ht_.le leA).at rfl hj))
   refine oo 7 ?_;refine XO.cV (Yd call74 (Ie (q:=q) (x:=l[s]) (y:=m[s]) (hl _ (List.getElem_mem hi)) (hm _ (List.getElem_mem hj)) hex)) ?_
   rintro _ q1 ⟨rfl,h_1⟩ _ e_1;rw [h_1] at e_1;subst e_1
   refine Zt (Pu.not rfl) ?_;refine ox 1 ?_;refine kx 30 7 ?_;refine X.know 15 (.slice a l.length c) rfl (by rw [e1_]) ?_
   refine X.at (ih (s+1) (by omega) (by omega)) Zd leA
 refine xx 6 ?_;refine Zq (q) func73 (Zg results73 rfl) ⟨_,rfl,rfl,rfl⟩
set_option maxHeartbeats 16000000 in
theorem I0 (hok:SS.ok g.er N σ.er)(hT:Kn q fun M=>TodoAt M σ.ths)(hok2:SS.ok g2.er N2 σ2.er)(hT2:Kn q fun M=>TodoAt M σ2.ths)(he:σ2.er=σ.er)(hg:g2.er=g.er)(hN:N≤900)(hN2:N2≤900)(hcl:σ.cells.length≤1000000000):CallF prog G 38 [.pointer (some ⟨p,0,none⟩),.pointer (some ⟨p2,0,none⟩)] (stP p pp σ::(Zc σ++(stP p2 pp2 σ2::(Zc σ2++q)))) (Ret fun v q'=>v= .bool true∧q'=stP p pp σ::(Zc σ++(stP p2 pp2 σ2::(Zc σ2++q)))):=by
 refine CallF.of func38 ntmps38 rfl (fun F cs=> ?_)
 change X _ _ _ _ _ _ _ _ (stP p pp σ::lsH I64 2 σ.ca σ.cc σ.cells::yH σ.sp σ.sy::rsH trC 5 116 σ.ha σ.hc σ.ths::stars (σ.ths.map trH)::stP p2 pp2 σ2::lsH I64 2 σ2.ca σ2.cc σ2.cells::yH σ2.sp σ2.sy::rsH trC 5 116 σ2.ha σ2.hc σ2.ths::stars (σ2.ths.map trH)::(q++F))
 have hcel:σ2.cells=σ.cells:=congrArg SS.cells he;have hsy:σ2.sy=σ.sy:=congrArg SS.sy he;have hths:σ2.ths.map TC.er=σ.ths.map TC.er:=congrArg SS.ths he;have hl2:σ2.ths.length=σ.ths.length:=(by have:=congrArg List.length hths;simpa using this);have h8:σ.ths.length≤8:=(by have:=hok.t.2;rw [StC.nth] at this;exact this)
 have hcb:σ.cells.length≤1000000000:=hcl
 refine xo 8 ?_;refine XO.cR call49 (Vr (p:=p) (pp:=pp) clA) ?_
 refine Zt (Pu.not rfl) ?_;refine oo 1 ?_;refine Mw 13 ?_;refine oo 1 ?_;refine XO.cR call49 (Vr (p:=p2) (pp:=pp2) clA) ?_
 refine Zt (Pu.not rfl) ?_;refine ox 2 ?_;refine kx 17 4 ?_;refine drw ?_;refine dd [0,2] ?_;refine Y5 1 call22 (Le.pick Zk (Le.pick Zk (Le.pick Zk (Le.pick Zk Zk)))) ((Kr (p:=p) (pp:=pp) (σ:=σ) (g:=g) (N:=N) hok hN (hT.le leA):CallF prog G 22 _ (stP p pp σ::lsH I64 2 σ.ca σ.cc σ.cells::yH σ.sp σ.sy::rsH trC 5 116 σ.ha σ.hc σ.ths::stars (σ.ths.map trH)::_) _)) ?_
 rintro _ _ ⟨rfl,rfl⟩
 refine ⟨trivial,?_⟩
 simp only [Zc,ca,na]
 refine Y5 3 call22 (Le.pick Zk (Le.pick Zk (Le.pick Zk (Le.pick Zk Zk)))) ((Kr (p:=p2) (pp:=pp2) (σ:=σ2) (g:=g2) (N:=N2) hok2 hN2 (hT2.le leA):CallF prog G 22 _ (stP p2 pp2 σ2::lsH I64 2 σ2.ca σ2.cc σ2.cells::yH σ2.sp σ2.sy::rsH trC 5 116 σ2.ha σ2.hc σ2.ths::stars (σ2.ths.map trH)::_) _)) ?_
 rintro _ _ ⟨rfl,rfl⟩
 refine ⟨trivial,?_⟩
 simp only [Zc,ca,na]
 rw [he,hg]
 refine J7 4 rfl (Pu.neqA rfl rfl (by kernel_rfl) (EqV.struct underlying41 (by kernel_rfl) (by kernel_rfl) ⟨_,_,_,_,rfl,rfl,isAgg38,(EqV.int underlying38 _ _),⟨_,_,_,_,rfl,rfl,isAgg39,(EqV.int underlying39 _ _),⟨_,_,_,_,rfl,rfl,isAgg3,(EqV.int underlying3 _ _),⟨_,_,_,_,rfl,rfl,isAgg3,(EqV.int underlying3 _ _),rfl,rfl⟩,rfl⟩,rfl⟩,rfl⟩)) ?_
 refine dd [5] ?_;refine XD.know 31 (.bool false) rfl (congrArg Value.bool (by simp)) ?_
 refine dl [6,7,8] 9 ?_;refine dl [10,11,12] 13 ?_;refine Ym 14 call71 (Nz (l:=σ.cells) (m:=σ2.cells) ((Sees.lsH (a:=σ.ca) (c:=σ.cc) (ty:=2) _).le Zk) ((Sees.lsH (a:=σ2.ca) (c:=σ2.cc) (ty:=2) _).le Zk) (by have h1:=hok.c;have:=hcb;omega)) ?_
 refine XD.know 40 (.bool true) rfl (by rw [decide_eq_true hcel.symm]) ?_
 refine J7 15 rfl (Pu.not rfl) ?_;refine dd [16,17] ?_;refine XD.kf 43 ?_;refine dd [18,20] ?_;refine Y5 19 call41 (Le.pick Zk (Le.pick Zk (Le.pick Zk (Le.pick Zk Zk)))) ((Hz (p:=p) (pp:=pp) (σ:=σ)  :CallF prog G 41 _ (stP p pp σ::lsH I64 2 σ.ca σ.cc σ.cells::yH σ.sp σ.sy::rsH trC 5 116 σ.ha σ.hc σ.ths::stars (σ.ths.map trH)::_) _)) ?_
 rintro _ _ ⟨rfl,rfl⟩
 refine ⟨trivial,?_⟩
 simp only [Zc,ca,na]
 refine Y5 21 call41 (Le.pick Zk (Le.pick Zk (Le.pick Zk (Le.pick Zk Zk)))) ((Hz (p:=p2) (pp:=pp2) (σ:=σ2)  :CallF prog G 41 _ (stP p2 pp2 σ2::lsH I64 2 σ2.ca σ2.cc σ2.cells::yH σ2.sp σ2.sy::rsH trC 5 116 σ2.ha σ2.hc σ2.ths::stars (σ2.ths.map trH)::_) _)) ?_
 rintro _ _ ⟨rfl,rfl⟩
 refine ⟨trivial,?_⟩
 simp only [Zc,ca,na]
 refine dd [22,23] ?_;refine XD.nil ?_;refine X.know 49 (.bool false) rfl (congrArg Value.bool (by rw [hl2];simp)) ?_
 refine xj 8 ?_;refine ox 4 ?_;refine X.at (X.loop (fun (s:Nat)=>s≤σ.ths.length) (fun s=> [(0,.pointer (some ⟨p,0,none⟩)),(1,.pointer (some ⟨p2,0,none⟩)),(54,.int .i64 (σ.ths.length:Int)),(55,.int .i64 (s:Int))]) (fun s=>stP p pp σ::lsH I64 2 σ.ca σ.cc σ.cells::yH σ.sp σ.sy::rsH trC 5 116 σ.ha σ.hc σ.ths::stars (σ.ths.map trH)::stP p2 pp2 σ2::lsH I64 2 σ2.ca σ2.cc σ2.cells::yH σ2.sp σ2.sy::rsH trC 5 116 σ2.ha σ2.hc σ2.ths::stars (σ2.ths.map trH)::(q++F)) (fun s=>σ.ths.length - s) (fun s hi_ ih=> ?_) 0 (Nat.zero_le _)) Zd leA
 try dsimp only at hi_ ih⊢
 obtain hi:=hi_
 refine xx 5 ?_;refine X.part 56 rfl (fun h0=> ?_) (fun h0=> ?_)
 · replace h0:=sp h0;have hlt:s<σ.ths.length:=(by omega);have hlt2:s<σ2.ths.length:=(by omega);have hte:(σ2.ths[s]).er=(σ.ths[s]).er:=(by have h5:=congrArg (·[s]?) hths;simp only [List.getElem?_map,List.getElem?_eq_getElem hlt,List.getElem?_eq_getElem hlt2,Option.map_some] at h5;exact Option.some.inj h5);have hko:=hok.at hlt;have hkl:σ.ths[s].loc.length≤32:=hko.l;have hkp:σ.ths[s].sp.length≤8:=hko.p.1;have hkn:=hko.n;rw [W2] at hkn
   refine Yz (l:=σ.ths) (by omega) (fun ga ea_=> ?_);have hr1: ∀ r,Sees (rsH trC 5 116 σ.ha σ.hc σ.ths::r) (some ⟨ga,0,none⟩) (σ.ths.flatMap trC):=fun r=>by rw [←ea_];exact Sees.rsH r
   refine Yz (l:=σ2.ths) (by omega) (fun gb eb_=> ?_);have hr2: ∀ r,Sees (rsH trC 5 116 σ2.ha σ2.hc σ2.ths::r) (some ⟨gb,0,none⟩) (σ2.ths.flatMap trC):=fun r=>by rw [←eb_];exact Sees.rsH r
   refine xo 13 ?_;refine Zf call39 (Le.pick Zk (Le.pick Zk (Le.pick Zk (Le.pick Zk Zk)))) ((B8 (p:=p) (pp:=pp) (σ:=σ) (g:=g) (N:=N) (n:=s) hok hN hlt (hT.le leA):CallF prog G 39 _ (stP p pp σ::lsH I64 2 σ.ca σ.cc σ.cells::yH σ.sp σ.sy::rsH trC 5 116 σ.ha σ.hc σ.ths::stars (σ.ths.map trH)::_) _)) ?_
   rintro _ _ ⟨x,⟨hx1,hx2,hx3,hx4,hx5⟩,rfl,rfl⟩
   simp only [Zc,ca,na]
   refine oo 3 ?_;refine XO.al zeroValue101 fun n1=> ?_
   refine stA ?_;refine oo 6 ?_;refine Zf call39 (Le.pick Zk (Le.pick Zk (Le.pick Zk (Le.pick Zk Zk)))) ((B8 (p:=p2) (pp:=pp2) (σ:=σ2) (g:=g2) (N:=N2) (n:=s) hok2 hN2 hlt2 (hT2.le leA):CallF prog G 39 _ (stP p2 pp2 σ2::lsH I64 2 σ2.ca σ2.cc σ2.cells::yH σ2.sp σ2.sy::rsH trC 5 116 σ2.ha σ2.hc σ2.ths::stars (σ2.ths.map trH)::_) _)) ?_
   rintro _ _ ⟨⟨yd,ys,yla,ylc,yl,yn,ysa,ysc,ysp⟩,⟨hy1,hy2,hy3,hy4,hy5⟩,rfl,rfl⟩
   simp only [Zc,ca,na]
   dsimp only at hy1 hy2 hy3 hy4 hy5⊢;have e1:yd=x.decl:=(by rw [hy1,hx1];exact congrArg PTr.decl hte);have e2:ys=x.st:=(by rw [hy2,hx2];exact congrArg PTr.st hte);have e3:yl=x.loc:=(by rw [hy3,hx3];exact congrArg PTr.loc hte);have e4:yn=x.nx:=(by rw [hy4,hx4,hte]);have e5:ysp=x.sp:=(by rw [hy5,hx5];exact congrArg PTr.sp hte);clear hy1 hy2 hy3 hy4 hy5;subst e1 e2 e3 e4 e5;rw [←hx3] at hkl;rw [←hx5] at hkp
   refine oo 3 ?_;refine XO.al zeroValue101 fun n2=> ?_
   refine stA ?_;refine ol 6 ?_;refine ol 1 ?_;refine oo 2 ?_;refine XO.know 75 (.bool false) rfl (congrArg Value.bool (by simp)) ?_
   refine ol 1 ?_;refine ol 1 ?_;refine oo 3 ?_;refine XO.know 82 (.bool false) rfl (congrArg Value.bool (by simp)) ?_
   refine ol 1 ?_;refine ol 1 ?_;refine ox 3 ?_;refine X.know 88 (.bool false) rfl (congrArg Value.bool (by simp)) ?_
   refine xj 6 ?_;refine ol 1 ?_;refine XO.cR call71 (Nz (l:=x.loc) (m:=x.loc) ((Sees.lsH (a:=x.la) (c:=x.lc) (ty:=2) _).le Zk) ((Sees.lsH (a:=yla) (c:=ylc) (ty:=2) _).le Zk) (by omega)) ?_
   refine Zt (Pu.not rfl) ?_;refine oo 1 ?_;refine XO.know 95 (.bool false) rfl (congrArg Value.bool (by simp)) ?_
   refine ol 1 ?_;refine ol 1 ?_;refine XO.cR call72 (Du (l:=x.sp) (m:=x.sp) ((Sees.lsH (a:=x.sa) (c:=x.sc) (ty:=3) _).le Zk) ((Sees.lsH (a:=ysa) (c:=ysc) (ty:=3) _).le Zk) (by omega)) ?_
   refine Zt (Pu.not rfl) ?_;refine ox 2 ?_;refine X.know 102 (.bool false) rfl (congrArg Value.bool (by simp)) ?_
   refine xx 3 ?_;refine drw ?_;refine dl [0,1,2] 3 ?_;refine dd [4] ?_;refine XD.know 106 (.slice (some ⟨ga,0,none⟩) σ.ths.length σ.hc) rfl (by rw [←ea_]) ?_
   refine dd [5,6] ?_;refine ldD 7 ?_ (hc:=(Cl.row (j:=s) (n:=s) (hr1 _) leA Zy hlt rfl 3 _ rfl))
   refine XD.know 110 (.slice σ.ths[s].ta σ.ths[s].todo.length σ.ths[s].tc) rfl (rfl) ?_;refine dl [8,9,10] 11 ?_;refine dd [12] ?_;refine XD.know 114 (.slice (some ⟨gb,0,none⟩) σ2.ths.length σ2.hc) rfl (by rw [←eb_]) ?_
   refine dd [13,14] ?_;refine ldD 15 ?_ (hc:=(Cl.row (j:=s) (n:=s) (hr2 _) leA Zy hlt2 rfl 3 _ rfl))
   refine XD.know 118 (.slice σ2.ths[s].ta σ2.ths[s].todo.length σ2.ths[s].tc) rfl (rfl) ?_;refine Ym 16 call73 (EqT_ok (l:=σ.ths[s].todo) (m:=σ2.ths[s].todo) ((Sees.todo hlt).le Zk) ((Sees.todo hlt2).le Zk) (by omega) (by have:=congrArg PTr.left hte;exact (List.reverse_inj.1 this).symm) (fun x hx=>(hT.le leA).imp fun M h=>h _ (List.getElem_mem hlt) x hx) (fun x hx=>(hT2.le leA).imp fun M h=>h _ (List.getElem_mem hlt2) x hx)) ?_ (hL:=(hlA (h:=by repeat first|exact trivial|refine ⟨clA,?_⟩|refine ⟨(Cl.row (j:=s) (n:=s) (hr1 _) leA Zy hlt rfl 3 _ rfl),?_⟩|refine ⟨(Cl.row (j:=s) (n:=s) (hr2 _) leA Zy hlt2 rfl 3 _ rfl),?_⟩)))
   refine J7 17 rfl (Pu.not rfl) ?_;refine XD.nil ?_;refine X.know 120 (.bool false) rfl (congrArg Value.bool (by simp)) ?_
   refine xx 7 ?_;refine X.at (ih (s+1) (by omega) (by omega)) Zd leA
 clear ih
 refine xx 3 ?_;refine drw ?_;refine dl [0,1,2] 3 ?_;refine dl [4,5,6] 7 ?_;refine Uy 8 call75 (SameY_ok (p:=σ.sp) (p2:=σ2.sp) (s:=σ.sy) (s2:=σ2.sy) (M:=N) hok.y (by omega) hsy) ?_
 rintro _ _ ⟨rfl,rfl⟩ _ e_;simp only [ca,na] at e_;subst e_
 refine ⟨trivial,?_⟩
 refine dd [9] ?_;refine XD.nil ?_;refine Zq (stP p pp σ::(Zc σ++(stP p2 pp2 σ2::(Zc σ2++q)))) func38 (Zg results38 rfl) ⟨_,rfl,rfl,rfl⟩ (by unfold Zc;exact leA)
end
theorem la_info3:(prog.info? 3).map (fun i=>(i.zero,i.size,i.bytes))=some (some (.int .i64 0),1,8):=by kernel_rfl
def Mk (s:ByteArray):Option Fnd:=if 3000<s.size then none else J3 (bs s)
theorem R8 {s:ByteArray}{F:Fnd}(h:Mk s=some F):J3 (bs s)=some F:=by
 unfold Mk at h
 split at h
 · cases h
 exact h
inductive PrIs (s:ByteArray) (g:FC):Bool→Prop
 |no (h:Mk s=none):PrIs s g false
 |yes (h:Mk s=some g.er):PrIs s g true
abbrev knB:ByteArray:=⟨#[118,97,114,32,120,32,61,32,49,59,32,116,104,114,101,97,100,32,109,97,105,110,32,123,32,120,32,61,32,120,32,43,32,49,59,32,112,114,105,110,116,32,120,59,32,125]⟩
def knE (F:Fnd):Bool:=
 let r:=Z8 F.pr (Yl F.pr) [0,0,0]
 r.2.length==2 && ((r.2.getD 1 zE0).outv==2 && (r.2.getD 1 zE0).told && (r.1.outc F.pr).kind==2 && r.1.cells== [2])
def knS:Bool:=match Mk knB with|none=>false|some F=>knE F
theorem knS_ok:knS=true:=by decide+kernel
theorem knS_at: ∃ F,Mk knB=some F∧knE F=true:=by
 have h:=knS_ok
 unfold knS at h
 split at h
 · cases h
 rename_i F hF;exact ⟨F,hF,h⟩
structure KnRun (F:Fnd) (L:List PEv) (s:SS):Prop where
 l: ∃ a b,L= [a,b]∧b.outv=2∧b.told=true
 o:(s.outc F.pr).kind=2
 c:s.cells= [2]
theorem knE_at {F:Fnd}(h:knE F=true):KnRun F (Z8 F.pr (Yl F.pr) [0,0,0]).2 (Z8 F.pr (Yl F.pr) [0,0,0]).1:=by
 unfold knE at h
 dsimp only at h
 generalize Z8 F.pr (Yl F.pr) [0,0,0]=r at h⊢
 obtain ⟨s,L⟩:=r
 simp only [Bool.and_eq_true,beq_iff_eq] at h
 obtain ⟨h1,⟨⟨h2,h3⟩,h4⟩,h5⟩:=h
 refine ⟨?_,h4,h5⟩
 match L,h1 with
 | [a,b],_=>exact ⟨a,b,rfl,h2,h3⟩
section
variable {G:World}{q:List HP}{s:ByteArray}
set_option maxHeartbeats 4000000 in
theorem Sp:CallF prog G 13 [.string s] (q) (Ret fun v q'=> ∃ (g:FC) (bb:Bool),v= .tuple [.agg (pgC g).toArray,.bool bb].toArray∧q'=fcM g::q∧PrIs s g bb):=by
 refine CallF.of func13 ntmps13 rfl (fun F cs=> ?_)
 refine xo 2 ?_;refine XO.al zeroValue29 fun n1=> ?_
 refine ox 9 ?_;refine X.part 9 rfl (fun h0=> ?_) (fun h0=> ?_)
 · replace h0:=sp h0;have hp:Mk s=none:=(by unfold Mk;rw [if_pos (by omega)])
   refine xo 4 ?_;refine stA ?_;refine ox 2 ?_;refine X.le (q':=fcM FC.z::_) (Kn.add (fun _ _ _=>Tq _)) ?_
   refine Zq (fcM FC.z::q) func13 (H9 results13) ⟨_,rfl,FC.z,false,rfl,rfl,.no hp⟩
 replace h0:=sp h0;have hp:Mk s=J3 (bs s):=(by unfold Mk;rw [if_neg (by omega)])
 refine xo 5 ?_;refine Zf call43 (Le.refl _) (text_ok (s:=s)) ?_
 rintro _ _ ⟨g,y,z,e,rfl,rfl,hF⟩
 refine oo 4 ?_;refine XO.al zeroValue29 fun n2=> ?_
 refine XO.al zeroValue107 fun n3=> ?_
 refine stA ?_;refine stA ?_;refine oo 4 ?_;refine ldA ?_;refine oo 2 ?_;refine stA ?_;refine ox 2 ?_;refine Zq (fcM g::q) func13 (H9 results13) ⟨_,rfl,g,decide (e=0),rfl,rfl,by cases hx:J3 (bs s) with|none=>(rw [hx] at hF;rw [decide_eq_false hF];exact .no (hp.trans hx))|some F=>(rw [hx] at hF;rw [decide_eq_true hF.1];exact .yes (by rw [hF.2];exact hp.trans hx))⟩
set_option maxHeartbeats 8000000 in
theorem Bm:CallF prog G 14 [] (q) (Ret fun v q'=>v= .bool true∧q'=q):=by
 refine CallF.of func14 ntmps14 rfl (fun F cs=> ?_)
 obtain ⟨F,hF,hE⟩:=knS_at;have hR:=knE_at hE
 refine xo 6 ?_;refine Zf call13 (Le.refl _) (Sp (s:=knB)) ?_
 rintro _ _ ⟨g,bb,rfl,rfl,hP⟩
 obtain ⟨rfl,hg⟩:bb=true∧g.er=F:=(by cases hP with|no h=>(rw [hF] at h;cases h)|yes h=>(rw [hF] at h;exact ⟨rfl,(Option.some.inj h).symm⟩));have hT:=R8 hF;rw [←hg] at hT hR
 refine oo 3 ?_;refine XO.al zeroValue29 fun n1=> ?_
 refine stA ?_;refine oo 4 ?_;refine ldA ?_;refine Vz call15 (S0 (q:= [fcM g]) hT Kn.fc) ?_
 rintro _ _ ⟨p,rfl,rfl⟩ _ e_;simp only [ca,na] at e_;subst e_
 refine oo 9 ?_;refine XO.ef (Y0 I64 [0,0,0] underlying22 la_info3 rfl rfl rfl rfl rfl rfl (fun _=>rfl)) ?_
 rintro _ _ ⟨g3,rfl,rfl⟩
 refine Vz call16 (Rm (p:=p) (N:=0) (F:=g.er) (q:= [lsH I64 3 (some ⟨g3,0,none⟩) 3 [0,0,0]]) (picks:= [0,0,0]) (by decide) (Sees.lsH _) (fun k hk=>by simp at hk;omega)) ?_
 rintro _ _ ⟨L,a1,c1,rfl,rfl,hL,hl⟩ _ e_;simp only [ca,na] at e_;subst e_
 simp only [Br,ca,na]
 obtain ⟨r,r2⟩: ∃ r:SS×List PEv,r=Z8 g.er.pr (Yl g.er.pr) [0,0,0]:=⟨_,rfl⟩;rw [←r2] at hR hL⊢;obtain ⟨⟨e0,e1,hl2,ho,ht⟩,hk,hc⟩:=hR;rw [hl2] at hL
 obtain ⟨x0,x1,rfl⟩: ∃ a b,L= [a,b]:=(by match L,hL with| [a,b],_=>exact ⟨a,b,rfl⟩)
 have hx1:x1.e=e1:=(by simp only [List.map_cons,List.map_nil,List.cons.injEq,and_true] at hL;exact hL.2);rw [←hx1] at ho ht
 refine Cg (l:= [x0,x1]) (Nat.zero_lt_succ 1) (fun gb e_=> ?_)
 have hs1: ∀ r,Sees (rsH evC 9 47 a1 c1 [x0,x1]::r) (some ⟨gb,0,none⟩) ([x0,x1].flatMap evC):=fun r=>by rw [←e_];exact Sees.rsH r
 refine oo 3 ?_;refine XO.al zeroValue41 fun n2=> ?_
 refine oo 1 ?_;refine stA ?_;refine oo 5 ?_;refine XO.kt 23 ?_;refine oo 4 ?_;refine XO.kt 27 ?_;refine oo 5 ?_;refine XO.kt 32 ?_;refine oo 1 ?_;refine XO.know 33 (.slice (some ⟨gb,0,none⟩) [x0,x1].length c1) rfl (by rw [←e_]) ?_
 refine oo 2 ?_;refine ld ?_ (hc:=(Cl.row (j:=1) (n:=1) (hs1 _) leA Rn (Nat.lt_succ_self 1) rfl 6 _ rfl))
 refine oo 3 ?_;refine XO.know 39 (.bool true) rfl (congrArg Value.bool (decide_eq_true ho)) ?_;refine oo 1 ?_;refine XO.know 40 (.slice (some ⟨gb,0,none⟩) [x0,x1].length c1) rfl (by rw [←e_]) ?_
 refine oo 2 ?_;refine ld ?_ (hc:=(Cl.row (j:=1) (n:=1) (hs1 _) leA Rn (Nat.lt_succ_self 1) rfl 5 _ rfl))
 refine oo 2 ?_;refine XO.know 45 (.bool true) rfl (congrArg Value.bool (ht)) ?_;refine ol 1 ?_;refine oo 3 ?_;refine XO.know 50 (.bool true) rfl (congrArg Value.bool (decide_eq_true hk)) ?_;refine oo 1 ?_;refine Vz call21 (D8 (p:=p) (F:=g.er) (N:=0+ [0,0,0].length) (s:=r.1) (q:= [])) ?_
 rintro _ _ ⟨a52,c52,rfl,rfl⟩ _ e_;simp only [ca,na] at e_;subst e_
 rw [hc]
 refine oo 4 ?_;refine XO.kt 56 ?_;refine oo 1 ?_;refine Vz call21 (D8 (p:=p) (F:=g.er) (N:=0+ [0,0,0].length) (s:=r.1) (q:= [])) ?_
 rintro _ _ ⟨a58,c58,rfl,rfl⟩ _ e_;simp only [ca,na] at e_;subst e_
 rw [hc]
 refine XO.lsadr (a:=a58) (c:=c58) (l:=([2]:List Int)) (Nat.zero_lt_succ 0) (fun gd e2_=> ?_)
 have hs2: ∀ r,Sees (lsH I64 2 a58 c58 [2]::r) (some ⟨gd,0,none⟩) (([2]:List Int).map I64):=fun r=>by rw [←e2_];exact Sees.lsH r
 refine XO.know 58 (.slice (some ⟨gd,0,none⟩) ([2]:List Int).length c58) rfl (by rw [←e2_]) ?_
 refine oo 1 ?_;refine ld ?_ (hc:=(((hs2 _).le leA).at rfl (Nat.zero_lt_succ 0)))
 refine ox 4 ?_;refine Zq (q) func14 (Zg results14 rfl) ⟨_,rfl,rfl,rfl⟩
end
theorem gH_call2 {P:Program}{G:World}{fn:FuncId}{vs:List Value}{p p2:Nat}{F F2:Fnd}{N N2:Nat}{s s2:SS}{q:List HP}{R:Wx.Ug}
 (h: ∀ (σ σ2:StC) (pp pp2:Nat) (g g2:FC),g.er=F→g2.er=F2→σ.er=s→σ2.er=s2→Hd (prM pp g::tdM σ.ths::prM pp2 g2::tdM σ2.ths::q) pp g N σ→Hd (prM pp g::tdM σ.ths::prM pp2 g2::tdM σ2.ths::q) pp2 g2 N2 σ2→
  CallF P G fn vs (stP p pp σ::(Zc σ++(stP p2 pp2 σ2::(Zc σ2++(prM pp g::tdM σ.ths::prM pp2 g2::tdM σ2.ths::q))))) R):CallF P G fn vs (gH p F N s::gH p2 F2 N2 s2::q) R:=by
 intro E w st cs
 obtain ⟨⟨pp,g,σ⟩,s1⟩:=St.get_ex st
 have s2_:=s1.le (Zs _ (gH p2 F2 N2 s2::(q++E)))
 obtain ⟨e1,e2,h3,h4,h5⟩:=s2_.get_pure
 have s3:=s2_.le (Le.drop _ _)
 dsimp only at s3
 have s4:=s3.le (Ys (stP p pp σ::(Zc σ++ [prM pp g,tdM σ.ths])) [gH p2 F2 N2 s2] (q++E))
 obtain ⟨⟨pp2,g2,σ2⟩,s5⟩:=St.get_ex s4
 have s6:=s5.le (Zs _ ((stP p pp σ::(Zc σ++ [prM pp g,tdM σ.ths]))++(q++E)))
 obtain ⟨k1,k2,k3,k4,k5⟩:=s6.get_pure
 have s7:=s6.le (Le.drop _ _)
 dsimp only at s7 e1 e2 k1 k2
 subst e1 e2 k1 k2
 have kT:Kn (prM pp g::tdM σ.ths::prM pp2 g2::tdM σ2.ths::q) fun M=>TodoAt M σ2.ths:=(Kn.tdM (q:=q)).there.there.there
 have kP:Prg (prM pp g::tdM σ.ths::prM pp2 g2::tdM σ2.ths::q) pp2 g2:=(Prg.of (Kn.prM (q:=tdM σ2.ths::q))).le ((Le.drop _ _).trans (Le.drop _ _))
 refine h σ σ2 pp pp2 g g2 rfl rfl rfl rfl ⟨Prg.of Kn.prM,h3,h4,h5,Kn.there Kn.tdM⟩ ⟨kP,k3,k4,k5,kT⟩ E w ?_ cs
 refine s7.le ?_
 simp only [List.cons_append,List.append_assoc,List.nil_append]
 -- stP2 :: staL2 ++ (prM2 :: tdM2 :: (stP1 :: staL1 ++ (prM1 :: tdM1 :: (q ++ E))))
 have a1:=Ys (stP p2 pp2 σ2::(Zc σ2++ [prM pp2 g2,tdM σ2.ths])) (stP p pp σ::Zc σ) (prM pp g::tdM σ.ths::(q++E))
 have a2:=Le.append_left (stP p pp σ::Zc σ) (Le.append_left (stP p2 pp2 σ2::Zc σ2) (Ys [prM pp2 g2,tdM σ2.ths] [prM pp g,tdM σ.ths] (q++E)))
 simp only [List.cons_append,List.append_assoc,List.nil_append] at a1 a2⊢
 exact a1.trans a2
section
variable {G:World}{q:List HP}{p p2 N N2:Nat}{F:Fnd}{s:SS}
theorem G0 (hN:N≤900)(hN2:N2≤900):CallF prog G 38 [.pointer (some ⟨p,0,none⟩),.pointer (some ⟨p2,0,none⟩)] (gH p F N s::gH p2 F N2 s::q) (Ret fun v q'=>v= .bool true∧q'=gH p F N s::gH p2 F N2 s::q):=
 gH_call2 fun σ σ2 pp pp2 g g2 e1 e2 e3 e4 hH hH2=>CallF.conv (Le.refl _) (I0 hH.F.ok hH.T hH2.F.ok hH2.T (e4.trans e3.symm) (e2.trans e1.symm) hN hN2 (by have:=hH.F.cells hH.M;show σ.er.cells.length≤_;omega)) (by
  rintro _ _ ⟨_,rfl,rfl,rfl⟩
  refine ⟨_,⟨_,rfl,rfl,rfl⟩,?_⟩
  have hA:Hd (prM pp g::tdM σ.ths::q) pp g N σ:=⟨Prg.of Kn.prM,hH.M,hH.F,hH.G,Kn.there Kn.tdM⟩
  have hB:Hd (prM pp2 g2::tdM σ2.ths::q) pp2 g2 N2 σ2:=⟨Prg.of Kn.prM,hH2.M,hH2.F,hH2.G,Kn.there Kn.tdM⟩
  have a1:Le (stP p2 pp2 σ2::(Zc σ2++(prM pp g::tdM σ.ths::prM pp2 g2::tdM σ2.ths::q))) ((stP p2 pp2 σ2::(Zc σ2++ [prM pp2 g2,tdM σ2.ths]))++(prM pp g::tdM σ.ths::q)):=by
   have a:=Le.append_left (stP p2 pp2 σ2::Zc σ2) (Ys [prM pp g,tdM σ.ths] [prM pp2 g2,tdM σ2.ths] q)
   simp only [List.cons_append,List.append_assoc,List.nil_append] at a⊢
   exact a
  have a2:=Me (p:=p) hA (stP p2 pp2 σ2::(Zc σ2++ [prM pp2 g2,tdM σ2.ths]))
  have a3:Le ((stP p2 pp2 σ2::(Zc σ2++ [prM pp2 g2,tdM σ2.ths]))++q) (gH p2 g2.er N2 σ2.er::q):=by
   have:=Me (p:=p2) hB []
   simp only [List.cons_append,List.append_assoc,List.nil_append] at this⊢
   exact this
  have a4:=(Le.cons (stP p pp σ) (Le.append_left (Zc σ) a1)).trans (a2.trans (Le.cons _ a3))
  rw [e1,e2,e3,e4] at a4
  exact a4)
end
section
variable {G:World}{q:List HP}{s:ByteArray}{ah bh:List Int}{pa pb:Option Addr}{pc pd:Nat}
set_option maxHeartbeats 8000000 in
theorem Rj (hs:Sees q pa (ah.map I64))(hk: ∀ k∈ah, -9223372036854775808≤k∧k≤9223372036854775807)(ht:Sees q pb (bh.map I64))(hm: ∀ k∈bh, -9223372036854775808≤k∧k≤9223372036854775807)(hl1:ah.length≤4611686018427387903)(hl2:bh.length≤4611686018427387903):CallF prog G 11 [.string s,.slice pa ah.length pc,.slice pb bh.length pd] (q) (Ret fun v q'=>v= .bool true∧q'=q):=by
 refine CallF.of func11 ntmps11 rfl (fun F cs=> ?_)
 refine xo 7 ?_;refine Zf call13 (Le.refl _) (Sp (s:=s)) ?_
 rintro _ _ ⟨gF,bb,rfl,rfl,hP⟩
 rcases hP with hP|hP
 iterate 2
  focus
   refine oo 3 ?_;refine XO.al zeroValue29 fun n1=> ?_
   refine stA ?_;refine oo 6 ?_;refine Zt (Pu.not rfl) ?_;refine oo 1 ?_
  rotate_left
 · refine XO.kt 20 ?_;refine oo 11 ?_;refine Vz call14 (Bm (q:= [])) ?_
   rintro _ _ ⟨rfl,rfl⟩ _ e_;simp only [ca,na] at e_;subst e_
   refine ox 2 ?_;refine Zq (q) func11 (Zg results11 rfl) ⟨_,rfl,rfl,rfl⟩
 refine Mw 20 ?_;refine ox 8 ?_;refine X.part 27 rfl (fun h0=> ?_) (fun h0=> ?_)
 · refine xo 3 ?_;refine Vz call14 (Bm (q:= [])) ?_
   rintro _ _ ⟨rfl,rfl⟩ _ e_;simp only [ca,na] at e_;subst e_
   refine ox 2 ?_;refine Zq (q) func11 (Zg results11 rfl) ⟨_,rfl,rfl,rfl⟩
 replace h0:=sp h0;have hlp:ah.length+bh.length≤60:=(by omega);have hT:=R8 hP
 refine xo 4 ?_;refine ldA ?_;refine Vz call15 (S0 (q:= [fcM gF]) hT Kn.fc) ?_
 rintro _ _ ⟨p,rfl,rfl⟩ _ e_;simp only [ca,na] at e_;subst e_
 refine ox 12 ?_;refine Wy 35 ?_;refine xo 6 ?_;refine Zf call16 Zk ((Rm (p:=p) (N:=0) (F:=gF.er) (s:=(Yl gF.er.pr)) (picks:=ah) (by omega) (hs.le leA) hk:CallF prog G 16 _ (gH p gF.er (0) (Yl gF.er.pr)::_) _)) ?_
 rintro _ _ ⟨L38,a38,c38,rfl,rfl,_,_⟩
 simp only [Br,ca,na]
 refine oo 4 ?_;refine Vz call37 (G1 (p:=p) (F:=gF.er) (N:=0+ah.length) (s:=(Z8 gF.er.pr (Yl gF.er.pr) ah).1) (q:= []) (by omega)) ?_
 rintro _ _ ⟨p2,rfl,rfl⟩ _ e_;simp only [ca,na] at e_;subst e_
 refine oo 1 ?_;refine Vz call37 (G1 (p:=p) (F:=gF.er) (N:=0+ah.length) (s:=(Z8 gF.er.pr (Yl gF.er.pr) ah).1) (q:= []) (by omega)) ?_
 rintro _ _ ⟨p3,rfl,rfl⟩ _ e_;simp only [ca,na] at e_;subst e_
 refine oo 7 ?_;refine Zf call16 Zk ((Rm (p:=p2) (N:=0+ah.length) (F:=gF.er) (s:=(Z8 gF.er.pr (Yl gF.er.pr) ah).1) (picks:=bh) (by omega) (ht.le leA) hm:CallF prog G 16 _ (gH p2 gF.er (0+ah.length) (Z8 gF.er.pr (Yl gF.er.pr) ah).1::_) _)) ?_
 rintro _ _ ⟨L45,a45,c45,rfl,rfl,_,_⟩
 simp only [Br,ca,na]
 refine oo 6 ?_;refine Vz call38 (G0 (p:=p) (p2:=p3) (F:=gF.er) (N:=0+ah.length) (N2:=0+ah.length) (s:=(Z8 gF.er.pr (Yl gF.er.pr) ah).1) (q:= []) (by omega) (by omega)) ?_
 rintro _ _ ⟨rfl,rfl⟩ _ e_;simp only [ca,na] at e_;subst e_
 refine Zt (Pu.not rfl) ?_;refine ox 1 ?_;refine Wy 49 ?_;refine xo 6 ?_;refine Zf call16 Zk ((Rm (p:=p) (N:=0+ah.length) (F:=gF.er) (s:=(Z8 gF.er.pr (Yl gF.er.pr) ah).1) (picks:=bh) (by omega) (ht.le leA) hm:CallF prog G 16 _ (gH p gF.er (0+ah.length) (Z8 gF.er.pr (Yl gF.er.pr) ah).1::_) _)) ?_
 rintro _ _ ⟨L52,a52,c52,rfl,rfl,_,_⟩
 simp only [Br,ca,na]
 refine oo 5 ?_;refine Vz call38 (G0 (p:=p) (p2:=p2) (F:=gF.er) (N:=0+ah.length+bh.length) (N2:=0+ah.length+bh.length) (s:=(Z8 gF.er.pr (Z8 gF.er.pr (Yl gF.er.pr) ah).1 bh).1) (q:= []) (by omega) (by omega)) ?_
 rintro _ _ ⟨rfl,rfl⟩ _ e_;simp only [ca,na] at e_;subst e_
 refine oo 1 ?_;refine XO.kt 56 ?_;refine Vz call14 (Bm (q:= [])) ?_
 rintro _ _ ⟨rfl,rfl⟩ _ e_;simp only [ca,na] at e_;subst e_
 refine ox 3 ?_;refine Zq (q) func11 (Zg results11 rfl) ⟨_,rfl,rfl,rfl⟩
end
end Go.Proofs.YtflkjkhijcdbaaaGreat
