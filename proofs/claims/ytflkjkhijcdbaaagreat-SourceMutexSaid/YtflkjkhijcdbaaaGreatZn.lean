/- Contracts of functions, proved by walking their code. -/
import Derived.Test.YtflkjkhijcdbaaaGreatZm
import Derived.KernelRfl
set_option maxRecDepth 100000
set_option linter.unusedVariables false
set_option linter.unusedSimpArgs false
namespace Go.Proofs.YtflkjkhijcdbaaaGreat
open Go Go.RowKit Wx Go.Proofs.Tryz
attribute [local irreducible] Wx.lsH Wx.rsH Wx.stars
theorem Lf {F:Fnd}{N:Nat}{s:SS}{n:Nat}(ho:SS.ok F N s)(h:s.can F.pr n=true)(h3:(s.th n).st≠3):((s.th n).next.kd=11→((s.sy.chans.getD (s.th n).next.slt.toNat ch0).items.length:Int)<(s.sy.chans.getD (s.th n).next.slt.toNat ch0).room)∧((s.th n).next.kd=12→0<(s.sy.chans.getD (s.th n).next.slt.toNat ch0).items.length):=by
 have hz:F.pr.room=s.sy.chans.map Ch.room:=ho.z.2.2.symm
 unfold SS.can at h
 dsimp only at h
 split at h
 · cases h
 revert h
 generalize (s.th n).next=x
 obtain ⟨k,ln,cl,nm,wt,e,ix,body,els,id,slot,other,loc⟩:=x
 dsimp only [PStm.kd,PStm.slt]
 intro h
 first|rw [if_neg h3] at h|skip
 refine ⟨fun e=> ?_,fun e=> ?_⟩
 · subst e
   rw [if_neg (by decide),if_pos rfl,hz] at h
   have h':=of_decide_eq_true h
   by_cases hk:slot.toNat<s.sy.chans.length
   · rwa [E5 hk] at h'
   have e1:(s.sy.chans.map Ch.room).getD slot.toNat 0=0:=by rw [List.getD_eq_getElem?_getD,List.getElem?_eq_none (by simp only [List.length_map];omega)];rfl
   rw [e1] at h'
   have e2:s.sy.chans.getD slot.toNat ch0=ch0:=by rw [List.getD_eq_getElem?_getD,List.getElem?_eq_none (by omega)];rfl
   rw [e2];decide
 subst e
 rw [if_neg (by decide),if_neg (by decide),if_pos rfl] at h
 have h':=of_decide_eq_true h
 omega
theorem C7 {p:PPr}{s:SS}{n:Nat}{x:PStm}{ev:PEv}(h:ev.syn= []):(s.data p n x ev).2.1.syn.length≤1:=by
 obtain ⟨k,ln,cl,nm,wt,e,ix,body,els,id,slot,other,loc⟩:=x
 unfold SS.data
 dsimp only
 (repeat' split)<;>(simp only [h];simp)
theorem Lj {F:Fnd}{N:Nat}{s:SS}{n:Nat}{p:PPr}(h:s.fine F N)(hn:n<s.ths.length):(s.did p n).2.1.syn.length≤N+1000:=by
 have hk:=h.ok.h _ (List.getElem_mem hn)
 rw [←Hi hn] at hk
 have hp8:=hk.p.1
 unfold SS.did
 dsimp only
 split
 · simp
 split
 · exact Nat.le_trans (C7 rfl) (by omega)
 have hat:=Fg (t:= { s.th n with left:=(s.th n).left.drop 1 }) hn
 generalize (s.th n).next=x
 obtain ⟨k,ln,cl,nm,wt,e,ix,body,els,id,slot,other,loc⟩:=x
 unfold SS.others
 dsimp only
 rw [hat]
 have hcc: ∀ k:Nat,(s.sy.conds.getD k []).length≤N:=fun k=>by
  by_cases hk:k<s.sy.conds.length
  · exact (h.ok.y.c _ (Yr hk)).1
  rw [List.getD_eq_getElem?_getD,List.getElem?_eq_none (by omega)];simp
 have h2:=hcc slot.toNat
 (repeat' split)<;>(simp only [zEv,List.nil_append,List.length_append,List.length_map,List.length_take,List.length_singleton,List.length_nil,SS.put]<;>omega)
section
variable {G:World}{q:List HP}{p pp who n N:Nat}{g:FC}{σ:StC}{ev:EvC}{k sl ot u:Int}{bb:Bool}
set_option maxHeartbeats 16000000 in
theorem do_ok (hP:Prg q pp g)(hM:MayP g.er)(hF:SS.fine g.er N σ.er)(hN:N≤899)(hwho:who<σ.ths.length)(hc:σ.er.can g.er.pr who=true)(hTd:Kn q fun M=>TodoAt M σ.ths)(hev:ev.e=zEv who (σ.er.th who).next.idn):CallF prog G 61 [.pointer (some ⟨p,0,none⟩)] (Zw p pp who σ ev++q) (Ret fun v q'=> ∃ (σ':StC) (ev':EvC),(((σ.er.did g.er.pr who).2.2=0∧v= .int .i64 0∧σ'.er=((σ.er.did g.er.pr who).1.ended who (σ.er.did g.er.pr who).2.1).1∧ev'.e=((σ.er.did g.er.pr who).1.ended who (σ.er.did g.er.pr who).2.1).2∧Kn q fun M=>TodoAt M σ'.ths)∨((σ.er.did g.er.pr who).2.2≠0∧v= .int .i64 (σ.er.did g.er.pr who).2.2∧ev'.e=(σ.er.did g.er.pr who).2.1))∧q'=Zw p pp who σ' ev'++q):=by
 refine CallF.of func61 ntmps61 rfl (fun F cs=> ?_)
 have hlen:σ.er.ths.length=σ.ths.length:=StC.nth σ;have h8:=hF.ok.t.2;rw [hlen] at h8;have hR:=hF.ready (p:=g.er.pr) (by rw [hlen];exact hwho) hc;have hTh:=hF.ok.at hwho;have hO:=PO.pop hF (show N≤900 by omega) hwho
 have hthe:σ.er.th who=(σ.ths[who]).er:=Z1 hwho;have hne:σ.ths[who].todo≠ []:=by
  have h1:=hR.l;rw [hthe] at h1
  intro e;rw [←Qx] at e;rw [e] at h1;cases h1
 obtain ⟨⟨yb,yo,ys⟩,hy1,hy2,hy3,hy4,hy5⟩:=Rl hne;rw [←hthe] at hy5;dsimp only at hy5;have htl:=hTh.n;rw [Vc] at htl
 have hsl:=Td hF hM (by rw [hlen];exact hwho) hc
 change X _ _ _ _ _ _ _ _ (pto p (.cells (Yc pp σ++(.int .i64 (who:Int)::evC ev)).toArray 145 (0,0))::lsH I64 2 σ.ca σ.cc σ.cells::yH σ.sp σ.sy::rsH trC 5 116 σ.ha σ.hc σ.ths::stars (σ.ths.map trH)::rsH acC 3 140 ev.aa ev.ac ev.e.acc::rsH snC 3 50 ev.na ev.nc ev.e.syn::(q++F))
 refine Yq (l:=σ.ths) (by omega) (fun ga e_=> ?_)
 have hr: ∀ r,Sees (rsH trC 5 116 σ.ha σ.hc σ.ths::r) (some ⟨ga,0,none⟩) (σ.ths.flatMap trC):=fun r=>by rw [←e_];exact Sees.rsH r
 have h0:=List.length_pos_iff.2 hne;refine X.le (q':=stars (σ.ths.map trH)::_) Zk (X.le (Nk hwho _) ?_);refine V8 (l:=σ.ths[who].todo) h0 (fun gt et_=> ?_);refine X.lscap (l:=σ.ths[who].todo) (fun hcap=> ?_);refine X.lsmax (l:=σ.ths[who].todo) (fun hmx=> ?_)
 refine xo 2 ?_;refine XO.al zeroValue39 fun n1=> ?_
 refine oo 4 ?_;refine XO.dfr ?_;refine oo 4 ?_;refine XO.cR call95 (Q7 (p:=p) (who:=who) (ga:=ga) (m:=σ.ths.length) (c:=σ.hc) (by rw [←e_];exact clA) clA hwho) ?_
 refine oo 5 ?_;refine XO.cR call60 (J7 (b:=ga) (o:=0+(who:Int).toNat*5) (todo:=σ.ths[who].todo) (Cl.row (n:=who) (hr _) leA Zd hwho rfl 3 _ rfl) ((Sees.lsH _).le leA) (by omega)) ?_
 refine XO.know 9 (.pointer (some ⟨yb,yo,none⟩)) rfl (by rw [hy1];rfl) ?_
 refine ox 3 ?_;refine drw ?_;refine dd [0,1,2,3] ?_;refine ldD 4 ?_ (hc:=(Cl.row (n:=who) (hr _) leA Zd hwho rfl 3 _ rfl))
 refine XD.know 14 (.slice (some ⟨gt,0,none⟩) σ.ths[who].todo.length σ.ths[who].tc) rfl (by rw [←et_]) ?_
 refine dd [5,6,7] ?_;refine ldD 8 ?_ (hc:=(Cl.row (n:=who) (hr _) leA Zd hwho rfl 3 _ rfl))
 refine XD.know 18 (.slice (some ⟨gt,0,none⟩) σ.ths[who].todo.length σ.ths[who].tc) rfl (by rw [←et_]) ?_
 refine dd [9,10,11,12,13] ?_;refine XD.know 21 (.slice (some ⟨gt,0,none⟩) (σ.ths[who].todo.take (σ.ths[who].todo.length - 1)).length σ.ths[who].tc) rfl (by rw [List.length_take];congr 1;omega) ?_
 refine XD.le (q':=rsH trC 5 116 (some ⟨ga,0,none⟩) σ.hc σ.ths::_) (by rw [←e_];exact Zk) ?_
 refine XD.ef0 14 rfl (Yl (g:=ga) (f:=trC) (l:=σ.ths) (u:=σ.ths[who].pop) (n:=who) (k:=3) (j:=(who:Int)) rfl rfl sizeOf114 Zd rfl hwho rfl (by rw [←et_];rfl) rfl rfl (by rw [←e_];exact Zk)) ?_
 rintro _ _ ⟨rfl,rfl⟩
 refine ⟨trivial,?_⟩
 refine XD.nil ?_;refine xo 3 ?_;refine XO.le (q':=lsH PS.v 146 σ.ths[who].ta σ.ths[who].tc (σ.ths[who].todo.take (σ.ths[who].todo.length - 1))::_) (Le.trans (b:=lsH PS.v 146 σ.ths[who].ta σ.ths[who].tc σ.ths[who].todo::_) Zk (Av _ _ _ _ _ _ _)) ?_
 refine XO.le (q':=stars ((σ.ths.set who σ.ths[who].pop).map trH)::_) (Le.trans (b:=lsH I64 2 (σ.ths[who].pop).la (σ.ths[who].pop).lc (σ.ths[who].pop).loc::lsH PS.v 146 (σ.ths[who].pop).ta (σ.ths[who].pop).tc (σ.ths[who].pop).todo::lsH I64 3 (σ.ths[who].pop).sa (σ.ths[who].pop).sc (σ.ths[who].pop).sp::stars ((σ.ths.eraseIdx who).map trH)::_) (Le.pick Zk (Le.pick Zk (Le.pick Zk Zk))) (Nj hwho σ.ths[who].pop _)) ?_
 obtain ⟨σ1,hσ1⟩: ∃ x,x=σ.pop who hwho:=⟨_,rfl⟩
 refine XO.le (q':=pto p (.cells (Yc pp σ1++(.int .i64 (who:Int)::evC ev)).toArray 145 (0,0))::lsH I64 2 σ1.ca σ1.cc σ1.cells::yH σ1.sp σ1.sy::rsH trC 5 116 σ1.ha σ1.hc σ1.ths::stars (σ1.ths.map trH)::rsH acC 3 140 ev.aa ev.ac ev.e.acc::rsH snC 3 50 ev.na ev.nc ev.e.syn::pto n1 (.cells [.int .i64 0].toArray 39 (0,0))::(q++F)) (by subst hσ1;dsimp only [StC.pop];simp only [Yc,List.length_set];rw [e_];exact leA) ?_
 have hl1:σ1.ths.length=σ.ths.length:=by simp [hσ1]
 have hw1:who<σ1.ths.length:=(by rw [hl1];exact hwho)
 have hat:σ1.ths[who]=σ.ths[who].pop:=by subst hσ1;exact List.getElem_set_self ..
 have hst:(σ1.ths[who]).st=(σ.er.th who).st:=by rw [hat,hthe];rfl
 have her:σ1.er=σ.er.put who { σ.er.th who with left:=(σ.er.th who).left.drop 1 } :=by rw [hσ1];exact P8 hwho
 rw [←hσ1] at hO;have hz1:σ1.sy=σ.sy:=by rw [hσ1]
 have e1_:σ1.ha=some ⟨ga,0,none⟩:=by rw [hσ1];exact e_
 have hr1: ∀ r,Sees (rsH trC 5 116 σ1.ha σ1.hc σ1.ths::r) (some ⟨ga,0,none⟩) (σ1.ths.flatMap trC):=fun r=>by rw [←e1_];exact Sees.rsH r
 have hyA:Kn q fun M=>PS.At M ⟨yb,yo,ys⟩:=hTd.imp fun M h=>h σ.ths[who] (List.getElem_mem hwho) _ hy2
 have hT1:Kn q fun M=>TodoAt M σ1.ths:=hTd.imp fun M h t ht z hz=>by
  rw [hσ1] at ht
  rcases List.mem_or_eq_of_mem_set ht with ht|rfl
  · exact h t ht z hz
  exact h _ (List.getElem_mem hwho) z (List.mem_of_mem_take hz)
 have hgd:ys.er.good g.er.cn (σ1.ths[who]).loc.length:=by have h:=hR.g;rw [hy5,hthe] at h;rw [hat];exact h
 have hev2:ev.e.acc= []∧ev.e.syn= []:=by rw [hev];exact ⟨rfl,rfl⟩
 have hkd:1≤ys.er.kd∧ys.er.kd≤15:=by have h:=hgd;revert h;cases ys;intro h;exact (Yf h.2.1).1
 obtain ⟨D,hD⟩: ∃ D,D=σ.er.did g.er.pr who:=⟨_,rfl⟩;rw [←hD] at hsl⊢
 have hpan: ∀ (p_:PE) (qq:List HP) (k:Int) (y0:Value) (σ':StC) (ev':EvC),lkp p_ 2=some (.pointer (some ⟨n1,0,none⟩))→k=D.2.2→D.2.2≠0→ev'.e=D.2.1→Le qq (pto n1 (.cells [y0].toArray 39 (0,0))::(Zw p pp who σ' ev'++(q++F)))→FQ prog G 61 cs (Ret fun v q'=> ∃ (σ':StC) (ev':EvC),(((D).2.2=0∧v= .int .i64 0∧σ'.er=((D).1.ended who (D).2.1).1∧ev'.e=((D).1.ended who (D).2.1).2∧Kn q fun M=>TodoAt M σ'.ths)∨((D).2.2≠0∧v= .int .i64 (D).2.2∧ev'.e=(D).2.1))∧q'=Zw p pp who σ' ev'++q) F (.panic [Vm k]) p_ [Wx.dfr 94 [.pointer (some ⟨n1,0,none⟩)]] cs qq:=
  fun p_ qq k y0 σ' ev' h2 hk h0 he hle=>⟨rfl,Lv.catches call94 func61 (Cf (nb:=n1) (k:=k) (y0:=y0)) hle rfl (Lv.ret (q':=Zw p pp who σ' ev'++q) func61 (Bq results61 (ResOk.cell h2 (LV.cell isAgg39 clA) ResOk.nil)) ⟨_,rfl,σ',ev',.inr ⟨h0,by rw [hk],he⟩,rfl⟩ (Le.trans (Le.drop _ _) (by rw [List.append_assoc];exact Le.refl _)))⟩
 refine oo 3 ?_;refine ld ?_ (hc:=(Cl.row (n:=who) (hr1 _) leA Zd hw1 rfl 1 _ rfl))
 refine ox 2 ?_
 have hse: ∀ ev2:EvC,ev2.e=D.2.1→ev2.e.syn.length≤1000000000:=fun ev2 h=>by rw [h,hD];exact Nat.le_trans (Lj hF (by rw [hlen];exact hwho)) (by omega)
 refine X.part 28 rfl (fun h5=> ?_) (fun h5=> ?_)
 focus
  replace h5:=sp h5;have h3:(σ.er.th who).st=3:=(by rw [←hst];exact h5)
  have hDw:D=σ1.er.woken who ys.er ev.e:=by rw [hD,C5 (by rw [hlen];exact hwho) h3,her,hev,hy5]
  refine xo 4 ?_;refine Vf call96 leA (Sk (pto n1 (.cells [.int .i64 0].toArray 39 (0,0))) F (xwake_ok (q:=q) (σ:=σ1) (ev:=ev) (y:=⟨yb,yo,ys⟩) (p:=p) (pp:=pp) hP hM hO hev2 hyA hgd hT1 (by have:=hR.w h3;rw [hy5] at this;exact this))) ?_ ?_
  · rintro _ _ ⟨σ2,ev2,⟨h0,_⟩,_⟩
    exact absurd rfl h0
  rintro _ _ ⟨σ2,ev2,⟨h0,hE,hV,hT2⟩,eq_⟩;simp only [Zw,spP,Zr,evL,ca,na] at eq_;subst eq_
  dsimp only at h0 hE hV;rw [←hDw] at h0 hE hV
  refine oo 4 ?_
 rotate_left
 focus
  replace h5:=sp h5;have h3:(σ.er.th who).st≠3:=(by rw [←hst];exact h5)
  have hDw:D=σ1.er.does g.er.pr who ys.er ev.e:=by rw [hD,Lk h3,her,hev,hy5]
  have hcan:=Lf hF.ok hc h3;rw [hy5] at hcan;rw [show σ.er.sy=σ1.sy from hz1.symm] at hcan
  have hC0:CellsAt q yb yo [.int .i64 ys.er.kd]:=by have h:=Kn.stC hyA;cases ys;exact fun k v e=>h k v (by match k,e with|0,e=>exact e|(k+1),e=>cases e)
  refine xx 1 ?_;refine X.draw [(2,.pointer (some ⟨n1,0,none⟩))] Tryz.mixed (by kernel_rfl) (by kernel_rfl) rfl ?_
  refine dd [1,2,3] ?_;refine ldD 4 ?_ (hc:=((hC0.le leA) 0 _ rfl))
  refine dd [6,7] ?_;refine Ud 0 call97 (doers_ok) ?_;rintro _ _ ⟨nm,rfl,rfl⟩ _ e_;simp only [ca,na] at e_;subst e_
  refine ⟨(hlA (h:=by repeat first|exact trivial|refine ⟨clA,?_⟩|refine ⟨((hC0.le leA) 0 _ rfl),?_⟩)),?_⟩
  obtain ⟨aF,hF1,hA⟩:=T3 (kd:= .i64) (c:=ys.er.kd) dL 0
  rcases hA with ⟨rfl,hno⟩|⟨jF,eF,rfl,hmem,hec⟩
  · exact absurd hno (dL_has hkd)
  obtain ⟨fF,hf1,hf2⟩:=doer_at (σ:=σ1) (ev:=ev) (y:=⟨yb,yo,ys⟩) (p:=p) (pp:=pp) (q:=q) hP hM hO hev2 hyA hgd hT1 hcan.1 hcan.2 hmem hec.symm
  refine XD.ef 5 rfl (Rd.ef (Rd.lookup (es:=dL.map dE) (clock:=15) underlying204 underlying119 rfl rfl Zk zeroValue203 hF1)) ?_
  rintro _ _ ⟨rfl,rfl⟩
  refine ⟨trivial,?_⟩
  refine XD.know 37 (.func (.func fF) #[] #[]) rfl (by exact hf1) ?_
  refine XD.cVP 8 (pre:=Zw p pp who σ1 ev++(pto n1 (.cells [.int .i64 0].toArray 39 (0,0))::(q++F))) leA (Sj (pto n1 (.cells [.int .i64 0].toArray 39 (0,0))) F hf2) ?_ ?_ (pk:= [(2,.pointer (some ⟨n1,0,none⟩))]) ⟨rfl,trivial⟩
  · rintro _ _ ⟨σ2,ev2,⟨h0,rfl,hV⟩,rfl⟩
    dsimp only at h0 hV;rw [←hDw] at h0 hV⊢
    exact hpan _ _ _ _ σ2 ev2 rfl rfl h0 hV (by unfold Zw spP;exact leA)
  rintro _ _ ⟨σ2,ev2,⟨h0,hE,hV,hT2⟩,eq_⟩;simp only [Zw,spP,Zr,evL,ca,na] at eq_;subst eq_
  refine ⟨trivial,?_⟩
  dsimp only at h0 hE hV;rw [←hDw] at h0 hE hV
  refine XD.nil ?_;refine xo 3 ?_
 all_goals
  skip
  obtain ⟨hc1,hc2,hc3,hc4,hc5,hc6,hc7,hc8,hc9,hc10,hc11⟩:=hsl h0;rw [←hE] at hc5 hc6 hc7;rw [StC.nth] at hc5 hc6
  have hk0:=hc7 who (by rw [StC.nth];exact hc6);rw [Z1 hc6] at hk0;have hkn:=hk0.n;rw [Vc] at hkn
  refine Ci (l:=σ2.ths) (by omega) (fun gb e2_=> ?_);have hr2: ∀ r,Sees (rsH trC 5 116 σ2.ha σ2.hc σ2.ths::r) (some ⟨gb,0,none⟩) (σ2.ths.flatMap trC):=fun r=>by rw [←e2_];exact Sees.rsH r
  refine oo 1 ?_;refine XO.cR call95 (Q7 (p:=p) (who:=who) (ga:=gb) (m:=σ2.ths.length) (c:=σ2.hc) (by rw [←e2_];exact clA) clA hc6) ?_
  refine XO.cR call60 (J7 (b:=gb) (o:=0+(who:Int).toNat*5) (todo:=σ2.ths[who].todo) (Cl.row (n:=who) (hr2 _) leA Zd hc6 rfl 3 _ rfl) ((Sees.todo hc6).le leA) (by omega)) ?_
  have hte:(D.1.th who).left= []↔σ2.ths[who].todo= []:=by rw [←hE,Z1 hc6];exact Qx
  rcases hq2:σ2.ths[who].todo.getLast? with _|y2
  · have hq3:σ2.ths[who].todo= []:=List.getLast?_eq_none_iff.1 hq2
    refine XO.know 43 (.pointer none) rfl (rfl) ?_;refine ox 2 ?_;refine X.kt 44 ?_;refine xo 4 ?_;refine XO.cR call95 (Q7 (p:=p) (who:=who) (ga:=gb) (m:=σ2.ths.length) (c:=σ2.hc) (by rw [←e2_];exact clA) clA hc6) ?_
    refine oo 2 ?_;refine XO.le (q':=rsH trC 5 116 (some ⟨gb,0,none⟩) σ2.hc σ2.ths::_) (by rw [←e2_];exact Zk) ?_
    refine XO.ef0 (Yl (g:=gb) (f:=trC) (l:=σ2.ths) (u:=({ σ2.ths[who] with st:=4 } :TC)) (n:=who) (k:=1) (j:=(who:Int)) rfl rfl sizeOf99 Zd rfl hc6 rfl rfl rfl rfl Zk) ?_
    rintro _ _ ⟨rfl,rfl⟩
    rw [←e2_]
    refine oo 3 ?_;refine Zb call98 (by unfold Zw spP Yc Zr;simp only [List.length_set];rw [Rh hc6 (show trH ({ σ2.ths[who] with st:=4 } :TC)=trH σ2.ths[who] from rfl)];exact leA) (Ve (p:=p) (pp:=pp) (who:=who) (σ:=({ σ2 with ths:=σ2.ths.set who ({ σ2.ths[who] with st:=4 } :TC) } :StC)) (ev:=ev2) (k:=8) (sl:=0) (ot:=0) (q:=pto n1 (.cells [.int .i64 0].toArray 39 (0,0))::(q++F)) (hse ev2 hV)) ?_
    rintro _ _ ⟨ev3,hv3,eq_⟩;simp only [Zw,spP,Zr,evL,ca,na] at eq_;subst eq_
    refine oo 3 ?_;refine st ?_;refine ox 1 ?_;exact X.ret ⟨rfl,Ak call94 func61 (Eh (nb:=n1)) (Lv.ret (q':=Zw p pp who ({ σ2 with ths:=σ2.ths.set who ({ σ2.ths[who] with st:=4 } :TC) } :StC) ev3++q) func61 (Bq results61 (ResOk.cell rfl (LV.cell isAgg39 clA) ResOk.nil)) ⟨_,rfl,({ σ2 with ths:=σ2.ths.set who ({ σ2.ths[who] with st:=4 } :TC) } :StC),ev3,.inl ⟨h0,rfl,by unfold SS.ended;rw [if_pos (hte.2 hq3),W6,hE];congr 1;rw [←hE,Z1 hc6];rfl,by unfold SS.ended;rw [if_pos (hte.2 hq3),hv3,hV];rfl,hT2.imp fun M h=>TodoAt.of (Hx hc6 rfl) h⟩,rfl⟩ (by unfold Zw spP;rw [List.append_assoc];exact leA))⟩
  have hq3: ¬σ2.ths[who].todo= []:=fun e=>by rw [e] at hq2;cases hq2
  refine XO.know 43 (.pointer (some ⟨y2.b,y2.o,none⟩)) rfl (rfl) ?_
  refine ox 2 ?_;refine Wr 44 ?_;refine xo 4 ?_;refine st ?_;refine ox 1 ?_;exact X.ret ⟨rfl,Ak call94 func61 (Eh (nb:=n1)) (Lv.ret (q':=Zw p pp who σ2 ev2++q) func61 (Bq results61 (ResOk.cell rfl (LV.cell isAgg39 clA) ResOk.nil)) ⟨_,rfl,σ2,ev2,.inl ⟨h0,rfl,by unfold SS.ended;rw [if_neg (fun e=>hq3 (hte.1 e))];exact hE,by unfold SS.ended;rw [if_neg (fun e=>hq3 (hte.1 e))];exact hV,hT2⟩,rfl⟩ (by unfold Zw spP;rw [List.append_assoc];exact leA))⟩
end
def SS.outc (p:PPr)(s:SS):POut:=if s.out.kind=4 then s.out else (s.stands p).out
def otC (x:POut):List Value:= [.int .i64 x.kind,.int .i64 x.trap,.int .i64 x.th,.int .i64 x.stmt]
theorem all_zero {p:PPr}{s:SS}(h: ¬s.out.kind=4):({ s with out:=⟨1,0,0,0⟩ } :SS).all p=s.all p:=by
 unfold SS.all
 congr 1
 apply List.filter_congr
 intro n _
 unfold SS.can SS.th
 simp only [show ¬ ((1:Int)=4) by decide,h]
section
variable {G:World}{q:List HP}{p pp n N:Nat}{g:FC}{σ:StC}
set_option maxHeartbeats 4000000 in
theorem Dp (hok:SS.ok g.er N σ.er)(hN:N≤900)(hTd:Kn q fun M=>TodoAt M σ.ths):CallF prog G 22 [.pointer (some ⟨p,0,none⟩)] (stP p pp σ::(Zr σ++q)) (Ret fun v q'=>v= .agg (otC (σ.er.outc g.er.pr)).toArray∧q'=stP p pp σ::(Zr σ++q)):=by
 refine CallF.of func22 ntmps22 rfl (fun F cs=> ?_)
 change X _ _ _ _ _ _ _ _ (pto p (.cells (Yc pp σ).toArray 98 (0,0))::lsH I64 2 σ.ca σ.cc σ.cells::yH σ.sp σ.sy::rsH trC 5 116 σ.ha σ.hc σ.ths::stars (σ.ths.map trH)::(q++F))
 have hlen:=Zx Zd σ.ths;have h8:σ.ths.length≤8:=by have:=hok.t.2;rwa [StC.nth] at this
 have h1_:1≤σ.ths.length:=by have:=hok.t.1;rwa [StC.nth] at this
 refine Yq (l:=σ.ths) (by omega) (fun ga e_=> ?_)
 have hr: ∀ r,Sees (rsH trC 5 116 σ.ha σ.hc σ.ths::r) (some ⟨ga,0,none⟩) (σ.ths.flatMap trC):=fun r=>by rw [←e_];exact Sees.rsH r
 obtain ⟨R,hR⟩: ∃ R,R=σ.er.outc g.er.pr:=⟨_,rfl⟩;rw [←hR];unfold SS.outc at hR
 refine xo 2 ?_;refine XO.al zeroValue41 fun n1=> ?_
 refine oo 5 ?_;refine XO.cR call49 (Q0 (p:=p) (pp:=pp) clA) ?_
 refine Zi (Pu.not rfl) ?_;refine ox 1 ?_;refine Wr 6 ?_;refine xj 9 ?_;refine ox 2 ?_;refine X.part 13 rfl (fun h1=> ?_) (fun h1=> ?_)
 · replace h1:=sp h1;rw [if_pos (show σ.er.out.kind=4 from h1)] at hR
   refine xo 6 ?_;refine ldA ?_;refine stA ?_;refine ox 1 ?_;refine Zq (stP p pp σ::(Zr σ++q)) func22 (rA_ results22) ⟨_,rfl,by rw [hR];rfl,rfl⟩
 replace h1:=sp h1;have hk0: ¬σ.er.out.kind=4:=h1;rw [if_neg hk0] at hR;unfold SS.stands at hR;dsimp only at hR;rw [all_zero hk0] at hR
 refine xo 6 ?_;refine Zb call40 leA (Sz (p:=p) (pp:=pp) (σ:=σ) (q:=pto n1 (.cells [.int .i64 0,.int .i64 0,.int .i64 0,.int .i64 0].toArray 41 (0,0))::(q++F)) hok hN (hTd.le leA)) ?_
 rintro _ _ ⟨a1,c1,rfl,rfl⟩
 refine ox 3 ?_;refine X.part 21 rfl (fun h2=> ?_) (fun h2=> ?_)
 · replace h2:=sp h2;rw [if_pos (by omega)] at hR
   refine xo 4 ?_;refine stA ?_;refine ox 1 ?_;refine Zq (stP p pp σ::(Zr σ++q)) func22 (rA_ results22) ⟨_,rfl,by rw [hR];rfl,rfl⟩
 replace h2:=sp h2;rw [if_neg (by omega)] at hR;dsimp only at hR
 refine xj 8 ?_;refine ox 4 ?_;refine X.at (X.loop (fun (s:Nat)=>s≤σ.ths.length∧ ∀ t∈σ.ths.take s,t.st=4) (fun s=> [(0,.pointer (some ⟨p,0,none⟩)),(2,.pointer (some ⟨n1,0,none⟩)),(27,.int .i64 (σ.ths.length:Int)),(28,.int .i64 (s:Int))]) (fun s=>pto n1 (.cells [.int .i64 0,.int .i64 0,.int .i64 0,.int .i64 0].toArray 41 (0,0))::pto p (.cells (Yc pp σ).toArray 98 (0,0))::lsH I64 2 σ.ca σ.cc σ.cells::yH σ.sp σ.sy::rsH trC 5 116 σ.ha σ.hc σ.ths::stars (σ.ths.map trH)::(q++F)) (fun s=>σ.ths.length - s) (fun s hi_ ih=> ?_) 0 ⟨Nat.zero_le _,by simp⟩) Zu leA
 try dsimp only at hi_ ih⊢
 obtain ⟨hi1,hi2⟩:=hi_
 refine xx 5 ?_;refine X.part 29 rfl (fun h0=> ?_) (fun h0=> ?_)
 · replace h0:=sp h0;have hlt:s<σ.ths.length:=(by omega)
   refine xj 14 ?_;refine oo 1 ?_;refine XO.know 34 (.slice (some ⟨ga,0,none⟩) σ.ths.length σ.hc) rfl (by rw [←e_]) ?_
   refine oo 2 ?_;refine ld ?_ (hc:=(Cl.row (n:=s) (hr _) leA Zd hlt rfl 1 _ rfl))
   refine ox 2 ?_;refine X.part 39 rfl (fun h3=> ?_) (fun h3=> ?_)
   · replace h3:=sp h3
     refine xo 4 ?_;refine stA ?_;refine ox 1 ?_;refine Zq (stP p pp σ::(Zr σ++q)) func22 (rA_ results22) ⟨_,rfl,by rw [hR,if_neg (by rw [Bool.not_eq_true];exact List.all_eq_false.2 ⟨(σ.ths[s]).er,List.mem_map_of_mem (f:=TC.er) (List.getElem_mem hlt),by rw [beq_iff_eq];exact h3⟩)];rfl,rfl⟩
   replace h3:=sp h3
   refine xx 7 ?_
   refine X.at (ih (s+1) ⟨by omega,fun t ht=>by
    rw [List.take_succ_eq_append_getElem hlt] at ht
    rcases List.mem_append.1 ht with ht|ht
    · exact hi2 t ht
    rw [List.mem_singleton.1 ht];omega⟩ (by omega)) Zu leA
 replace h0:=sp h0;obtain rfl:s=σ.ths.length:=(by omega);rw [List.take_length] at hi2
 refine xo 5 ?_;refine stA ?_;refine ox 1 ?_;refine Zq (stP p pp σ::(Zr σ++q)) func22 (rA_ results22) ⟨_,rfl,by rw [hR,if_pos (List.all_eq_true.2 fun t ht=>by obtain ⟨x,hx,rfl⟩:=List.mem_map.1 ht;rw [beq_iff_eq];exact hi2 x hx)];rfl,rfl⟩
theorem Xx (hl:σ.cells.length≤1000000):CallF prog G 21 [.pointer (some ⟨p,0,none⟩)] (stP p pp σ::(Zr σ++q)) (Ret fun v q'=> ∃ a' c',v= .slice a' σ.cells.length c'∧q'=lsH I64 2 a' c' σ.cells::stP p pp σ::(Zr σ++q)):=by
 refine CallF.of func21 ntmps21 rfl (fun F cs=> ?_)
 change X _ _ _ _ _ _ _ _ (pto p (.cells (Yc pp σ).toArray 98 (0,0))::lsH I64 2 σ.ca σ.cc σ.cells::yH σ.sp σ.sy::rsH trC 5 116 σ.ha σ.hc σ.ths::stars (σ.ths.map trH)::(q++F))
 refine xo 8 ?_;refine XO.cR call49 (Q0 (p:=p) (pp:=pp) clA) ?_
 refine Zi (Pu.not rfl) ?_;refine ox 1 ?_;refine Wr 5 ?_;refine xj 7 ?_;refine Zb call50 (Le.refl _) (U6 (l:=σ.cells) ((Sees.lsH _).le leA) (by omega)) ?_
 rintro _ _ ⟨a1,c1,rfl,rfl⟩
 refine ox 2 ?_;refine Zq (lsH I64 2 a1 c1 σ.cells::stP p pp σ::(Zr σ++q)) func21 (Zp results21 rfl) ⟨_,rfl,a1,c1,rfl,rfl⟩
end
def zE0:PEv:=zEv 0 0
def SS.doP (p:PPr)(s:SS)(n:Int):SS×PEv×Int:=
 if n<0∨(s.ths.length:Int)≤n then (s,zE0,2) else if s.all p= [] then (s,zE0,150) else if s.can p n.toNat=false then (s,zE0,151)
 else ((s.step p n.toNat).1.pg,(s.step p n.toNat).2,0)
theorem Rz: ∀ (l:List Int) (s:SS),(s.wake l).out=s.out
 | [],_=>rfl
 |i::r,s=>by show (SS.wake _ r).out=_;rw [Rz r];rfl
theorem Rj (s:SS)(n:Nat)(k:Int)(b:Bool)(v:Int):(s.into n k b v).1.out=s.out:=by unfold SS.into SS.put;split<;>rfl
theorem Lw {p:PPr}{s:SS}{n:Nat}:(s.did p n).1.out=s.out:=by
 unfold SS.did
 dsimp only
 split
 · rfl
 generalize (s.th n).next=x
 split
 · obtain ⟨k,ln,cl,nm,wt,e,ix,body,els,id,slot,other,loc⟩:=x
   unfold SS.data
   dsimp only
   (repeat' split)<;>first|rfl|(rw [Rj];rfl)
 obtain ⟨k,ln,cl,nm,wt,e,ix,body,els,id,slot,other,loc⟩:=x
 unfold SS.others
 dsimp only
 (repeat' split)<;>first|rfl|(rw [Rj];rfl)|(dsimp only;rw [Rz];rfl)
theorem F4 {s:SS}{n:Nat}{ev:PEv}:(s.ended n ev).1.out=s.out:=by unfold SS.ended SS.put;split<;>rfl
theorem SS.pg_pg (s:SS):s.pg.pg=s.pg:=by unfold SS.pg;dsimp only;split<;>simp_all [Ar]
theorem C8 {p:PPr}{s:SS}{n:Nat}(h:s.can p n=true):s.out.kind≠4:=by
 intro e;unfold SS.can at h;dsimp only at h;rw [if_pos (.inl e)] at h;cases h
theorem SS.out_z {s:SS}(h:s.pg=s)(k:s.out.kind≠4):s.out=Ar:=by
 have:=congrArg SS.out h;unfold SS.pg at this;dsimp only at this;rw [if_neg k] at this;exact this.symm
theorem P9 {p:PPr}{s:SS}{n:Nat}(h:s.pg=s)(hc:s.can p n=true)(ht:(s.did p n).2.2=0):(s.step p n).1.pg=((s.did p n).1.ended n (s.did p n).2.1).1∧(s.step p n).2=((s.did p n).1.ended n (s.did p n).2.1).2:=by
 rw [Ks,if_neg (fun k=>k ht)]
 refine ⟨?_,rfl⟩
 dsimp only
 rw [I7]
 have:((s.did p n).1.ended n (s.did p n).2.1).1.out=Ar:=by rw [F4,Lw];exact SS.out_z h (C8 hc)
 rw [←this]
theorem Fo {p:PPr}{s:SS}{n:Nat}(ht:(s.did p n).2.2≠0):(s.step p n).1.pg= { s with out:=⟨4,(s.did p n).2.2,n,(s.th n).next.idn⟩ } ∧(s.step p n).2= { zEv n (s.th n).next.idn with trap:=(s.did p n).2.2,acc:=(s.did p n).2.1.acc } :=by
 rw [Ks,if_pos ht]
 exact ⟨by unfold SS.pg;rw [if_pos rfl],rfl⟩
theorem F5 {p:PPr}{s:SS}{n:Nat}{x:PStm}{ev:PEv}:(s.data p n x ev).2.1.stmt=ev.stmt:=by
 obtain ⟨k,ln,cl,nm,wt,e,ix,body,els,id,slot,other,loc⟩:=x
 unfold SS.data;dsimp only
 (repeat' split)<;>rfl
theorem Dx {p:PPr}{s:SS}{n:Nat}{x:PStm}{ev:PEv}:(s.others p n x ev).2.1.stmt=ev.stmt:=by
 obtain ⟨k,ln,cl,nm,wt,e,ix,body,els,id,slot,other,loc⟩:=x
 unfold SS.others;dsimp only
 (repeat' split)<;>rfl
theorem C6 {p:PPr}{s:SS}{n:Nat}:(s.did p n).2.1.stmt=(s.th n).next.idn:=by
 unfold SS.did;dsimp only
 split
 · rfl
 split
 · rw [F5];rfl
 rw [Dx];rfl
structure Hd (q:List HP) (pp:Nat) (g:FC) (N:Nat) (σ:StC):Prop where
 P:Prg q pp g
 M:MayP g.er
 F:SS.fine g.er N σ.er
 G:σ.er.pg=σ.er
 T:Kn q fun M=>TodoAt M σ.ths
section
variable {G:World}{q:List HP}{p pp who n N:Nat}{g:FC}{σ:StC}{ev:EvC}{k sl ot u:Int}{bb:Bool}
variable {z:Int}
theorem do2_ok (E:List HP){F:List HP}(hP:Prg q pp g)(hM:MayP g.er)(hF:SS.fine g.er N σ.er)(hN:N≤899)(hwho:who<σ.ths.length)(hc:σ.er.can g.er.pr who=true)(hTd:Kn q fun M=>TodoAt M σ.ths)(hev:ev.e=zEv who (σ.er.th who).next.idn):CallF prog G 61 [.pointer (some ⟨p,0,none⟩)] (Zw p pp who σ ev++(E++(q++F))) (Ret fun v q'=> ∃ (σ':StC) (ev':EvC),(((σ.er.did g.er.pr who).2.2=0∧v= .int .i64 0∧σ'.er=((σ.er.did g.er.pr who).1.ended who (σ.er.did g.er.pr who).2.1).1∧ev'.e=((σ.er.did g.er.pr who).1.ended who (σ.er.did g.er.pr who).2.1).2∧Kn q fun M=>TodoAt M σ'.ths)∨((σ.er.did g.er.pr who).2.2≠0∧v= .int .i64 (σ.er.did g.er.pr who).2.2∧ev'.e=(σ.er.did g.er.pr who).2.1))∧q'=Zw p pp who σ' ev'++(E++(q++F))):=
 CallF.conv (pre':=(Zw p pp who σ ev++q)++(E++F)) (by rw [List.append_assoc];exact Le.append_left _ (Vz E q F)) (Mz (E++F) (do_ok hP hM hF hN hwho hc hTd hev)) (by
  rintro _ _ ⟨_,⟨v,rfl,σ',ev',h,rfl⟩,rfl⟩
  exact ⟨_,⟨v,rfl,σ',ev',h,rfl⟩,by rw [List.append_assoc];exact Le.append_left _ (Vz q E F)⟩)
set_option maxHeartbeats 16000000 in
theorem SDo_ok (hH:Hd q pp g N σ)(hN:N≤899):CallF prog G 30 [.pointer (some ⟨p,0,none⟩),.int .i64 z] (stP p pp σ::(Zr σ++q)) (Ret fun v q'=> ∃ (x:EvC) (σ':StC) (e:Int),v= .tuple [.agg (evC x).toArray,.int .i64 e].toArray∧q'=stP p pp σ'::(Zr σ'++(evL x++q))∧(Kn q fun M=>TodoAt M σ'.ths)∧SS.doP g.er.pr σ.er z=(σ'.er,x.e,e)):=by
 refine CallF.of func30 ntmps30 rfl (fun F cs=> ?_)
 obtain ⟨hP,hM,hF,hG,hTd⟩:=hH;have hok:=hF.ok;have hlen:σ.er.ths.length=σ.ths.length:=StC.nth σ;have h8:=hok.t.2;rw [hlen] at h8;have h1_:=hok.t.1;rw [hlen] at h1_
 change X _ _ _ _ _ _ _ _ (stP p pp σ::lsH I64 2 σ.ca σ.cc σ.cells::yH σ.sp σ.sy::rsH trC 5 116 σ.ha σ.hc σ.ths::stars (σ.ths.map trH)::(q++F))
 refine Yq (l:=σ.ths) (by omega) (fun ga e_=> ?_)
 have hr: ∀ r,Sees (rsH trC 5 116 σ.ha σ.hc σ.ths::r) (some ⟨ga,0,none⟩) (σ.ths.flatMap trC):=fun r=>by rw [←e_];exact Sees.rsH r
 refine xo 2 ?_;refine XO.al zeroValue47 fun n1=> ?_
 refine oo 7 ?_;refine XO.cR call49 (Q0 (p:=p) (pp:=pp) clA) ?_
 refine Zi (Pu.not rfl) ?_;refine ox 2 ?_;refine Wr 8 ?_
 have hzc:z<0∨(¬z<0∧(σ.ths.length:Int)≤z)∨(0≤z∧z<σ.ths.length):=(by omega)
 rcases hzc with hz|hz|hz
 focus
  refine xo 6 ?_;refine XO.know 16 (.bool true) rfl (congrArg Value.bool (decide_eq_true hz)) ?_;refine oo 14 ?_
 rotate_left
 focus
  refine xo 6 ?_;refine XO.know 16 (.bool false) rfl (congrArg Value.bool (decide_eq_false hz.1)) ?_;refine ol 4 ?_;refine ox 5 ?_;refine X.know 13 (.bool true) rfl (congrArg Value.bool (decide_eq_true (by omega))) ?_
  refine xo 4 ?_
 rotate_left
 · refine xo 6 ?_;refine XO.know 16 (.bool false) rfl (congrArg Value.bool (decide_eq_false (by omega))) ?_
   refine ol 4 ?_;refine ox 5 ?_;refine X.know 13 (.bool false) rfl (congrArg Value.bool (decide_eq_false (by omega))) ?_
   refine xo 4 ?_;obtain ⟨n,rfl⟩:=Int.eq_ofNat_of_zero_le hz.1;have hn:n<σ.ths.length:=(by omega);have hnot: ¬ ((n:Int)<0∨(σ.er.ths.length:Int)≤n):=(by rw [hlen];omega)
   refine Zb call40 leA (Sz (p:=p) (pp:=pp) (σ:=σ) (q:=pto n1 _::(q++F)) hok (by omega) (hTd.le leA)) ?_
   rintro _ _ ⟨a1,c1,rfl,rfl⟩
   refine ox 4 ?_;refine X.part 26 rfl (fun h2=> ?_) (fun h2=> ?_)
   · replace h2:=sp h2;have hal:=List.eq_nil_of_length_eq_zero (show (σ.er.all g.er.pr).length=0 by omega)
     refine xo 4 ?_;refine stA ?_;refine ox 2 ?_
     skip
     refine X.le (Zl acC 3 140 _) (X.le (Zl snC 3 50 _) ?_);refine Zq (stP p pp σ::(Zr σ++(evL (⟨zE0,none,0,none,0⟩:EvC)++q))) func30 (Np results30) ⟨_,rfl,(⟨zE0,none,0,none,0⟩:EvC),σ,150,rfl,rfl,hTd,by unfold SS.doP;rw [if_neg hnot,if_pos hal]⟩ (by unfold Zr evL;exact leA)
   replace h2:=sp h2;have hal: ¬σ.er.all g.er.pr= []:=(fun k=>by rw [k] at h2;exact h2 rfl)
   refine xo 5 ?_;refine Zb call59 leA (Ih (p:=p) (pp:=pp) (σ:=σ) (n:=n) (q:=pto n1 _::(q++F)) hok (by omega) hn (hTd.le leA)) ?_
   rintro _ _ ⟨rfl,rfl⟩
   refine Zi (Pu.not rfl) ?_;refine ox 2 ?_;refine X.part 32 rfl (fun h3=> ?_) (fun h3=> ?_)
   · replace h3:=sp h3
     refine xo 4 ?_;refine stA ?_;refine ox 2 ?_
     skip
     refine X.le (Zl acC 3 140 _) (X.le (Zl snC 3 50 _) ?_);refine Zq (stP p pp σ::(Zr σ++(evL (⟨zE0,none,0,none,0⟩:EvC)++q))) func30 (Np results30) ⟨_,rfl,(⟨zE0,none,0,none,0⟩:EvC),σ,151,rfl,rfl,hTd,by unfold SS.doP;rw [if_neg hnot,if_neg hal,if_pos (by simpa using h3)]⟩ (by unfold Zr evL;exact leA)
   replace h3:=sp h3;have hc:σ.er.can g.er.pr n=true:=(by simpa using h3)
   have hcl:σ.cells.length≤1000000:=(by have h:=hok.c;have h2:=hM.l.1;have h3:=hM.s;have h4:(σ.er.cells.length:Int)=σ.cells.length:=rfl;omega)
   have hR:=hF.ready (p:=g.er.pr) (by rw [hlen];exact hn) hc;have hthe:σ.er.th n=(σ.ths[n]).er:=Z1 hn;have hne:σ.ths[n].todo≠ []:=by
    have h1:=hR.l;rw [hthe] at h1
    intro e;rw [←Qx] at e;rw [e] at h1;cases h1
   obtain ⟨⟨yb,yo,ys⟩,hy1,hy2,hy3,hy4,hy5⟩:=Rl hne;rw [←hthe] at hy5;dsimp only at hy5;have htl:=(hok.at hn).n;rw [Vc] at htl
   have hyA:Kn q fun M=>PS.At M ⟨yb,yo,ys⟩:=hTd.imp fun M h=>h σ.ths[n] (List.getElem_mem hn) _ hy2
   have hC8:Cl q ⟨yb,yo+21,none⟩ (.int .i64 ys.er.idn):=by have h:=Kn.stC hyA;obtain ⟨kk,ln,cl,nm,wt,⟨ek,en,enm,esl,elo,eop,el,ea,ec⟩,⟨xk,xn,xnm,xsl,xlo,xop,xl,xa,xc⟩,bd,es2,ba,bc,ea2,ec2,id,sl,ot,lo⟩:=ys;exact h 21 _ rfl
   refine xo 6 ?_;refine Zb call37 leA (SCopy_ok (p:=p) (pp:=pp) (σ:=σ) (q:=pto n1 (.cells (evC (⟨zE0,none,0,none,0⟩:EvC)).toArray 47 (0,0))::(q++F)) hok (by omega) hcl) ?_
   rintro _ _ ⟨p2,σ2,hs1,hs2,rfl,rfl⟩
   refine oo 1 ?_;refine ldA ?_;refine oo 2 ?_;refine Wu fun n2=> ?_
   refine ol 10 ?_;refine oo 1 ?_;refine XO.know 51 (.slice (some ⟨ga,0,none⟩) σ.ths.length σ.hc) rfl (by rw [←e_]) ?_
   refine oo 1 ?_;refine XO.cR call60 (J7 (b:=ga) (o:=0+(n:Int).toNat*5) (todo:=σ.ths[n].todo) (Cl.row (n:=n) (hr _) leA Zd hn rfl 3 _ rfl) ((Sees.todo hn).le leA) (by omega)) ?_
   refine XO.know 54 (.pointer (some ⟨yb,yo,none⟩)) rfl (by rw [hy1];rfl) ?_
   refine oo 2 ?_;refine ld ?_ (hc:=(hC8.le leA))
   refine oo 3 ?_;refine st ?_;refine oo 3 ?_;refine st ?_;refine oo 5 ?_
   have hl2:σ2.ths.length=σ.ths.length:=by rw [←StC.nth,hs1,StC.nth]
   have hn2:n<σ2.ths.length:=(by rw [hl2];exact hn)
   refine XO.le (Zl acC 3 140 _) (XO.le (Zl snC 3 50 _) ?_);refine Zb call61 (by unfold Zw spP Zr evL;exact leA) (do2_ok (p:=n2) (pp:=pp) (who:=n) (σ:=σ2) (ev:=(⟨zEv n ys.er.idn,none,0,none,0⟩:EvC)) (q:=q) (F:=F) (pto n1 (.cells (evC (⟨zE0,none,0,none,0⟩:EvC)).toArray 47 (0,0))::stP p pp σ::lsH I64 2 σ.ca σ.cc σ.cells::yH σ.sp σ.sy::rsH trC 5 116 σ.ha σ.hc σ.ths::stars (σ.ths.map trH):: []) hP hM (by rw [hs1];exact hF) (by omega) hn2 (by rw [hs1];exact hc) (hTd.imp fun M h=>TodoAt.of hs2 h) (by rw [hs1,hy5])) ?_
   rintro _ _ ⟨σ3,ev3,hor,eq_⟩;simp only [Zw,spP,Zr,evL,ca,na] at eq_;subst eq_
   rw [hs1] at hor;obtain ⟨D,hD⟩: ∃ D,D=σ.er.did g.er.pr n:=⟨_,rfl⟩;rw [←hD] at hor;have hst3:=C6 (p:=g.er.pr) (s:=σ.er) (n:=n);rw [←hD] at hst3
   rcases hor with ⟨h0,rfl,hE,hV,hT3⟩|⟨h0,rfl,hV⟩
   · refine ox 7 ?_;refine Wr 67 ?_;refine xo 8 ?_;refine ldA ?_;refine oo 1 ?_;refine stA ?_;refine oo 6 ?_;refine ldA ?_;refine stA ?_;refine ox 2 ?_;refine Zq (stP p pp σ3::(Zr σ3++(evL ev3++q))) func30 (Np results30) ⟨_,rfl,ev3,σ3,0,rfl,rfl,hT3,by unfold SS.doP;rw [if_neg hnot,if_neg hal,if_neg (by rw [show ((n:Int)).toNat=n from rfl,hc];decide),show ((n:Int)).toNat=n from rfl];obtain ⟨e1,e2⟩:=P9 hG hc (by rw [←hD];exact h0);rw [e1,e2,←hD,hE,hV]⟩ (by unfold stP Zr evL;exact leA)
   have hs3:ev3.e.stmt=(σ.er.th n).next.idn:=by rw [hV];exact hst3
   refine ox 7 ?_;refine X.know 67 (.bool true) rfl (congrArg Value.bool (bne_iff_ne.2 h0)) ?_;refine xj 10 ?_;refine oo 3 ?_;refine stA ?_;refine ox 2 ?_;refine drw ?_;refine dl [0,1,2,3,4] 5 ?_;refine dl [6,7,8,9,10] 11 ?_;refine dd [12] ?_;refine V9 13 ?_;refine dd [14] ?_;refine XD.nil ?_;refine X.le (Zl snC 3 50 _) ?_;refine Zq (stP p pp ({ σ with out:=⟨4,D.2.2,n,ev3.e.stmt⟩ } :StC)::(Zr ({ σ with out:=⟨4,D.2.2,n,ev3.e.stmt⟩ } :StC)++(evL (⟨{ zEv n ev3.e.stmt with trap:=D.2.2,acc:=ev3.e.acc },ev3.aa,ev3.ac,none,0⟩:EvC)++q))) func30 (Np results30) ⟨_,rfl,(⟨{ zEv n ev3.e.stmt with trap:=D.2.2,acc:=ev3.e.acc },ev3.aa,ev3.ac,none,0⟩:EvC),({ σ with out:=⟨4,D.2.2,n,ev3.e.stmt⟩ } :StC),0,rfl,rfl,hTd,by unfold SS.doP;rw [if_neg hnot,if_neg hal,if_neg (by rw [show ((n:Int)).toNat=n from rfl,hc];decide),show ((n:Int)).toNat=n from rfl];obtain ⟨e1,e2⟩:=Fo (p:=g.er.pr) (s:=σ.er) (n:=n) (by rw [←hD];exact h0);rw [e1,e2,←hD,←hs3,hV];rfl⟩ (by unfold stP Zr evL;exact leA)
 all_goals
  refine stA ?_;refine ox 2 ?_
  skip
  refine X.le (Zl acC 3 140 _) (X.le (Zl snC 3 50 _) ?_);refine Zq (stP p pp σ::(Zr σ++(evL (⟨zE0,none,0,none,0⟩:EvC)++q))) func30 (Np results30) ⟨_,rfl,(⟨zE0,none,0,none,0⟩:EvC),σ,2,rfl,rfl,hTd,by unfold SS.doP;rw [if_pos (by omega)]⟩ (by unfold Zr evL;exact leA)
end
theorem SS.fine.pg {F:Fnd}{N:Nat}{s:SS}(h:s.fine F N):s.pg.fine F N:=h.out _
theorem SS.fine.doP {F:Fnd}{N:Nat}{s:SS}(h:s.fine F N)(hM:MayP F)(z:Int):(s.doP F.pr z).1.fine F (N+1):=by
 unfold SS.doP
 split
 · exact h.mono (Nat.le_succ N)
 rename_i h1
 split
 · exact h.mono (Nat.le_succ N)
 split
 · exact h.mono (Nat.le_succ N)
 rename_i h3
 exact (h.step hM (n:=z.toNat) (by omega) (by simpa using h3)).pg
theorem Xj {p:PPr}{s:SS}(h:s.pg=s)(z:Int):(s.doP p z).1.pg=(s.doP p z).1:=by
 unfold SS.doP
 split
 · exact h
 split
 · exact h
 split
 · exact h
 exact SS.pg_pg _
theorem Hd.next {q:List HP}{pp N:Nat}{g:FC}{σ σ':StC}{z:Int}(h:Hd q pp g N σ)(e:(SS.doP g.er.pr σ.er z).1=σ'.er)(hT:Kn q fun M=>TodoAt M σ'.ths):Hd q pp g (N+1) σ':=
 ⟨h.P,h.M,e ▸ h.F.doP h.M z,e ▸ Xj h.G z,hT⟩
theorem Hd.mono {q:List HP}{pp N N':Nat}{g:FC}{σ:StC}(h:Hd q pp g N σ)(l:N≤N'):Hd q pp g N' σ:=⟨h.P,h.M,h.F.mono l,h.G,h.T⟩
def SS.ix (k:Int)(n:Nat):Nat:=((k.tmod n+n).tmod n).toNat
def SS.stepP (p:PPr)(s:SS)(k:Int):SS×PEv×Int:=
 if s.all p= [] then (s,zE0,150) else s.doP p ((s.all p).getD (SS.ix k (s.all p).length) 0)
theorem Hd.step {q:List HP}{pp N:Nat}{g:FC}{σ σ':StC}{k:Int}(h:Hd q pp g N σ)(e:(SS.stepP g.er.pr σ.er k).1=σ'.er)(hT:Kn q fun M=>TodoAt M σ'.ths):Hd q pp g (N+1) σ':=by
 unfold SS.stepP at e
 split at e
 · exact ⟨h.P,h.M,e ▸ h.F.mono (Nat.le_succ N),e ▸ h.G,hT⟩
 exact h.next e hT
theorem ix_ok {k:Int}{n:Nat}(h:0<n)(h8:n≤1000):(-(n:Int)<k.tmod n∧k.tmod n<n)∧(0≤(k.tmod n+n).tmod n∧(k.tmod n+n).tmod n<n)∧SS.ix k n<n:=by
 have h1: -(n:Int)<k.tmod n∧k.tmod n<n:=by
  have a1:=Int.tmod_lt_of_pos k (b:=(n:Int)) (by omega)
  have a2:=Int.lt_tmod_of_pos k (b:=(n:Int)) (by omega)
  exact ⟨a2,a1⟩
 have h2:0≤(k.tmod n+n).tmod n∧(k.tmod n+n).tmod n<n:=⟨Int.tmod_nonneg _ (by omega),Int.tmod_lt_of_pos _ (by omega)⟩
 exact ⟨h1,h2,by unfold SS.ix;omega⟩
theorem Dy (p:PPr)(s:SS):(s.all p).length≤s.ths.length:=by
 unfold SS.all
 rw [List.length_map]
 exact Nat.le_trans (List.length_filter_le _ _) (Nat.le_of_eq List.length_range)
def Yy (p:PPr):SS→List Int→SS×List PEv
 |s, []=>(s, [])
 |s,k::r=>if s.all p= [] then (s, []) else ((Yy p (s.stepP p k).1 r).1,(s.stepP p k).2.1::(Yy p (s.stepP p k).1 r).2)
theorem Ko (p:PPr)(s:SS)(k:Int)(r:List Int):Yy p s (k::r)=if s.all p= [] then (s, []) else ((Yy p (s.stepP p k).1 r).1,(s.stepP p k).2.1::(Yy p (s.stepP p k).1 r).2):=by rw [Yy]
theorem Lz {p:PPr}{s:SS}{x:Int}(h:x∈s.all p): ∃ n:Nat,x=n∧n<s.ths.length∧s.can p n=true:=by
 unfold SS.all at h
 obtain ⟨n,hn,rfl⟩:=List.mem_map.1 h
 obtain ⟨h1,h2⟩:=List.mem_filter.1 hn
 exact ⟨n,rfl,List.mem_range.1 h1,h2⟩
theorem N5 {p:PPr}{s:SS}{k:Int}(h:s.all p≠ [])(h8:s.ths.length≤8): ∃ n:Nat,n<s.ths.length∧s.can p n=true∧(s.all p).getD (SS.ix k (s.all p).length) 0=n∧s.stepP p k=((s.step p n).1.pg,(s.step p n).2,0):=by
 have hl:=Dy p s
 obtain ⟨_,_,hi⟩:=ix_ok (k:=k) (List.length_pos_iff.2 h) (by omega)
 obtain ⟨n,h1,h2,h3⟩:=Lz (List.getElem_mem hi)
 refine ⟨n,h2,h3,by rw [Yn hi,h1],?_⟩
 unfold SS.stepP SS.doP
 rw [if_neg h,Yn hi,h1,if_neg (by omega),if_neg h,show ((n:Int)).toNat=n from rfl,h3]
 rfl
theorem Ju (x:EvC):(evC x).length=9:=rfl
theorem evC_one (x:EvC):(evC x).all (·.oneCell')=true:=rfl
def Fd (a:Option Addr)(c:Nat)(L:List EvC):List HP:= [rsH evC 9 47 a c L,stars (L.map fun x=>stars (evL x))]
structure Goes (q:List HP) (pp:Nat) (g:FC) (N:Nat) (σ:StC) (picks:List Int) (i:Nat) (σ':StC) (L:List EvC):Prop where
 h:Hd q pp g (N+i) σ'
 e:L.map EvC.e++(Yy g.er.pr σ'.er (picks.drop i)).2=(Yy g.er.pr σ.er picks).2
 s:(Yy g.er.pr σ'.er (picks.drop i)).1=(Yy g.er.pr σ.er picks).1
 l:L.length≤i
theorem Goes.next {q:List HP}{pp N i:Nat}{g:FC}{σ σ1 σ2:StC}{picks:List Int}{L:List EvC}{x:EvC}(h:Goes q pp g N σ picks i σ1 L)(hi:i<picks.length)(hn:σ1.er.all g.er.pr≠ [])(e:SS.stepP g.er.pr σ1.er picks[i]=(σ2.er,x.e,0))(hT:Kn q fun M=>TodoAt M σ2.ths):Goes q pp g N σ picks (i+1) σ2 (L++ [x]):=by
 have hd:picks.drop i=picks[i]::picks.drop (i+1):=List.drop_eq_getElem_cons hi
 have h1:=h.e;have h2:=h.s
 rw [hd,Ko] at h1 h2
 rw [if_neg hn,e] at h1 h2
 refine ⟨?_,?_,h2,by rw [List.length_append];have:=h.l;simp;omega⟩
 · have:=Hd.step (k:=picks[i]) h.h (by rw [e]) hT
   rwa [Nat.add_assoc] at this
 rw [List.map_append,List.append_assoc];exact h1
theorem Goes.stop {q:List HP}{pp N i:Nat}{g:FC}{σ σ1:StC}{picks:List Int}{L:List EvC}(h:Goes q pp g N σ picks i σ1 L)(hi:i<picks.length)(hn:σ1.er.all g.er.pr= []):σ1.er=(Yy g.er.pr σ.er picks).1∧L.map EvC.e=(Yy g.er.pr σ.er picks).2:=by
 have hd:picks.drop i=picks[i]::picks.drop (i+1):=List.drop_eq_getElem_cons hi
 have h1:=h.e;have h2:=h.s
 rw [hd,Ko] at h1 h2
 rw [if_pos hn] at h1 h2
 exact ⟨h2,by rw [←h1,List.append_nil]⟩
theorem Goes.done {q:List HP}{pp N i:Nat}{g:FC}{σ σ1:StC}{picks:List Int}{L:List EvC}(h:Goes q pp g N σ picks i σ1 L)(hi:i=picks.length):σ1.er=(Yy g.er.pr σ.er picks).1∧L.map EvC.e=(Yy g.er.pr σ.er picks).2:=by
 subst hi
 have h1:=h.e;have h2:=h.s
 rw [List.drop_length] at h1 h2
 exact ⟨h2,by rw [←h1];simp [Yy]⟩
theorem Gb:(prog.info? 47).map (fun i=>(i.zero,i.size,i.bytes))=some (some (.agg #[.int .i64 0,.int .i64 0,.bool false,.int .i64 0,.slice none 0 0,.bool false,.int .i64 0,.int .i64 0,.slice none 0 0]),9,104):=by kernel_rfl
section
variable {G:World}{q:List HP}{p pp who n N:Nat}{g:FC}{σ:StC}{ev:EvC}{k sl ot u:Int}{bb:Bool}
variable {z:Int}
theorem SDo2_ok (E:List HP){F:List HP}(hH:Hd q pp g N σ)(hN:N≤899):CallF prog G 30 [.pointer (some ⟨p,0,none⟩),.int .i64 z] (stP p pp σ::(Zr σ++(E++(q++F)))) (Ret fun v q'=> ∃ (x:EvC) (σ':StC) (e:Int),v= .tuple [.agg (evC x).toArray,.int .i64 e].toArray∧q'=stP p pp σ'::(Zr σ'++(evL x++(E++(q++F))))∧(Kn q fun M=>TodoAt M σ'.ths)∧SS.doP g.er.pr σ.er z=(σ'.er,x.e,e)):=
 CallF.conv (pre':=(stP p pp σ::(Zr σ++q))++(E++F)) (Le.cons _ (by show Le _ ((Zr σ++q)++(E++F));rw [List.append_assoc];exact Le.append_left _ (Vz E q F))) (Mz (E++F) (SDo_ok hH hN)) (by
  rintro _ _ ⟨_,⟨v,rfl,x,σ',e,rfl,rfl,h1,h2⟩,rfl⟩
  exact ⟨_,⟨_,rfl,x,σ',e,rfl,rfl,h1,h2⟩,Le.cons _ (by show Le ((Zr σ'++(evL x++q))++(E++F)) _;rw [List.append_assoc,List.append_assoc];exact Le.append_left _ (Le.append_left _ (Vz q E F)))⟩)
set_option maxHeartbeats 16000000 in
theorem SStep_ok (hH:Hd q pp g N σ)(hN:N≤899)(hk: -9223372036854775808≤k∧k≤9223372036854775807):CallF prog G 19 [.pointer (some ⟨p,0,none⟩),.int .i64 k] (stP p pp σ::(Zr σ++q)) (Ret fun v q'=> ∃ (x:EvC) (σ':StC) (e:Int),v= .tuple [.agg (evC x).toArray,.int .i64 e].toArray∧q'=stP p pp σ'::(Zr σ'++(evL x++q))∧(Kn q fun M=>TodoAt M σ'.ths)∧SS.stepP g.er.pr σ.er k=(σ'.er,x.e,e)):=by
 refine CallF.of func19 ntmps19 rfl (fun F cs=> ?_)
 have hF:=hH.F;have hTd:=hH.T;have hok:=hF.ok;have hlen:σ.er.ths.length=σ.ths.length:=StC.nth σ;have h8:=hok.t.2;rw [hlen] at h8;have hal8:=Dy g.er.pr σ.er;rw [hlen] at hal8
 change X _ _ _ _ _ _ _ _ (stP p pp σ::lsH I64 2 σ.ca σ.cc σ.cells::yH σ.sp σ.sy::rsH trC 5 116 σ.ha σ.hc σ.ths::stars (σ.ths.map trH)::(q++F))
 refine xo 2 ?_;refine XO.al zeroValue47 fun n1=> ?_
 refine oo 6 ?_;refine XO.cR call49 (Q0 (p:=p) (pp:=pp) clA) ?_
 refine Zi (Pu.not rfl) ?_;refine ox 1 ?_;refine Wr 9 ?_;obtain ⟨L,hL⟩: ∃ L,L=σ.er.all g.er.pr:=⟨_,rfl⟩;rw [←hL] at hal8
 refine xo 5 ?_;refine Zb call40 leA (Sz (p:=p) (pp:=pp) (σ:=σ) (q:=pto n1 (.cells (evC (⟨zE0,none,0,none,0⟩:EvC)).toArray 47 (0,0))::(q++F)) hok (by omega) (hTd.le leA)) ?_
 rintro _ _ ⟨a1,c1,rfl,rfl⟩
 rw [←hL]
 refine ox 9 ?_;refine X.part 15 rfl (fun h2=> ?_) (fun h2=> ?_)
 · replace h2:=sp h2;have hal:=List.eq_nil_of_length_eq_zero (show L.length=0 by omega)
   refine xo 4 ?_;refine stA ?_;refine ox 2 ?_;refine X.le (Zl acC 3 140 _) (X.le (Zl snC 3 50 _) ?_);refine Zq (stP p pp σ::(Zr σ++(evL (⟨zE0,none,0,none,0⟩:EvC)++q))) func19 (Np results19) ⟨_,rfl,(⟨zE0,none,0,none,0⟩:EvC),σ,150,rfl,rfl,hTd,by unfold SS.stepP;rw [if_pos (by rw [←hL];exact hal)]⟩ (by unfold Zr evL;exact leA)
 replace h2:=sp h2;have hp0:0<L.length:=(by omega);have hal: ¬σ.er.all g.er.pr= []:=(fun k=>by rw [←hL] at k;rw [k] at hp0;exact absurd hp0 (by decide));obtain ⟨hi1,hi2,hi3⟩:=ix_ok (k:=k) hp0 (by omega)
 refine V8 (l:=L) (by omega) (fun gl el_=> ?_)
 have hl_: ∀ r,Sees (lsH I64 3 a1 c1 L::r) (some ⟨gl,0,none⟩) (L.map I64):=fun r=>by rw [←el_];exact Sees.lsH r
 refine xo 16 ?_;refine XO.know 28 (.int .i64 (SS.ix k L.length:Int)) rfl (by unfold SS.ix;rw [Int.toNat_of_nonneg hi2.1]) ?_
 refine XO.know 18 (.slice (some ⟨gl,0,none⟩) L.length c1) rfl (by rw [←el_]) ?_
 refine oo 1 ?_;refine ld ?_ (hc:=(((hl_ _).le leA).at (by omega) hi3))
 refine Zb call30 (by unfold Zr;exact leA) (SDo2_ok (p:=p) (pp:=pp) (σ:=σ) (q:=q) (F:=F) (pto n1 (.cells (evC (⟨zE0,none,0,none,0⟩:EvC)).toArray 47 (0,0))::lsH I64 3 a1 c1 L:: []) hH hN) ?_
 rintro _ _ ⟨x,σ2,e2,rfl,rfl,hT2,hD2⟩
 simp only [Zr,evL,ca,na]
 refine oo 2 ?_;refine stA ?_;refine ox 2 ?_;refine Zq (stP p pp σ2::(Zr σ2++(evL x++q))) func19 (Np results19) ⟨_,rfl,x,σ2,e2,rfl,rfl,hT2,by unfold SS.stepP;rw [if_neg hal,←hL,Yn hi3];exact hD2⟩ (by unfold Zr evL;exact leA)
theorem Xz (E:List HP){F:List HP}(hH:Hd q pp g N σ)(hN:N≤899)(hk: -9223372036854775808≤k∧k≤9223372036854775807):CallF prog G 19 [.pointer (some ⟨p,0,none⟩),.int .i64 k] (stP p pp σ::(Zr σ++(E++(q++F)))) (Ret fun v q'=> ∃ (x:EvC) (σ':StC) (e:Int),v= .tuple [.agg (evC x).toArray,.int .i64 e].toArray∧q'=stP p pp σ'::(Zr σ'++(evL x++(E++(q++F))))∧(Kn q fun M=>TodoAt M σ'.ths)∧SS.stepP g.er.pr σ.er k=(σ'.er,x.e,e)):=
 CallF.conv (pre':=(stP p pp σ::(Zr σ++q))++(E++F)) (Le.cons _ (by show Le _ ((Zr σ++q)++(E++F));rw [List.append_assoc];exact Le.append_left _ (Vz E q F))) (Mz (E++F) (SStep_ok hH hN hk)) (by
  rintro _ _ ⟨_,⟨v,rfl,x,σ',e,rfl,rfl,h1,h2⟩,rfl⟩
  exact ⟨_,⟨_,rfl,x,σ',e,rfl,rfl,h1,h2⟩,Le.cons _ (by show Le ((Zr σ'++(evL x++q))++(E++F)) _;rw [List.append_assoc,List.append_assoc];exact Le.append_left _ (Le.append_left _ (Vz q E F)))⟩)
variable {picks:List Int}{pa:Option Addr}{pc:Nat}
set_option maxHeartbeats 16000000 in
theorem SRun_ok (hH:Hd q pp g N σ)(hN:N+picks.length≤899)(hs:Sees q pa (picks.map I64))(hk: ∀ k∈picks, -9223372036854775808≤k∧k≤9223372036854775807):CallF prog G 16 [.pointer (some ⟨p,0,none⟩),.slice pa picks.length pc] (stP p pp σ::(Zr σ++q)) (Ret fun v q'=> ∃ (σ':StC) (L:List EvC) (a':Option Addr) (c':Nat),v= .tuple [.slice a' L.length c',.agg (otC (σ'.er.outc g.er.pr)).toArray].toArray∧q'=stP p pp σ'::(Zr σ'++(Fd a' c' L++q))∧Hd q pp g (N+picks.length) σ'∧σ'.er=(Yy g.er.pr σ.er picks).1∧L.map EvC.e=(Yy g.er.pr σ.er picks).2∧L.length≤picks.length):=by
 refine CallF.of func16 ntmps16 rfl (fun F cs=> ?_)
 change X _ _ _ _ _ _ _ _ (stP p pp σ::lsH I64 2 σ.ca σ.cc σ.cells::yH σ.sp σ.sy::rsH trC 5 116 σ.ha σ.hc σ.ths::stars (σ.ths.map trH)::(q++F))
 refine xo 3 ?_;refine XO.al zeroValue41 fun n1=> ?_
 refine ox 13 ?_;refine X.at (X.loop (fun (s:Nat×StC×List EvC×Option Addr×Nat)=>s.1≤picks.length∧Goes q pp g N σ picks s.1 s.2.1 s.2.2.1) (fun s=> [(0,.pointer (some ⟨p,0,none⟩)),(5,.pointer (some ⟨n1,0,none⟩)),(6,.slice s.2.2.2.1 s.2.2.1.length s.2.2.2.2),(11,.slice pa picks.length pc),(12,.int .i64 (picks.length:Int)),(13,.int .i64 (s.1:Int))]) (fun s=>stP p pp s.2.1::lsH I64 2 s.2.1.ca s.2.1.cc s.2.1.cells::yH s.2.1.sp s.2.1.sy::rsH trC 5 116 s.2.1.ha s.2.1.hc s.2.1.ths::stars (s.2.1.ths.map trH)::pto n1 (.cells [.int .i64 0,.int .i64 0,.int .i64 0,.int .i64 0].toArray 41 (0,0))::rsH evC 9 47 s.2.2.2.1 s.2.2.2.2 s.2.2.1::stars (s.2.2.1.map fun x=>stars (evL x))::(q++F)) (fun s=>picks.length - s.1) (fun s hi_ ih=> ?_) (0,σ, [],none,0) ⟨Nat.zero_le _,⟨hH,rfl,rfl,Nat.le_refl _⟩⟩) Zu (Le.trans (Zl evC 9 47 _) (Le.trans (W4 _) leA))
 try dsimp only at hi_ ih⊢
 obtain ⟨hi,hg⟩:=hi_
 obtain ⟨i,σ1,L,ea,ec⟩:=s;dsimp only at*
 refine xx 5 ?_;refine X.part 14 rfl (fun h0=> ?_) (fun h0=> ?_)
 · replace h0:=sp h0;have hlt:i<picks.length:=(by omega)
   refine Ys (hs.le leA) (by rw [List.length_map];omega) (fun b1 o1 e1_=> ?_);have hs_:=hs;rw [e1_] at hs_
   refine xo 6 ?_;refine XO.know 11 (.slice (some ⟨b1,o1,none⟩) picks.length pc) rfl (by rw [←e1_]) ?_
   refine oo 1 ?_;refine ld ?_ (hc:=((hs_.le leA).at rfl hlt))
   refine oo 6 ?_;refine Zb call19 (by unfold Zr;exact leA) (Xz (p:=p) (pp:=pp) (σ:=σ1) (g:=g) (N:=N+i) (q:=q) (F:=F) (pto n1 (.cells [.int .i64 0,.int .i64 0,.int .i64 0,.int .i64 0].toArray 41 (0,0))::rsH evC 9 47 ea ec L::stars (L.map fun x=>stars (evL x)):: []) hg.h (by omega) (hk _ (List.getElem_mem hlt))) ?_
   rintro _ _ ⟨x,σ2,e2,rfl,rfl,hT2,hD2⟩
   simp only [Zr,evL,ca,na]
   refine oo 3 ?_;refine XO.al zeroValue47 fun n2=> ?_
   refine stA ?_;refine ox 8 ?_
   have hF1:=hg.h.F.ok.t.2;by_cases hal:σ1.er.all g.er.pr= []
   · have hD3:=hD2;unfold SS.stepP at hD3;rw [if_pos hal] at hD3;obtain ⟨hd1,hd2⟩:=Prod.mk.inj hD3;obtain ⟨hd3,rfl⟩:=Prod.mk.inj hd2;obtain ⟨hs1,hs2⟩:=hg.stop hlt hal
     refine X.kt 24 ?_
     have hHd:=Hd.step hg.h (by rw [hD2]) hT2
     refine xo 6 ?_;refine Zb call22 (by unfold Zr;exact leA) (Dp (p:=p) (pp:=pp) (σ:=σ2) (g:=g) (N:=N+i+1) (q:=pto n1 (.cells [.int .i64 0,.int .i64 0,.int .i64 0,.int .i64 0].toArray 41 (0,0))::rsH evC 9 47 ea ec L::stars (L.map fun x=>stars (evL x))::(q++F)) hHd.F.ok (by omega) (hHd.T.le leA)) ?_
     rintro _ _ ⟨rfl,rfl⟩
     simp only [Zr,ca,na]
     refine oo 1 ?_;refine stA ?_;refine ox 1 ?_;refine Zq (stP p pp σ2::(Zr σ2++(Fd ea ec L++q))) func16 (De results16 (ResOk.tmp rfl (ResOk.cell rfl (LV.agg isAgg41 sizeOf41 Qt rfl) ResOk.nil))) ⟨_,rfl,σ2,L,ea,ec,rfl,rfl,hHd.mono (by omega),by rw [←hd1];exact hs1,hs2,by have:=hg.l;omega⟩ (by unfold Zr Fd;exact leA)
   obtain ⟨_,_,_,_,hD3⟩:=N5 (k:=picks[i]) hal hF1;have hD4:=hD2;rw [hD3] at hD4;obtain ⟨_,hd2⟩:=Prod.mk.inj hD4;obtain ⟨_,rfl⟩:=Prod.mk.inj hd2;have hg2:=hg.next hlt hal hD2 hT2;have hgl:=hg.l
   refine Wr 24 ?_;refine xo 4 ?_;refine ldA ?_;refine XO.ef (Yz (u:=x) evC underlying37 Gb rfl rfl Ju rfl) ?_
   rintro _ _ ⟨g3,rfl,rfl⟩
   refine XO.ef (Z9 (f:=evC) (l:=L) (m:= [x]) underlying37 Gb rfl rfl Ju rfl rfl Zk ((Sees.rsH _).le leA) evC_one (by simp;omega) (by simp;omega)) ?_
   rintro _ _ ⟨a3,c3,rfl,rfl⟩
   refine ox 7 ?_;refine X.le (q':=stars ((L++ [x]).map fun x=>stars (evL x))::_) (Le.trans (b:=stars (L.map fun x=>stars (evL x))::rsH acC 3 140 x.aa x.ac x.e.acc::rsH snC 3 50 x.na x.nc x.e.syn::_) (Le.pick Zk (Le.pick Zk Zk)) (Le.trans (Le.cons _ (Z6 (evL x) _)) (by rw [List.map_append];exact Le.stars_snoc _ _ _))) ?_
   refine X.know 11 (.slice pa picks.length pc) rfl (by rw [e1_]) ?_
   refine X.at (ih (i+1,σ2,L++ [x],a3,c3) ⟨by dsimp only;omega,hg2⟩ (by dsimp only;omega)) Zu leA
 replace h0:=sp h0;obtain ⟨hs1,hs2⟩:=hg.done (show i=picks.length by omega)
 have hHd:=hg.h
 refine xo 6 ?_;refine Zb call22 (by unfold Zr;exact leA) (Dp (p:=p) (pp:=pp) (σ:=σ1) (g:=g) (N:=N+i) (q:=pto n1 (.cells [.int .i64 0,.int .i64 0,.int .i64 0,.int .i64 0].toArray 41 (0,0))::rsH evC 9 47 ea ec L::stars (L.map fun x=>stars (evL x))::(q++F)) hHd.F.ok (by omega) (hHd.T.le leA)) ?_
 rintro _ _ ⟨rfl,rfl⟩
 simp only [Zr,ca,na]
 refine oo 1 ?_;refine stA ?_;refine ox 1 ?_;refine Zq (stP p pp σ1::(Zr σ1++(Fd ea ec L++q))) func16 (De results16 (ResOk.tmp rfl (ResOk.cell rfl (LV.agg isAgg41 sizeOf41 Qt rfl) ResOk.nil))) ⟨_,rfl,σ1,L,ea,ec,rfl,rfl,hHd.mono (by omega),hs1,hs2,by have:=hg.l;omega⟩ (by unfold Zr Fd;exact leA)
end
structure Mx where
 own:List Int
 snt:List Int
 tak:List Int
def V0 (s:Sy):Mx:=⟨s.owners,s.chans.map fun c=>(c.all.length:Int),s.chans.map fun c=>(c.taken:Int)⟩
def mxOk (room:List Int)(th:Int)(m:Mx)(x:Sn):Prop:=
 (x.1=1→(0≤x.2.1∧x.2.1<m.own.length)∧m.own.getD x.2.1.toNat 0= -1)∧
 (x.1=2→(0≤x.2.1∧x.2.1<m.own.length)∧m.own.getD x.2.1.toNat 0=th)∧
 (x.1=4→(0≤x.2.1∧x.2.1<room.length)∧x.2.2=m.snt.getD x.2.1.toNat 0∧m.snt.getD x.2.1.toNat 0 - m.tak.getD x.2.1.toNat 0<room.getD x.2.1.toNat 0)∧
 (x.1=5→(0≤x.2.1∧x.2.1<room.length)∧x.2.2=m.tak.getD x.2.1.toNat 0∧m.tak.getD x.2.1.toNat 0<m.snt.getD x.2.1.toNat 0)
def mxS (th:Int)(m:Mx)(x:Sn):Mx:=
 if x.1=1 then { m with own:=m.own.set x.2.1.toNat th } else if x.1=2 then { m with own:=m.own.set x.2.1.toNat (-1) }
 else if x.1=4 then { m with snt:=m.snt.set x.2.1.toNat (m.snt.getD x.2.1.toNat 0+1) } else if x.1=5 then { m with tak:=m.tak.set x.2.1.toNat (m.tak.getD x.2.1.toNat 0+1) } else m
structure Mx.fit (room:List Int) (N:Nat) (m:Mx):Prop where
 s:m.snt.length=room.length
 t:m.tak.length=room.length
 a: ∀ x∈m.snt,0≤x∧x≤N
 b: ∀ x∈m.tak,0≤x∧x≤N
 o:m.own.length≤64
def MxGo (room:List Int)(N:Nat)(th:Int):Mx→List Sn→Mx→Prop
 |m, [],z=>z=m
 |m,x::r,z=>mxOk room th m x∧(mxS th m x).fit room N∧MxGo room N th (mxS th m x) r z
def quietS (x:Sn):Prop:=x.1≠1∧x.1≠2∧x.1≠4∧x.1≠5
theorem Tf {th:Int}{m:Mx}{x:Sn}(h:quietS x):mxS th m x=m:=by
 obtain ⟨a,b,c,d⟩:=h
 unfold mxS
 rw [if_neg a,if_neg b,if_neg c,if_neg d]
theorem Uj {room:List Int}{N:Nat}{th:Int}{m:Mx}(hf:m.fit room N): ∀ {r:List Sn},(∀ x∈r,quietS x)→MxGo room N th m r m
 | [],_=>rfl
 |x::r,h=>by
  have hx:=h x (List.mem_cons_self ..)
  refine ⟨⟨fun e=>absurd e hx.1,fun e=>absurd e hx.2.1,fun e=>absurd e hx.2.2.1,fun e=>absurd e hx.2.2.2⟩,?_,?_⟩
  · rw [Tf hx];exact hf
  rw [Tf hx];exact Uj hf fun y hy=>h y (List.mem_cons_of_mem _ hy)
theorem MxGo.app {room:List Int}{N:Nat}{th:Int}{y z:Mx}{r:List Sn}(hr:MxGo room N th y r z): ∀ {l:List Sn} {m:Mx},MxGo room N th m l y→MxGo room N th m (l++r) z
 | [],m,h=>by cases h;exact hr
 |x::l,m,⟨h1,h2,h3⟩=>⟨h1,h2,MxGo.app hr h3⟩
theorem MxGo.one {room:List Int}{N:Nat}{th:Int}{m z:Mx}{x:Sn}(h:mxOk room th m x)(e:mxS th m x=z)(hf:z.fit room N):MxGo room N th m [x] z:=⟨h,e ▸ hf,e.symm⟩
theorem Sy.ok.fit {N:Nat}{s:Sy}{room:List Int}(h:s.ok N)(hr:s.chans.map Ch.room=room):(V0 s).fit room N:=by
 have hl:s.chans.length=room.length:=by rw [←hr,List.length_map]
 refine ⟨by simp [V0,hl],by simp [V0,hl],fun x hx=> ?_,fun x hx=> ?_,h.no⟩
 · obtain ⟨c,hc,rfl⟩:=List.mem_map.1 hx
   have:=(h.h c hc).2.2.1;omega
 obtain ⟨c,hc,rfl⟩:=List.mem_map.1 hx
 have h1:=(h.h c hc).2.2.1;have h2:=(h.h c hc).2.1;omega
theorem Fx {s:Sy}{i:Nat}(h:i<s.chans.length):(V0 s).snt.getD i 0=((s.chans.getD i ch0).all.length:Int):=by simp [V0,List.getD,h]
theorem Fw {s:Sy}{i:Nat}(h:i<s.chans.length):(V0 s).tak.getD i 0=((s.chans.getD i ch0).taken:Int):=by simp [V0,List.getD,h]
theorem Nt {α β:Type}{f:α→β}{l:List α}{i:Nat}{x:α}(h:i<l.length)(e:f x=f l[i]):(l.set i x).map f=l.map f:=by
 rw [List.map_set,e]
 apply List.ext_getElem (by simp)
 intro j h1 h2
 by_cases k:i=j
 · subst k;simp
 simp [List.getElem_set_ne k]
theorem Ch.il {N:Nat}{c:Ch}(h:c.ok N):(c.taken:Int)+c.items.length=c.all.length:=by
 have:=h.2.1;unfold Ch.items;rw [List.length_drop];omega
section
variable {F:Fnd}{N n:Nat}{s:SS}{x:PStm}{ev:PEv}
set_option maxHeartbeats 4000000 in
theorem Lb (h:s.okx F N n)(hM:MayP F)(hx:x.good F.cn (s.th n).loc.length)(hk:x.kd≤5∨x.kd=11∨x.kd=15)(he:ev.syn= [])(hr:x.kd=11→((s.sy.chans.getD x.slt.toNat ch0).items.length:Int)<F.chs.getD x.slt.toNat 0)(ht:(s.data F.pr n x ev).2.2=0):
 MxGo F.chs (N+1) n (V0 s.sy) (s.data F.pr n x ev).2.1.syn (V0 (s.data F.pr n x ev).1.sy):=by
 have hy':=h.y.mono (Nat.le_succ N)
 have f0:=hy'.fit h.z.2.2
 obtain ⟨k,ln,cl,nm,wt,e,ix,body,els,id,slot,other,loc⟩:=x
 simp only [PStm.kd,PStm.slt] at hk hr
 obtain ⟨hg1,hg2,hg3,hg4,hg5⟩:=hx
 obtain ⟨hs1,hs2,hs3,hs6,hs8,hs8o,hs11,hs12,hs13⟩:=Yf hg2
 obtain ⟨hpe,hpx⟩:=Wz hg1
 have k0:=h.h n h.nn
 have hev:=(Yh (p:=F.pr) h.v k0.v (hpe (by omega))).1
 have qq: ∀ {l:List Sn} {y:Sy},l= []→y=s.sy→MxGo F.chs (N+1) n (V0 s.sy) l (V0 y):=fun a b=>by rw [a,b];exact Uj f0 (fun x hx=>by cases hx)
 have hin: ∀ (a:Int) (b:Bool) (v:Int),(s.into n a b v).1.sy=s.sy:=fun a b v=>by unfold SS.into SS.put;split<;>rfl
 unfold SS.data at ht⊢
 dsimp only at ht⊢
 generalize (if k=3 then ix.made F.pr s.cells (s.th n).loc else (0,0, []))=i at ht⊢
 split at ht
 · rename_i h1;exact absurd ht h1
 rename_i h1;rw [if_neg h1]
 split at ht
 · rename_i h2;exact absurd ht h2
 rename_i h2;rw [if_neg h2]
 split
 · exact qq he (hin _ _ _)
 split
 · split
   · exact qq he rfl
   exact qq he rfl
 split
 · exact qq he rfl
 split
 · exact qq he rfl
 split
 · rename_i h11
   have hsl:=hs11 (.inl h11)
   have hcl:(s.sy.chans.length:Int)=F.cn.ch:=by have:=congrArg List.length h.z.2.2;rw [List.length_map] at this;rw [this];rfl
   have hlt:slot.toNat<s.sy.chans.length:=by omega
   have hrm:=hr h11
   have hrm2:F.chs.getD slot.toNat 0=(s.sy.chans.getD slot.toNat ch0).room:=by rw [←h.z.2.2,E5 hlt]
   have hch:=h.y.h _ (Yr (d:=ch0) hlt)
   have hil:=Ch.il hch
   have hsd:(W9 s.sy slot (e.made F.pr s.cells (s.th n).loc).1).1= { s.sy with chans:=s.sy.chans.set slot.toNat { s.sy.chans.getD slot.toNat ch0 with all:=(s.sy.chans.getD slot.toNat ch0).all++ [(e.made F.pr s.cells (s.th n).loc).1] } } :=by
    unfold W9;rw [if_pos ⟨hsl.1,by omega⟩,if_pos hev,if_pos (by rw [←hrm2];exact hrm)]
   have hfit:=(Gt h.y slot (e.made F.pr s.cells (s.th n).loc).1).fit ((R4 _ _ _).trans h.z.2.2)
   dsimp only
   rw [he,List.nil_append]
   refine MxGo.one ⟨fun k=>absurd k (by show ¬ (4:Int)=1;decide),fun k=>absurd k (by show ¬ (4:Int)=2;decide),fun _=>⟨⟨hsl.1,by show slot<(F.chs.length:Int);exact hsl.2⟩,?_,?_⟩,fun k=>absurd k (by show ¬ (4:Int)=5;decide)⟩ ?_ hfit
   · rw [Fx hlt]
   · rw [Fx hlt,Fw hlt,hrm2];rw [hrm2] at hrm;omega
   rw [hsd]
   unfold mxS
   rw [if_neg (by show ¬ (4:Int)=1;decide),if_neg (by show ¬ (4:Int)=2;decide),if_pos rfl,Fx hlt]
   unfold V0
   simp only [Mx.mk.injEq,true_and]
   refine ⟨?_,(Nt hlt (by simp [List.getD,hlt])).symm⟩
   rw [List.map_set];simp
 exact qq he rfl
theorem Is (s:Sy)(k t:Int):(Va s k t).1.owners=s.owners∧(Va s k t).1.chans=s.chans:=by unfold Va;(repeat' split)<;>exact ⟨rfl,rfl⟩
theorem allS_own (s:Sy)(k:Int):(Qi s k).1.owners=s.owners∧(Qi s k).1.chans=s.chans:=by unfold Qi;(repeat' split)<;>exact ⟨rfl,rfl⟩
theorem Gd (s:Sy)(k:Int):(Yx s k).1.owners=s.owners∧(Yx s k).1.chans=s.chans:=by unfold Yx;(repeat' split)<;>exact ⟨rfl,rfl⟩
theorem Fy {s y:Sy}(h:y.owners=s.owners∧y.chans=s.chans):V0 y=V0 s:=by unfold V0;rw [h.1,h.2]
theorem S7 {m:Int}(h:s.okx F N n)(hm:0≤m∧m<s.sy.owners.length)(ho:s.sy.owners.getD m.toNat 0= -1):MxGo F.chs (N+1) n (V0 s.sy) [(1,m,0)] (V0 (Wp s.sy m n).1):=by
 obtain ⟨k1,k2,k3⟩:=Mr s.sy m n
 have hl:(Wp s.sy m n).1= { s.sy with owners:=s.sy.owners.set m.toNat n } :=by
  unfold Wp;rw [if_pos ⟨hm.1,hm.2⟩,if_pos ⟨by omega,by have:=h.nn;have:=h.t.2;omega⟩,if_pos ho]
 refine MxGo.one ⟨fun _=>⟨hm,ho⟩,fun k=>absurd k (by show ¬ (1:Int)=2;decide),fun k=>absurd k (by show ¬ (1:Int)=4;decide),fun k=>absurd k (by show ¬ (1:Int)=5;decide)⟩ ?_ (((Bc h.y m n).mono (Nat.le_succ N)).fit (by rw [k3];exact h.z.2.2))
 rw [hl];rfl
theorem Ez {m:Int}(h:s.okx F N n)(hm:0≤m∧m<s.sy.owners.length)(ho:s.sy.owners.getD m.toNat 0=n):MxGo F.chs (N+1) n (V0 s.sy) [(2,m,0)] (V0 (Z2 s.sy m n).1):=by
 obtain ⟨k1,k2,k3⟩:=Kw s.sy m n
 have hl:(Z2 s.sy m n).1= { s.sy with owners:=s.sy.owners.set m.toNat (-1) } :=by
  unfold Z2;rw [if_pos ⟨hm.1,hm.2⟩,if_pos ⟨by omega,by have:=h.nn;have:=h.t.2;omega⟩,if_pos ho]
 refine MxGo.one ⟨fun k=>absurd k (by show ¬ (2:Int)=1;decide),fun _=>⟨hm,ho⟩,fun k=>absurd k (by show ¬ (2:Int)=4;decide),fun k=>absurd k (by show ¬ (2:Int)=5;decide)⟩ ?_ (((Mc h.y m n).mono (Nat.le_succ N)).fit (by rw [k3];exact h.z.2.2))
 rw [hl];rfl
set_option maxHeartbeats 4000000 in
theorem F3 (h:s.okx F N n)(hx:x.good F.cn (s.th n).loc.length)(he:ev.syn= [])(hr:x.kd=12→0<(s.sy.chans.getD x.slt.toNat ch0).items.length)(ht:(s.others F.pr n x ev).2.2=0):
 MxGo F.chs (N+1) n (V0 s.sy) (s.others F.pr n x ev).2.1.syn (V0 (s.others F.pr n x ev).1.sy):=by
 have hy':=h.y.mono (Nat.le_succ N)
 have f0:=hy'.fit h.z.2.2
 obtain ⟨k,ln,cl,nm,wt,e,ix,body,els,id,slot,other,loc⟩:=x
 simp only [PStm.kd,PStm.slt] at hr
 obtain ⟨hg1,hg2,hg3,hg4,hg5⟩:=hx
 obtain ⟨hs1,hs2,hs3,hs6,hs8,hs8o,hs11,hs12,hs13⟩:=Yf hg2
 have hz:=h.z
 have hmu:F.cn.mu=F.mu:=rfl
 unfold SS.others at ht⊢
 dsimp only at ht⊢
 split at ht
 · rename_i h1;rw [if_pos h1]
   split at ht
   · exact absurd ht (by show ¬ (4:Int)=0;decide)
   rename_i h2;rw [if_neg h2]
   dsimp only;rw [he,List.nil_append]
   have hsl:=hs6 (.inl h1)
   exact S7 h ⟨hsl.1,by omega⟩ (Decidable.not_not.1 h2)
 rename_i h1;rw [if_neg h1]
 split at ht
 · rename_i h2;rw [if_pos h2]
   split at ht
   · exact absurd ht (by show ¬ (4:Int)=0;decide)
   rename_i h3;rw [if_neg h3]
   dsimp only;rw [he,List.nil_append]
   have hsl:=hs6 (.inr h2)
   exact Ez h ⟨hsl.1,by omega⟩ (Decidable.not_not.1 h3)
 rename_i h2;rw [if_neg h2]
 split at ht
 · rename_i h3;rw [if_pos h3]
   split at ht
   · exact absurd ht (by show ¬ (4:Int)=0;decide)
   rename_i h4;rw [if_neg h4]
   dsimp only;rw [he,List.nil_append]
   have hsl:=hs8o h3
   show MxGo _ _ _ _ _ (V0 (Va (Z2 s.sy other n).1 slot n).1)
   rw [Fy (Is _ _ _)]
   exact Ez h ⟨hsl.1,by omega⟩ (Decidable.not_not.1 h4)
 rename_i h3;rw [if_neg h3]
 by_cases h4:k=9∨k=10
 · rw [if_pos h4]
   dsimp only;rw [he,List.nil_append]
   have:V0 (if k=10 then (Qi s.sy slot).1 else (Yx s.sy slot).1)=V0 s.sy:=by
    split
    · exact Fy (allS_own _ _)
    exact Fy (Gd _ _)
   rw [this]
   refine Uj f0 fun y hy=> ?_
   obtain ⟨i,_,rfl⟩:=List.mem_map.1 hy
   exact ⟨by show ¬ (3:Int)=1;decide,by show ¬ (3:Int)=2;decide,by show ¬ (3:Int)=4;decide,by show ¬ (3:Int)=5;decide⟩
 rw [if_neg h4] at ht⊢
 by_cases h5:k=12
 · rw [if_pos h5]
   dsimp only;rw [he,List.nil_append]
   have hsl:=hs11 (.inr h5)
   have hcl:(s.sy.chans.length:Int)=F.cn.ch:=by have:=congrArg List.length h.z.2.2;rw [List.length_map] at this;rw [this];rfl
   have hlt:slot.toNat<s.sy.chans.length:=by omega
   have hp:=hr h5
   have hch:=h.y.h _ (Yr (d:=ch0) hlt)
   have hil:=Ch.il hch
   have hin: ∀ (z:SS) (a:Int) (b:Bool) (v:Int),(z.into n a b v).1.sy=z.sy:=fun z a b v=>by unfold SS.into SS.put;split<;>rfl
   rw [hin]
   dsimp only
   have hrc:(Ws s.sy slot).1= { s.sy with chans:=s.sy.chans.set slot.toNat { s.sy.chans.getD slot.toNat ch0 with taken:=(s.sy.chans.getD slot.toNat ch0).taken+1 } } :=by
    unfold Ws;rw [if_pos ⟨hsl.1,by omega⟩,if_neg (by intro k;rw [k] at hp;exact absurd hp (by decide))]
   refine MxGo.one ⟨fun k=>absurd k (by show ¬ (5:Int)=1;decide),fun k=>absurd k (by show ¬ (5:Int)=2;decide),fun k=>absurd k (by show ¬ (5:Int)=4;decide),fun _=>⟨⟨hsl.1,by show slot<(F.chs.length:Int);exact hsl.2⟩,?_,?_⟩⟩ ?_ (((Bj h.y slot).mono (Nat.le_succ N)).fit ((Bz _ _).trans h.z.2.2))
   · rw [Fw hlt]
   · rw [Fx hlt,Fw hlt];omega
   rw [hrc]
   unfold mxS
   rw [if_neg (by show ¬ (5:Int)=1;decide),if_neg (by show ¬ (5:Int)=2;decide),if_neg (by show ¬ (5:Int)=4;decide),if_pos rfl,Fw hlt]
   unfold V0
   simp only [Mx.mk.injEq,true_and]
   refine ⟨(Nt hlt (by simp [List.getD,hlt])).symm,?_⟩
   rw [List.map_set];simp
 rw [if_neg h5] at ht⊢
 split at ht
 · rename_i h6;rw [if_pos h6]
   split at ht
   · exact absurd ht (by show ¬ (5:Int)=0;decide)
   rename_i h7;rw [if_neg h7]
   dsimp only;rw [he,List.nil_append]
   exact Uj f0 fun y hy=>by rw [List.mem_singleton.1 hy];exact ⟨by show ¬ (6:Int)=1;decide,by show ¬ (6:Int)=2;decide,by show ¬ (6:Int)=4;decide,by show ¬ (6:Int)=5;decide⟩
 rename_i h6;rw [if_neg h6]
 dsimp only;rw [he,List.nil_append]
 refine Uj f0 fun y hy=> ?_
 obtain ⟨i,_,rfl⟩:=List.mem_map.1 hy
 exact ⟨by show ¬ (7:Int)=1;decide,by show ¬ (7:Int)=2;decide,by show ¬ (7:Int)=4;decide,by show ¬ (7:Int)=5;decide⟩
theorem Xv (h:s.fine F N)(hM:MayP F)(hn:n<s.ths.length)(hc:s.can F.pr n=true)(ht:(s.did F.pr n).2.2=0):MxGo F.chs (N+1) n (V0 s.sy) (s.did F.pr n).2.1.syn (V0 (s.did F.pr n).1.sy):=by
 have R:=h.ready hn hc
 have hp:=h.pop hn R.st
 obtain ⟨x,hx⟩: ∃ x,x=(s.th n).next:=⟨_,rfl⟩
 have hcx:=hc
 unfold SS.can at hcx
 dsimp only at hcx
 split at hcx
 · cases hcx
 unfold SS.did at ht⊢
 dsimp only at ht⊢
 rw [←hx] at R hcx ht⊢
 have hz:=h.ok.z
 split at ht
 · rename_i h3;rw [if_pos h3]
   have h8:=R.w h3
   have hg:=R.g
   obtain ⟨k,ln,cl,nm,wt,e,ix,body,els,id,slot,other,loc⟩:=x
   simp only [PStm.kd] at h8
   obtain ⟨hs1,hs2,hs3,hs6,hs8,hs8o,hs11,hs12,hs13⟩:=Yf hg.2.1
   have hsl:=hs8o h8
   have hmu:F.cn.mu=F.mu:=rfl
   dsimp only at hcx
   rw [if_pos h3] at hcx
   exact S7 (s:=s.put n { s.th n with st:=1,left:=(s.th n).left.drop 1 }) (m:=other) hp ⟨hsl.1,by show other<(s.sy.owners.length:Int);omega⟩ (by show s.sy.owners.getD other.toNat 0= -1;simpa using hcx)
 rename_i h3;rw [if_neg h3]
 have h1:(s.th n).st=1:=by have:=R.st;omega
 rw [Dw h1] at ht⊢
 obtain ⟨X,hX⟩: ∃ X,X=({ s.th n with st:=1,left:=(s.th n).left.drop 1 } :PTr):=⟨_,rfl⟩
 rw [←hX] at hp ht⊢
 have hat:(s.put n X).th n=X:=Fg hn
 have e2:x.good F.cn ((s.put n X).th n).loc.length:=by rw [hat,hX];exact R.g
 have hsy:(s.put n X).sy=s.sy:=rfl
 rw [←hsy]
 split at ht
 · rename_i hk;rw [if_pos hk]
   refine Lb hp hM e2 hk rfl (fun h11=> ?_) ht
   obtain ⟨k,ln,cl,nm,wt,e,ix,body,els,id,slot,other,loc⟩:=x
   simp only [PStm.kd,PStm.slt] at h11⊢
   subst h11
   dsimp only at hcx
   rw [if_neg h3,if_neg (by decide),if_pos rfl] at hcx
   show ((s.sy.chans.getD slot.toNat ch0).items.length:Int)<F.chs.getD slot.toNat 0
   simpa [Fnd.pr] using hcx
 rename_i hk;rw [if_neg hk]
 refine F3 hp e2 rfl (fun h12=> ?_) ht
 obtain ⟨k,ln,cl,nm,wt,e,ix,body,els,id,slot,other,loc⟩:=x
 simp only [PStm.kd,PStm.slt] at h12⊢
 subst h12
 dsimp only at hcx
 rw [if_neg h3,if_neg (by decide),if_neg (by decide),if_pos rfl] at hcx
 show 0<(s.sy.chans.getD slot.toNat ch0).items.length
 simpa using hcx
theorem Lx {p:PPr}:(s.data p n x ev).2.1.th=ev.th:=by
 obtain ⟨k,ln,cl,nm,wt,e,ix,body,els,id,slot,other,loc⟩:=x
 unfold SS.data;dsimp only
 (repeat' split)<;>rfl
theorem F1 {p:PPr}:(s.others p n x ev).2.1.th=ev.th:=by
 obtain ⟨k,ln,cl,nm,wt,e,ix,body,els,id,slot,other,loc⟩:=x
 unfold SS.others;dsimp only
 (repeat' split)<;>rfl
theorem Xk {p:PPr}:(s.did p n).2.1.th=n:=by
 unfold SS.did;dsimp only
 split
 · rfl
 split
 · rw [Lx];rfl
 rw [F1];rfl
theorem Fe (p:PPr)(s:SS):(s.stands p).sy=s.sy:=by unfold SS.stands;dsimp only;split<;>rfl
theorem Lq (h:s.fine F N)(hM:MayP F)(hn:n<s.ths.length)(hc:s.can F.pr n=true):MxGo F.chs (N+1) (s.step F.pr n).2.th (V0 s.sy) (s.step F.pr n).2.syn (V0 (s.step F.pr n).1.sy):=by
 have f0:=(h.ok.y.mono (Nat.le_succ N)).fit h.ok.z.2.2
 rw [Ks]
 split
 · exact Uj f0 fun x hx=>by cases hx
 rename_i ht
 have ht:=Decidable.not_not.1 ht
 have hm:=Xv h hM hn hc ht
 have hk:=Td h hM hn hc ht
 have f1:=hk.y.fit hk.z.2.2
 dsimp only
 rw [Fe]
 have hth:(((s.did F.pr n).1.ended n (s.did F.pr n).2.1).2).th=n:=by unfold SS.ended;split<;>exact Xk
 rw [hth]
 unfold SS.ended
 split
 · exact MxGo.app (Uj f1 fun y hy=>by rw [List.mem_singleton.1 hy];exact ⟨by show ¬ (8:Int)=1;decide,by show ¬ (8:Int)=2;decide,by show ¬ (8:Int)=4;decide,by show ¬ (8:Int)=5;decide⟩) hm
 exact hm
end
def MxAll (room:List Int)(N:Nat):Mx→List PEv→Prop
 |_, []=>True
 |m,e::r=> ∃ z,MxGo room N e.th m e.syn z∧MxAll room N z r
theorem Mx.fit.mono {room:List Int}{N N':Nat}{m:Mx}(h:m.fit room N)(l:N≤N'):m.fit room N':=⟨h.s,h.t,fun x hx=>by have:=h.a x hx;omega,fun x hx=>by have:=h.b x hx;omega,h.o⟩
theorem MxGo.mono {room:List Int}{N N':Nat}{th:Int}(l:N≤N'): ∀ {r:List Sn} {m z:Mx},MxGo room N th m r z→MxGo room N' th m r z
 | [],_,_,h=>h
 |_::_,_,_,⟨h1,h2,h3⟩=>⟨h1,h2.mono l,MxGo.mono l h3⟩
theorem Si {F:Fnd}{K:Nat}(hM:MayP F): ∀ {picks:List Int} {N:Nat} {s:SS},s.fine F N→N+picks.length≤K→MxAll F.chs K (V0 s.sy) (Yy F.pr s picks).2
 | [],_,_,_,_=>trivial
 |k::r,N,s,h,hl=>by
  rw [Ko]
  split
  · trivial
  rename_i ha
  obtain ⟨n,hn,hc,_,e⟩:=N5 (k:=k) ha h.ok.t.2
  rw [e]
  rw [List.length_cons] at hl
  exact ⟨_,(Lq h hM hn hc).mono (by omega),Si hM (h.step hM hn hc).pg (by omega)⟩
theorem B6 {F:Fnd}(hM:MayP F):(Wd F.pr).fine F 0:=by
 have hsa:=U8 (l:=F.arrs) (k:=256) (fun y hy=>by have:=hM.a y hy;omega) (by decide)
 have hfm:=hM.f
 have hmu:((F.mu.toNat:Nat):Int)=F.mu:=by have:=hfm.1.1;omega
 have hco:((F.co.toNat:Nat):Int)=F.co:=by have:=hfm.2.1.1;omega
 have hny:=newS_ok (m:=F.mu.toNat) (c:=F.co.toNat) (rooms:=F.chs) (by rw [hmu,hco];exact hfm)
 obtain ⟨b0,b1⟩:=Tp (N:=0) (m:=1) hM hM.m (by decide)
 have hcd: ∀ l∈(Ry F.mu.toNat F.co.toNat F.chs).conds,l= []:=fun l hl=>(List.mem_replicate.1 hl).2
 refine ⟨⟨?_,?_,hny,⟨?_,?_,?_⟩,⟨Nat.le_refl 1,show 1≤8 by decide⟩,?_,?_⟩,?_,?_⟩
 · show ((F.vars++List.replicate (Y9 F.arrs).toNat 0).length:Int)=_
   rw [List.length_append,List.length_replicate];omega
 · intro x hx
   rcases List.mem_append.1 (show x∈F.vars++List.replicate (Y9 F.arrs).toNat 0 from hx) with hx|hx
   · exact hM.v x hx
   rw [(List.mem_replicate.1 hx).2];unfold val;omega
 · show ((List.replicate F.mu.toNat (-1:Int)).length:Int)=F.mu
   rw [List.length_replicate];exact hmu
 · show ((List.replicate F.co.toNat ([]:List Int)).length:Int)=F.co
   rw [List.length_replicate];exact hco
 · show (F.chs.map _).map Ch.room=F.chs
   rw [List.map_map];simp [Function.comp_def]
 · intro t ht
   rw [List.mem_singleton.1 (show t∈ [Vy F.pr F.main] from ht)]
   exact ThOk.of b0 b1 (by show 1≤8;decide)
 · intro l hl t ht
   rw [hcd l hl] at ht;cases ht
 · have:(Wd F.pr).sy.conds.flatten= []:=by rw [List.flatten_eq_nil_iff];exact hcd
   rw [this];exact List.nodup_nil
 intro t ht
 rw [List.mem_singleton.1 (show t∈ [Vy F.pr F.main] from ht)]
 exact b0.p.1
theorem begun_mx {F:Fnd}:V0 (Wd F.pr).sy=⟨List.replicate F.mu.toNat (-1),List.replicate F.chs.length 0,List.replicate F.chs.length 0⟩:=by
 unfold V0 Wd Ry
 simp [Fnd.pr,List.map_map,Function.comp_def,List.map_const']
def Pp (F:Fnd)(N:Nat)(s:SS)(g:FC)(σ:StC):Prop:=g.er=F∧σ.er=s∧MayP F∧s.fine F N∧s.pg=s
def gH (p:Nat)(F:Fnd)(N:Nat)(s:SS):HP:=ex fun x:Nat×FC×StC=>stars (pure (Pp F N s x.2.1 x.2.2)::stP p x.1 x.2.2::(Zr x.2.2++ [prM x.1 x.2.1,tdM x.2.2.ths]))
theorem Ik {P:Program}{G:World}{fn:FuncId}{vs:List Value}{p:Nat}{F:Fnd}{N:Nat}{s:SS}{q:List HP}{R:Wx.Us}
 (h: ∀ (σ:StC) (pp:Nat) (g:FC),g.er=F→σ.er=s→Hd (prM pp g::tdM σ.ths::q) pp g N σ→CallF P G fn vs (stP p pp σ::(Zr σ++(prM pp g::tdM σ.ths::q))) R):CallF P G fn vs (gH p F N s::q) R:=by
 intro E w st cs
 obtain ⟨⟨pp,g,σ⟩,s1⟩:=St.get_ex st
 have s2:=s1.le (Zs _ (q++E))
 obtain ⟨e1,e2,h3,h4,h5⟩:=s2.get_pure
 have s3:=s2.le (Le.drop _ _)
 subst e1 e2
 refine h σ pp g rfl rfl ⟨Prg.of Kn.prM,h3,h4,h5,Kn.there Kn.tdM⟩ E w ?_ cs
 show St G w (stP p pp σ::(Zr σ++(prM pp g::tdM σ.ths::q))++E)
 simp only [List.cons_append,List.append_assoc] at s3⊢
 exact s3
theorem Lt {p pp N:Nat}{g:FC}{σ:StC}{t0:List TC}{q:List HP}(h:Hd (prM pp g::tdM t0::q) pp g N σ)(E:List HP):Le (stP p pp σ::(Zr σ++(E++(prM pp g::tdM t0::q)))) (gH p g.er N σ.er::(E++q)):=by
 have h1:Le (prM pp g::tdM t0::q) (tdM σ.ths::prM pp g::tdM t0::q):=Kn.add (φ:=fun M=>TodoAt M σ.ths) (mn:=fun e h=>TodoAt.mono e h) h.T
 have h2:Le (prM pp g::tdM t0::q) (prM pp g::tdM σ.ths::q):=h1.trans ((Le.swap _ _ _).trans (Le.cons _ (Le.cons _ (Le.drop _ _))))
 have h3:Le (E++(prM pp g::tdM t0::q)) ([prM pp g,tdM σ.ths]++(E++q)):=(Le.append_left E h2).trans (Vz E [prM pp g,tdM σ.ths] q)
 refine Dd ((pp,g,σ):Nat×FC×StC) ?_;refine Le.trans ?_ (Z6 (pure (Pp g.er N σ.er g σ)::stP p pp σ::(Zr σ++ [prM pp g,tdM σ.ths])) (E++q));refine Le.trans (Le.cons _ (Le.append_left (Zr σ) h3)) (Le.trans (Qb (φ:=Pp g.er N σ.er g σ) ⟨rfl,rfl,h.M,h.F,h.G⟩ _) ?_)
 simp only [List.cons_append,List.append_assoc]
 exact Le.refl _
theorem SS.fine.cells {F:Fnd}{N:Nat}{s:SS}(h:s.fine F N)(hM:MayP F):s.cells.length≤1000:=by
 have h1:=h.ok.c;have h2:=hM.l.1;have h3:=hM.s
 omega
section
variable {G:World}{q:List HP}{p N:Nat}{F:Fnd}{s:SS}{g:FC}{z k:Int}{picks:List Int}{pa:Option Addr}{pc:Nat}
theorem Ij {l:Bs}(hT:J6 l=some g.er)(hK:Kn q fun M=>g.At M):CallF prog G 15 [.agg (pgC g).toArray] q (Ret fun v q'=> ∃ p,v= .tuple [.pointer (some ⟨p,0,none⟩),.int .i64 0].toArray∧q'=gH p g.er 0 (Wd g.er.pr)::q):=
 CallF.conv (Le.refl _) (pnew_ok (B:=14*65536) hK (FC.cp hT)) (by
  have hm:=(R0 hT).m
  have hM:=Fb hm
  rintro _ _ ⟨_,rfl,(⟨_,p,pp,g',σ,e1,e2,rfl,rfl⟩|⟨h0,_,_⟩)⟩
  · have hM':MayP g'.er:=by rw [e1];exact hM
    have hH:Hd (prM pp g'::tdM σ.ths::q) pp g' 0 σ:=⟨Prg.of Kn.prM,hM',by rw [e2,e1];exact B6 hM,by rw [e2];rfl,Kn.there Kn.tdM⟩
    refine ⟨_,⟨_,rfl,p,rfl,rfl⟩,?_⟩
    rw [←e2,←e1]
    exact Lt (E:= []) hH
  rw [hm] at h0;cases h0)
theorem Iz (hN:N+picks.length≤899)(hs:Sees q pa (picks.map I64))(hk: ∀ k∈picks, -9223372036854775808≤k∧k≤9223372036854775807):CallF prog G 16 [.pointer (some ⟨p,0,none⟩),.slice pa picks.length pc] (gH p F N s::q)
 (Ret fun v q'=> ∃ (L:List EvC) (a':Option Addr) (c':Nat),v= .tuple [.slice a' L.length c',.agg (otC ((Yy F.pr s picks).1.outc F.pr)).toArray].toArray∧q'=gH p F (N+picks.length) (Yy F.pr s picks).1::(Fd a' c' L++q)∧L.map EvC.e=(Yy F.pr s picks).2∧L.length≤picks.length):=
 Ik fun σ pp g e1 e2 hH=>CallF.conv (Le.refl _) (SRun_ok hH hN (hs.le ((Le.drop _ _).trans (Le.drop _ _))) hk) (by
  subst e1 e2
  rintro _ _ ⟨_,rfl,σ',L,a',c',rfl,rfl,hH',e3,e4,hl⟩
  refine ⟨_,⟨_,rfl,L,a',c',by rw [e3],rfl,e4,hl⟩,?_⟩
  rw [←e3]
  exact Lt hH' (Fd a' c' L))
theorem Ew:CallF prog G 21 [.pointer (some ⟨p,0,none⟩)] (gH p F N s::q) (Ret fun v q'=> ∃ a' c',v= .slice a' s.cells.length c'∧q'=gH p F N s::lsH I64 2 a' c' s.cells::q):=
 Ik fun σ pp g e1 e2 hH=>CallF.conv (Le.refl _) (Xx (by have:=hH.F.cells hH.M;show σ.er.cells.length≤_;omega)) (by
  subst e1 e2
  rintro _ _ ⟨_,rfl,a',c',rfl,rfl⟩
  exact ⟨_,⟨_,rfl,a',c',rfl,rfl⟩,(Vz [_] (stP p pp σ::Zr σ) _).trans (Lt hH [_])⟩)
end
theorem la_info3:(prog.info? 3).map (fun i=>(i.zero,i.size,i.bytes))=some (some (.int .i64 0),1,8):=by kernel_rfl
def My (s:ByteArray):Option Fnd:=if 3000<s.size then none else J6 (bs s)
theorem Bx {s:ByteArray}{F:Fnd}(h:My s=some F):J6 (bs s)=some F:=by
 unfold My at h
 split at h
 · cases h
 exact h
inductive PrIs (s:ByteArray) (g:FC):Bool→Prop
 |no (h:My s=none):PrIs s g false
 |yes (h:My s=some g.er):PrIs s g true
abbrev knB:ByteArray:=⟨#[118,97,114,32,120,32,61,32,49,59,32,116,104,114,101,97,100,32,109,97,105,110,32,123,32,120,32,61,32,120,32,43,32,49,59,32,112,114,105,110,116,32,120,59,32,125]⟩
def knE (F:Fnd):Bool:=
 let r:=Yy F.pr (Wd F.pr) [0,0,0]
 r.2.length==2 && ((r.2.getD 1 zE0).outv==2 && (r.2.getD 1 zE0).told && (r.1.outc F.pr).kind==2 && r.1.cells== [2])
def knS:Bool:=match My knB with|none=>false|some F=>knE F
theorem knS_ok:knS=true:=by decide+kernel
theorem knS_at: ∃ F,My knB=some F∧knE F=true:=by
 have h:=knS_ok
 unfold knS at h
 split at h
 · cases h
 rename_i F hF;exact ⟨F,hF,h⟩
structure KnRun (F:Fnd) (L:List PEv) (s:SS):Prop where
 l: ∃ a b,L= [a,b]∧b.outv=2∧b.told=true
 o:(s.outc F.pr).kind=2
 c:s.cells= [2]
theorem knE_at {F:Fnd}(h:knE F=true):KnRun F (Yy F.pr (Wd F.pr) [0,0,0]).2 (Yy F.pr (Wd F.pr) [0,0,0]).1:=by
 unfold knE at h
 dsimp only at h
 generalize Yy F.pr (Wd F.pr) [0,0,0]=r at h⊢
 obtain ⟨s,L⟩:=r
 simp only [Bool.and_eq_true,beq_iff_eq] at h
 obtain ⟨h1,⟨⟨h2,h3⟩,h4⟩,h5⟩:=h
 refine ⟨?_,h4,h5⟩
 match L,h1 with
 | [a,b],_=>exact ⟨a,b,rfl,h2,h3⟩
section
variable {G:World}{q:List HP}{s:ByteArray}
set_option maxHeartbeats 4000000 in
theorem So:CallF prog G 13 [.string s] (q) (Ret fun v q'=> ∃ (g:FC) (bb:Bool),v= .tuple [.agg (pgC g).toArray,.bool bb].toArray∧q'=fcM g::q∧PrIs s g bb):=by
 refine CallF.of func13 ntmps13 rfl (fun F cs=> ?_)
 refine xo 2 ?_;refine XO.al zeroValue29 fun n1=> ?_
 refine ox 9 ?_;refine X.part 9 rfl (fun h0=> ?_) (fun h0=> ?_)
 · replace h0:=sp h0;have hp:My s=none:=(by unfold My;rw [if_pos (by omega)])
   refine xo 4 ?_;refine stA ?_;refine ox 2 ?_;refine X.le (q':=fcM FC.z::_) (Kn.add (fun _ _ _=>Tj _)) ?_
   refine Zq (fcM FC.z::q) func13 (Np results13) ⟨_,rfl,FC.z,false,rfl,rfl,.no hp⟩
 replace h0:=sp h0;have hp:My s=J6 (bs s):=(by unfold My;rw [if_neg (by omega)])
 refine xo 5 ?_;refine Zb call43 (Le.refl _) (text_ok (s:=s)) ?_
 rintro _ _ ⟨g,y,z,e,rfl,rfl,hF⟩
 refine oo 4 ?_;refine XO.al zeroValue29 fun n2=> ?_
 refine XO.al zeroValue107 fun n3=> ?_
 refine stA ?_;refine stA ?_;refine oo 4 ?_;refine ldA ?_;refine oo 2 ?_;refine stA ?_;refine ox 2 ?_;refine Zq (fcM g::q) func13 (Np results13) ⟨_,rfl,g,decide (e=0),rfl,rfl,by cases hx:J6 (bs s) with|none=>(rw [hx] at hF;rw [decide_eq_false hF];exact .no (hp.trans hx))|some F=>(rw [hx] at hF;rw [decide_eq_true hF.1];exact .yes (by rw [hF.2];exact hp.trans hx))⟩
set_option maxHeartbeats 8000000 in
theorem known_ok:CallF prog G 14 [] (q) (Ret fun v q'=>v= .bool true∧q'=q):=by
 refine CallF.of func14 ntmps14 rfl (fun F cs=> ?_)
 obtain ⟨F,hF,hE⟩:=knS_at;have hR:=knE_at hE
 refine xo 6 ?_;refine Zb call13 (Le.refl _) (So (s:=knB)) ?_
 rintro _ _ ⟨g,bb,rfl,rfl,hP⟩
 obtain ⟨rfl,hg⟩:bb=true∧g.er=F:=(by cases hP with|no h=>(rw [hF] at h;cases h)|yes h=>(rw [hF] at h;exact ⟨rfl,(Option.some.inj h).symm⟩));have hT:=Bx hF;rw [←hg] at hT hR
 refine oo 3 ?_;refine XO.al zeroValue29 fun n1=> ?_
 refine stA ?_;refine oo 4 ?_;refine ldA ?_;refine V3 call15 (Ij (q:= [fcM g]) hT Kn.fc) ?_
 rintro _ _ ⟨p,rfl,rfl⟩ _ e_;simp only [ca,na] at e_;subst e_
 refine oo 9 ?_;refine XO.ef (Ya I64 [0,0,0] underlying22 la_info3 rfl rfl rfl rfl rfl rfl (fun _=>rfl)) ?_
 rintro _ _ ⟨g3,rfl,rfl⟩
 refine V3 call16 (Iz (p:=p) (N:=0) (F:=g.er) (q:= [lsH I64 3 (some ⟨g3,0,none⟩) 3 [0,0,0]]) (picks:= [0,0,0]) (by decide) (Sees.lsH _) (fun k hk=>by simp at hk;omega)) ?_
 rintro _ _ ⟨L,a1,c1,rfl,rfl,hL,hl⟩ _ e_;simp only [ca,na] at e_;subst e_
 simp only [Fd,ca,na]
 obtain ⟨r,r2⟩: ∃ r:SS×List PEv,r=Yy g.er.pr (Wd g.er.pr) [0,0,0]:=⟨_,rfl⟩;rw [←r2] at hR hL⊢;obtain ⟨⟨e0,e1,hl2,ho,ht⟩,hk,hc⟩:=hR;rw [hl2] at hL
 obtain ⟨x0,x1,rfl⟩: ∃ a b,L= [a,b]:=(by match L,hL with| [a,b],_=>exact ⟨a,b,rfl⟩)
 have hx1:x1.e=e1:=(by simp only [List.map_cons,List.map_nil,List.cons.injEq,and_true] at hL;exact hL.2);rw [←hx1] at ho ht
 refine Ci (l:= [x0,x1]) (Nat.zero_lt_succ 1) (fun gb e_=> ?_)
 have hs1: ∀ r,Sees (rsH evC 9 47 a1 c1 [x0,x1]::r) (some ⟨gb,0,none⟩) ([x0,x1].flatMap evC):=fun r=>by rw [←e_];exact Sees.rsH r
 refine oo 3 ?_;refine XO.al zeroValue41 fun n2=> ?_
 refine oo 1 ?_;refine stA ?_;refine oo 5 ?_;refine XO.kt 23 ?_;refine oo 4 ?_;refine XO.kt 27 ?_;refine oo 5 ?_;refine XO.kt 32 ?_;refine oo 1 ?_;refine XO.know 33 (.slice (some ⟨gb,0,none⟩) [x0,x1].length c1) rfl (by rw [←e_]) ?_
 refine oo 2 ?_;refine ld ?_ (hc:=(Cl.row (j:=1) (n:=1) (hs1 _) leA Ju (Nat.lt_succ_self 1) rfl 6 _ rfl))
 refine oo 3 ?_;refine XO.know 39 (.bool true) rfl (congrArg Value.bool (decide_eq_true ho)) ?_;refine oo 1 ?_;refine XO.know 40 (.slice (some ⟨gb,0,none⟩) [x0,x1].length c1) rfl (by rw [←e_]) ?_
 refine oo 2 ?_;refine ld ?_ (hc:=(Cl.row (j:=1) (n:=1) (hs1 _) leA Ju (Nat.lt_succ_self 1) rfl 5 _ rfl))
 refine oo 2 ?_;refine XO.know 45 (.bool true) rfl (congrArg Value.bool (ht)) ?_;refine ol 1 ?_;refine oo 3 ?_;refine XO.know 50 (.bool true) rfl (congrArg Value.bool (decide_eq_true hk)) ?_;refine oo 1 ?_;refine V3 call21 (Ew (p:=p) (F:=g.er) (N:=0+ [0,0,0].length) (s:=r.1) (q:= [])) ?_
 rintro _ _ ⟨a52,c52,rfl,rfl⟩ _ e_;simp only [ca,na] at e_;subst e_
 rw [hc]
 refine oo 4 ?_;refine XO.kt 56 ?_;refine oo 1 ?_;refine V3 call21 (Ew (p:=p) (F:=g.er) (N:=0+ [0,0,0].length) (s:=r.1) (q:= [])) ?_
 rintro _ _ ⟨a58,c58,rfl,rfl⟩ _ e_;simp only [ca,na] at e_;subst e_
 rw [hc]
 refine XO.lsadr (a:=a58) (c:=c58) (l:=([2]:List Int)) (Nat.zero_lt_succ 0) (fun gd e2_=> ?_)
 have hs2: ∀ r,Sees (lsH I64 2 a58 c58 [2]::r) (some ⟨gd,0,none⟩) (([2]:List Int).map I64):=fun r=>by rw [←e2_];exact Sees.lsH r
 refine XO.know 58 (.slice (some ⟨gd,0,none⟩) ([2]:List Int).length c58) rfl (by rw [←e2_]) ?_
 refine oo 1 ?_;refine ld ?_ (hc:=(((hs2 _).le leA).at rfl (Nat.zero_lt_succ 0)))
 refine ox 4 ?_;refine Zq (q) func14 (Zp results14 rfl) ⟨_,rfl,rfl,rfl⟩
end
theorem Hn:(prog.info? 3).map (fun i=>(i.zero,i.size,i.bytes))=some (some (.int .i64 0),1,8):=by kernel_rfl
theorem Sees.evN {q:List HP}{x:EvC}:Sees (stars (evL x)::q) x.na (x.e.syn.flatMap snC):=Sees.le (Sees.there (Sees.rsH _)) (Zs (evL x) q)
theorem Od {s n:Nat}(h:s<n):((List.replicate s (-1:Int)++List.replicate (n - s) 0).set s (-1))=List.replicate (s+1) (-1)++List.replicate (n - (s+1)) 0:=by
 have e:n - s=(n - (s+1))+1:=by omega
 rw [List.set_append_right _ _ (by simp),List.length_replicate,Nat.sub_self,e,List.replicate_succ,List.set_cons_zero,List.replicate_succ' (n:=s),List.append_assoc]
 rfl
structure MxIn (room:List Int) (K MU:Nat) (th:Int) (syn:List Sn) (rest:List PEv) (k:Nat) (m:Mx):Prop where
 kl:k≤syn.length
 f:m.fit room K
 o:m.own.length=MU
 g: ∃ z,MxGo room K th m (syn.drop k) z∧MxAll room K z rest
theorem mxS_own {th:Int}{m:Mx}{x:Sn}:(mxS th m x).own.length=m.own.length:=by unfold mxS;(repeat' split)<;>simp
theorem MxIn.at {room:List Int}{K MU k:Nat}{th:Int}{syn:List Sn}{rest:List PEv}{m:Mx}(h:MxIn room K MU th syn rest k m)(hk:k<syn.length):mxOk room th m syn[k]∧MxIn room K MU th syn rest (k+1) (mxS th m syn[k]):=by
 obtain ⟨z,hg,ha⟩:=h.g
 rw [List.drop_eq_getElem_cons hk] at hg
 obtain ⟨h1,h2,h3⟩:=hg
 exact ⟨h1,hk,h2,mxS_own.trans h.o,z,h3,ha⟩
theorem MxIn.end {room:List Int}{K MU k:Nat}{th:Int}{syn:List Sn}{rest:List PEv}{m:Mx}(h:MxIn room K MU th syn rest k m)(hk:k=syn.length):MxAll room K m rest:=by
 obtain ⟨z,hg,ha⟩:=h.g
 rw [hk,List.drop_length] at hg
 cases hg;exact ha
theorem MxAll.at {room:List Int}{K MU i:Nat}{l:List EvC}{m:Mx}(hi:i<l.length)(hf:m.fit room K)(ho:m.own.length=MU)(h:MxAll room K m ((l.map EvC.e).drop i)):MxIn room K MU l[i].e.th l[i].e.syn ((l.map EvC.e).drop (i+1)) 0 m:=by
 rw [List.drop_eq_getElem_cons (by simpa using hi)] at h
 obtain ⟨z,hg,ha⟩:=h
 rw [List.getElem_map] at hg
 exact ⟨Nat.zero_le _,hf,ho,z,hg,ha⟩
section
variable {G:World}{q:List HP}{s:ByteArray}{picks:List Int}{pa:Option Addr}{pc:Nat}
set_option maxHeartbeats 16000000 in
theorem R3 (hs:Sees q pa (picks.map I64))(hk: ∀ k∈picks, -9223372036854775808≤k∧k≤9223372036854775807):CallF prog G 3 [.string s,.slice pa picks.length pc] (q) (Ret fun v q'=>v= .bool true∧q'=q):=by
 refine CallF.of func3 ntmps3 rfl (fun F cs=> ?_)
 refine xo 7 ?_;refine Zb call13 (Le.refl _) (So (s:=s)) ?_
 rintro _ _ ⟨gF,bb,rfl,rfl,hP⟩
 rcases hP with hP|hP
 iterate 2
  focus
   refine oo 3 ?_;refine XO.al zeroValue29 fun n1=> ?_
   refine stA ?_;refine oo 6 ?_;refine Zi (Pu.not rfl) ?_;refine oo 1 ?_
  rotate_left
 focus
  refine XO.kt 25 ?_;refine oo 8 ?_
 rotate_left
 focus
  refine T6 25 ?_;refine ox 5 ?_;refine X.part 29 rfl (fun h0=> ?_) (fun h0=> ?_)
  focus
   refine xo 3 ?_
  rotate_left
  focus
   replace h0:=sp h0;have hlp:picks.length≤80:=(by omega);have hT:=Bx hP;have hM:=Fb (R0 hT).m;obtain ⟨MU,hMU⟩:=Int.eq_ofNat_of_zero_le (show 0≤gF.mu from hM.f.1.1);have hmu:MU≤64:=(by have:=hM.f.1.2;rw [show gF.er.mu=gF.mu from rfl] at this;omega);have hch:gF.chs.l.length≤64:=hM.l.2.2.1
   refine xo 4 ?_;refine ldA ?_;refine V3 call15 (Ij (q:= [fcM gF]) hT Kn.fc) ?_
   rintro _ _ ⟨p,rfl,rfl⟩ _ e_;simp only [ca,na] at e_;subst e_
   refine ox 12 ?_;refine Wr 37 ?_;refine xj 5 ?_;refine XO.know 39 (.int .i64 (MU:Int)) rfl (by rw [←hMU]) ?_
   refine XO.ef (Qe (n:=MU) rfl rfl underlying22 Hn rfl rfl (by omega) (by omega)) ?_
   rintro _ _ ⟨go_,rfl,rfl⟩
   refine XO.le (q':=lsH I64 3 (some ⟨go_,0,none⟩) MU (List.replicate MU 0)::_) (Le.trans Zk (Hh _ _ _ _ _)) ?_
   refine ox 8 ?_;refine X.at (X.loop (fun (j:Nat)=>j≤MU) (fun j=> [(1,.slice pa picks.length pc),(5,.pointer (some ⟨n1,0,none⟩)),(7,.pointer (some ⟨p,0,none⟩)),(9,.slice (some ⟨go_,0,none⟩) MU MU),(10,.int .i64 (j:Int))]) (fun j=>lsH I64 3 (some ⟨go_,0,none⟩) MU (List.replicate j (-1)++List.replicate (MU - j) 0)::gH p gF.er 0 (Wd gF.er.pr)::fcM gF::pto n1 (.cells (pgC gF).toArray 29 (0,0))::(q++F)) (fun j=>MU - j) (fun j hi_ ih=> ?_) 0 (Nat.zero_le _)) Zu leA
   try dsimp only at hi_ ih⊢
   obtain hi:=hi_
   refine xx 8 ?_;refine X.part 44 rfl (fun h1=> ?_) (fun h1=> ?_)
   · replace h1:=sp h1;have hj:j<MU:=(by omega);have hjl:j<(List.replicate j (-1:Int)++List.replicate (MU - j) 0).length:=(by simp;omega)
     refine xo 8 ?_;refine XO.ef0 (Qo (f:=I64) (l:=List.replicate j (-1)++List.replicate (MU - j) 0) (n:=j) (u:= -1) rfl rfl sizeOf3 rfl hjl rfl rfl Zk) ?_
     rintro _ _ ⟨rfl,rfl⟩
     rw [Od hj]
     refine ox 7 ?_;refine X.at (ih (j+1) (by omega) (by omega)) Zu leA
   replace h1:=sp h1;obtain rfl:j=MU:=(by omega);clear ih;rw [Nat.sub_self,List.replicate_zero,List.append_nil]
   refine xx 3 ?_;refine drw ?_;refine dl [0] 1 ?_;refine dl [2,4] 5 ?_;refine dd [6] ?_;refine Y1 (fl:= [⟨3,53,fun g=> .slice (some ⟨g,0,none⟩) gF.chs.l.length gF.chs.l.length,fun g=>slH (some ⟨g,0,none⟩) gF.chs.l.length 3 1 gF.chs.l.length ((List.replicate gF.chs.l.length (Value.int .i64 0).cells.toList).flatten)⟩,⟨7,57,fun g=> .slice (some ⟨g,0,none⟩) gF.chs.l.length gF.chs.l.length,fun g=>slH (some ⟨g,0,none⟩) gF.chs.l.length 3 1 gF.chs.l.length ((List.replicate gF.chs.l.length (Value.int .i64 0).cells.toList).flatten)⟩]) ?_
   refine W5 (e0:=⟨3,53,fun g=> .slice (some ⟨g,0,none⟩) gF.chs.l.length gF.chs.l.length,fun g=>slH (some ⟨g,0,none⟩) gF.chs.l.length 3 1 gF.chs.l.length ((List.replicate gF.chs.l.length (Value.int .i64 0).cells.toList).flatten)⟩) (hnd:=by simp) 3 ⟨⟨_,rfl,rfl,rfl,rfl,rfl,rfl,fun q=>Qe (n:=gF.chs.l.length) rfl rfl underlying22 Hn rfl rfl (by omega) (by omega)⟩,⟨_,rfl,rfl,rfl,rfl,rfl,rfl,fun q=>Qe (n:=gF.chs.l.length) rfl rfl underlying22 Hn rfl rfl (by omega) (by omega)⟩,trivial⟩ (fun gs_=> ?_)
   change XF _ _ _ _ _ _ _ [⟨7,57,fun g=> .slice (some ⟨g,0,none⟩) gF.chs.l.length gF.chs.l.length,fun g=>slH (some ⟨g,0,none⟩) gF.chs.l.length 3 1 gF.chs.l.length ((List.replicate gF.chs.l.length (Value.int .i64 0).cells.toList).flatten)⟩] _ _ _ ((53,.slice (some ⟨gs_,0,none⟩) gF.chs.l.length gF.chs.l.length)::_) _ _ (slH (some ⟨gs_,0,none⟩) gF.chs.l.length 3 1 gF.chs.l.length ((List.replicate gF.chs.l.length (Value.int .i64 0).cells.toList).flatten)::_)
   refine Qu 8 ⟨⟨_,rfl,rfl,rfl,rfl,rfl,rfl,fun q=>Qe (n:=gF.chs.l.length) rfl rfl underlying22 Hn rfl rfl (by omega) (by omega)⟩,trivial⟩ (Pu.assign rfl) ?_
   refine W5 (e0:=⟨7,57,fun g=> .slice (some ⟨g,0,none⟩) gF.chs.l.length gF.chs.l.length,fun g=>slH (some ⟨g,0,none⟩) gF.chs.l.length 3 1 gF.chs.l.length ((List.replicate gF.chs.l.length (Value.int .i64 0).cells.toList).flatten)⟩) (hnd:=by simp) 7 ⟨⟨_,rfl,rfl,rfl,rfl,rfl,rfl,fun q=>Qe (n:=gF.chs.l.length) rfl rfl underlying22 Hn rfl rfl (by omega) (by omega)⟩,trivial⟩ (fun gt_=> ?_)
   change XF _ _ _ _ _ _ _ [] _ _ _ ((57,.slice (some ⟨gt_,0,none⟩) gF.chs.l.length gF.chs.l.length)::_) _ _ (slH (some ⟨gt_,0,none⟩) gF.chs.l.length 3 1 gF.chs.l.length ((List.replicate gF.chs.l.length (Value.int .i64 0).cells.toList).flatten)::_)
   refine XF.back ?_;refine dd [9] ?_;refine XD.nil ?_;refine xo 4 ?_;refine XO.le (q':=lsH I64 3 (some ⟨gs_,0,none⟩) gF.chs.l.length (List.replicate gF.chs.l.length 0)::lsH I64 3 (some ⟨gt_,0,none⟩) gF.chs.l.length (List.replicate gF.chs.l.length 0)::_) (Le.trans (b:=slH (some ⟨gs_,0,none⟩) gF.chs.l.length 3 1 gF.chs.l.length ((List.replicate gF.chs.l.length (Value.int .i64 0).cells.toList).flatten)::slH (some ⟨gt_,0,none⟩) gF.chs.l.length 3 1 gF.chs.l.length ((List.replicate gF.chs.l.length (Value.int .i64 0).cells.toList).flatten)::_) (Le.pick Zk Zk) (Le.trans (Hh _ _ _ _ _) (Le.cons _ (Hh _ _ _ _ _)))) ?_
   refine Zb call16 leA ((Iz (p:=p) (N:=0) (F:=gF.er) (s:=Wd gF.er.pr) (q:=lsH I64 3 (some ⟨gs_,0,none⟩) gF.chs.l.length (List.replicate gF.chs.l.length 0)::lsH I64 3 (some ⟨gt_,0,none⟩) gF.chs.l.length (List.replicate gF.chs.l.length 0)::lsH I64 3 (some ⟨go_,0,none⟩) j (List.replicate j (-1))::fcM gF::pto n1 (.cells (pgC gF).toArray 29 (0,0))::(q++F)) (picks:=picks) (by omega) (hs.le leA) hk)) ?_
   rintro _ _ ⟨L,a1,c1,rfl,rfl,hL,hl⟩
   simp only [Fd,ca,na]
   refine oo 3 ?_;refine XO.al zeroValue41 fun n2=> ?_
   refine oo 1 ?_;refine stA ?_;refine ox 7 ?_
   have hrun:=Si (K:=80) (picks:=picks) hM (B6 hM) (by omega);rw [begun_mx,←hL,show gF.er.mu.toNat=j by rw [show gF.er.mu=gF.mu from rfl,hMU];rfl,show gF.er.chs=gF.chs.l from rfl] at hrun
   clear hL;generalize hEL:L.map EvC.e=EL at hrun
   refine X.at (X.loop (fun (s:Nat×Mx)=>s.1≤L.length∧s.2.fit gF.chs.l 80∧s.2.own.length=j∧MxAll gF.chs.l 80 s.2 ((L.map EvC.e).drop s.1)) (fun s=> [(5,.pointer (some ⟨n1,0,none⟩)),(9,.slice (some ⟨go_,0,none⟩) j j),(11,.slice (some ⟨gs_,0,none⟩) gF.chs.l.length gF.chs.l.length),(12,.slice (some ⟨gt_,0,none⟩) gF.chs.l.length gF.chs.l.length),(13,.slice a1 L.length c1),(15,.int .i64 (s.1:Int))]) (fun s=>lsH I64 3 (some ⟨go_,0,none⟩) j s.2.own::lsH I64 3 (some ⟨gs_,0,none⟩) gF.chs.l.length s.2.snt::lsH I64 3 (some ⟨gt_,0,none⟩) gF.chs.l.length s.2.tak::rsH evC 9 47 a1 c1 L::stars (L.map fun x=>stars (evL x))::pto n2 (.cells (otC ((Yy gF.er.pr (Wd gF.er.pr) picks).1.outc gF.er.pr)).toArray 41 (0,0))::fcM gF::pto n1 (.cells (pgC gF).toArray 29 (0,0))::(q++F)) (fun s=>L.length - s.1) (fun s hi_ ih=> ?_) (0,⟨List.replicate j (-1),List.replicate gF.chs.l.length 0,List.replicate gF.chs.l.length 0⟩) ⟨Nat.zero_le _,⟨List.length_replicate,List.length_replicate,fun x hx=>by rw [(List.mem_replicate.1 hx).2];exact ⟨Int.le_refl _,by decide⟩,fun x hx=>by rw [(List.mem_replicate.1 hx).2];exact ⟨Int.le_refl _,by decide⟩,by show (List.replicate j (-1:Int)).length≤64;rw [List.length_replicate];omega⟩,List.length_replicate,by rw [List.drop_zero,hEL];exact hrun⟩) Zu leA
   try dsimp only at hi_ ih⊢
   obtain ⟨hi1,hi2,hi3,hi4⟩:=hi_
   obtain ⟨i,m⟩:=s;dsimp only at*
   refine xx 8 ?_;refine X.part 67 rfl (fun h2=> ?_) (fun h2=> ?_)
   · replace h2:=sp h2;have hlt:i<L.length:=(by omega);have hin:=MxAll.at hlt hi2 hi3 hi4;have hE: ∀ r,Sees (stars (L.map fun x=>stars (evL x))::r) L[i].na (L[i].e.syn.flatMap snC):=fun r=>Sees.star hlt (fun q=>Sees.evN) r;have hlen:=Zx Rn L[i].e.syn
     refine Yq (l:=L) (by omega) (fun gb e_=> ?_)
     have hs1: ∀ r,Sees (rsH evC 9 47 a1 c1 L::r) (some ⟨gb,0,none⟩) (L.flatMap evC):=fun r=>by rw [←e_];exact Sees.rsH r
     have hYl: ∀ {w:World} {r:List HP},St G w (stars (L.map fun x=>stars (evL x))::r)→L[i].e.syn.length≤9223372036854775807:=fun s=>by
      have h:=((s.le (Le.focus (fun x=>stars (evL x)) hlt _)).le (Zs (evL L[i]) _)).le (Le.drop _ _)
      have h2:=St.rsLen h
      omega
     refine X.fact (fun w s=>hYl (s.le Zk)) (fun hyb=> ?_);rw [show L[i].e.syn.length=(L[i].e.syn).length from rfl] at hyb
     obtain ⟨Y,hY⟩: ∃ Y,Y=L[i].e.syn:=⟨_,rfl⟩;obtain ⟨TH,hTH⟩: ∃ t,t=L[i].e.th:=⟨_,rfl⟩;rw [←hY,←hTH] at hin;rw [←hY] at hlen hyb
     refine xx 9 ?_;refine X.know 13 (.slice (some ⟨gb,0,none⟩) L.length c1) rfl (by rw [←e_]) ?_
     refine X.at (X.loop (fun (s:Nat×Mx)=>MxIn gF.chs.l 80 j TH Y ((L.map EvC.e).drop (i+1)) s.1 s.2) (fun s=> [(5,.pointer (some ⟨n1,0,none⟩)),(9,.slice (some ⟨go_,0,none⟩) j j),(11,.slice (some ⟨gs_,0,none⟩) gF.chs.l.length gF.chs.l.length),(12,.slice (some ⟨gt_,0,none⟩) gF.chs.l.length gF.chs.l.length),(13,.slice (some ⟨gb,0,none⟩) L.length c1),(15,.int .i64 (i:Int)),(16,.int .i64 (s.1:Int))]) (fun s=>lsH I64 3 (some ⟨go_,0,none⟩) j s.2.own::lsH I64 3 (some ⟨gs_,0,none⟩) gF.chs.l.length s.2.snt::lsH I64 3 (some ⟨gt_,0,none⟩) gF.chs.l.length s.2.tak::rsH evC 9 47 a1 c1 L::stars (L.map fun x=>stars (evL x))::pto n2 (.cells (otC ((Yy gF.er.pr (Wd gF.er.pr) picks).1.outc gF.er.pr)).toArray 41 (0,0))::fcM gF::pto n1 (.cells (pgC gF).toArray 29 (0,0))::(q++F)) (fun s=>Y.length - s.1) (fun s hi_ ih2=> ?_) (0,m) hin) Zu leA
     try dsimp only at hi_ ih2⊢
     obtain hx:=hi_
     have hx:=hi_;clear hi_ hin hi2 hi3 hi4;obtain ⟨k,m⟩:=s;dsimp only at*
     refine xo 8 ?_;refine ld ?_ (hc:=(Cl.row (j:=i) (n:=i) (hs1 _) leA Ju hlt rfl 8 _ rfl))
     refine XO.know 75 (.slice L[i].na Y.length L[i].nc) rfl (by rw [hY]) ?_
     refine ox 3 ?_;refine X.part 77 rfl (fun h3=> ?_) (fun h3=> ?_)
     · replace h3:=sp h3;have hky:k<Y.length:=(by omega);obtain ⟨hok,hnx⟩:=hx.at hky;rw [←hY] at hE;refine Ys (hE (q++F)) (by rw [hlen];omega) (fun eb eo e5_=> ?_)
       have hE2:=hE;rw [e5_] at hE2;have hC: ∀ r,CellsAt (stars (L.map fun x=>stars (evL x))::r) eb (eo+(k:Int).toNat*3) (snC Y[k]):=fun r=>CellsAt.row (hE2 r) (Le.refl _) Rn hky rfl;obtain ⟨⟨KD,SLT,OTH⟩,hy⟩: ∃ y,y=Y[k]:=⟨_,rfl⟩;rw [←hy] at hC hok hnx;obtain ⟨o1,o2,o4,o5⟩:=hok;dsimp only at o1 o2 o4 o5;have hm1:=hx.o;have hm2:=hx.f.s;have hm3:=hx.f.t
       refine xo 10 ?_;refine ld ?_ (hc:=(Cl.row (j:=i) (n:=i) (hs1 _) leA Ju hlt rfl 8 _ rfl))
       refine XO.know 84 (.slice (some ⟨eb,eo,none⟩) Y.length L[i].nc) rfl (by rw [←e5_,hY]) ?_
       refine oo 2 ?_;refine P4 (us:=snC (KD,SLT,OTH)) isAgg50 sizeOf50 rfl ((hC _).le leA) ?_
       refine XO.al zeroValue50 fun n3=> ?_
       refine stA ?_;refine ol 4 ?_;refine ox 7 ?_;refine X.part 90 rfl (fun hk1=> ?_) (fun hk1=> ?_)
       · replace hk1:=sp hk1;subst hk1;obtain ⟨hr,ho_⟩:=o1 rfl;clear o1 o2 o4 o5
         obtain ⟨S,rfl⟩:=Int.eq_ofNat_of_zero_le hr.1;rw [show ((S:Int)).toNat=S from rfl] at ho_
         have hS:S<m.own.length:=(by omega);rw [Yn hS] at ho_
         refine xj 6 ?_;refine oo 1 ?_;refine ld ?_ (hc:=(Cl.e1 (n:=S) (l:=m.own) (Sees.lsH _) Zk hS rfl))
         refine ox 2 ?_;refine X.know 97 (.bool false) rfl (congrArg Value.bool (bne_eq_false_iff_eq.2 ho_)) ?_;refine xx 2 ?_;refine drw ?_;refine dl [0,1] 2 ?_;refine dd [3,4,5,6] ?_;refine ldD 7 ?_ (hc:=(Cl.row (j:=i) (n:=i) (hs1 _) leA Ju hlt rfl 0 _ rfl))
         refine XD.know 105 (.int .i64 TH) rfl (by rw [hTH]) ?_
         refine dd [8] ?_;refine XD.ef0 9 rfl (Qo (f:=I64) (l:=m.own) (n:=S) (u:=TH) rfl rfl sizeOf3 rfl hS rfl rfl Zk) ?_
         rintro _ _ ⟨rfl,rfl⟩
         refine ⟨trivial,?_⟩
         refine XD.nil ?_;refine xx 7 ?_
         have hmm:mxS TH m ((1:Int),(S:Int),OTH)= { m with own:=m.own.set S TH } :=(by rfl);rw [hmm] at hnx
         refine X.at (ih2 (k+1, { m with own:=m.own.set S TH }) hnx (by dsimp only;omega)) Zu leA
       replace hk1:=sp hk1
       refine xx 6 ?_;refine X.part 107 rfl (fun hk2=> ?_) (fun hk2=> ?_)
       · replace hk2:=sp hk2;subst hk2;obtain ⟨hr,ho_⟩:=o2 rfl;clear o1 o2 o4 o5
         obtain ⟨S,rfl⟩:=Int.eq_ofNat_of_zero_le hr.1;rw [show ((S:Int)).toNat=S from rfl] at ho_
         have hS:S<m.own.length:=(by omega);rw [Yn hS] at ho_
         refine xx 3 ?_;refine drw ?_;refine dl [0,1] 2 ?_;refine dd [3] ?_;refine ldD 4 ?_ (hc:=(Cl.e1 (n:=S) (l:=m.own) (Sees.lsH _) Zk hS rfl))
         refine dd [5,6,7,8] ?_;refine ldD 9 ?_ (hc:=(Cl.row (j:=i) (n:=i) (hs1 _) leA Ju hlt rfl 0 _ rfl))
         refine XD.know 118 (.int .i64 TH) rfl (by rw [hTH]) ?_
         refine dd [10] ?_;refine XD.nil ?_;refine X.know 119 (.bool false) rfl (congrArg Value.bool (bne_eq_false_iff_eq.2 ho_)) ?_;refine xj 5 ?_;refine oo 1 ?_;refine XO.ef0 (Qo (f:=I64) (l:=m.own) (n:=S) (u:= -1) rfl rfl sizeOf3 rfl hS rfl rfl Zk) ?_
         rintro _ _ ⟨rfl,rfl⟩
         refine ox 8 ?_
         have hmm:mxS TH m ((2:Int),(S:Int),OTH)= { m with own:=m.own.set S (-1) } :=(by rfl);rw [hmm] at hnx
         refine X.at (ih2 (k+1, { m with own:=m.own.set S (-1) }) hnx (by dsimp only;omega)) Zu leA
       replace hk2:=sp hk2
       refine xx 6 ?_;refine X.part 124 rfl (fun hk4=> ?_) (fun hk4=> ?_)
       · replace hk4:=sp hk4;subst hk4;obtain ⟨hr,ho_⟩:=o4 rfl;clear o1 o2 o4 o5
         obtain ⟨S,rfl⟩:=Int.eq_ofNat_of_zero_le hr.1;rw [show ((S:Int)).toNat=S from rfl] at ho_
         have hS:S<gF.chs.l.length:=(by omega);have hSa:S<m.snt.length:=(by omega);have hSb:S<m.tak.length:=(by omega);rw [Yn hSa,Yn hSb,Yn hS] at ho_;obtain ⟨hoA,hoB⟩:=ho_;have ba:=hx.f.a _ (List.getElem_mem hSa);have bb:=hx.f.b _ (List.getElem_mem hSb)
         have hCh: ∀ r,Sees (fcM gF::r) gF.chs.a (gF.chs.l.map I64):=fun r=>by rw [←Un];exact Sv.sees (Kn.imp Kn.fc fun M h=>h.chs)
         refine Ys (hCh (q++F)) (by rw [List.length_map];omega) (fun cb co e6_=> ?_);have hCh2:=hCh;rw [e6_] at hCh2
         refine xx 3 ?_;refine drw ?_;refine dl [0] 1 ?_;refine dl [2,3] 4 ?_;refine dd [5] ?_;refine ldD 6 ?_ (hc:=(Cl.e1 (n:=S) (l:=m.snt) (Sees.lsH _) Zk hSa rfl))
         refine dd [7,8] ?_;refine XD.know 134 (.bool false) rfl (congrArg Value.bool (bne_eq_false_iff_eq.2 hoA)) ?_;refine dl [9,10] 11 ?_;refine dd [12] ?_;refine ldD 13 ?_ (hc:=(Cl.e1 (n:=S) (l:=m.snt) (Sees.lsH _) Zk hSa rfl))
         refine dl [14,15] 16 ?_;refine dd [17] ?_;refine ldD 18 ?_ (hc:=(Cl.e1 (n:=S) (l:=m.tak) (Sees.lsH _) Zk hSb rfl))
         refine dl [19,20] 21 ?_;refine dl [22] 23 ?_;refine XD.know 147 (.slice (some ⟨cb,co,none⟩) gF.chs.l.length gF.chs.c) rfl (by rw [←e6_];rfl) ?_
         refine dd [24] ?_;refine ldD 25 ?_ (hc:=(((hCh2 _).le leA).at rfl hS))
         refine dd [26,27] ?_;refine XD.nil ?_;refine X.know 153 (.bool false) rfl (congrArg Value.bool (decide_eq_false (by omega))) ?_
         refine xj 5 ?_;refine oo 1 ?_;refine ld ?_ (hc:=(Cl.e1 (n:=S) (l:=m.snt) (Sees.lsH _) Zk hSa rfl))
         refine oo 2 ?_;refine XO.ef0 (Qo (f:=I64) (l:=m.snt) (n:=S) (u:=(m.snt[S]+1)) rfl rfl sizeOf3 rfl hSa rfl rfl Zk) ?_
         rintro _ _ ⟨rfl,rfl⟩
         refine ox 8 ?_
         have hmm:mxS TH m ((4:Int),(S:Int),OTH)= { m with snt:=m.snt.set S (m.snt[S]+1) } :=(by show ({ m with snt:=m.snt.set S (m.snt.getD S 0+1) } :Mx)=_;rw [Yn hSa]);rw [hmm] at hnx
         refine X.at (ih2 (k+1, { m with snt:=m.snt.set S (m.snt[S]+1) }) hnx (by dsimp only;omega)) Zu leA
       replace hk4:=sp hk4
       refine xx 6 ?_;refine X.part 161 rfl (fun hk5=> ?_) (fun hk5=> ?_)
       · replace hk5:=sp hk5;subst hk5;obtain ⟨hr,ho_⟩:=o5 rfl;clear o1 o2 o4 o5
         obtain ⟨S,rfl⟩:=Int.eq_ofNat_of_zero_le hr.1;rw [show ((S:Int)).toNat=S from rfl] at ho_
         have hS:S<gF.chs.l.length:=(by omega);have hSa:S<m.snt.length:=(by omega);have hSb:S<m.tak.length:=(by omega);rw [Yn hSa,Yn hSb] at ho_;obtain ⟨hoA,hoB⟩:=ho_;have ba:=hx.f.a _ (List.getElem_mem hSa);have bb:=hx.f.b _ (List.getElem_mem hSb)
         refine xx 3 ?_;refine drw ?_;refine dl [0] 1 ?_;refine dl [2,3] 4 ?_;refine dd [5] ?_;refine ldD 6 ?_ (hc:=(Cl.e1 (n:=S) (l:=m.tak) (Sees.lsH _) Zk hSb rfl))
         refine dd [7,8] ?_;refine XD.know 171 (.bool false) rfl (congrArg Value.bool (bne_eq_false_iff_eq.2 hoA)) ?_;refine dl [9,10] 11 ?_;refine dd [12] ?_;refine ldD 13 ?_ (hc:=(Cl.e1 (n:=S) (l:=m.tak) (Sees.lsH _) Zk hSb rfl))
         refine dl [14,15] 16 ?_;refine dd [17] ?_;refine ldD 18 ?_ (hc:=(Cl.e1 (n:=S) (l:=m.snt) (Sees.lsH _) Zk hSa rfl))
         refine dd [19,20] ?_;refine XD.nil ?_;refine X.know 183 (.bool false) rfl (congrArg Value.bool (decide_eq_false (by omega))) ?_
         refine xj 5 ?_;refine oo 1 ?_;refine ld ?_ (hc:=(Cl.e1 (n:=S) (l:=m.tak) (Sees.lsH _) Zk hSb rfl))
         refine oo 2 ?_;refine XO.ef0 (Qo (f:=I64) (l:=m.tak) (n:=S) (u:=(m.tak[S]+1)) rfl rfl sizeOf3 rfl hSb rfl rfl Zk) ?_
         rintro _ _ ⟨rfl,rfl⟩
         refine ox 8 ?_
         have hmm:mxS TH m ((5:Int),(S:Int),OTH)= { m with tak:=m.tak.set S (m.tak[S]+1) } :=(by show ({ m with tak:=m.tak.set S (m.tak.getD S 0+1) } :Mx)=_;rw [Yn hSb]);rw [hmm] at hnx
         refine X.at (ih2 (k+1, { m with tak:=m.tak.set S (m.tak[S]+1) }) hnx (by dsimp only;omega)) Zu leA
       replace hk5:=sp hk5
       refine xx 9 ?_
       rw [Tf (x:=(KD,SLT,OTH)) ⟨hk1,hk2,hk4,hk5⟩] at hnx
       refine X.at (ih2 (k+1,m) hnx (by dsimp only;omega)) Zu leA
     replace h3:=sp h3;have hkk:=hx.kl;obtain rfl:k=Y.length:=(by omega);have hend:=hx.end rfl
     refine xx 8 ?_;refine X.know 13 (.slice a1 L.length c1) rfl (by rw [e_]) ?_
     refine X.at (ih (i+1,m) ⟨hlt,hx.f,hx.o,hend⟩ (by dsimp only;omega)) Zu leA
   refine xo 4 ?_
 all_goals
  refine V3 call14 (known_ok (q:= [])) ?_
  rintro _ _ ⟨rfl,rfl⟩ _ e_;simp only [ca,na] at e_;subst e_
  refine ox 2 ?_;refine Zq (q) func3 (Zp results3 rfl) ⟨_,rfl,rfl,rfl⟩
end
end Go.Proofs.YtflkjkhijcdbaaaGreat
