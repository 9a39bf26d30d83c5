/- Contracts of functions, proved by walking their code. -/
import Derived.Test.YtflkjkhijcdbaaaGreatEm
import Derived.KernelRfl
import Derived.Lib.AppendZerosOnto
set_option maxRecDepth 100000
set_option linter.unusedVariables false
set_option linter.unusedSimpArgs false
namespace Go.Proofs.YtflkjkhijcdbaaaGreat
open Go Go.RowKit Wx Go.Proofs.Tryz
attribute [local irreducible] Wx.lsH Wx.rsH Wx.stars
theorem Ps {F:Fnd}{N:Nat}{s:SS}{n:Nat}(ho:SS.ok F N s)(h:s.can F.pr n=true)(h3:(s.th n).st≠3):((s.th n).next.kd=11→((s.sy.chans.getD (s.th n).next.slt.toNat ch0).items.length:Int)<(s.sy.chans.getD (s.th n).next.slt.toNat ch0).room)∧((s.th n).next.kd=12→0<(s.sy.chans.getD (s.th n).next.slt.toNat ch0).items.length):=by
 have hz:F.pr.room=s.sy.chans.map Ch.room:=ho.z.2.2.symm
 unfold SS.can at h
 dsimp only at h
 split at h
 · cases h
 revert h
 generalize (s.th n).next=x
 obtain ⟨k,ln,cl,nm,wt,e,ix,body,els,id,slot,other,loc⟩:=x
 dsimp only [PStm.kd,PStm.slt]
 intro h
 first|rw [if_neg h3] at h|skip
 refine ⟨fun e=> ?_,fun e=> ?_⟩
 · subst e
   rw [if_neg (by decide),if_pos rfl,hz] at h
   have h':=of_decide_eq_true h
   by_cases hk:slot.toNat<s.sy.chans.length
   · rwa [L4 hk] at h'
   have e1:(s.sy.chans.map Ch.room).getD slot.toNat 0=0:=by rw [List.getD_eq_getElem?_getD,List.getElem?_eq_none (by simp only [List.length_map];omega)];rfl
   rw [e1] at h'
   have e2:s.sy.chans.getD slot.toNat ch0=ch0:=by rw [List.getD_eq_getElem?_getD,List.getElem?_eq_none (by omega)];rfl
   rw [e2];decide
 subst e
 rw [if_neg (by decide),if_neg (by decide),if_pos rfl] at h
 have h':=of_decide_eq_true h
 omega
theorem Cb {p:PPr}{s:SS}{n:Nat}{x:PStm}{ev:PEv}(h:ev.syn= []):(s.data p n x ev).2.1.syn.length≤1:=by
 obtain ⟨k,ln,cl,nm,wt,e,ix,body,els,id,slot,other,loc⟩:=x
 unfold SS.data
 dsimp only
 (repeat' split)<;>(simp only [h];simp)
theorem Pr {F:Fnd}{N:Nat}{s:SS}{n:Nat}{p:PPr}(h:s.fine F N)(hn:n<s.ths.length):(s.did p n).2.1.syn.length≤N+1000:=by
 have hk:=h.ok.h _ (List.getElem_mem hn)
 rw [←Hg hn] at hk
 have hp8:=hk.p.1
 unfold SS.did
 dsimp only
 split
 · simp
 split
 · exact Nat.le_trans (Cb rfl) (by omega)
 have hat:=A4 (t:= { s.th n with left:=(s.th n).left.drop 1 }) hn
 generalize (s.th n).next=x
 obtain ⟨k,ln,cl,nm,wt,e,ix,body,els,id,slot,other,loc⟩:=x
 unfold SS.others
 dsimp only
 rw [hat]
 have hcc: ∀ k:Nat,(s.sy.conds.getD k []).length≤N:=fun k=>by
  by_cases hk:k<s.sy.conds.length
  · exact (h.ok.y.c _ (Y1 hk)).1
  rw [List.getD_eq_getElem?_getD,List.getElem?_eq_none (by omega)];simp
 have h2:=hcc slot.toNat
 (repeat' split)<;>(simp only [zEv,List.nil_append,List.length_append,List.length_map,List.length_take,List.length_singleton,List.length_nil,SS.put]<;>omega)
section
variable {G:World}{q:List HP}{p pp who n N:Nat}{g:FC}{σ:StC}{ev:EvC}{k sl ot u:Int}{bb:Bool}
set_option maxHeartbeats 16000000 in
theorem do_ok (hP:Prg q pp g)(hM:MayP g.er)(hF:SS.fine g.er N σ.er)(hN:N≤899)(hwho:who<σ.ths.length)(hc:σ.er.can g.er.pr who=true)(hTd:Kn q fun M=>TodoAt M σ.ths)(hev:ev.e=zEv who (σ.er.th who).next.idn):CallF prog G 61 [.pointer (some ⟨p,0,none⟩)] (Zx p pp who σ ev++q) (Ret fun v q'=> ∃ (σ':StC) (ev':EvC),(((σ.er.did g.er.pr who).2.2=0∧v= .int .i64 0∧σ'.er=((σ.er.did g.er.pr who).1.ended who (σ.er.did g.er.pr who).2.1).1∧ev'.e=((σ.er.did g.er.pr who).1.ended who (σ.er.did g.er.pr who).2.1).2∧Kn q fun M=>TodoAt M σ'.ths)∨((σ.er.did g.er.pr who).2.2≠0∧v= .int .i64 (σ.er.did g.er.pr who).2.2∧ev'.e=(σ.er.did g.er.pr who).2.1))∧q'=Zx p pp who σ' ev'++q):=by
 refine CallF.of func61 ntmps61 rfl (fun F cs=> ?_)
 have hlen:σ.er.ths.length=σ.ths.length:=StC.nth σ;have h8:=hF.ok.t.2;rw [hlen] at h8;have hR:=hF.ready (p:=g.er.pr) (by rw [hlen];exact hwho) hc;have hTh:=hF.ok.at hwho;have hO:=PO.pop hF (show N≤900 by omega) hwho
 have hthe:σ.er.th who=(σ.ths[who]).er:=Ze hwho;have hne:σ.ths[who].todo≠ []:=by
  have h1:=hR.l;rw [hthe] at h1
  intro e;rw [←Qw] at e;rw [e] at h1;cases h1
 obtain ⟨⟨yb,yo,ys⟩,hy1,hy2,hy3,hy4,hy5⟩:=Rx hne;rw [←hthe] at hy5;dsimp only at hy5;have htl:=hTh.n;rw [Vc] at htl
 have hsl:=Ez hF hM (by rw [hlen];exact hwho) hc
 change X _ _ _ _ _ _ _ _ (pto p (.cells (Yu pp σ++(.int .i64 (who:Int)::evC ev)).toArray 145 (0,0))::lsH I64 2 σ.ca σ.cc σ.cells::yH σ.sp σ.sy::rsH trC 5 116 σ.ha σ.hc σ.ths::stars (σ.ths.map trH)::rsH acC 3 140 ev.aa ev.ac ev.e.acc::rsH snC 3 50 ev.na ev.nc ev.e.syn::(q++F))
 refine Yk (l:=σ.ths) (by omega) (fun ga e_=> ?_)
 have hr: ∀ r,Sees (rsH trC 5 116 σ.ha σ.hc σ.ths::r) (some ⟨ga,0,none⟩) (σ.ths.flatMap trC):=fun r=>by rw [←e_];exact Sees.rsH r
 have h0:=List.length_pos_iff.2 hne;refine X.le (q':=stars (σ.ths.map trH)::_) Zk (X.le (Mi hwho _) ?_);refine V8 (l:=σ.ths[who].todo) h0 (fun gt et_=> ?_);refine X.lscap (l:=σ.ths[who].todo) (fun hcap=> ?_);refine X.lsmax (l:=σ.ths[who].todo) (fun hmx=> ?_)
 refine xo 2 ?_;refine XO.al zeroValue39 fun n1=> ?_
 refine oo 4 ?_;refine XO.dfr ?_;refine oo 4 ?_;refine XO.cR call95 (Q1 (p:=p) (who:=who) (ga:=ga) (m:=σ.ths.length) (c:=σ.hc) (by rw [←e_];exact clA) clA hwho) ?_
 refine oo 5 ?_;refine XO.cR call60 (J1 (b:=ga) (o:=0+(who:Int).toNat*5) (todo:=σ.ths[who].todo) (Cl.row (n:=who) (hr _) leA Zd hwho rfl 3 _ rfl) ((Sees.lsH _).le leA) (by omega)) ?_
 refine XO.know 9 (.pointer (some ⟨yb,yo,none⟩)) rfl (by rw [hy1];rfl) ?_
 refine ox 3 ?_;refine drw ?_;refine dd [0,1,2,3] ?_;refine ldD 4 ?_ (hc:=(Cl.row (n:=who) (hr _) leA Zd hwho rfl 3 _ rfl))
 refine XD.know 14 (.slice (some ⟨gt,0,none⟩) σ.ths[who].todo.length σ.ths[who].tc) rfl (by rw [←et_]) ?_
 refine dd [5,6,7] ?_;refine ldD 8 ?_ (hc:=(Cl.row (n:=who) (hr _) leA Zd hwho rfl 3 _ rfl))
 refine XD.know 18 (.slice (some ⟨gt,0,none⟩) σ.ths[who].todo.length σ.ths[who].tc) rfl (by rw [←et_]) ?_
 refine dd [9,10,11,12,13] ?_;refine XD.know 21 (.slice (some ⟨gt,0,none⟩) (σ.ths[who].todo.take (σ.ths[who].todo.length - 1)).length σ.ths[who].tc) rfl (by rw [List.length_take];congr 1;omega) ?_
 refine XD.le (q':=rsH trC 5 116 (some ⟨ga,0,none⟩) σ.hc σ.ths::_) (by rw [←e_];exact Zk) ?_
 refine XD.ef0 14 rfl (Yi (g:=ga) (f:=trC) (l:=σ.ths) (u:=σ.ths[who].pop) (n:=who) (k:=3) (j:=(who:Int)) rfl rfl sizeOf114 Zd rfl hwho rfl (by rw [←et_];rfl) rfl rfl (by rw [←e_];exact Zk)) ?_
 rintro _ _ ⟨rfl,rfl⟩
 refine ⟨trivial,?_⟩
 refine XD.nil ?_;refine xo 3 ?_;refine XO.le (q':=lsH PS.v 146 σ.ths[who].ta σ.ths[who].tc (σ.ths[who].todo.take (σ.ths[who].todo.length - 1))::_) (Le.trans (b:=lsH PS.v 146 σ.ths[who].ta σ.ths[who].tc σ.ths[who].todo::_) Zk (Cc _ _ _ _ _ _ _)) ?_
 refine XO.le (q':=stars ((σ.ths.set who σ.ths[who].pop).map trH)::_) (Le.trans (b:=lsH I64 2 (σ.ths[who].pop).la (σ.ths[who].pop).lc (σ.ths[who].pop).loc::lsH PS.v 146 (σ.ths[who].pop).ta (σ.ths[who].pop).tc (σ.ths[who].pop).todo::lsH I64 3 (σ.ths[who].pop).sa (σ.ths[who].pop).sc (σ.ths[who].pop).sp::stars ((σ.ths.eraseIdx who).map trH)::_) (Le.pick Zk (Le.pick Zk (Le.pick Zk Zk))) (Mr hwho σ.ths[who].pop _)) ?_
 obtain ⟨σ1,hσ1⟩: ∃ x,x=σ.pop who hwho:=⟨_,rfl⟩
 refine XO.le (q':=pto p (.cells (Yu pp σ1++(.int .i64 (who:Int)::evC ev)).toArray 145 (0,0))::lsH I64 2 σ1.ca σ1.cc σ1.cells::yH σ1.sp σ1.sy::rsH trC 5 116 σ1.ha σ1.hc σ1.ths::stars (σ1.ths.map trH)::rsH acC 3 140 ev.aa ev.ac ev.e.acc::rsH snC 3 50 ev.na ev.nc ev.e.syn::pto n1 (.cells [.int .i64 0].toArray 39 (0,0))::(q++F)) (by subst hσ1;dsimp only [StC.pop];simp only [Yu,List.length_set];rw [e_];exact leA) ?_
 have hl1:σ1.ths.length=σ.ths.length:=by simp [hσ1]
 have hw1:who<σ1.ths.length:=(by rw [hl1];exact hwho)
 have hat:σ1.ths[who]=σ.ths[who].pop:=by subst hσ1;exact List.getElem_set_self ..
 have hst:(σ1.ths[who]).st=(σ.er.th who).st:=by rw [hat,hthe];rfl
 have her:σ1.er=σ.er.put who { σ.er.th who with left:=(σ.er.th who).left.drop 1 } :=by rw [hσ1];exact Pp hwho
 rw [←hσ1] at hO;have hz1:σ1.sy=σ.sy:=by rw [hσ1]
 have e1_:σ1.ha=some ⟨ga,0,none⟩:=by rw [hσ1];exact e_
 have hr1: ∀ r,Sees (rsH trC 5 116 σ1.ha σ1.hc σ1.ths::r) (some ⟨ga,0,none⟩) (σ1.ths.flatMap trC):=fun r=>by rw [←e1_];exact Sees.rsH r
 have hyA:Kn q fun M=>PS.At M ⟨yb,yo,ys⟩:=hTd.imp fun M h=>h σ.ths[who] (List.getElem_mem hwho) _ hy2
 have hT1:Kn q fun M=>TodoAt M σ1.ths:=hTd.imp fun M h t ht z hz=>by
  rw [hσ1] at ht
  rcases List.mem_or_eq_of_mem_set ht with ht|rfl
  · exact h t ht z hz
  exact h _ (List.getElem_mem hwho) z (List.mem_of_mem_take hz)
 have hgd:ys.er.good g.er.cn (σ1.ths[who]).loc.length:=by have h:=hR.g;rw [hy5,hthe] at h;rw [hat];exact h
 have hev2:ev.e.acc= []∧ev.e.syn= []:=by rw [hev];exact ⟨rfl,rfl⟩
 have hkd:1≤ys.er.kd∧ys.er.kd≤15:=by have h:=hgd;revert h;cases ys;intro h;exact (Yc h.2.1).1
 obtain ⟨D,hD⟩: ∃ D,D=σ.er.did g.er.pr who:=⟨_,rfl⟩;rw [←hD] at hsl⊢
 have hpan: ∀ (p_:PE) (qq:List HP) (k:Int) (y0:Value) (σ':StC) (ev':EvC),lkp p_ 2=some (.pointer (some ⟨n1,0,none⟩))→k=D.2.2→D.2.2≠0→ev'.e=D.2.1→Le qq (pto n1 (.cells [y0].toArray 39 (0,0))::(Zx p pp who σ' ev'++(q++F)))→FQ prog G 61 cs (Ret fun v q'=> ∃ (σ':StC) (ev':EvC),(((D).2.2=0∧v= .int .i64 0∧σ'.er=((D).1.ended who (D).2.1).1∧ev'.e=((D).1.ended who (D).2.1).2∧Kn q fun M=>TodoAt M σ'.ths)∨((D).2.2≠0∧v= .int .i64 (D).2.2∧ev'.e=(D).2.1))∧q'=Zx p pp who σ' ev'++q) F (.panic [Vh k]) p_ [Wx.dfr 94 [.pointer (some ⟨n1,0,none⟩)]] cs qq:=
  fun p_ qq k y0 σ' ev' h2 hk h0 he hle=>⟨rfl,Lv.catches call94 func61 (Gs (nb:=n1) (k:=k) (y0:=y0)) hle rfl (Lv.ret (q':=Zx p pp who σ' ev'++q) func61 (Rs results61 (ResOk.cell h2 (LV.cell isAgg39 clA) ResOk.nil)) ⟨_,rfl,σ',ev',.inr ⟨h0,by rw [hk],he⟩,rfl⟩ (Le.trans (Le.drop _ _) (by rw [List.append_assoc];exact Le.refl _)))⟩
 refine oo 3 ?_;refine ld ?_ (hc:=(Cl.row (n:=who) (hr1 _) leA Zd hw1 rfl 1 _ rfl))
 refine ox 2 ?_
 have hse: ∀ ev2:EvC,ev2.e=D.2.1→ev2.e.syn.length≤1000000000:=fun ev2 h=>by rw [h,hD];exact Nat.le_trans (Pr hF (by rw [hlen];exact hwho)) (by omega)
 refine X.part 28 rfl (fun h5=> ?_) (fun h5=> ?_)
 focus
  replace h5:=sp h5;have h3:(σ.er.th who).st=3:=(by rw [←hst];exact h5)
  have hDw:D=σ1.er.woken who ys.er ev.e:=by rw [hD,Cx (by rw [hlen];exact hwho) h3,her,hev,hy5]
  refine xo 4 ?_;refine Vb call96 leA (Ld (pto n1 (.cells [.int .i64 0].toArray 39 (0,0))) F (xwake_ok (q:=q) (σ:=σ1) (ev:=ev) (y:=⟨yb,yo,ys⟩) (p:=p) (pp:=pp) hP hM hO hev2 hyA hgd hT1 (by have:=hR.w h3;rw [hy5] at this;exact this))) ?_ ?_
  · rintro _ _ ⟨σ2,ev2,⟨h0,_⟩,_⟩
    exact absurd rfl h0
  rintro _ _ ⟨σ2,ev2,⟨h0,hE,hV,hT2⟩,eq_⟩;simp only [Zx,spP,Zr,evL,ca,na] at eq_;subst eq_
  dsimp only at h0 hE hV;rw [←hDw] at h0 hE hV
  refine oo 4 ?_
 rotate_left
 focus
  replace h5:=sp h5;have h3:(σ.er.th who).st≠3:=(by rw [←hst];exact h5)
  have hDw:D=σ1.er.does g.er.pr who ys.er ev.e:=by rw [hD,Pi h3,her,hev,hy5]
  have hcan:=Ps hF.ok hc h3;rw [hy5] at hcan;rw [show σ.er.sy=σ1.sy from hz1.symm] at hcan
  have hC0:CellsAt q yb yo [.int .i64 ys.er.kd]:=by have h:=Kn.stC hyA;cases ys;exact fun k v e=>h k v (by match k,e with|0,e=>exact e|(k+1),e=>cases e)
  refine xx 1 ?_;refine X.draw [(2,.pointer (some ⟨n1,0,none⟩))] Tryz.mixed (by kernel_rfl) (by kernel_rfl) rfl ?_
  refine dd [1,2,3] ?_;refine ldD 4 ?_ (hc:=((hC0.le leA) 0 _ rfl))
  refine dd [6,7] ?_;refine Un 0 call97 (doers_ok) ?_;rintro _ _ ⟨nm,rfl,rfl⟩ _ e_;simp only [ca,na] at e_;subst e_
  refine ⟨(hlA (h:=by repeat first|exact trivial|refine ⟨clA,?_⟩|refine ⟨((hC0.le leA) 0 _ rfl),?_⟩)),?_⟩
  obtain ⟨aF,hF1,hA⟩:=Tp (kd:= .i64) (c:=ys.er.kd) dL 0
  rcases hA with ⟨rfl,hno⟩|⟨jF,eF,rfl,hmem,hec⟩
  · exact absurd hno (dL_has hkd)
  obtain ⟨fF,hf1,hf2⟩:=doer_at (σ:=σ1) (ev:=ev) (y:=⟨yb,yo,ys⟩) (p:=p) (pp:=pp) (q:=q) hP hM hO hev2 hyA hgd hT1 hcan.1 hcan.2 hmem hec.symm
  refine XD.ef 5 rfl (Rd.ef (Rd.lookup (es:=dL.map dE) (clock:=15) underlying204 underlying119 rfl rfl Zk zeroValue203 hF1)) ?_
  rintro _ _ ⟨rfl,rfl⟩
  refine ⟨trivial,?_⟩
  refine XD.know 37 (.func (.func fF) #[] #[]) rfl (by exact hf1) ?_
  refine XD.cVP 8 (pre:=Zx p pp who σ1 ev++(pto n1 (.cells [.int .i64 0].toArray 39 (0,0))::(q++F))) leA (Lu (pto n1 (.cells [.int .i64 0].toArray 39 (0,0))) F hf2) ?_ ?_ (pk:= [(2,.pointer (some ⟨n1,0,none⟩))]) ⟨rfl,trivial⟩
  · rintro _ _ ⟨σ2,ev2,⟨h0,rfl,hV⟩,rfl⟩
    dsimp only at h0 hV;rw [←hDw] at h0 hV⊢
    exact hpan _ _ _ _ σ2 ev2 rfl rfl h0 hV (by unfold Zx spP;exact leA)
  rintro _ _ ⟨σ2,ev2,⟨h0,hE,hV,hT2⟩,eq_⟩;simp only [Zx,spP,Zr,evL,ca,na] at eq_;subst eq_
  refine ⟨trivial,?_⟩
  dsimp only at h0 hE hV;rw [←hDw] at h0 hE hV
  refine XD.nil ?_;refine xo 3 ?_
 all_goals
  skip
  obtain ⟨hc1,hc2,hc3,hc4,hc5,hc6,hc7,hc8,hc9,hc10,hc11⟩:=hsl h0;rw [←hE] at hc5 hc6 hc7;rw [StC.nth] at hc5 hc6
  have hk0:=hc7 who (by rw [StC.nth];exact hc6);rw [Ze hc6] at hk0;have hkn:=hk0.n;rw [Vc] at hkn
  refine G7 (l:=σ2.ths) (by omega) (fun gb e2_=> ?_);have hr2: ∀ r,Sees (rsH trC 5 116 σ2.ha σ2.hc σ2.ths::r) (some ⟨gb,0,none⟩) (σ2.ths.flatMap trC):=fun r=>by rw [←e2_];exact Sees.rsH r
  refine oo 1 ?_;refine XO.cR call95 (Q1 (p:=p) (who:=who) (ga:=gb) (m:=σ2.ths.length) (c:=σ2.hc) (by rw [←e2_];exact clA) clA hc6) ?_
  refine XO.cR call60 (J1 (b:=gb) (o:=0+(who:Int).toNat*5) (todo:=σ2.ths[who].todo) (Cl.row (n:=who) (hr2 _) leA Zd hc6 rfl 3 _ rfl) ((Sees.todo hc6).le leA) (by omega)) ?_
  have hte:(D.1.th who).left= []↔σ2.ths[who].todo= []:=by rw [←hE,Ze hc6];exact Qw
  rcases hq2:σ2.ths[who].todo.getLast? with _|y2
  · have hq3:σ2.ths[who].todo= []:=List.getLast?_eq_none_iff.1 hq2
    refine XO.know 43 (.pointer none) rfl (rfl) ?_;refine ox 2 ?_;refine X.kt 44 ?_;refine xo 4 ?_;refine XO.cR call95 (Q1 (p:=p) (who:=who) (ga:=gb) (m:=σ2.ths.length) (c:=σ2.hc) (by rw [←e2_];exact clA) clA hc6) ?_
    refine oo 2 ?_;refine XO.le (q':=rsH trC 5 116 (some ⟨gb,0,none⟩) σ2.hc σ2.ths::_) (by rw [←e2_];exact Zk) ?_
    refine XO.ef0 (Yi (g:=gb) (f:=trC) (l:=σ2.ths) (u:=({ σ2.ths[who] with st:=4 } :TC)) (n:=who) (k:=1) (j:=(who:Int)) rfl rfl sizeOf99 Zd rfl hc6 rfl rfl rfl rfl Zk) ?_
    rintro _ _ ⟨rfl,rfl⟩
    rw [←e2_]
    refine oo 3 ?_;refine Zb call98 (by unfold Zx spP Yu Zr;simp only [List.length_set];rw [T7 hc6 (show trH ({ σ2.ths[who] with st:=4 } :TC)=trH σ2.ths[who] from rfl)];exact leA) (V0 (p:=p) (pp:=pp) (who:=who) (σ:=({ σ2 with ths:=σ2.ths.set who ({ σ2.ths[who] with st:=4 } :TC) } :StC)) (ev:=ev2) (k:=8) (sl:=0) (ot:=0) (q:=pto n1 (.cells [.int .i64 0].toArray 39 (0,0))::(q++F)) (hse ev2 hV)) ?_
    rintro _ _ ⟨ev3,hv3,eq_⟩;simp only [Zx,spP,Zr,evL,ca,na] at eq_;subst eq_
    refine oo 3 ?_;refine st ?_;refine ox 1 ?_;exact X.ret ⟨rfl,Cd call94 func61 (D3 (nb:=n1)) (Lv.ret (q':=Zx p pp who ({ σ2 with ths:=σ2.ths.set who ({ σ2.ths[who] with st:=4 } :TC) } :StC) ev3++q) func61 (Rs results61 (ResOk.cell rfl (LV.cell isAgg39 clA) ResOk.nil)) ⟨_,rfl,({ σ2 with ths:=σ2.ths.set who ({ σ2.ths[who] with st:=4 } :TC) } :StC),ev3,.inl ⟨h0,rfl,by unfold SS.ended;rw [if_pos (hte.2 hq3),W2,hE];congr 1;rw [←hE,Ze hc6];rfl,by unfold SS.ended;rw [if_pos (hte.2 hq3),hv3,hV];rfl,hT2.imp fun M h=>TodoAt.of (K8 hc6 rfl) h⟩,rfl⟩ (by unfold Zx spP;rw [List.append_assoc];exact leA))⟩
  have hq3: ¬σ2.ths[who].todo= []:=fun e=>by rw [e] at hq2;cases hq2
  refine XO.know 43 (.pointer (some ⟨y2.b,y2.o,none⟩)) rfl (rfl) ?_
  refine ox 2 ?_;refine Wp 44 ?_;refine xo 4 ?_;refine st ?_;refine ox 1 ?_;exact X.ret ⟨rfl,Cd call94 func61 (D3 (nb:=n1)) (Lv.ret (q':=Zx p pp who σ2 ev2++q) func61 (Rs results61 (ResOk.cell rfl (LV.cell isAgg39 clA) ResOk.nil)) ⟨_,rfl,σ2,ev2,.inl ⟨h0,rfl,by unfold SS.ended;rw [if_neg (fun e=>hq3 (hte.1 e))];exact hE,by unfold SS.ended;rw [if_neg (fun e=>hq3 (hte.1 e))];exact hV,hT2⟩,rfl⟩ (by unfold Zx spP;rw [List.append_assoc];exact leA))⟩
end
def zE0:PEv:=zEv 0 0
def SS.doP (p:PPr)(s:SS)(n:Int):SS×PEv×Int:=
 if n<0∨(s.ths.length:Int)≤n then (s,zE0,2) else if s.all p= [] then (s,zE0,150) else if s.can p n.toNat=false then (s,zE0,151)
 else ((s.step p n.toNat).1.pg,(s.step p n.toNat).2,0)
theorem Ta: ∀ (l:List Int) (s:SS),(s.wake l).out=s.out
 | [],_=>rfl
 |i::r,s=>by show (SS.wake _ r).out=_;rw [Ta r];rfl
theorem Ts (s:SS)(n:Nat)(k:Int)(b:Bool)(v:Int):(s.into n k b v).1.out=s.out:=by unfold SS.into SS.put;split<;>rfl
theorem Pl {p:PPr}{s:SS}{n:Nat}:(s.did p n).1.out=s.out:=by
 unfold SS.did
 dsimp only
 split
 · rfl
 generalize (s.th n).next=x
 split
 · obtain ⟨k,ln,cl,nm,wt,e,ix,body,els,id,slot,other,loc⟩:=x
   unfold SS.data
   dsimp only
   (repeat' split)<;>first|rfl|(rw [Ts];rfl)
 obtain ⟨k,ln,cl,nm,wt,e,ix,body,els,id,slot,other,loc⟩:=x
 unfold SS.others
 dsimp only
 (repeat' split)<;>first|rfl|(rw [Ts];rfl)|(dsimp only;rw [Ta];rfl)
theorem Fw {s:SS}{n:Nat}{ev:PEv}:(s.ended n ev).1.out=s.out:=by unfold SS.ended SS.put;split<;>rfl
theorem SS.pg_pg (s:SS):s.pg.pg=s.pg:=by unfold SS.pg;dsimp only;split<;>simp_all [C3]
theorem Cf {p:PPr}{s:SS}{n:Nat}(h:s.can p n=true):s.out.kind≠4:=by
 intro e;unfold SS.can at h;dsimp only at h;rw [if_pos (.inl e)] at h;cases h
theorem SS.out_z {s:SS}(h:s.pg=s)(k:s.out.kind≠4):s.out=C3:=by
 have:=congrArg SS.out h;unfold SS.pg at this;dsimp only at this;rw [if_neg k] at this;exact this.symm
theorem Pd {p:PPr}{s:SS}{n:Nat}(h:s.pg=s)(hc:s.can p n=true)(ht:(s.did p n).2.2=0):(s.step p n).1.pg=((s.did p n).1.ended n (s.did p n).2.1).1∧(s.step p n).2=((s.did p n).1.ended n (s.did p n).2.1).2:=by
 rw [Mp,if_neg (fun k=>k ht)]
 refine ⟨?_,rfl⟩
 dsimp only
 rw [Ih]
 have:((s.did p n).1.ended n (s.did p n).2.1).1.out=C3:=by rw [Fw,Pl];exact SS.out_z h (Cf hc)
 rw [←this]
theorem Fj {p:PPr}{s:SS}{n:Nat}(ht:(s.did p n).2.2≠0):(s.step p n).1.pg= { s with out:=⟨4,(s.did p n).2.2,n,(s.th n).next.idn⟩ } ∧(s.step p n).2= { zEv n (s.th n).next.idn with trap:=(s.did p n).2.2,acc:=(s.did p n).2.1.acc } :=by
 rw [Mp,if_pos ht]
 exact ⟨by unfold SS.pg;rw [if_pos rfl],rfl⟩
theorem Fx {p:PPr}{s:SS}{n:Nat}{x:PStm}{ev:PEv}:(s.data p n x ev).2.1.stmt=ev.stmt:=by
 obtain ⟨k,ln,cl,nm,wt,e,ix,body,els,id,slot,other,loc⟩:=x
 unfold SS.data;dsimp only
 (repeat' split)<;>rfl
theorem B1 {p:PPr}{s:SS}{n:Nat}{x:PStm}{ev:PEv}:(s.others p n x ev).2.1.stmt=ev.stmt:=by
 obtain ⟨k,ln,cl,nm,wt,e,ix,body,els,id,slot,other,loc⟩:=x
 unfold SS.others;dsimp only
 (repeat' split)<;>rfl
theorem Cy {p:PPr}{s:SS}{n:Nat}:(s.did p n).2.1.stmt=(s.th n).next.idn:=by
 unfold SS.did;dsimp only
 split
 · rfl
 split
 · rw [Fx];rfl
 rw [B1];rfl
structure Hd (q:List HP) (pp:Nat) (g:FC) (N:Nat) (σ:StC):Prop where
 P:Prg q pp g
 M:MayP g.er
 F:SS.fine g.er N σ.er
 G:σ.er.pg=σ.er
 T:Kn q fun M=>TodoAt M σ.ths
section
variable {G:World}{q:List HP}{p pp who n N:Nat}{g:FC}{σ:StC}{ev:EvC}{k sl ot u:Int}{bb:Bool}
variable {z:Int}
theorem do2_ok (E:List HP){F:List HP}(hP:Prg q pp g)(hM:MayP g.er)(hF:SS.fine g.er N σ.er)(hN:N≤899)(hwho:who<σ.ths.length)(hc:σ.er.can g.er.pr who=true)(hTd:Kn q fun M=>TodoAt M σ.ths)(hev:ev.e=zEv who (σ.er.th who).next.idn):CallF prog G 61 [.pointer (some ⟨p,0,none⟩)] (Zx p pp who σ ev++(E++(q++F))) (Ret fun v q'=> ∃ (σ':StC) (ev':EvC),(((σ.er.did g.er.pr who).2.2=0∧v= .int .i64 0∧σ'.er=((σ.er.did g.er.pr who).1.ended who (σ.er.did g.er.pr who).2.1).1∧ev'.e=((σ.er.did g.er.pr who).1.ended who (σ.er.did g.er.pr who).2.1).2∧Kn q fun M=>TodoAt M σ'.ths)∨((σ.er.did g.er.pr who).2.2≠0∧v= .int .i64 (σ.er.did g.er.pr who).2.2∧ev'.e=(σ.er.did g.er.pr who).2.1))∧q'=Zx p pp who σ' ev'++(E++(q++F))):=
 CallF.conv (pre':=(Zx p pp who σ ev++q)++(E++F)) (by rw [List.append_assoc];exact Le.append_left _ (W7 E q F)) (H3 (E++F) (do_ok hP hM hF hN hwho hc hTd hev)) (by
  rintro _ _ ⟨_,⟨v,rfl,σ',ev',h,rfl⟩,rfl⟩
  exact ⟨_,⟨v,rfl,σ',ev',h,rfl⟩,by rw [List.append_assoc];exact Le.append_left _ (W7 q E F)⟩)
set_option maxHeartbeats 16000000 in
theorem SDo_ok (hH:Hd q pp g N σ)(hN:N≤899):CallF prog G 30 [.pointer (some ⟨p,0,none⟩),.int .i64 z] (stP p pp σ::(Zr σ++q)) (Ret fun v q'=> ∃ (x:EvC) (σ':StC) (e:Int),v= .tuple [.agg (evC x).toArray,.int .i64 e].toArray∧q'=stP p pp σ'::(Zr σ'++(evL x++q))∧(Kn q fun M=>TodoAt M σ'.ths)∧SS.doP g.er.pr σ.er z=(σ'.er,x.e,e)):=by
 refine CallF.of func30 ntmps30 rfl (fun F cs=> ?_)
 obtain ⟨hP,hM,hF,hG,hTd⟩:=hH;have hok:=hF.ok;have hlen:σ.er.ths.length=σ.ths.length:=StC.nth σ;have h8:=hok.t.2;rw [hlen] at h8;have h1_:=hok.t.1;rw [hlen] at h1_
 change X _ _ _ _ _ _ _ _ (stP p pp σ::lsH I64 2 σ.ca σ.cc σ.cells::yH σ.sp σ.sy::rsH trC 5 116 σ.ha σ.hc σ.ths::stars (σ.ths.map trH)::(q++F))
 refine Yk (l:=σ.ths) (by omega) (fun ga e_=> ?_)
 have hr: ∀ r,Sees (rsH trC 5 116 σ.ha σ.hc σ.ths::r) (some ⟨ga,0,none⟩) (σ.ths.flatMap trC):=fun r=>by rw [←e_];exact Sees.rsH r
 refine xo 2 ?_;refine XO.al zeroValue47 fun n1=> ?_
 refine oo 7 ?_;refine XO.cR call49 (Vt (p:=p) (pp:=pp) clA) ?_
 refine XO.pu (Pu.not rfl) ?_;refine ox 2 ?_;refine Wp 8 ?_
 have hzc:z<0∨(¬z<0∧(σ.ths.length:Int)≤z)∨(0≤z∧z<σ.ths.length):=(by omega)
 rcases hzc with hz|hz|hz
 focus
  refine xo 6 ?_;refine XO.know 16 (.bool true) rfl (congrArg Value.bool (decide_eq_true hz)) ?_;refine oo 14 ?_
 rotate_left
 focus
  refine xo 6 ?_;refine XO.know 16 (.bool false) rfl (congrArg Value.bool (decide_eq_false hz.1)) ?_;refine ol 4 ?_;refine ox 5 ?_;refine X.know 13 (.bool true) rfl (congrArg Value.bool (decide_eq_true (by omega))) ?_
  refine xo 4 ?_
 rotate_left
 · refine xo 6 ?_;refine XO.know 16 (.bool false) rfl (congrArg Value.bool (decide_eq_false (by omega))) ?_
   refine ol 4 ?_;refine ox 5 ?_;refine X.know 13 (.bool false) rfl (congrArg Value.bool (decide_eq_false (by omega))) ?_
   refine xo 4 ?_;obtain ⟨n,rfl⟩:=Int.eq_ofNat_of_zero_le hz.1;have hn:n<σ.ths.length:=(by omega);have hnot: ¬ ((n:Int)<0∨(σ.er.ths.length:Int)≤n):=(by rw [hlen];omega)
   refine Zb call40 leA (Lp (p:=p) (pp:=pp) (σ:=σ) (q:=pto n1 _::(q++F)) hok (by omega) (hTd.le leA)) ?_
   rintro _ _ ⟨a1,c1,rfl,rfl⟩
   refine ox 4 ?_;refine X.part 26 rfl (fun h2=> ?_) (fun h2=> ?_)
   · replace h2:=sp h2;have hal:=List.eq_nil_of_length_eq_zero (show (σ.er.all g.er.pr).length=0 by omega)
     refine xo 4 ?_;refine stA ?_;refine ox 2 ?_
     skip
     refine X.le (Zi acC 3 140 _) (X.le (Zi snC 3 50 _) ?_);refine Zq (stP p pp σ::(Zr σ++(evL (⟨zE0,none,0,none,0⟩:EvC)++q))) func30 (Hk results30) ⟨_,rfl,(⟨zE0,none,0,none,0⟩:EvC),σ,150,rfl,rfl,hTd,by unfold SS.doP;rw [if_neg hnot,if_pos hal]⟩ (by unfold Zr evL;exact leA)
   replace h2:=sp h2;have hal: ¬σ.er.all g.er.pr= []:=(fun k=>by rw [k] at h2;exact h2 rfl)
   refine xo 5 ?_;refine Zb call59 leA (Sl (p:=p) (pp:=pp) (σ:=σ) (n:=n) (q:=pto n1 _::(q++F)) hok (by omega) hn (hTd.le leA)) ?_
   rintro _ _ ⟨rfl,rfl⟩
   refine XO.pu (Pu.not rfl) ?_;refine ox 2 ?_;refine X.part 32 rfl (fun h3=> ?_) (fun h3=> ?_)
   · replace h3:=sp h3
     refine xo 4 ?_;refine stA ?_;refine ox 2 ?_
     skip
     refine X.le (Zi acC 3 140 _) (X.le (Zi snC 3 50 _) ?_);refine Zq (stP p pp σ::(Zr σ++(evL (⟨zE0,none,0,none,0⟩:EvC)++q))) func30 (Hk results30) ⟨_,rfl,(⟨zE0,none,0,none,0⟩:EvC),σ,151,rfl,rfl,hTd,by unfold SS.doP;rw [if_neg hnot,if_neg hal,if_pos (by simpa using h3)]⟩ (by unfold Zr evL;exact leA)
   replace h3:=sp h3;have hc:σ.er.can g.er.pr n=true:=(by simpa using h3)
   have hcl:σ.cells.length≤1000000:=(by have h:=hok.c;have h2:=hM.l.1;have h3:=hM.s;have h4:(σ.er.cells.length:Int)=σ.cells.length:=rfl;omega)
   have hR:=hF.ready (p:=g.er.pr) (by rw [hlen];exact hn) hc;have hthe:σ.er.th n=(σ.ths[n]).er:=Ze hn;have hne:σ.ths[n].todo≠ []:=by
    have h1:=hR.l;rw [hthe] at h1
    intro e;rw [←Qw] at e;rw [e] at h1;cases h1
   obtain ⟨⟨yb,yo,ys⟩,hy1,hy2,hy3,hy4,hy5⟩:=Rx hne;rw [←hthe] at hy5;dsimp only at hy5;have htl:=(hok.at hn).n;rw [Vc] at htl
   have hyA:Kn q fun M=>PS.At M ⟨yb,yo,ys⟩:=hTd.imp fun M h=>h σ.ths[n] (List.getElem_mem hn) _ hy2
   have hC8:Cl q ⟨yb,yo+21,none⟩ (.int .i64 ys.er.idn):=by have h:=Kn.stC hyA;obtain ⟨kk,ln,cl,nm,wt,⟨ek,en,enm,esl,elo,eop,el,ea,ec⟩,⟨xk,xn,xnm,xsl,xlo,xop,xl,xa,xc⟩,bd,es2,ba,bc,ea2,ec2,id,sl,ot,lo⟩:=ys;exact h 21 _ rfl
   refine xo 6 ?_;refine Zb call37 leA (SCopy_ok (p:=p) (pp:=pp) (σ:=σ) (q:=pto n1 (.cells (evC (⟨zE0,none,0,none,0⟩:EvC)).toArray 47 (0,0))::(q++F)) hok (by omega) hcl) ?_
   rintro _ _ ⟨p2,σ2,hs1,hs2,rfl,rfl⟩
   refine oo 1 ?_;refine ldA ?_;refine oo 2 ?_;refine Y2 fun n2=> ?_
   refine ol 10 ?_;refine oo 1 ?_;refine XO.know 51 (.slice (some ⟨ga,0,none⟩) σ.ths.length σ.hc) rfl (by rw [←e_]) ?_
   refine oo 1 ?_;refine XO.cR call60 (J1 (b:=ga) (o:=0+(n:Int).toNat*5) (todo:=σ.ths[n].todo) (Cl.row (n:=n) (hr _) leA Zd hn rfl 3 _ rfl) ((Sees.todo hn).le leA) (by omega)) ?_
   refine XO.know 54 (.pointer (some ⟨yb,yo,none⟩)) rfl (by rw [hy1];rfl) ?_
   refine oo 2 ?_;refine ld ?_ (hc:=(hC8.le leA))
   refine oo 3 ?_;refine st ?_;refine oo 3 ?_;refine st ?_;refine oo 5 ?_
   have hl2:σ2.ths.length=σ.ths.length:=by rw [←StC.nth,hs1,StC.nth]
   have hn2:n<σ2.ths.length:=(by rw [hl2];exact hn)
   refine XO.le (Zi acC 3 140 _) (XO.le (Zi snC 3 50 _) ?_);refine Zb call61 (by unfold Zx spP Zr evL;exact leA) (do2_ok (p:=n2) (pp:=pp) (who:=n) (σ:=σ2) (ev:=(⟨zEv n ys.er.idn,none,0,none,0⟩:EvC)) (q:=q) (F:=F) (pto n1 (.cells (evC (⟨zE0,none,0,none,0⟩:EvC)).toArray 47 (0,0))::stP p pp σ::lsH I64 2 σ.ca σ.cc σ.cells::yH σ.sp σ.sy::rsH trC 5 116 σ.ha σ.hc σ.ths::stars (σ.ths.map trH):: []) hP hM (by rw [hs1];exact hF) (by omega) hn2 (by rw [hs1];exact hc) (hTd.imp fun M h=>TodoAt.of hs2 h) (by rw [hs1,hy5])) ?_
   rintro _ _ ⟨σ3,ev3,hor,eq_⟩;simp only [Zx,spP,Zr,evL,ca,na] at eq_;subst eq_
   rw [hs1] at hor;obtain ⟨D,hD⟩: ∃ D,D=σ.er.did g.er.pr n:=⟨_,rfl⟩;rw [←hD] at hor;have hst3:=Cy (p:=g.er.pr) (s:=σ.er) (n:=n);rw [←hD] at hst3
   rcases hor with ⟨h0,rfl,hE,hV,hT3⟩|⟨h0,rfl,hV⟩
   · refine ox 7 ?_;refine Wp 67 ?_;refine xo 8 ?_;refine ldA ?_;refine oo 1 ?_;refine stA ?_;refine oo 6 ?_;refine ldA ?_;refine stA ?_;refine ox 2 ?_;refine Zq (stP p pp σ3::(Zr σ3++(evL ev3++q))) func30 (Hk results30) ⟨_,rfl,ev3,σ3,0,rfl,rfl,hT3,by unfold SS.doP;rw [if_neg hnot,if_neg hal,if_neg (by rw [show ((n:Int)).toNat=n from rfl,hc];decide),show ((n:Int)).toNat=n from rfl];obtain ⟨e1,e2⟩:=Pd hG hc (by rw [←hD];exact h0);rw [e1,e2,←hD,hE,hV]⟩ (by unfold stP Zr evL;exact leA)
   have hs3:ev3.e.stmt=(σ.er.th n).next.idn:=by rw [hV];exact hst3
   refine ox 7 ?_;refine X.know 67 (.bool true) rfl (congrArg Value.bool (bne_iff_ne.2 h0)) ?_;refine xj 10 ?_;refine oo 3 ?_;refine stA ?_;refine ox 2 ?_;refine drw ?_;refine dl [0,1,2,3,4] 5 ?_;refine dl [6,7,8,9,10] 11 ?_;refine dd [12] ?_;refine V9 13 ?_;refine dd [14] ?_;refine XD.nil ?_;refine X.le (Zi snC 3 50 _) ?_;refine Zq (stP p pp ({ σ with out:=⟨4,D.2.2,n,ev3.e.stmt⟩ } :StC)::(Zr ({ σ with out:=⟨4,D.2.2,n,ev3.e.stmt⟩ } :StC)++(evL (⟨{ zEv n ev3.e.stmt with trap:=D.2.2,acc:=ev3.e.acc },ev3.aa,ev3.ac,none,0⟩:EvC)++q))) func30 (Hk results30) ⟨_,rfl,(⟨{ zEv n ev3.e.stmt with trap:=D.2.2,acc:=ev3.e.acc },ev3.aa,ev3.ac,none,0⟩:EvC),({ σ with out:=⟨4,D.2.2,n,ev3.e.stmt⟩ } :StC),0,rfl,rfl,hTd,by unfold SS.doP;rw [if_neg hnot,if_neg hal,if_neg (by rw [show ((n:Int)).toNat=n from rfl,hc];decide),show ((n:Int)).toNat=n from rfl];obtain ⟨e1,e2⟩:=Fj (p:=g.er.pr) (s:=σ.er) (n:=n) (by rw [←hD];exact h0);rw [e1,e2,←hD,←hs3,hV];rfl⟩ (by unfold stP Zr evL;exact leA)
 all_goals
  refine stA ?_;refine ox 2 ?_
  skip
  refine X.le (Zi acC 3 140 _) (X.le (Zi snC 3 50 _) ?_);refine Zq (stP p pp σ::(Zr σ++(evL (⟨zE0,none,0,none,0⟩:EvC)++q))) func30 (Hk results30) ⟨_,rfl,(⟨zE0,none,0,none,0⟩:EvC),σ,2,rfl,rfl,hTd,by unfold SS.doP;rw [if_pos (by omega)]⟩ (by unfold Zr evL;exact leA)
end
theorem SS.fine.pg {F:Fnd}{N:Nat}{s:SS}(h:s.fine F N):s.pg.fine F N:=h.out _
theorem SS.fine.doP {F:Fnd}{N:Nat}{s:SS}(h:s.fine F N)(hM:MayP F)(z:Int):(s.doP F.pr z).1.fine F (N+1):=by
 unfold SS.doP
 split
 · exact h.mono (Nat.le_succ N)
 rename_i h1
 split
 · exact h.mono (Nat.le_succ N)
 split
 · exact h.mono (Nat.le_succ N)
 rename_i h3
 exact (h.step hM (n:=z.toNat) (by omega) (by simpa using h3)).pg
theorem Ou {p:PPr}{s:SS}(h:s.pg=s)(z:Int):(s.doP p z).1.pg=(s.doP p z).1:=by
 unfold SS.doP
 split
 · exact h
 split
 · exact h
 split
 · exact h
 exact SS.pg_pg _
theorem Hd.next {q:List HP}{pp N:Nat}{g:FC}{σ σ':StC}{z:Int}(h:Hd q pp g N σ)(e:(SS.doP g.er.pr σ.er z).1=σ'.er)(hT:Kn q fun M=>TodoAt M σ'.ths):Hd q pp g (N+1) σ':=
 ⟨h.P,h.M,e ▸ h.F.doP h.M z,e ▸ Ou h.G z,hT⟩
theorem Hd.mono {q:List HP}{pp N N':Nat}{g:FC}{σ:StC}(h:Hd q pp g N σ)(l:N≤N'):Hd q pp g N' σ:=⟨h.P,h.M,h.F.mono l,h.G,h.T⟩
def SS.ix (k:Int)(n:Nat):Nat:=((k.tmod n+n).tmod n).toNat
def SS.stepP (p:PPr)(s:SS)(k:Int):SS×PEv×Int:=
 if s.all p= [] then (s,zE0,150) else s.doP p ((s.all p).getD (SS.ix k (s.all p).length) 0)
theorem Hd.step {q:List HP}{pp N:Nat}{g:FC}{σ σ':StC}{k:Int}(h:Hd q pp g N σ)(e:(SS.stepP g.er.pr σ.er k).1=σ'.er)(hT:Kn q fun M=>TodoAt M σ'.ths):Hd q pp g (N+1) σ':=by
 unfold SS.stepP at e
 split at e
 · exact ⟨h.P,h.M,e ▸ h.F.mono (Nat.le_succ N),e ▸ h.G,hT⟩
 exact h.next e hT
theorem ix_ok {k:Int}{n:Nat}(h:0<n)(h8:n≤1000):(-(n:Int)<k.tmod n∧k.tmod n<n)∧(0≤(k.tmod n+n).tmod n∧(k.tmod n+n).tmod n<n)∧SS.ix k n<n:=by
 have h1: -(n:Int)<k.tmod n∧k.tmod n<n:=by
  have a1:=Int.tmod_lt_of_pos k (b:=(n:Int)) (by omega)
  have a2:=Int.lt_tmod_of_pos k (b:=(n:Int)) (by omega)
  exact ⟨a2,a1⟩
 have h2:0≤(k.tmod n+n).tmod n∧(k.tmod n+n).tmod n<n:=⟨Int.tmod_nonneg _ (by omega),Int.tmod_lt_of_pos _ (by omega)⟩
 exact ⟨h1,h2,by unfold SS.ix;omega⟩
theorem B3 (p:PPr)(s:SS):(s.all p).length≤s.ths.length:=by
 unfold SS.all
 rw [List.length_map]
 exact Nat.le_trans (List.length_filter_le _ _) (Nat.le_of_eq List.length_range)
def Yn (p:PPr):SS→List Int→SS×List PEv
 |s, []=>(s, [])
 |s,k::r=>if s.all p= [] then (s, []) else ((Yn p (s.stepP p k).1 r).1,(s.stepP p k).2.1::(Yn p (s.stepP p k).1 r).2)
theorem Nr (p:PPr)(s:SS)(k:Int)(r:List Int):Yn p s (k::r)=if s.all p= [] then (s, []) else ((Yn p (s.stepP p k).1 r).1,(s.stepP p k).2.1::(Yn p (s.stepP p k).1 r).2):=by rw [Yn]
theorem Pt {p:PPr}{s:SS}{x:Int}(h:x∈s.all p): ∃ n:Nat,x=n∧n<s.ths.length∧s.can p n=true:=by
 unfold SS.all at h
 obtain ⟨n,hn,rfl⟩:=List.mem_map.1 h
 obtain ⟨h1,h2⟩:=List.mem_filter.1 hn
 exact ⟨n,rfl,List.mem_range.1 h1,h2⟩
theorem Fk {p:PPr}{s:SS}{k:Int}(h:s.all p≠ [])(h8:s.ths.length≤8): ∃ n:Nat,n<s.ths.length∧s.can p n=true∧(s.all p).getD (SS.ix k (s.all p).length) 0=n∧s.stepP p k=((s.step p n).1.pg,(s.step p n).2,0):=by
 have hl:=B3 p s
 obtain ⟨_,_,hi⟩:=ix_ok (k:=k) (List.length_pos_iff.2 h) (by omega)
 obtain ⟨n,h1,h2,h3⟩:=Pt (List.getElem_mem hi)
 refine ⟨n,h2,h3,by rw [Wc hi,h1],?_⟩
 unfold SS.stepP SS.doP
 rw [if_neg h,Wc hi,h1,if_neg (by omega),if_neg h,show ((n:Int)).toNat=n from rfl,h3]
 rfl
theorem Rv (x:EvC):(evC x).length=9:=rfl
theorem evC_one (x:EvC):(evC x).all (·.oneCell')=true:=rfl
def Gl (a:Option Addr)(c:Nat)(L:List EvC):List HP:= [rsH evC 9 47 a c L,stars (L.map fun x=>stars (evL x))]
structure Goes (q:List HP) (pp:Nat) (g:FC) (N:Nat) (σ:StC) (picks:List Int) (i:Nat) (σ':StC) (L:List EvC):Prop where
 h:Hd q pp g (N+i) σ'
 e:L.map EvC.e++(Yn g.er.pr σ'.er (picks.drop i)).2=(Yn g.er.pr σ.er picks).2
 s:(Yn g.er.pr σ'.er (picks.drop i)).1=(Yn g.er.pr σ.er picks).1
 l:L.length≤i
theorem Goes.next {q:List HP}{pp N i:Nat}{g:FC}{σ σ1 σ2:StC}{picks:List Int}{L:List EvC}{x:EvC}(h:Goes q pp g N σ picks i σ1 L)(hi:i<picks.length)(hn:σ1.er.all g.er.pr≠ [])(e:SS.stepP g.er.pr σ1.er picks[i]=(σ2.er,x.e,0))(hT:Kn q fun M=>TodoAt M σ2.ths):Goes q pp g N σ picks (i+1) σ2 (L++ [x]):=by
 have hd:picks.drop i=picks[i]::picks.drop (i+1):=List.drop_eq_getElem_cons hi
 have h1:=h.e;have h2:=h.s
 rw [hd,Nr] at h1 h2
 rw [if_neg hn,e] at h1 h2
 refine ⟨?_,?_,h2,by rw [List.length_append];have:=h.l;simp;omega⟩
 · have:=Hd.step (k:=picks[i]) h.h (by rw [e]) hT
   rwa [Nat.add_assoc] at this
 rw [List.map_append,List.append_assoc];exact h1
theorem Goes.stop {q:List HP}{pp N i:Nat}{g:FC}{σ σ1:StC}{picks:List Int}{L:List EvC}(h:Goes q pp g N σ picks i σ1 L)(hi:i<picks.length)(hn:σ1.er.all g.er.pr= []):σ1.er=(Yn g.er.pr σ.er picks).1∧L.map EvC.e=(Yn g.er.pr σ.er picks).2:=by
 have hd:picks.drop i=picks[i]::picks.drop (i+1):=List.drop_eq_getElem_cons hi
 have h1:=h.e;have h2:=h.s
 rw [hd,Nr] at h1 h2
 rw [if_pos hn] at h1 h2
 exact ⟨h2,by rw [←h1,List.append_nil]⟩
theorem Goes.done {q:List HP}{pp N i:Nat}{g:FC}{σ σ1:StC}{picks:List Int}{L:List EvC}(h:Goes q pp g N σ picks i σ1 L)(hi:i=picks.length):σ1.er=(Yn g.er.pr σ.er picks).1∧L.map EvC.e=(Yn g.er.pr σ.er picks).2:=by
 subst hi
 have h1:=h.e;have h2:=h.s
 rw [List.drop_length] at h1 h2
 exact ⟨h2,by rw [←h1];simp [Yn]⟩
theorem Fl:(prog.info? 47).map (fun i=>(i.zero,i.size,i.bytes))=some (some (.agg #[.int .i64 0,.int .i64 0,.bool false,.int .i64 0,.slice none 0 0,.bool false,.int .i64 0,.int .i64 0,.slice none 0 0]),9,104):=by kernel_rfl
section
variable {G:World}{q:List HP}{p pp who n N:Nat}{g:FC}{σ:StC}{ev:EvC}{k sl ot u:Int}{bb:Bool}
variable {z:Int}
theorem SDo2_ok (E:List HP){F:List HP}(hH:Hd q pp g N σ)(hN:N≤899):CallF prog G 30 [.pointer (some ⟨p,0,none⟩),.int .i64 z] (stP p pp σ::(Zr σ++(E++(q++F)))) (Ret fun v q'=> ∃ (x:EvC) (σ':StC) (e:Int),v= .tuple [.agg (evC x).toArray,.int .i64 e].toArray∧q'=stP p pp σ'::(Zr σ'++(evL x++(E++(q++F))))∧(Kn q fun M=>TodoAt M σ'.ths)∧SS.doP g.er.pr σ.er z=(σ'.er,x.e,e)):=
 CallF.conv (pre':=(stP p pp σ::(Zr σ++q))++(E++F)) (Le.cons _ (by show Le _ ((Zr σ++q)++(E++F));rw [List.append_assoc];exact Le.append_left _ (W7 E q F))) (H3 (E++F) (SDo_ok hH hN)) (by
  rintro _ _ ⟨_,⟨v,rfl,x,σ',e,rfl,rfl,h1,h2⟩,rfl⟩
  exact ⟨_,⟨_,rfl,x,σ',e,rfl,rfl,h1,h2⟩,Le.cons _ (by show Le ((Zr σ'++(evL x++q))++(E++F)) _;rw [List.append_assoc,List.append_assoc];exact Le.append_left _ (Le.append_left _ (W7 q E F)))⟩)
set_option maxHeartbeats 16000000 in
theorem SStep_ok (hH:Hd q pp g N σ)(hN:N≤899)(hk: -9223372036854775808≤k∧k≤9223372036854775807):CallF prog G 19 [.pointer (some ⟨p,0,none⟩),.int .i64 k] (stP p pp σ::(Zr σ++q)) (Ret fun v q'=> ∃ (x:EvC) (σ':StC) (e:Int),v= .tuple [.agg (evC x).toArray,.int .i64 e].toArray∧q'=stP p pp σ'::(Zr σ'++(evL x++q))∧(Kn q fun M=>TodoAt M σ'.ths)∧SS.stepP g.er.pr σ.er k=(σ'.er,x.e,e)):=by
 refine CallF.of func19 ntmps19 rfl (fun F cs=> ?_)
 have hF:=hH.F;have hTd:=hH.T;have hok:=hF.ok;have hlen:σ.er.ths.length=σ.ths.length:=StC.nth σ;have h8:=hok.t.2;rw [hlen] at h8;have hal8:=B3 g.er.pr σ.er;rw [hlen] at hal8
 change X _ _ _ _ _ _ _ _ (stP p pp σ::lsH I64 2 σ.ca σ.cc σ.cells::yH σ.sp σ.sy::rsH trC 5 116 σ.ha σ.hc σ.ths::stars (σ.ths.map trH)::(q++F))
 refine xo 2 ?_;refine XO.al zeroValue47 fun n1=> ?_
 refine oo 6 ?_;refine XO.cR call49 (Vt (p:=p) (pp:=pp) clA) ?_
 refine XO.pu (Pu.not rfl) ?_;refine ox 1 ?_;refine Wp 9 ?_;obtain ⟨L,hL⟩: ∃ L,L=σ.er.all g.er.pr:=⟨_,rfl⟩;rw [←hL] at hal8
 refine xo 5 ?_;refine Zb call40 leA (Lp (p:=p) (pp:=pp) (σ:=σ) (q:=pto n1 (.cells (evC (⟨zE0,none,0,none,0⟩:EvC)).toArray 47 (0,0))::(q++F)) hok (by omega) (hTd.le leA)) ?_
 rintro _ _ ⟨a1,c1,rfl,rfl⟩
 rw [←hL]
 refine ox 9 ?_;refine X.part 15 rfl (fun h2=> ?_) (fun h2=> ?_)
 · replace h2:=sp h2;have hal:=List.eq_nil_of_length_eq_zero (show L.length=0 by omega)
   refine xo 4 ?_;refine stA ?_;refine ox 2 ?_;refine X.le (Zi acC 3 140 _) (X.le (Zi snC 3 50 _) ?_);refine Zq (stP p pp σ::(Zr σ++(evL (⟨zE0,none,0,none,0⟩:EvC)++q))) func19 (Hk results19) ⟨_,rfl,(⟨zE0,none,0,none,0⟩:EvC),σ,150,rfl,rfl,hTd,by unfold SS.stepP;rw [if_pos (by rw [←hL];exact hal)]⟩ (by unfold Zr evL;exact leA)
 replace h2:=sp h2;have hp0:0<L.length:=(by omega);have hal: ¬σ.er.all g.er.pr= []:=(fun k=>by rw [←hL] at k;rw [k] at hp0;exact absurd hp0 (by decide));obtain ⟨hi1,hi2,hi3⟩:=ix_ok (k:=k) hp0 (by omega)
 refine V8 (l:=L) (by omega) (fun gl el_=> ?_)
 have hl_: ∀ r,Sees (lsH I64 3 a1 c1 L::r) (some ⟨gl,0,none⟩) (L.map I64):=fun r=>by rw [←el_];exact Sees.lsH r
 refine xo 16 ?_;refine XO.know 28 (.int .i64 (SS.ix k L.length:Int)) rfl (by unfold SS.ix;rw [Int.toNat_of_nonneg hi2.1]) ?_
 refine XO.know 18 (.slice (some ⟨gl,0,none⟩) L.length c1) rfl (by rw [←el_]) ?_
 refine oo 1 ?_;refine ld ?_ (hc:=(((hl_ _).le leA).at (by omega) hi3))
 refine Zb call30 (by unfold Zr;exact leA) (SDo2_ok (p:=p) (pp:=pp) (σ:=σ) (q:=q) (F:=F) (pto n1 (.cells (evC (⟨zE0,none,0,none,0⟩:EvC)).toArray 47 (0,0))::lsH I64 3 a1 c1 L:: []) hH hN) ?_
 rintro _ _ ⟨x,σ2,e2,rfl,rfl,hT2,hD2⟩
 simp only [Zr,evL,ca,na]
 refine oo 2 ?_;refine stA ?_;refine ox 2 ?_;refine Zq (stP p pp σ2::(Zr σ2++(evL x++q))) func19 (Hk results19) ⟨_,rfl,x,σ2,e2,rfl,rfl,hT2,by unfold SS.stepP;rw [if_neg hal,←hL,Wc hi3];exact hD2⟩ (by unfold Zr evL;exact leA)
theorem On (E:List HP){F:List HP}(hH:Hd q pp g N σ)(hN:N≤899)(hk: -9223372036854775808≤k∧k≤9223372036854775807):CallF prog G 19 [.pointer (some ⟨p,0,none⟩),.int .i64 k] (stP p pp σ::(Zr σ++(E++(q++F)))) (Ret fun v q'=> ∃ (x:EvC) (σ':StC) (e:Int),v= .tuple [.agg (evC x).toArray,.int .i64 e].toArray∧q'=stP p pp σ'::(Zr σ'++(evL x++(E++(q++F))))∧(Kn q fun M=>TodoAt M σ'.ths)∧SS.stepP g.er.pr σ.er k=(σ'.er,x.e,e)):=
 CallF.conv (pre':=(stP p pp σ::(Zr σ++q))++(E++F)) (Le.cons _ (by show Le _ ((Zr σ++q)++(E++F));rw [List.append_assoc];exact Le.append_left _ (W7 E q F))) (H3 (E++F) (SStep_ok hH hN hk)) (by
  rintro _ _ ⟨_,⟨v,rfl,x,σ',e,rfl,rfl,h1,h2⟩,rfl⟩
  exact ⟨_,⟨_,rfl,x,σ',e,rfl,rfl,h1,h2⟩,Le.cons _ (by show Le ((Zr σ'++(evL x++q))++(E++F)) _;rw [List.append_assoc,List.append_assoc];exact Le.append_left _ (Le.append_left _ (W7 q E F)))⟩)
variable {picks:List Int}{pa:Option Addr}{pc:Nat}
set_option maxHeartbeats 16000000 in
theorem SRun_ok (hH:Hd q pp g N σ)(hN:N+picks.length≤899)(hs:Sees q pa (picks.map I64))(hk: ∀ k∈picks, -9223372036854775808≤k∧k≤9223372036854775807):CallF prog G 16 [.pointer (some ⟨p,0,none⟩),.slice pa picks.length pc] (stP p pp σ::(Zr σ++q)) (Ret fun v q'=> ∃ (σ':StC) (L:List EvC) (a':Option Addr) (c':Nat),v= .tuple [.slice a' L.length c',.agg (otC (σ'.er.outc g.er.pr)).toArray].toArray∧q'=stP p pp σ'::(Zr σ'++(Gl a' c' L++q))∧Hd q pp g (N+picks.length) σ'∧σ'.er=(Yn g.er.pr σ.er picks).1∧L.map EvC.e=(Yn g.er.pr σ.er picks).2∧L.length≤picks.length):=by
 refine CallF.of func16 ntmps16 rfl (fun F cs=> ?_)
 change X _ _ _ _ _ _ _ _ (stP p pp σ::lsH I64 2 σ.ca σ.cc σ.cells::yH σ.sp σ.sy::rsH trC 5 116 σ.ha σ.hc σ.ths::stars (σ.ths.map trH)::(q++F))
 refine xo 3 ?_;refine XO.al zeroValue41 fun n1=> ?_
 refine ox 13 ?_;refine X.at (X.loop (fun (s:Nat×StC×List EvC×Option Addr×Nat)=>s.1≤picks.length∧Goes q pp g N σ picks s.1 s.2.1 s.2.2.1) (fun s=> [(0,.pointer (some ⟨p,0,none⟩)),(5,.pointer (some ⟨n1,0,none⟩)),(6,.slice s.2.2.2.1 s.2.2.1.length s.2.2.2.2),(11,.slice pa picks.length pc),(12,.int .i64 (picks.length:Int)),(13,.int .i64 (s.1:Int))]) (fun s=>stP p pp s.2.1::lsH I64 2 s.2.1.ca s.2.1.cc s.2.1.cells::yH s.2.1.sp s.2.1.sy::rsH trC 5 116 s.2.1.ha s.2.1.hc s.2.1.ths::stars (s.2.1.ths.map trH)::pto n1 (.cells [.int .i64 0,.int .i64 0,.int .i64 0,.int .i64 0].toArray 41 (0,0))::rsH evC 9 47 s.2.2.2.1 s.2.2.2.2 s.2.2.1::stars (s.2.2.1.map fun x=>stars (evL x))::(q++F)) (fun s=>picks.length - s.1) (fun s hi_ ih=> ?_) (0,σ, [],none,0) ⟨Nat.zero_le _,⟨hH,rfl,rfl,Nat.le_refl _⟩⟩) Zu (Le.trans (Zi evC 9 47 _) (Le.trans (W1 _) leA))
 try dsimp only at hi_ ih⊢
 obtain ⟨hi,hg⟩:=hi_
 obtain ⟨i,σ1,L,ea,ec⟩:=s;dsimp only at*
 refine xx 5 ?_;refine X.part 14 rfl (fun h0=> ?_) (fun h0=> ?_)
 · replace h0:=sp h0;have hlt:i<picks.length:=(by omega)
   refine Yb (hs.le leA) (by rw [List.length_map];omega) (fun b1 o1 e1_=> ?_);have hs_:=hs;rw [e1_] at hs_
   refine xo 6 ?_;refine XO.know 11 (.slice (some ⟨b1,o1,none⟩) picks.length pc) rfl (by rw [←e1_]) ?_
   refine oo 1 ?_;refine ld ?_ (hc:=((hs_.le leA).at rfl hlt))
   refine oo 6 ?_;refine Zb call19 (by unfold Zr;exact leA) (On (p:=p) (pp:=pp) (σ:=σ1) (g:=g) (N:=N+i) (q:=q) (F:=F) (pto n1 (.cells [.int .i64 0,.int .i64 0,.int .i64 0,.int .i64 0].toArray 41 (0,0))::rsH evC 9 47 ea ec L::stars (L.map fun x=>stars (evL x)):: []) hg.h (by omega) (hk _ (List.getElem_mem hlt))) ?_
   rintro _ _ ⟨x,σ2,e2,rfl,rfl,hT2,hD2⟩
   simp only [Zr,evL,ca,na]
   refine oo 3 ?_;refine XO.al zeroValue47 fun n2=> ?_
   refine stA ?_;refine ox 8 ?_
   have hF1:=hg.h.F.ok.t.2;by_cases hal:σ1.er.all g.er.pr= []
   · have hD3:=hD2;unfold SS.stepP at hD3;rw [if_pos hal] at hD3;obtain ⟨hd1,hd2⟩:=Prod.mk.inj hD3;obtain ⟨hd3,rfl⟩:=Prod.mk.inj hd2;obtain ⟨hs1,hs2⟩:=hg.stop hlt hal
     refine X.kt 24 ?_
     have hHd:=Hd.step hg.h (by rw [hD2]) hT2
     refine xo 6 ?_;refine Zb call22 (by unfold Zr;exact leA) (Dq (p:=p) (pp:=pp) (σ:=σ2) (g:=g) (N:=N+i+1) (q:=pto n1 (.cells [.int .i64 0,.int .i64 0,.int .i64 0,.int .i64 0].toArray 41 (0,0))::rsH evC 9 47 ea ec L::stars (L.map fun x=>stars (evL x))::(q++F)) hHd.F.ok (by omega) (hHd.T.le leA)) ?_
     rintro _ _ ⟨rfl,rfl⟩
     simp only [Zr,ca,na]
     refine oo 1 ?_;refine stA ?_;refine ox 1 ?_;refine Zq (stP p pp σ2::(Zr σ2++(Gl ea ec L++q))) func16 (Ro results16 (ResOk.tmp rfl (ResOk.cell rfl (LV.agg isAgg41 sizeOf41 Qh rfl) ResOk.nil))) ⟨_,rfl,σ2,L,ea,ec,rfl,rfl,hHd.mono (by omega),by rw [←hd1];exact hs1,hs2,by have:=hg.l;omega⟩ (by unfold Zr Gl;exact leA)
   obtain ⟨_,_,_,_,hD3⟩:=Fk (k:=picks[i]) hal hF1;have hD4:=hD2;rw [hD3] at hD4;obtain ⟨_,hd2⟩:=Prod.mk.inj hD4;obtain ⟨_,rfl⟩:=Prod.mk.inj hd2;have hg2:=hg.next hlt hal hD2 hT2;have hgl:=hg.l
   refine Wp 24 ?_;refine xo 4 ?_;refine ldA ?_;refine XO.ef (Z9 (u:=x) evC underlying37 Fl rfl rfl Rv rfl) ?_
   rintro _ _ ⟨g3,rfl,rfl⟩
   refine XO.ef (Z8 (f:=evC) (l:=L) (m:= [x]) underlying37 Fl rfl rfl Rv rfl rfl Zk ((Sees.rsH _).le leA) evC_one (by simp;omega) (by simp;omega)) ?_
   rintro _ _ ⟨a3,c3,rfl,rfl⟩
   refine ox 7 ?_;refine X.le (q':=stars ((L++ [x]).map fun x=>stars (evL x))::_) (Le.trans (b:=stars (L.map fun x=>stars (evL x))::rsH acC 3 140 x.aa x.ac x.e.acc::rsH snC 3 50 x.na x.nc x.e.syn::_) (Le.pick Zk (Le.pick Zk Zk)) (Le.trans (Le.cons _ (Z5 (evL x) _)) (by rw [List.map_append];exact Le.stars_snoc _ _ _))) ?_
   refine X.know 11 (.slice pa picks.length pc) rfl (by rw [e1_]) ?_
   refine X.at (ih (i+1,σ2,L++ [x],a3,c3) ⟨by dsimp only;omega,hg2⟩ (by dsimp only;omega)) Zu leA
 replace h0:=sp h0;obtain ⟨hs1,hs2⟩:=hg.done (show i=picks.length by omega)
 have hHd:=hg.h
 refine xo 6 ?_;refine Zb call22 (by unfold Zr;exact leA) (Dq (p:=p) (pp:=pp) (σ:=σ1) (g:=g) (N:=N+i) (q:=pto n1 (.cells [.int .i64 0,.int .i64 0,.int .i64 0,.int .i64 0].toArray 41 (0,0))::rsH evC 9 47 ea ec L::stars (L.map fun x=>stars (evL x))::(q++F)) hHd.F.ok (by omega) (hHd.T.le leA)) ?_
 rintro _ _ ⟨rfl,rfl⟩
 simp only [Zr,ca,na]
 refine oo 1 ?_;refine stA ?_;refine ox 1 ?_;refine Zq (stP p pp σ1::(Zr σ1++(Gl ea ec L++q))) func16 (Ro results16 (ResOk.tmp rfl (ResOk.cell rfl (LV.agg isAgg41 sizeOf41 Qh rfl) ResOk.nil))) ⟨_,rfl,σ1,L,ea,ec,rfl,rfl,hHd.mono (by omega),hs1,hs2,by have:=hg.l;omega⟩ (by unfold Zr Gl;exact leA)
end
def evZ (n id:Int):EvC:=⟨zEv n id,none,0,none,0⟩
mutual
def PEx.sz:PEx→Nat
 | .mk _ _ _ _ _ _ args=>U8 args+1
def U8:List PEx→Nat
 | []=>0
 |e::r=>e.sz+U8 r
end
mutual
theorem C0: ∀ (e:Ex),e.er.sz=e.sz
 | .mk _ _ _ _ _ _ args _ _=>by simp only [Ex.er,PEx.sz,Ex.sz,Dy args]
theorem Dy: ∀ (l:List Ex),U8 (Z2 l)=Qn l
 | []=>rfl
 |e::r=>by simp only [Z2,U8,Qn,C0 e,Dy r]
end
mutual
/-- What an expression that may be is like. -/
def PEx.fit:PEx→Prop
 | .mk k n _ _ _ op args=>(1≤k∧k≤6)∧args.length=Sx k∧(k=1→0≤n∧n≤2147483647)∧(k=6→1≤op∧op≤11)∧J8 args
def J8:List PEx→Prop
 | []=>True
 |e::r=>e.fit∧J8 r
end
mutual
theorem Jt: ∀ {e:PEx} {d:Nat},e.right d=true→e.fit
 | .mk k n nm _ _ op args,d,h=>by
  simp only [PEx.right] at h
  split at h
  · cases h
  split at h
  · rename_i hk
    rw [Bool.and_eq_true,Bool.and_eq_true,decide_eq_true_eq] at h
    obtain ⟨⟨h1,h2⟩,h3⟩:=h
    refine ⟨hk,h2,fun h=> ?_,fun h=> ?_,Hm h3⟩
    · subst h;unfold L9 at h1;rw [if_pos rfl,Bool.and_eq_true] at h1;simpa using h1
    subst h;unfold L9 at h1;rw [if_neg (by decide),if_neg (by decide),if_pos rfl,Bool.and_eq_true] at h1;simpa using h1
  cases h
theorem Hm: ∀ {l:List PEx} {d:Nat},Y4 l d=true→J8 l
 | [],_,_=>trivial
 |e::r,d,h=>by
  simp only [Y4,Bool.and_eq_true] at h
  exact ⟨Jt h.1,Hm h.2⟩
end
mutual
/-- How much code a statement makes at most. -/
def PStm.wt:PStm→Nat
 | .mk _ _ _ _ _ e ix body els _ _ _ _=>4*e.sz+4*ix.sz+6+W0 body+W0 els
def W0:List PStm→Nat
 | []=>0
 |s::r=>s.wt+W0 r
end
theorem Y5 {f:Fnd}{w:Int}(hw:w≠0):(f.fl w).flaw≠0:=by
 unfold Fnd.fl
 split
 · exact hw
 rename_i h;exact h
theorem Ml {g:Fnd}{nm:ByteArray}(h:((g.loc1 nm).loc2).flaw=0):(g.loc1 nm).loc2=g∧g.locals<32∧g.flaw=0:=by
 have e:(g.loc1 nm)=g:=by
  by_cases hk:g.at nm≠0
  · exfalso
    have h1:(g.loc1 nm).flaw≠0:=by unfold Fnd.loc1;rw [if_pos hk];exact Y5 (by decide)
    unfold Fnd.loc2 at h
    split at h
    · exact Y5 (by decide) h
    exact h1 h
  unfold Fnd.loc1;rw [if_neg hk]
 rw [e] at h⊢
 unfold Fnd.loc2 at h⊢
 by_cases h5:32≤g.locals
 · rw [if_pos h5] at h;exact absurd h (Y5 (by decide))
 rw [if_neg h5] at h⊢;exact ⟨rfl,by omega,h⟩
structure Cn.le (c d:Cn):Prop where
 v:c.v≤d.v
 a:c.a≤d.a
 mu:c.mu≤d.mu
 co:c.co≤d.co
 ch:c.ch≤d.ch
 th:c.th≤d.th
structure NmOk (c:Cn) (lo:Int) (x:Nm):Prop where
 z:0≤x.s
 v:x.k=1→x.s<c.v
 a:x.k=2→x.s<c.a
 mu:x.k=3→x.s<c.mu
 co:x.k=4→x.s<c.co
 ch:x.k=5→x.s<c.ch
 th:x.k=6→x.s<c.th
 lo:x.k=100→x.s<lo
theorem NmOk.up {c d:Cn}{lo hi:Int}{x:Nm}(h:NmOk c lo x)(hc:c.le d)(hl:lo≤hi):NmOk d hi x:=by
 obtain ⟨h0,h1,h2,h3,h4,h5,h6,h7⟩:=h
 obtain ⟨k1,k2,k3,k4,k5,k6⟩:=hc
 exact ⟨h0,fun e=>by have:=h1 e;omega,fun e=>by have:=h2 e;omega,fun e=>by have:=h3 e;omega,fun e=>by have:=h4 e;omega,fun e=>by have:=h5 e;omega,fun e=>by have:=h6 e;omega,fun e=>by have:=h7 e;omega⟩
theorem Cn.le_refl (c:Cn):c.le c:=⟨Int.le_refl _,Int.le_refl _,Int.le_refl _,Int.le_refl _,Int.le_refl _,Int.le_refl _⟩
def vaOk (c:Cn)(lo:Int)(s:Int)(l:Bool):Prop:=0≤s∧(if l=true then s<lo else s<c.v)
mutual
def PEx.wl (c:Cn)(lo:Int):PEx→Prop
 | .mk k _ _ slot loc _ args=>(k=2→vaOk c lo slot loc)∧(k=3→0≤slot∧slot<c.a)∧H1 c lo args
def H1 (c:Cn)(lo:Int):List PEx→Prop
 | []=>True
 |e::r=>e.wl c lo∧H1 c lo r
end
theorem vaOk.up {c:Cn}{lo hi:Int}{s:Int}{l:Bool}(h:vaOk c lo s l)(hl:lo≤hi):vaOk c hi s l:=by
 unfold vaOk at*
 refine ⟨h.1,?_⟩
 have:=h.2
 split<;>rename_i k
 · rw [if_pos k] at this;omega
 rw [if_neg k] at this;omega
mutual
theorem J6 {c:Cn}{lo hi:Int}(hl:lo≤hi): ∀ {e:PEx},e.wl c lo→e.wl c hi
 | .mk ..,⟨h1,h2,h3⟩=>⟨fun k=>(h1 k).up hl,h2,B7 hl h3⟩
theorem B7 {c:Cn}{lo hi:Int}(hl:lo≤hi): ∀ {l:List PEx},H1 c lo l→H1 c hi l
 | [],_=>trivial
 |_::_,⟨h1,h2⟩=>⟨J6 hl h1,B7 hl h2⟩
end
theorem Fnd.wants_ok {f:Fnd}{s:ByteArray}{a b:Int}(h:(f.wants s a b).1.flaw=0):(f.wants s a b).1=f∧ ∃ x∈f.names,(x.k=a∨x.k=b)∧(f.wants s a b).2=(x.k,x.s):=by
 unfold Fnd.wants at h⊢
 have hle:f.at s≤f.names.length:=J3
 split at h
 · exact absurd h (Y5 (by decide))
 rename_i i hi
 have hlt:i<f.names.length:=by omega
 have hx:(f.names.map fun x=>(x.k,x.s)).getD i (0,0)=(f.names[i].k,f.names[i].s):=by
  rw [List.getD_eq_getElem?_getD,List.getElem?_map,List.getElem?_eq_getElem hlt];rfl
 dsimp only at h⊢
 rw [hx] at h⊢
 split at h
 · exact absurd h (Y5 (by decide))
 rename_i hk
 rw [if_neg hk]
 refine ⟨rfl,_,List.getElem_mem hlt,?_,rfl⟩
 simp only [Bool.and_eq_true,bne_iff_ne,ne_eq,not_and,Decidable.not_not] at hk
 by_cases e:f.names[i].k=a
 · exact .inl e
 exact .inr (hk e)
mutual
theorem V5: ∀ (e:PEx) (f:Fnd),(f.expr e).2.sz=e.sz∧(f.expr e).2.dep=e.dep∧(e.fit→(f.expr e).2.fit)
 | .mk k n nm slot loc op args,f=>by
  simp only [Fnd.expr]
  split
  · obtain ⟨h1,h2,h3,h4⟩:=Ur args (f.wants nm 1 100).1
    exact ⟨by simp only [PEx.sz,h1],by simp only [PEx.dep,h2],fun ⟨a,b,c,d,e⟩=>⟨a,h3.trans b,c,d,h4 e⟩⟩
  split
  · obtain ⟨h1,h2,h3,h4⟩:=Ur args (f.wants nm 2 2).1
    exact ⟨by simp only [PEx.sz,h1],by simp only [PEx.dep,h2],fun ⟨a,b,c,d,e⟩=>⟨a,h3.trans b,c,d,h4 e⟩⟩
  obtain ⟨h1,h2,h3,h4⟩:=Ur args f
  exact ⟨by simp only [PEx.sz,h1],by simp only [PEx.dep,h2],fun ⟨a,b,c,d,e⟩=>⟨a,h3.trans b,c,d,h4 e⟩⟩
theorem Ur: ∀ (l:List PEx) (f:Fnd),U8 (f.exprs l).2=U8 l∧Yf (f.exprs l).2=Yf l∧(f.exprs l).2.length=l.length∧(J8 l→J8 (f.exprs l).2)
 | [],f=>⟨rfl,rfl,rfl,fun _=>trivial⟩
 |e::r,f=>by
  obtain ⟨a1,a2,a3⟩:=V5 e f
  obtain ⟨h1,h2,h3,h4⟩:=Ur r (f.expr e).1
  simp only [Fnd.exprs]
  exact ⟨by simp only [U8,a1,h1],by simp only [Yf,a2,h2],by simp only [List.length_cons,h3],fun ⟨k1,k2⟩=>⟨a3 k1,h4 k2⟩⟩
end
mutual
theorem Qb {c:Cn}{lo:Int}: ∀ (e:PEx) (f:Fnd),(f.expr e).1.flaw=0→(f.expr e).1=f∧((∀ x∈f.names,NmOk c lo x)→(f.expr e).2.wl c lo)
 | .mk k n nm slot loc op args,f,h=>by
  simp only [Fnd.expr] at h⊢
  split at h
  · rename_i hk
    rw [if_pos hk]
    obtain ⟨h1,h2⟩:=Qr (c:=c) (lo:=lo) args _ h
    dsimp only at h h1⊢
    rw [h1] at h
    obtain ⟨e1,x,hx,hk2,e2⟩:=Fnd.wants_ok h
    refine ⟨h1.trans e1,fun hn=>⟨fun _=> ?_,fun e=>absurd (hk.symm.trans e) (by decide),h2 (by rw [e1];exact hn)⟩⟩
    have hx2:=hn x hx
    rw [e2]
    refine ⟨hx2.z,?_⟩
    dsimp only
    rcases hk2 with hk2|hk2
    · rw [if_neg (by rw [hk2];decide)];exact hx2.v hk2
    rw [if_pos (by rw [hk2];decide)];exact hx2.lo hk2
  rename_i hk0
  rw [if_neg hk0]
  split at h
  · rename_i hk
    rw [if_pos hk]
    obtain ⟨h1,h2⟩:=Qr (c:=c) (lo:=lo) args _ h
    dsimp only at h h1⊢
    rw [h1] at h
    obtain ⟨e1,x,hx,hk2,e2⟩:=Fnd.wants_ok h
    refine ⟨h1.trans e1,fun hn=>⟨fun e=>absurd (hk.symm.trans e) (by decide),fun _=> ?_,h2 (by rw [e1];exact hn)⟩⟩
    have hx2:=hn x hx
    rw [e2]
    exact ⟨hx2.z,hx2.a (by rcases hk2 with e|e<;>exact e)⟩
  rename_i hk1
  rw [if_neg hk1]
  obtain ⟨h1,h2⟩:=Qr (c:=c) (lo:=lo) args _ h
  exact ⟨h1,fun hn=>⟨fun e=>absurd e hk0,fun e=>absurd e hk1,h2 hn⟩⟩
theorem Qr {c:Cn}{lo:Int}: ∀ (l:List PEx) (f:Fnd),(f.exprs l).1.flaw=0→(f.exprs l).1=f∧((∀ x∈f.names,NmOk c lo x)→H1 c lo (f.exprs l).2)
 | [],f,_=>⟨rfl,fun _=>trivial⟩
 |e::r,f,h=>by
  simp only [Fnd.exprs] at h⊢
  obtain ⟨h1,h2⟩:=Qr (c:=c) (lo:=lo) r _ h
  rw [h1] at h
  obtain ⟨k1,k2⟩:=Qb (c:=c) (lo:=lo) e f h
  exact ⟨h1.trans k1,fun hn=>⟨k2 hn,h2 (by rw [k1];exact hn)⟩⟩
end
def ownOk (c:Cn)(lo k slot other:Int)(loc:Bool):Prop:=
 (k=1∨k=2→vaOk c lo slot loc)∧(k=3→0≤slot∧slot<c.a)∧(k=6∨k=7→0≤slot∧slot<c.mu)∧(k=8∨k=9∨k=10→0≤slot∧slot<c.co)∧(k=8→0≤other∧other<c.mu)∧(k=11∨k=12→0≤slot∧slot<c.ch)∧(k=12→vaOk c lo other loc)∧(k=13→0≤slot∧slot<c.th)
theorem ownOk.up {c:Cn}{lo hi k s o:Int}{l:Bool}(h:ownOk c lo k s o l)(hl:lo≤hi):ownOk c hi k s o l:=by
 obtain ⟨h1,h2,h3,h4,h5,h6,h7,h8⟩:=h
 exact ⟨fun e=>(h1 e).up hl,h2,h3,h4,h5,h6,fun e=>(h7 e).up hl,h8⟩
mutual
def PStm.wl (c:Cn)(lo:Int):PStm→Prop
 | .mk k _ _ _ _ e ix body els id slot other loc=>(1≤k∧k≤15)∧(k≤5∨k=11∨k=15→e.fit∧e.dep≤24∧e.wl c lo)∧(k=3→ix.fit∧ix.dep≤24∧ix.wl c lo)∧(0≤id∧id<512)∧ownOk c lo k slot other loc∧Qx c lo body∧Qx c lo els
def Qx (c:Cn)(lo:Int):List PStm→Prop
 | []=>True
 |s::r=>s.wl c lo∧Qx c lo r
end
mutual
theorem B5 {c:Cn}{lo hi:Int}(hl:lo≤hi): ∀ {s:PStm},s.wl c lo→s.wl c hi
 | .mk ..,⟨h1,h2,h3,h4,h5,h6,h7⟩=>⟨h1,fun k=>⟨(h2 k).1,(h2 k).2.1,J6 hl (h2 k).2.2⟩,fun k=>⟨(h3 k).1,(h3 k).2.1,J6 hl (h3 k).2.2⟩,h4,h5.up hl,Jh hl h6,Jh hl h7⟩
theorem Jh {c:Cn}{lo hi:Int}(hl:lo≤hi): ∀ {l:List PStm},Qx c lo l→Qx c hi l
 | [],_=>trivial
 |_::_,⟨h1,h2⟩=>⟨B5 hl h1,Jh hl h2⟩
end
structure Ctx (c:Cn) (f:Fnd):Prop where
 n: ∀ x∈f.names,NmOk c f.locals x
 l:0≤f.locals∧f.locals≤f.most∧f.most≤32
 s:0≤f.stm
theorem Lh {c:Cn}{f:Fnd}{k sl ot:Int}{nm wt:ByteArray}{lo:Bool}(h:(f.own k nm wt sl ot lo).1.flaw=0)(hx:Ctx c f):
 f.flaw=0∧Ctx c (f.own k nm wt sl ot lo).1∧f.most≤(f.own k nm wt sl ot lo).1.most∧(f.own k nm wt sl ot lo).1.stm=f.stm∧ownOk c (f.own k nm wt sl ot lo).1.most k (f.own k nm wt sl ot lo).2.1 (f.own k nm wt sl ot lo).2.2.1 (f.own k nm wt sl ot lo).2.2.2:=by
 obtain ⟨g,hg⟩: ∃ g,f.own1 k nm sl lo=g:=⟨_,rfl⟩
 unfold Fnd.own at h⊢
 rw [hg] at h⊢
 -- behind own1 nothing is flawed
 have h1:g.1.flaw=0:=by
  unfold Fnd.own2 at h
  split at h
  · exact (Ml (show ((g.1.loc1 nm).loc2).flaw=0 from h)).2.2
  split at h
  · dsimp only at h;rw [←(Fnd.wants_ok h).1];exact h
  split at h
  · dsimp only at h;rw [←(Fnd.wants_ok h).1];exact h
  exact h
 have hw:g.1=f∧(k=2→vaOk c f.locals g.2.1 g.2.2)∧(k=3→0≤g.2.1∧g.2.1<c.a)∧(k=6∨k=7→0≤g.2.1∧g.2.1<c.mu)∧(k=8∨k=9∨k=10→0≤g.2.1∧g.2.1<c.co)∧(k=11∨k=12→0≤g.2.1∧g.2.1<c.ch)∧(k=13→0≤g.2.1∧g.2.1<c.th):=by
  rw [←hg] at h1⊢
  unfold Fnd.own1 at h1⊢
  by_cases hz:(Jk k).1≠0
  · rw [if_pos hz] at h1⊢
    obtain ⟨e1,x,hx1,hk,e2⟩:=Fnd.wants_ok h1
    have ho:=hx.n x hx1
    rw [e2]
    refine ⟨e1,fun e=> ?_,fun e=> ?_,fun e=> ?_,fun e=> ?_,fun e=> ?_,fun e=> ?_⟩
    · subst e
      refine ⟨ho.z,?_⟩
      dsimp only
      rcases hk with hk|hk
      · rw [if_neg (by rw [hk];decide)];exact ho.v hk
      rw [if_pos (by rw [hk];decide)];exact ho.lo hk
    · subst e;exact ⟨ho.z,ho.a (by rcases hk with e|e<;>exact e)⟩
    · refine ⟨ho.z,ho.mu ?_⟩;rcases e with e|e<;>subst e<;>rcases hk with e|e<;>exact e
    · refine ⟨ho.z,ho.co ?_⟩;rcases e with e|e|e<;>subst e<;>rcases hk with e|e<;>exact e
    · refine ⟨ho.z,ho.ch ?_⟩;rcases e with e|e<;>subst e<;>rcases hk with e|e<;>exact e
    subst e;exact ⟨ho.z,ho.th (by rcases hk with e|e<;>exact e)⟩
  rw [if_neg hz] at h1⊢
  have hz2:(Jk k).1=0:=Decidable.not_not.1 hz
  refine ⟨rfl,fun e=> ?_,fun e=> ?_,fun e=> ?_,fun e=> ?_,fun e=> ?_,fun e=> ?_⟩<;>exfalso<;>revert hz2
  · subst e;decide
  · subst e;decide
  · rcases e with e|e<;>subst e<;>decide
  · rcases e with e|e|e<;>subst e<;>decide
  · rcases e with e|e<;>subst e<;>decide
  subst e;decide
 obtain ⟨e1,w2,w3,w4,w5,w6,w7⟩:=hw
 obtain ⟨g1,gs,gl⟩:=g
 dsimp only at*
 subst e1
 obtain ⟨l1,l2,l3⟩:=hx.l
 refine ⟨h1,?_⟩
 unfold Fnd.own2 at h⊢
 split at h
 · rename_i hk
   rw [if_pos hk]
   obtain ⟨e3,e4,_⟩:=Ml (show ((g1.loc1 nm).loc2).flaw=0 from h)
   dsimp only
   rw [e3]
   have hm:(g1.loc3 nm).most=max g1.most (g1.locals+1):=rfl
   have hlo:(g1.loc3 nm).locals=g1.locals+1:=rfl
   refine ⟨⟨fun x hx1=> ?_,⟨by omega,by omega,by omega⟩,hx.s⟩,by omega,rfl,?_⟩
   · rcases List.mem_append.1 (show x∈g1.names++ [⟨nm,100,g1.locals⟩] from hx1) with hx1|hx1
     · exact (hx.n x hx1).up (Cn.le_refl c) (by omega)
     rw [List.mem_singleton.1 hx1]
     exact ⟨l1,fun e=>absurd (show (100:Int)=1 from e) (by decide),fun e=>absurd (show (100:Int)=2 from e) (by decide),fun e=>absurd (show (100:Int)=3 from e) (by decide),fun e=>absurd (show (100:Int)=4 from e) (by decide),fun e=>absurd (show (100:Int)=5 from e) (by decide),fun e=>absurd (show (100:Int)=6 from e) (by decide),fun _=>by dsimp only;omega⟩
   exact ⟨fun _=>⟨l1,by rw [if_pos rfl];omega⟩,fun e=>by omega,fun e=>by omega,fun e=>by omega,fun e=>by omega,fun e=>by omega,fun e=>by omega,fun e=>by omega⟩
 rename_i hk1
 rw [if_neg hk1]
 split at h
 · rename_i hk
   rw [if_pos hk]
   dsimp only at h⊢
   obtain ⟨e1,x,hx1,hk3,e2⟩:=Fnd.wants_ok h
   rw [e1,e2]
   have ho:=hx.n x hx1
   exact ⟨hx,Int.le_refl _,rfl,fun e=>by omega,fun e=>by omega,fun e=>by omega,fun e=>w5 (by omega),fun _=>⟨ho.z,ho.mu (by rcases hk3 with e|e<;>exact e)⟩,fun e=>by omega,fun e=>by omega,fun e=>by omega⟩
 rename_i hk2
 rw [if_neg hk2]
 split at h
 · rename_i hk
   rw [if_pos hk]
   dsimp only at h⊢
   obtain ⟨e1,x,hx1,hk3,e2⟩:=Fnd.wants_ok h
   rw [e1,e2]
   have ho:=hx.n x hx1
   refine ⟨hx,Int.le_refl _,rfl,fun e=>by omega,fun e=>by omega,fun e=>by omega,fun e=>by omega,fun e=>by omega,fun e=>w6 (by omega),fun _=>⟨ho.z,?_⟩,fun e=>by omega⟩
   dsimp only
   rcases hk3 with hk3|hk3
   · rw [if_neg (by rw [hk3];decide)];exact ho.v hk3
   rw [if_pos (by rw [hk3];decide)];have:=ho.lo hk3;omega
 rename_i hk3
 rw [if_neg hk3]
 dsimp only
 exact ⟨hx,Int.le_refl _,rfl,fun e=>(w2 (by omega)).up l2,w3,w4,fun e=>w5 (by omega),fun e=>by omega,fun e=>w6 (by omega),fun e=>by omega,w7⟩
theorem Dw {f:Fnd}{k sl ot:Int}{nm wt:ByteArray}{lo:Bool}(h:(f.own k nm wt sl ot lo).1.flaw=0):f.flaw=0:=by
 have h1:(f.own1 k nm sl lo).1.flaw=0:=by
  unfold Fnd.own Fnd.own2 at h
  split at h
  · exact (Ml (show (((f.own1 k nm sl lo).1.loc1 nm).loc2).flaw=0 from h)).2.2
  split at h
  · dsimp only at h;rw [←(Fnd.wants_ok h).1];exact h
  split at h
  · dsimp only at h;rw [←(Fnd.wants_ok h).1];exact h
  exact h
 unfold Fnd.own1 at h1
 split at h1
 · dsimp only at h1;rw [←(Fnd.wants_ok h1).1];exact h1
 exact h1
theorem U4 (l:List PStm)(f:Fnd)(h:(f.blk l).1.flaw=0):f.flaw=0:=by
 cases l with
 |nil=>exact h
 |cons s r=>
  simp only [Fnd.blk] at h
  split at h
  · rename_i k;exact k
  exact h
mutual
/-- A statement that Check lets pass. -/
def PStm.raw:PStm→Prop
 | .mk k _ _ _ _ e ix body els _ _ _ _=>(1≤k∧k≤15)∧(k≤5∨k=11∨k=15→e.fit∧e.dep≤24)∧(k=3→ix.fit∧ix.dep≤24)∧(e.sz≤e.nd+1∧ix.sz≤ix.nd+1)∧Vg body∧Vg els
def Vg:List PStm→Prop
 | []=>True
 |s::r=>s.raw∧Vg r
end
mutual
theorem Ca {c:Cn}: ∀ (s:PStm) (f:Fnd),s.raw→(f.stmt s).1.flaw=0→Ctx c f→f.flaw=0∧Ctx c (f.stmt s).1∧f.most≤(f.stmt s).1.most∧(f.stmt s).2.wl c (f.stmt s).1.most
 | .mk k ln cl nm wt e ix body els id slot other loc,f,hr,h,hx=>by
  obtain ⟨r1,r2,r3,r4,r5,r6⟩:=hr
  simp only [Fnd.stmt] at h⊢
  split at h
  · exact absurd h (Y5 (by decide))
  rename_i h5
  rw [if_neg h5]
  dsimp only at h⊢
  obtain ⟨g0,hg0⟩: ∃ g:Fnd,g= { f with stm:=f.stm+1 } :=⟨_,rfl⟩
  rw [←hg0] at h⊢
  obtain ⟨f1,hf1⟩: ∃ g,g=g0.expr ix:=⟨_,rfl⟩
  rw [←hf1] at h⊢
  obtain ⟨f2,hf2⟩: ∃ g,g=f1.1.expr e:=⟨_,rfl⟩
  rw [←hf2] at h⊢
  obtain ⟨f3,hf3⟩: ∃ g,g=f2.1.own k nm wt slot other loc:=⟨_,rfl⟩
  rw [←hf3] at h⊢
  obtain ⟨f4,hf4⟩: ∃ g,g=f3.1.blk body:=⟨_,rfl⟩
  rw [←hf4] at h⊢
  obtain ⟨g4,hg4⟩: ∃ g:Fnd,g= { f4.1 with names:=f3.1.names,locals:=f3.1.locals } :=⟨_,rfl⟩
  rw [←hg4] at h⊢
  obtain ⟨f5,hf5⟩: ∃ g,g=g4.blk els:=⟨_,rfl⟩
  rw [←hf5] at h⊢
  have q5:=U4 els g4 (by rw [←hf5];exact h)
  have q4:f4.1.flaw=0:=by rw [hg4] at q5;exact q5
  have q3:f3.1.flaw=0:=U4 body f3.1 (by rw [←hf4];exact q4)
  have q2:f2.1.flaw=0:=Dw (by rw [←hf3];exact q3)
  have p2:=Qb (c:=c) (lo:=f.locals) e f1.1 (by rw [←hf2];exact q2)
  rw [←hf2] at p2
  have q1:f1.1.flaw=0:=by rw [←p2.1];exact q2
  have p1:=Qb (c:=c) (lo:=f.locals) ix g0 (by rw [←hf1];exact q1)
  rw [←hf1] at p1
  have x0:Ctx c g0:=by rw [hg0];exact ⟨hx.n,hx.l,by have:=hx.s;dsimp only;omega⟩
  have e2:f2.1=g0:=p2.1.trans p1.1
  have nok: ∀ x∈g0.names,NmOk c f.locals x:=by rw [hg0];exact hx.n
  have w1:=p1.2 nok
  have w2:=p2.2 (by rw [p1.1];exact nok)
  have own:=Lh (c:=c) (f:=f2.1) (k:=k) (sl:=slot) (ot:=other) (nm:=nm) (wt:=wt) (lo:=loc) (by rw [←hf3];exact q3) (by rw [e2];exact x0)
  rw [←hf3] at own
  obtain ⟨o1,o2,o3,o4,o5⟩:=own
  have b4:=Jq (c:=c) body f3.1 r5 (by rw [←hf4];exact q4) o2
  rw [←hf4] at b4
  obtain ⟨b41,b42,b43⟩:=b4
  have x4:Ctx c g4:=by rw [hg4];exact ⟨o2.n,⟨o2.l.1,by have:=o2.l.2.1;dsimp only;omega,b41.l.2.2⟩,b41.s⟩
  have b5:=Jq (c:=c) els g4 r6 (by rw [←hf5];exact h) x4
  rw [←hf5] at b5
  obtain ⟨b51,b52,b53⟩:=b5
  have m4:g4.most=f4.1.most:=by rw [hg4]
  have m2:f2.1.most=f.most:=by rw [e2,hg0]
  have s2:f2.1.stm=f.stm+1:=by rw [e2,hg0]
  have k1:=V5 ix g0
  have k2:=V5 e f1.1
  rw [←hf1] at k1;rw [←hf2] at k2
  have hl:=hx.l
  have hlm:f.locals≤f5.1.most:=by omega
  refine ⟨by rw [e2,hg0] at o1;exact o1,⟨o2.n,⟨o2.l.1,by have:=o2.l.2.1;dsimp only;omega,b51.l.2.2⟩,b51.s⟩,by (try dsimp only);omega,r1,fun hk=>⟨k2.2.2 (r2 hk).1,by rw [k2.2.1];exact (r2 hk).2,J6 hlm w2⟩,fun hk=>⟨k1.2.2 (r3 hk).1,by rw [k1.2.1];exact (r3 hk).2,J6 hlm w1⟩,⟨hx.s,by omega⟩,o5.up (by (try dsimp only);omega),Jh (by (try dsimp only);omega) b43,b53⟩
theorem Jq {c:Cn}: ∀ (l:List PStm) (f:Fnd),Vg l→(f.blk l).1.flaw=0→Ctx c f→Ctx c (f.blk l).1∧f.most≤(f.blk l).1.most∧Qx c (f.blk l).1.most (f.blk l).2
 | [],f,_,_,hx=>⟨hx,Int.le_refl _,trivial⟩
 |s::r,f,hr,h,hx=>by
  simp only [Fnd.blk] at h⊢
  split at h
  · rename_i h5
    rw [if_pos h5]
    have q:=U4 r (f.stmt s).1 h
    obtain ⟨_,a2,a3,a4⟩:=Ca (c:=c) s f hr.1 q hx
    obtain ⟨b1,b2,b3⟩:=Jq (c:=c) r (f.stmt s).1 hr.2 h a2
    exact ⟨b1,by (try dsimp only);omega,B5 b2 a4,b3⟩
  rename_i h5;exact absurd h h5
end
mutual
theorem Ci: ∀ (s:PStm) (f:Fnd),s.raw→(f.stmt s).2.wt≤14*s.nd
 | .mk k ln cl nm wt e ix body els id slot other loc,f,hr=>by
  obtain ⟨_,_,_,⟨r1,r2⟩,r5,r6⟩:=hr
  simp only [Fnd.stmt]
  split
  · have h1:=Up body r5;have h2:=Up els r6
    simp only [PStm.wt,Hq];omega
  dsimp only
  have k1:=V5 ix { f with stm:=f.stm+1 }
  have k2:=V5 e (Fnd.expr { f with stm:=f.stm+1 } ix).1
  simp only [PStm.wt,Hq,k1.1,k2.1]
  refine Nat.le_trans (Nat.add_le_add_left (Ks els _ r6) _) (Nat.le_trans (Nat.add_le_add_right (Nat.add_le_add_left (Ks body _ r5) _) _) ?_)
  omega
theorem Ks: ∀ (l:List PStm) (f:Fnd),Vg l→W0 (f.blk l).2≤14*Zo l
 | [],f,_=>Nat.zero_le _
 |s::r,f,hr=>by
  simp only [Fnd.blk]
  split
  · have h1:=Ci s f hr.1;have h2:=Ks r (f.stmt s).1 hr.2
    simp only [W0,Zo];omega
  simp [W0]
theorem Cm: ∀ (s:PStm),s.raw→s.wt≤14*s.nd
 | .mk k ln cl nm wt e ix body els id slot other loc,hr=>by
  obtain ⟨_,_,_,⟨r1,r2⟩,r5,r6⟩:=hr
  have h1:=Up body r5;have h2:=Up els r6
  simp only [PStm.wt,Hq];omega
theorem Up: ∀ (l:List PStm),Vg l→W0 l≤14*Zo l
 | [],_=>Nat.zero_le _
 |s::r,hr=>by
  have h1:=Cm s hr.1;have h2:=Up r hr.2
  simp only [W0,Zo];omega
end
mutual
theorem Uc: ∀ {e:PEx} {d:Nat},e.right d=true→e.sz=e.nd∧e.dep≤d
 | .mk k n nm _ _ op args,d,h=>by
  simp only [PEx.right] at h
  split at h
  · cases h
  rename_i h0
  split at h
  · rename_i hk
    rw [Bool.and_eq_true] at h
    have hd:1≤d:=by
     unfold Tg at h0
     simp only [Bool.or_eq_true,not_or,decide_eq_true_eq] at h0
     omega
    obtain ⟨a,b⟩:=Mv h.2
    simp only [PEx.sz,PEx.nd,PEx.dep]
    rw [if_neg (by omega)]
    omega
  cases h
theorem Mv: ∀ {l:List PEx} {d:Nat},Y4 l d=true→U8 l=Ry l∧Yf l≤d
 | [],_,_=>⟨rfl,Nat.zero_le _⟩
 |e::r,d,h=>by
  simp only [Y4,Bool.and_eq_true] at h
  have h1:=Uc h.1;have h2:=Mv h.2
  simp only [U8,Ry,Yf];omega
end
theorem B8 {e:PEx}(h:e.nil=true):e.sz≤e.nd+1:=by
 cases e with
 |mk k n nm s l op args=>
  simp only [PEx.nil,Bool.and_eq_true,decide_eq_true_eq] at h
  have:args= []:=List.eq_nil_of_length_eq_zero h.2
  subst this
  simp only [PEx.sz,U8];omega
mutual
theorem Fg: ∀ {s:PStm} {n:Nat},s.may n=true→s.raw
 | .mk k _ _ nm wt e ix body els _ _ _ _,n,h=>by
  simp only [PStm.may] at h
  split at h;cases h
  rename_i h1
  split at h;cases h
  split at h;cases h
  rename_i h3
  split at h;cases h
  rw [Bool.and_eq_true] at h
  unfold Au at h1
  simp only [Bool.or_eq_true,not_or,decide_eq_true_eq] at h1
  unfold Gg at h3
  have hE:Du k=true→e.right 24=true:=fun hE=>by cases hr:e.right 24 with|true=>rfl|false=>simp [hE,hr] at h3
  have hN:Du k=false→e.nil=true:=fun hE=>by cases hr:e.nil with|true=>rfl|false=>simp [hE,hr] at h3
  have hI:k=3→ix.right 24=true:=fun hk=>by cases hr:ix.right 24 with|true=>rfl|false=>simp [hk,hr] at h3
  have hJ: ¬k=3→ix.nil=true:=fun hk=>by cases hr:ix.nil with|true=>rfl|false=>simp [hk,hr] at h3
  refine ⟨by omega,fun hk=> ?_,fun hk=>⟨Jt (hI hk),(Uc (hI hk)).2⟩,⟨?_,?_⟩,W3 h.1,W3 h.2⟩
  · have:Du k=true:=by unfold Du;simp only [Bool.or_eq_true,decide_eq_true_eq,beq_iff_eq];omega
    exact ⟨Jt (hE this),(Uc (hE this)).2⟩
  · cases hk:Du k with
    |true=>have:=(Uc (hE hk)).1;omega
    |false=>exact B8 (hN hk)
  by_cases hk:k=3
  · have:=(Uc (hI hk)).1;omega
  exact B8 (hJ hk)
theorem W3: ∀ {l:List PStm} {n:Nat},Yj l n=true→Vg l
 | [],_,_=>trivial
 |s::r,n,h=>by
  simp only [Yj,Bool.and_eq_true] at h
  exact ⟨Fg h.1,W3 h.2⟩
end
structure DInv (f:Fnd):Prop where
 n: ∀ x∈f.names,NmOk f.cn 0 x
 l:f.locals=0∧f.stm=0
 k:f.names.length≤64∧f.vars.length≤f.names.length∧f.arrs.length≤f.names.length∧f.chs.length≤f.names.length∧f.ths.length≤f.names.length∧(0≤f.mu∧f.mu≤f.names.length)∧(0≤f.co∧f.co≤f.names.length)
 v: ∀ n∈f.vars, -2147483648≤n∧n≤2147483647
 a: ∀ n∈f.arrs,1≤n∧n≤256
 c: ∀ n∈f.chs,1≤n∧n≤16
 t: ∀ t∈f.ths,(1≤t.nm.size∧t.nm.size≤16)∧t.loc=0∧t.body= []
theorem Hw {α:Type}{φ:α→Prop}{l:List α}{x:α}(h: ∀ y∈l,φ y)(hx:φ x): ∀ y∈l++ [x],φ y:=by
 intro y hy
 rcases List.mem_append.1 hy with hy|hy
 · exact h y hy
 rw [List.mem_singleton.1 hy];exact hx
theorem DInv.z:DInv Fnd.z:=⟨fun x hx=>(by cases hx),⟨rfl,rfl⟩,by decide,fun x hx=>(by cases hx),fun x hx=>(by cases hx),fun x hx=>(by cases hx),fun x hx=>(by cases hx)⟩
theorem DInv.decl {f:Fnd}{d:PDec}(h:DInv f)(hf:(f.decl d).flaw=0)(h0:f.flaw=0)(hk:1≤d.k∧d.k≤6)(hn:1≤d.nm.size∧d.nm.size≤16):DInv (f.decl d):=by
 have key: ∃ g s,f.decl d= { g with names:=f.names++ [⟨d.nm,d.k,s⟩] } ∧g.names=f.names∧f.names.length<64∧g=(f.decl1 d).1∧s=(f.decl1 d).2.1∧(f.decl1 d).2.2=true:=by
  unfold Fnd.decl at hf⊢
  split at hf
  · exact absurd hf (Y5 (by decide))
  rename_i c1
  rw [if_neg c1]
  split at hf
  · rename_i c2;rw [Ji c2] at hf;exact absurd hf (Y5 (by decide))
  rename_i c2
  rw [if_neg c2]
  have en:(f.decl1 d).1.names=f.names:=by
   unfold Fnd.decl1
   (repeat' split)<;>first|rfl|exact (f.fl_keep _).2.2.1
  split at hf
  · exact absurd hf (Y5 (by decide))
  rename_i c3
  rw [if_neg c3]
  rw [en] at c3
  exact ⟨_,_,by rw [en],en,by omega,rfl,rfl,by revert c2;cases (f.decl1 d).2.2<;>simp⟩
 obtain ⟨g,s,e1,e2,e3,e4,e5,e6⟩:=key
 rw [e1]
 obtain ⟨i1,i2,i3,i4,i5,i6,i7⟩:=h
 have hc:d.k=1∨d.k=2∨d.k=3∨d.k=4∨d.k=5∨d.k=6:=by omega
 have nms: ∀ {c:Cn},f.cn.le c→NmOk c 0 ⟨d.nm,d.k,s⟩→ ∀ x∈f.names++ [⟨d.nm,d.k,s⟩],NmOk c 0 x:=fun hle ho=>Hw (fun y hy=>(i1 y hy).up hle (Int.le_refl _)) ho
 unfold Fnd.decl1 at e4 e5 e6
 rcases hc with hc|hc|hc|hc|hc|hc 
 · rw [if_pos hc] at e4 e5 e6
   split at e6
   · cases e6
   rename_i c2
   rw [if_neg c2] at e4 e5
   subst e4;subst e5
   refine ⟨nms ⟨by simp [Fnd.cn]<;>omega,Int.le_refl _,Int.le_refl _,Int.le_refl _,Int.le_refl _,Int.le_refl _⟩ ⟨by simp,fun _=>by simp [Fnd.cn]<;>omega,?_,?_,?_,?_,?_,?_⟩,i2,by simp;omega,Hw i4 (by omega),i5,i6,i7⟩<;>(intro e;have e:d.k=_:=e;omega)
 · rw [if_neg (by omega),if_pos hc] at e4 e5 e6
   split at e6
   · cases e6
   rename_i c2
   rw [if_neg c2] at e4 e5
   subst e4;subst e5
   refine ⟨nms ⟨Int.le_refl _,by simp [Fnd.cn]<;>omega,Int.le_refl _,Int.le_refl _,Int.le_refl _,Int.le_refl _⟩ ⟨by simp,?_,fun _=>by simp [Fnd.cn]<;>omega,?_,?_,?_,?_,?_⟩,i2,by simp;omega,i4,Hw i5 (by omega),i6,i7⟩<;>(intro e;have e:d.k=_:=e;omega)
 · rw [if_neg (by omega),if_neg (by omega),if_pos hc] at e4 e5 e6
   subst e4;subst e5
   refine ⟨nms ⟨Int.le_refl _,Int.le_refl _,by simp [Fnd.cn]<;>omega,Int.le_refl _,Int.le_refl _,Int.le_refl _⟩ ⟨by dsimp only;omega,?_,?_,fun _=>by simp [Fnd.cn]<;>omega,?_,?_,?_,?_⟩,i2,by simp;omega,i4,i5,i6,i7⟩<;>(intro e;have e:d.k=_:=e;omega)
 · rw [if_neg (by omega),if_neg (by omega),if_neg (by omega),if_pos hc] at e4 e5 e6
   subst e4;subst e5
   refine ⟨nms ⟨Int.le_refl _,Int.le_refl _,Int.le_refl _,by simp [Fnd.cn]<;>omega,Int.le_refl _,Int.le_refl _⟩ ⟨by dsimp only;omega,?_,?_,?_,fun _=>by simp [Fnd.cn]<;>omega,?_,?_,?_⟩,i2,by simp;omega,i4,i5,i6,i7⟩<;>(intro e;have e:d.k=_:=e;omega)
 · rw [if_neg (by omega),if_neg (by omega),if_neg (by omega),if_neg (by omega),if_pos hc] at e4 e5 e6
   split at e6
   · cases e6
   rename_i c2
   rw [if_neg c2] at e4 e5
   subst e4;subst e5
   refine ⟨nms ⟨Int.le_refl _,Int.le_refl _,Int.le_refl _,Int.le_refl _,by simp [Fnd.cn]<;>omega,Int.le_refl _⟩ ⟨by simp,?_,?_,?_,?_,fun _=>by simp [Fnd.cn]<;>omega,?_,?_⟩,i2,by simp;omega,i4,i5,Hw i6 (by omega),i7⟩<;>(intro e;have e:d.k=_:=e;omega)
 rw [if_neg (by omega),if_neg (by omega),if_neg (by omega),if_neg (by omega),if_neg (by omega),if_pos hc] at e4 e5 e6
 subst e4;subst e5
 refine ⟨nms ⟨Int.le_refl _,Int.le_refl _,Int.le_refl _,Int.le_refl _,Int.le_refl _,by simp [Fnd.cn]<;>omega⟩ ⟨by simp,?_,?_,?_,?_,?_,fun _=>by simp [Fnd.cn]<;>omega,?_⟩,i2,by simp;omega,i4,i5,i6,Hw i7 ⟨hn,rfl,rfl⟩⟩<;>(intro e;have e:d.k=_:=e;omega)
theorem DInv.decls: ∀ {ds:List PDec} {f:Fnd},DInv f→(∀ d∈ds,(1≤d.k∧d.k≤6)∧(1≤d.nm.size∧d.nm.size≤16))→(f.decls ds).flaw=0→DInv (f.decls ds)
 | [],_,h,_,_=>h
 |d::r,f,h,hd,hf=>by
  unfold Fnd.decls at hf⊢
  split at hf
  · rename_i h0
    rw [if_pos h0]
    have hz:(f.decl d).flaw=0:=by
     cases r with
     |nil=>exact hf
     |cons x r=>
      unfold Fnd.decls at hf
      split at hf
      · assumption
      exact hf
    exact DInv.decls (h.decl hz h0 (hd d (List.mem_cons_self ..)).1 (hd d (List.mem_cons_self ..)).2) (fun x hx=>hd x (List.mem_cons_of_mem _ hx)) hf
  rename_i h0;exact absurd hf h0
structure ThW (P:List PStm→Prop) (c:Cn) (t:PTh):Prop where
 n:1≤t.nm.size∧t.nm.size≤16
 l:0≤t.loc∧t.loc≤32
 b:Qx c t.loc t.body
 p:P t.body
structure BInv (P:List PStm→Prop) (d f:Fnd):Prop where
 e:f.vars=d.vars∧f.arrs=d.arrs∧f.chs=d.chs∧f.mu=d.mu∧f.co=d.co∧f.ths.length=d.ths.length∧f.names=d.names
 n: ∀ x∈d.names,NmOk d.cn 0 x
 l:f.locals=0∧0≤f.stm
 t: ∀ t∈f.ths,ThW P d.cn t
theorem BInv.bodies {P:List PStm→Prop}{d:Fnd}: ∀ {bs:List (List PStm)} {i:Nat} {f:Fnd},(∀ b∈bs,Vg b∧ ∀ g,P (Fnd.blk g b).2)→BInv P d f→(f.bodies i bs).flaw=0→BInv P d (f.bodies i bs)
 | [],_,_,_,h,_=>h
 |b::r,i,f,hb,h,hf=>by
  unfold Fnd.bodies at hf⊢
  split at hf
  · rename_i h0
    rw [if_pos h0]
    dsimp only at hf⊢
    obtain ⟨g,hg⟩: ∃ g,g=Fnd.block { f with most:=0 } b:=⟨_,rfl⟩
    rw [←hg] at hf⊢
    obtain ⟨q,hq⟩: ∃ q,q=Fnd.blk { f with most:=0 } b:=⟨_,rfl⟩
    have e1:g=({ q.1 with names:=f.names,locals:=f.locals },q.2):=by rw [hg,hq];rfl
    have fl:g.1.flaw=0:=by
     cases r with
     |nil=>exact hf
     |cons x r=>
      unfold Fnd.bodies at hf
      split at hf
      · assumption
      exact hf
    have flq:q.1.flaw=0:=by rw [e1] at fl;exact fl
    have to:=Fnd.To.blk b { f with most:=0 }
    rw [←hq] at to
    obtain ⟨t1,t2,t3,t4,t5,t6,_⟩:=to.e
    dsimp only at t1 t2 t3 t4 t5 t6
    obtain ⟨j1,j2,j3,j4,j5,j6,j7⟩:=h.e
    have cx:Ctx d.cn { f with most:=0 } :=⟨by dsimp only;rw [j7,h.l.1];exact h.n,by dsimp only;rw [h.l.1];decide,h.l.2⟩
    have w:=Jq (c:=d.cn) b { f with most:=0 } (hb b (List.mem_cons_self ..)).1 (by rw [←hq];exact flq) cx
    have hp:=(hb b (List.mem_cons_self ..)).2 { f with most:=0 }
    rw [←hq] at w hp
    obtain ⟨w1,w2,w3⟩:=w
    dsimp only at w2
    refine BInv.bodies (fun x hx=>hb x (List.mem_cons_of_mem _ hx)) ⟨?_,h.n,?_,?_⟩ hf
    · rw [e1];dsimp only;rw [List.length_set,t6];exact ⟨t1.trans j1,t2.trans j2,t5.trans j3,t3.trans j4,t4.trans j5,j6,j7⟩
    · rw [e1];exact ⟨h.l.1,w1.s⟩
    rw [e1]
    dsimp only
    rw [t6]
    intro t ht
    by_cases hi:i<f.ths.length
    · rcases List.mem_or_eq_of_mem_set ht with ht|ht
      · exact h.t t ht
      rw [ht,List.getD_eq_getElem?_getD,List.getElem?_eq_getElem hi]
      exact ⟨(h.t _ (List.getElem_mem hi)).n,⟨w2,w1.l.2.2⟩,w3,hp⟩
    rw [List.set_eq_of_length_le (by omega)] at ht;exact h.t t ht
  rename_i h0;exact absurd hf h0
structure PrgOk (P:List PStm→Prop) (F:Fnd):Prop where
 k:F.vars.length≤64∧F.arrs.length≤64∧F.chs.length≤64∧F.ths.length≤64∧(0≤F.mu∧F.mu≤64)∧(0≤F.co∧F.co≤64)
 v: ∀ n∈F.vars, -2147483648≤n∧n≤2147483647
 a: ∀ n∈F.arrs,1≤n∧n≤256
 c: ∀ n∈F.chs,1≤n∧n≤16
 t: ∀ t∈F.ths,ThW P F.cn t
 m:0≤F.main∧F.main<F.ths.length
theorem bad_nm {d:PDec}(h:d.bad=false):1≤d.nm.size∧d.nm.size≤16:=by
 unfold PDec.bad Ad at h
 simp only [Bool.or_eq_false_iff,decide_eq_false_iff_not,Bool.not_eq_false'] at h
 obtain ⟨⟨⟨⟨⟨⟨⟨⟨_,_⟩,h3⟩,_⟩,_⟩,_⟩,_⟩,_⟩,_⟩:=h
 have h4:nmS (bs d.nm)=true:=by simpa using h3
 unfold nmS at h4
 split at h4
 · cases h4
 rename_i h5
 have e:(bs d.nm).length=d.nm.size:=Kf d.nm
 omega
theorem Sr {d:PDec}(h:d.bad=false):Vg d.body:=by
 unfold PDec.bad Ad at h
 simp only [Bool.or_eq_false_iff,decide_eq_false_iff_not,Bool.not_eq_false'] at h
 exact W3 h.2
theorem Gt {ds:List PDec}{F:Fnd}{P:List PStm→Prop}(h:Tn ds=some F)(h0:P [])(hP: ∀ d∈ds,d.bad=false→ ∀ g,P (Fnd.blk g d.body).2):PrgOk P F:=by
 unfold Tn at h
 split at h
 · cases h
 rename_i hbad
 have hok: ∀ d∈ds,d.bad=false:=fun d hd=>by
  cases hb:d.bad with
  |false=>rfl
  |true=>exact absurd (List.any_eq_true.2 ⟨d,hd,hb⟩) hbad
 dsimp only at h
 obtain ⟨f,hf⟩: ∃ f,f=Fnd.decls .z ds:=⟨_,rfl⟩
 rw [←hf] at h
 obtain ⟨f1,hf1⟩: ∃ f1,f1=(if f.flaw=0∧(f.at Qp=0∨((f.names.map (·.k)).getD (f.at Qp - 1) 0)≠6) then f.fl 133 else f):=⟨_,rfl⟩
 rw [←hf1] at h
 obtain ⟨bs,hbs⟩: ∃ b,b=(ds.filter fun d=>d.k==6).map (·.body):=⟨_,rfl⟩
 rw [←hbs] at h
 by_cases hfl:(f1.bodies 0 bs).flaw≠0
 · rw [if_pos hfl] at h;cases h
 rw [if_neg hfl] at h
 cases h
 have hfl2:=Decidable.not_not.1 hfl
 have z1:f1.flaw=0:=by
  cases bs with
  |nil=>exact hfl2
  |cons x r=>
   unfold Fnd.bodies at hfl2
   split at hfl2
   · assumption
   exact hfl2
 have hm:f1=f∧f.flaw=0∧f.at Qp≠0∧((f.names.map (·.k)).getD (f.at Qp - 1) 0)=6:=by
  split at hf1
  · rw [hf1] at z1;exact absurd z1 (Y5 (by decide))
  rename_i hn;rw [hf1] at z1
  refine ⟨hf1,z1,fun k=>hn ⟨z1,.inl k⟩,Decidable.byContradiction fun k=>hn ⟨z1,.inr k⟩⟩
 obtain ⟨e1,z2,m1,m2⟩:=hm
 have D:DInv f:=by
  rw [hf]
  exact DInv.decls .z (fun d hd=>⟨(E8 (hok d hd)).1,bad_nm (hok d hd)⟩) (by rw [←hf];exact z2)
 rw [e1] at hfl2⊢
 have B:=BInv.bodies (P:=P) (d:=f) (bs:=bs) (i:=0) (f:=f) (fun b hb=>by
  rw [hbs] at hb
  obtain ⟨d,hd,rfl⟩:=List.mem_map.1 hb
  have hd2:=(List.mem_filter.1 hd).1
  exact ⟨Sr (hok d hd2),hP d hd2 (hok d hd2)⟩) ⟨⟨rfl,rfl,rfl,rfl,rfl,rfl,rfl⟩,D.n,⟨D.l.1,by rw [D.l.2];decide⟩,fun t ht=>by
   obtain ⟨a,b,c⟩:=D.t t ht
   exact ⟨a,by omega,by rw [c];trivial,by rw [c];exact h0⟩⟩ hfl2
 obtain ⟨g,hg⟩: ∃ g,g=f.bodies 0 bs:=⟨_,rfl⟩
 rw [←hg] at B⊢
 obtain ⟨b1,b2,b3,b4,b5,b6,b7⟩:=B.e
 have cn:Fnd.cn { g with main:=(g.names.map (·.s)).getD (f.at Qp - 1) 0 } =f.cn:=by unfold Fnd.cn;dsimp only;rw [b1,b2,b3,b4,b5,b6]
 obtain ⟨k1,k2,k3,k4,k5,k6,k7⟩:=D.k
 refine ⟨?_,by dsimp only;rw [b1];exact D.v,by dsimp only;rw [b2];exact D.a,by dsimp only;rw [b3];exact D.c,by rw [cn];exact B.t,?_⟩
 · dsimp only;rw [b1,b2,b3,b4,b5,b6];omega
 have hlt:f.at Qp - 1<f.names.length:=by
  have:f.at Qp≤f.names.length:=J3
  omega
 have e6:f.names[f.at Qp - 1].k=6:=by
  rw [List.getD_eq_getElem?_getD,List.getElem?_map,List.getElem?_eq_getElem hlt] at m2;exact m2
 have ho:=D.n _ (List.getElem_mem hlt)
 dsimp only
 rw [b7,List.getD_eq_getElem?_getD,List.getElem?_map,List.getElem?_eq_getElem hlt,b6]
 exact ⟨ho.z,ho.th e6⟩
theorem I2 {l:Bs}{ds:List PDec}(h:Qe l=some ds):(ds.map fun d=>Zo d.body+1).sum≤l.length∧l.length≤65536:=by
 unfold Qe at h
 split at h
 · cases h
 rename_i h0
 split at h
 · cases h
 rename_i ts h1
 split at h
 · cases h
 rename_i us h2
 split at h
 · cases h
 cases h
 have h3:=(Kw h1).1
 have h4:=(Nn (Nat.le_refl _) h2).1
 omega
theorem text_prg {l:Bs}{F:Fnd}(h:Je l=some F):PrgOk (fun b=>W0 b≤14*l.length) F∧l.length≤65536:=by
 unfold Je at h
 split at h
 · cases h
 rename_i ds hd
 obtain ⟨h1,h2⟩:=I2 hd
 refine ⟨Gt h (Nat.zero_le _) fun d hm hb g=> ?_,h2⟩
 have h3:=Ks d.body g (Sr hb)
 have h4:=Em (f:=fun d:PDec=>Zo d.body+1) hm
 have h5:Zo d.body+1≤(ds.map fun d=>Zo d.body+1).sum:=h4
 show W0 (Fnd.blk g d.body).2≤14*l.length
 omega
theorem Kl (f:Fnd)(w:Int):(f.fl w).stm=f.stm:=by unfold Fnd.fl;split<;>rfl
theorem Jr (f:Fnd)(s:ByteArray)(a b:Int):(f.wants s a b).1.stm=f.stm:=by
 unfold Fnd.wants
 split
 · exact Kl _ _
 dsimp only
 split
 · exact Kl _ _
 rfl
theorem Co (f:Fnd)(k sl ot:Int)(nm wt:ByteArray)(lo:Bool):(f.own k nm wt sl ot lo).1.stm=f.stm:=by
 have h1:(f.own1 k nm sl lo).1.stm=f.stm:=by
  unfold Fnd.own1
  split
  · exact Jr _ _ _ _
  rfl
 unfold Fnd.own Fnd.own2
 split
 · show (((f.own1 k nm sl lo).1.loc1 nm).loc2).stm=_
   have h2:((f.own1 k nm sl lo).1.loc1 nm).stm=f.stm:=by
    unfold Fnd.loc1
    split
    · rw [Kl,h1]
    exact h1
   unfold Fnd.loc2
   split
   · rw [Kl,h2]
   exact h2
 split
 · exact (Jr _ _ _ _).trans h1
 split
 · exact (Jr _ _ _ _).trans h1
 exact h1
mutual
theorem Mu {c:Cn}{lo:Int}: ∀ {e:PEx} {d:Nat},e.fit→e.dep≤d→e.wl c lo→e.ask c lo d=true
 | .mk k n nm slot loc op args,d,⟨h1,h2,h3,h4,h5⟩,hd,⟨w1,w2,w3⟩=>by
  simp only [PEx.dep] at hd
  simp only [PEx.ask,Bool.and_eq_true,decide_eq_true_eq]
  refine ⟨⟨by omega,?_⟩,?_⟩
  · rw [h2]
    unfold V2 V1 inB
    have hk:k=1∨k=2∨k=3∨k=4∨k=5∨k=6:=by omega
    rcases hk with rfl|rfl|rfl|rfl|rfl|rfl
    · have:=h3 rfl
      rw [if_pos rfl,if_pos (show val n from ⟨by omega,by omega⟩)];rfl
    · obtain ⟨a,b⟩:=w1 rfl
      rw [if_neg (by decide),if_pos rfl,if_pos]
      · rfl
      rw [decide_eq_true_eq];refine ⟨a,?_⟩
      split
      · rename_i hl;rw [if_pos hl] at b;exact b
      rename_i hl;rw [if_neg hl] at b;exact b
    · have:=w2 rfl
      rw [if_neg (by decide),if_neg (by decide),if_pos rfl,if_pos (by rw [decide_eq_true_eq];exact this)];rfl
    · rfl
    · rfl
    have:=h4 rfl
    rw [if_neg (by decide),if_neg (by decide),if_neg (by decide),if_neg (by decide),if_pos rfl,if_pos (by omega)];rfl
  have:=Te (c:=c) (lo:=lo) (d:=d - 1) h5 (by omega) w3
  rwa [show ((d - 1:Nat):Int)=(d:Int) - 1 by omega] at this
theorem Te {c:Cn}{lo:Int}: ∀ {l:List PEx} {d:Nat},J8 l→Yf l≤d→H1 c lo l→Q8 c lo l d=true
 | [],_,_,_,_=>rfl
 |e::r,d,⟨h1,h2⟩,hd,⟨w1,w2⟩=>by
  simp only [Yf] at hd
  simp only [Q8,Bool.and_eq_true]
  exact ⟨Mu h1 (by omega) w1,Te h2 (by omega) w2⟩
end
theorem slotB_of {c:Cn}{lo k slot other:Int}{loc:Bool}(hk:1≤k∧k≤15)(h:ownOk c lo k slot other loc)(hl:k=1→loc=true):Nq c lo k slot other loc=true:=by
 obtain ⟨h1,h2,h3,h4,h5,h6,h7,h8⟩:=h
 have cl: ∀ {s:Int},vaOk c lo s loc→V1 c lo s loc=true:=fun {s} h=>by
  unfold V1 inB vaOk at*
  rw [decide_eq_true_eq]
  refine ⟨h.1,?_⟩
  have:=h.2
  split
  · rename_i hl;rw [if_pos hl] at this;exact this
  rename_i hl;rw [if_neg hl] at this;exact this
 have ib: ∀ {n d:Int},0≤n∧n<d→inB n d=true:=fun h=>by unfold inB;exact decide_eq_true h
 have hk2:k=1∨k=2∨k=3∨k=4∨k=5∨k=6∨k=7∨k=8∨k=9∨k=10∨k=11∨k=12∨k=13∨k=14∨k=15:=by omega
 unfold Nq
 rcases hk2 with rfl|rfl|rfl|rfl|rfl|rfl|rfl|rfl|rfl|rfl|rfl|rfl|rfl|rfl|rfl
 · rw [if_pos rfl,hl rfl,←hl rfl,cl (h1 (.inl rfl)),hl rfl];rfl
 · exact cl (h1 (.inr rfl))
 · exact ib (h2 rfl)
 · rfl
 · rfl
 · exact ib (h3 (.inl rfl))
 · exact ib (h3 (.inr rfl))
 · exact Bool.and_eq_true_iff.2 ⟨ib (h4 (.inl rfl)),ib (h5 rfl)⟩
 · exact ib (h4 (.inr (.inl rfl)))
 · exact ib (h4 (.inr (.inr rfl)))
 · exact ib (h6 (.inl rfl))
 · exact Bool.and_eq_true_iff.2 ⟨ib (h6 (.inr rfl)),cl (h7 rfl)⟩
 · exact ib (h8 rfl)
 · rfl
 rfl
theorem partB_of {c:Cn}{lo k:Int}{e ix:PEx}{nb ne:Nat}(hm:Am k nb ne=false)(he:k≤5∨k=11∨k=15→e.ask c lo 24=true)(hx:k=3→ix.ask c lo 24=true):Nx c lo k e ix nb ne=true:=by
 unfold Am at hm
 unfold Nx
 simp only [Bool.or_eq_false_iff,Bool.and_eq_false_iff,bne_eq_false_iff_eq,decide_eq_false_iff_not] at hm
 simp only [Bool.and_eq_true,Bool.or_eq_true,decide_eq_true_eq,Bool.not_eq_true',decide_eq_false_iff_not,beq_iff_eq,bne_iff_ne,ne_eq]
 obtain ⟨h1,h2⟩:=hm
 refine ⟨⟨⟨?_,?_⟩,?_⟩,?_⟩
 · rcases h1 with (h1|h1)|h1
   · exact .inl (.inl h1)
   · exact .inl (.inr h1)
   exact .inr h1
 · rcases h2 with h2|h2
   · exact .inl h2
   exact .inr h2
 · by_cases hk:k=3
   · exact .inr (hx hk)
   exact .inl hk
 by_cases hk:k≤5∨k=11∨k=15
 · exact .inr (he hk)
 exact .inl (by omega)
mutual
theorem Fu {c:Cn}{lo:Int}: ∀ (s:PStm) (f:Fnd) (d:Nat),s.may d=true→(f.stmt s).1.flaw=0→0≤f.stm→(f.stmt s).2.wl c lo→(f.stmt s).2.ask c lo d f.stm=some (f.stmt s).1.stm∧0≤(f.stmt s).1.stm
 | .mk k ln cl nm wt e ix body els id slot other loc,f,d,hm,h,hz,hw=>by
  simp only [PStm.may] at hm
  split at hm;cases hm
  rename_i m1
  split at hm;cases hm
  split at hm;cases hm
  split at hm;cases hm
  rename_i m4
  rw [Bool.and_eq_true] at hm
  unfold Au at m1
  simp only [Bool.or_eq_true,not_or,decide_eq_true_eq] at m1
  simp only [Fnd.stmt] at h hw⊢
  split at h
  · exact absurd h (Y5 (by decide))
  rename_i h5
  rw [if_neg h5] at hw⊢
  dsimp only at h hw⊢
  obtain ⟨g0,hg0⟩: ∃ g:Fnd,g= { f with stm:=f.stm+1 } :=⟨_,rfl⟩
  rw [←hg0] at h hw⊢
  obtain ⟨f1,hf1⟩: ∃ g,g=g0.expr ix:=⟨_,rfl⟩
  rw [←hf1] at h hw⊢
  obtain ⟨f2,hf2⟩: ∃ g,g=f1.1.expr e:=⟨_,rfl⟩
  rw [←hf2] at h hw⊢
  obtain ⟨f3,hf3⟩: ∃ g,g=f2.1.own k nm wt slot other loc:=⟨_,rfl⟩
  rw [←hf3] at h hw⊢
  obtain ⟨f4,hf4⟩: ∃ g,g=f3.1.blk body:=⟨_,rfl⟩
  rw [←hf4] at h hw⊢
  obtain ⟨g4,hg4⟩: ∃ g:Fnd,g= { f4.1 with names:=f3.1.names,locals:=f3.1.locals } :=⟨_,rfl⟩
  rw [←hg4] at h hw⊢
  obtain ⟨f5,hf5⟩: ∃ g,g=g4.blk els:=⟨_,rfl⟩
  rw [←hf5] at h hw⊢
  have q5:=U4 els g4 (by rw [←hf5];exact h)
  have q4:f4.1.flaw=0:=by rw [hg4] at q5;exact q5
  have q3:f3.1.flaw=0:=U4 body f3.1 (by rw [←hf4];exact q4)
  have q2:f2.1.flaw=0:=Dw (by rw [←hf3];exact q3)
  have p2:=(Qb (c:=c) (lo:=lo) e f1.1 (by rw [←hf2];exact q2)).1
  rw [←hf2] at p2
  have q1:f1.1.flaw=0:=by rw [←p2];exact q2
  have p1:=(Qb (c:=c) (lo:=lo) ix g0 (by rw [←hf1];exact q1)).1
  rw [←hf1] at p1
  have s3:f3.1.stm=f.stm+1:=by rw [hf3,Co,p2,p1,hg0]
  obtain ⟨w1,w2,w3,w4,w5,w6,w7⟩:=hw
  have b4:=Jn (c:=c) (lo:=lo) body f3.1 (d+1) hm.1 (by rw [←hf4];exact q4) (by omega) (by rw [←hf4];exact w6)
  rw [←hf4,s3] at b4
  obtain ⟨b41,b42,b43⟩:=b4
  have s4:g4.stm=f4.1.stm:=by rw [hg4]
  have b5:=Jn (c:=c) (lo:=lo) els g4 (d+1) hm.2 (by rw [←hf5];exact h) (by omega) (by rw [←hf5];exact w7)
  rw [←hf5,s4] at b5
  obtain ⟨b51,b52,b53⟩:=b5
  refine ⟨?_,b53⟩
  simp only [PStm.ask]
  rw [if_neg (by omega),if_pos]
  · have e1:((d+1:Nat):Int)=(d:Int)+1:=by omega
    rw [e1] at b41 b51
    rw [b41]
    exact b51
  rw [Bool.and_eq_true]
  refine ⟨partB_of (by rw [b42,b52];simpa using m4) (fun hk=> ?_) (fun hk=> ?_),slotB_of w1 w5 (fun hk=>by subst hk;rw [hf3];rfl)⟩
  · obtain ⟨a,b,z⟩:=w2 hk;exact Mu (d:=24) a b z
  obtain ⟨a,b,z⟩:=w3 hk;exact Mu (d:=24) a b z
theorem Jn {c:Cn}{lo:Int}: ∀ (l:List PStm) (f:Fnd) (d:Nat),Yj l d=true→(f.blk l).1.flaw=0→0≤f.stm→Qx c lo (f.blk l).2→Z1 c lo (f.blk l).2 d f.stm=some (f.blk l).1.stm∧(f.blk l).2.length=l.length∧0≤(f.blk l).1.stm
 | [],f,d,_,_,hz,_=>⟨rfl,rfl,hz⟩
 |s::r,f,d,hm,h,hz,hw=>by
  simp only [Yj,Bool.and_eq_true] at hm
  simp only [Fnd.blk] at h hw⊢
  split at h
  · rename_i h5
    rw [if_pos h5] at hw⊢
    obtain ⟨w1,w2⟩:=hw
    have a:=Fu (c:=c) (lo:=lo) s f d hm.1 (U4 r _ h) hz w1
    have b:=Jn (c:=c) (lo:=lo) r (f.stmt s).1 d hm.2 h a.2 w2
    refine ⟨?_,by simp [b.2.1],b.2.2⟩
    simp only [Z1]
    rw [a.1]
    exact b.1
  rename_i h5;exact absurd h h5
end
theorem Mq {c:Cn}{t:PTh}{m k:Int}: ∀ {l:List PTh} {n:Int},We c l n=some m→(0≤t.loc∧t.loc≤32)→Z1 c t.loc t.body 1 m=some k→We c (l++ [t]) n=some k
 | [],n,h,ht,hk=>by
  cases h
  simp only [List.nil_append,We]
  rw [if_neg (by omega),hk]
 |x::r,n,h,ht,hk=>by
  simp only [We] at h
  simp only [List.cons_append,We]
  split at h
  · cases h
  rename_i h1
  rw [if_neg h1]
  split at h
  · cases h
  rename_i j hj
  exact Mq h ht hk
theorem BInv.next {d f:Fnd}{b:List PStm}{i:Nat}(hb:Vg b)(h:BInv (fun _=>True) d f)(hf:(f.bodies i [b]).flaw=0):BInv (fun _=>True) d (f.bodies i [b]):=
 BInv.bodies (fun x hx=>by rw [List.mem_singleton.1 hx];exact ⟨hb,fun _=>trivial⟩) h hf
theorem Q9 {f:Fnd}{i:Nat}{r:List (List PStm)}(h:(f.bodies i r).flaw=0):f.flaw=0:=by
 cases r with
 |nil=>exact h
 |cons x r=>
  unfold Fnd.bodies at h
  split at h
  · assumption
  exact h
theorem Hc {d:Fnd}: ∀ {bs:List (List PStm)} {i:Nat} {f:Fnd},(∀ b∈bs,Yj b 1=true)→BInv (fun _=>True) d f→f.ths.length=i+bs.length→We d.cn (f.ths.take i) 0=some f.stm→(f.bodies i bs).flaw=0→We d.cn (f.bodies i bs).ths 0=some (f.bodies i bs).stm
 | [],i,f,_,_,hl,ha,_=>by
  rw [List.length_nil,Nat.add_zero] at hl
  rw [←hl,List.take_length] at ha
  exact ha
 |b::r,i,f,hb,h,hl,ha,hf=>by
  have hfl:=Q9 hf
  have e0:f.bodies i (b::r)=(f.bodies i [b]).bodies (i+1) r:=by
   conv=>lhs;unfold Fnd.bodies
   conv=>rhs;arg 1;unfold Fnd.bodies
   rw [if_pos hfl,if_pos hfl]
   dsimp only
   rw [show ∀ (g:Fnd) (j:Nat),g.bodies j []=g from fun _ _=>rfl]
  rw [e0] at hf⊢
  have hf2:=Q9 hf
  have hmb:=hb b (List.mem_cons_self ..)
  have hn:=BInv.next (W3 hmb) h hf2
  have e1:f.bodies i [b]= { (Fnd.blk { f with most:=0 } b).1 with names:=f.names,locals:=f.locals,ths:=(Fnd.blk { f with most:=0 } b).1.ths.set i ⟨((Fnd.blk { f with most:=0 } b).1.ths.getD i ⟨em,0, []⟩).nm,(Fnd.blk { f with most:=0 } b).1.most,(Fnd.blk { f with most:=0 } b).2⟩ } :=by
   unfold Fnd.bodies
   rw [if_pos hfl]
   rfl
  obtain ⟨q,hq⟩: ∃ q,q=Fnd.blk { f with most:=0 } b:=⟨_,rfl⟩
  rw [←hq] at e1
  have to:=Fnd.To.blk b { f with most:=0 }
  rw [←hq] at to
  obtain ⟨t1,t2,t3,t4,t5,t6,_⟩:=to.e
  dsimp only at t6
  have flq:q.1.flaw=0:=by rw [e1] at hf2;exact hf2
  obtain ⟨j1,j2,j3,j4,j5,j6,j7⟩:=h.e
  have cx:Ctx d.cn { f with most:=0 } :=⟨by dsimp only;rw [j7,h.l.1];exact h.n,by dsimp only;rw [h.l.1];decide,h.l.2⟩
  have w:=Jq (c:=d.cn) b { f with most:=0 } (W3 hmb) (by rw [←hq];exact flq) cx
  rw [←hq] at w
  obtain ⟨w1,w2,w3⟩:=w
  have a:=Jn (c:=d.cn) (lo:=q.1.most) b { f with most:=0 } 1 hmb (by rw [←hq];exact flq) h.l.2 (by rw [←hq];exact w3)
  rw [←hq] at a
  have hi:i<q.1.ths.length:=by rw [t6,hl];simp
  refine Hc (fun x hx=>hb x (List.mem_cons_of_mem _ hx)) hn ?_ ?_ hf
  · rw [e1];dsimp only;rw [List.length_set,t6,hl];simp;omega
  rw [e1]
  dsimp only
  rw [List.take_succ_eq_append_getElem (by rw [List.length_set];exact hi),List.take_set_of_le (Nat.le_refl i),List.getElem_set_self,t6]
  exact Mq ha ⟨w2,w1.l.2.2⟩ a.1
theorem Iy (l:List Int)(x:Int):Y8 (l++ [x])=Y8 l+x:=by
 induction l with
 |nil=>simp [Y8]
 |cons y r ih=>simp only [Y8,List.cons_append,List.foldr_cons] at ih⊢;omega
structure DNum (f:Fnd):Prop where
 n:f.vars.length+f.arrs.length+f.mu+f.co+f.chs.length+f.ths.length=f.names.length
 s:Y8 f.arrs=f.cells∧f.cells≤256
 k:f.nv.length≤f.names.length∧f.na.length≤f.names.length∧f.nm.length≤f.names.length∧f.nc.length≤f.names.length∧f.nh.length≤f.names.length
theorem DNum.z:DNum Fnd.z:=⟨rfl,⟨rfl,by decide⟩,by decide⟩
theorem DNum.decl {f:Fnd}{d:PDec}(h:DNum f)(hf:(f.decl d).flaw=0)(hk:1≤d.k∧d.k≤6):DNum (f.decl d):=by
 have key: ∃ g s,f.decl d= { g with names:=f.names++ [⟨d.nm,d.k,s⟩] } ∧g=(f.decl1 d).1∧(f.decl1 d).2.2=true:=by
  unfold Fnd.decl at hf⊢
  split at hf
  · exact absurd hf (Y5 (by decide))
  rename_i c1
  rw [if_neg c1]
  split at hf
  · rename_i c2;rw [Ji c2] at hf;exact absurd hf (Y5 (by decide))
  rename_i c2
  rw [if_neg c2]
  have en:(f.decl1 d).1.names=f.names:=by
   unfold Fnd.decl1
   (repeat' split)<;>first|rfl|exact (f.fl_keep _).2.2.1
  split at hf
  · exact absurd hf (Y5 (by decide))
  rename_i c3
  rw [if_neg c3]
  exact ⟨_,_,by rw [en],rfl,by revert c2;cases (f.decl1 d).2.2<;>simp⟩
 obtain ⟨g,s,e1,e4,e6⟩:=key
 rw [e1]
 obtain ⟨i1,⟨i2,i3⟩,i4,i5,i6,i7,i8⟩:=h
 have hc:d.k=1∨d.k=2∨d.k=3∨d.k=4∨d.k=5∨d.k=6:=by omega
 unfold Fnd.decl1 at e4 e6
 rcases hc with hc|hc|hc|hc|hc|hc
 focus
  rw [if_pos hc] at e4 e6
  split at e6
  · cases e6
  rename_i c2
  rw [if_neg c2] at e4
  subst e4
 rotate_left
 · rw [if_neg (by omega),if_pos hc] at e4 e6
   split at e6
   · cases e6
   rename_i c2
   rw [if_neg c2] at e4
   subst e4
   exact ⟨by simp;omega,⟨by dsimp only;rw [Iy,i2],by dsimp only;omega⟩,by simp;omega⟩
 focus
  rw [if_neg (by omega),if_neg (by omega),if_pos hc] at e4 e6
  subst e4
 rotate_left
 focus
  rw [if_neg (by omega),if_neg (by omega),if_neg (by omega),if_pos hc] at e4 e6
  subst e4
 rotate_left
 focus
  rw [if_neg (by omega),if_neg (by omega),if_neg (by omega),if_neg (by omega),if_pos hc] at e4 e6
  split at e6
  · cases e6
  rename_i c2
  rw [if_neg c2] at e4
  subst e4
 rotate_left
 focus
  rw [if_neg (by omega),if_neg (by omega),if_neg (by omega),if_neg (by omega),if_neg (by omega),if_pos hc] at e4 e6
  subst e4
 all_goals
  exact ⟨by simp;omega,⟨i2,i3⟩,by simp;omega⟩
theorem DNum.decls: ∀ {ds:List PDec} {f:Fnd},DNum f→(∀ d∈ds,1≤d.k∧d.k≤6)→(f.decls ds).flaw=0→DNum (f.decls ds)
 | [],_,h,_,_=>h
 |d::r,f,h,hd,hf=>by
  unfold Fnd.decls at hf⊢
  split at hf
  · rename_i h0
    rw [if_pos h0]
    have h1:(f.decl d).flaw=0:=by
     cases r with
     |nil=>exact hf
     |cons x r=>
      unfold Fnd.decls at hf
      split at hf
      · assumption
      exact hf
    exact DNum.decls (h.decl h1 (hd d (List.mem_cons_self ..))) (fun x hx=>hd x (List.mem_cons_of_mem _ hx)) hf
  rename_i h0;exact absurd hf h0
theorem Mw: ∀ {ds:List PDec} {f:Fnd},f.flaw=0→(f.decls ds).flaw=0→(f.decls ds).ths.length=f.ths.length+(ds.filter fun d=>d.k==6).length
 | [],_,_,_=>rfl
 |d::r,f,h0,hf=>by
  unfold Fnd.decls at hf⊢
  rw [if_pos h0] at hf⊢
  have h1:(f.decl d).flaw=0:=by
   cases r with
   |nil=>exact hf
   |cons x r=>
    unfold Fnd.decls at hf
    split at hf
    · assumption
    exact hf
  rw [Mw h1 hf,Ka h0 h1,List.filter_cons]
  by_cases hk:d.k=6
  · rw [if_pos hk,if_pos (by simpa using hk),List.length_cons];omega
  rw [if_neg hk,if_neg (by simpa using hk)];omega
theorem K5: ∀ {bs:List (List PStm)} {i:Nat} {f:Fnd},(f.bodies i bs).nv=f.nv∧(f.bodies i bs).na=f.na∧(f.bodies i bs).nm=f.nm∧(f.bodies i bs).nc=f.nc∧(f.bodies i bs).nh=f.nh
 | [],_,_=>⟨rfl,rfl,rfl,rfl,rfl⟩
 |b::r,i,f=>by
  unfold Fnd.bodies
  split
  · dsimp only
    have to:=(Fnd.To.blk b { f with most:=0 }).e
    obtain ⟨_,_,_,_,_,_,_,t1,t2,t3,t4,t5,_⟩:=to
    obtain ⟨a1,a2,a3,a4,a5⟩:=K5 (bs:=r) (i:=i+1) (f:= { (Fnd.block { f with most:=0 } b).1 with ths:=(Fnd.block { f with most:=0 } b).1.ths.set i ⟨((Fnd.block { f with most:=0 } b).1.ths.getD i ⟨em,0, []⟩).nm,(Fnd.block { f with most:=0 } b).1.most,(Fnd.block { f with most:=0 } b).2⟩ })
    exact ⟨a1.trans t1,a2.trans t2,a3.trans t3,a4.trans t4,a5.trans t5⟩
  exact ⟨rfl,rfl,rfl,rfl,rfl⟩
theorem bad_mays {d:PDec}(h:d.bad=false):Yj d.body 1=true:=by
 unfold PDec.bad Ad at h
 simp only [Bool.or_eq_false_iff,decide_eq_false_iff_not,Bool.not_eq_false'] at h
 exact h.2
structure FndOk (F:Fnd):Prop where
 m:Bj F=true
 k:F.nv.length≤64∧F.na.length≤64∧F.nm.length≤64∧F.nc.length≤64∧F.nh.length≤64
theorem find_may {ds:List PDec}{F:Fnd}(h:Tn ds=some F):FndOk F:=by
 have hp:=Gt (P:=fun _=>True) h trivial (fun _ _ _ _=>trivial)
 unfold Tn at h
 split at h
 · cases h
 rename_i hbad
 have hok: ∀ d∈ds,d.bad=false:=fun d hd=>by
  cases hb:d.bad with
  |false=>rfl
  |true=>exact absurd (List.any_eq_true.2 ⟨d,hd,hb⟩) hbad
 dsimp only at h
 obtain ⟨f,hf⟩: ∃ f,f=Fnd.decls .z ds:=⟨_,rfl⟩
 rw [←hf] at h
 obtain ⟨f1,hf1⟩: ∃ f1,f1=(if f.flaw=0∧(f.at Qp=0∨((f.names.map (·.k)).getD (f.at Qp - 1) 0)≠6) then f.fl 133 else f):=⟨_,rfl⟩
 rw [←hf1] at h
 obtain ⟨bs,hbs⟩: ∃ b,b=(ds.filter fun d=>d.k==6).map (·.body):=⟨_,rfl⟩
 rw [←hbs] at h
 by_cases hfl:(f1.bodies 0 bs).flaw≠0
 · rw [if_pos hfl] at h;cases h
 rw [if_neg hfl] at h
 cases h
 have hfl2:=Decidable.not_not.1 hfl
 have z1:f1.flaw=0:=Q9 hfl2
 have hm:f1=f∧f.flaw=0:=by
  split at hf1
  · rw [hf1] at z1;exact absurd z1 (Y5 (by decide))
  rw [hf1] at z1
  exact ⟨hf1,z1⟩
 obtain ⟨e1,z2⟩:=hm
 have z3:(Fnd.decls .z ds).flaw=0:=by rw [←hf];exact z2
 have D:DInv f:=by
  rw [hf]
  exact DInv.decls .z (fun d hd=>⟨(E8 (hok d hd)).1,bad_nm (hok d hd)⟩) z3
 have E:DNum f:=by
  rw [hf]
  exact DNum.decls .z (fun d hd=>(E8 (hok d hd)).1) z3
 have hth:f.ths.length=bs.length:=by
  have:=Mw (f:= .z) rfl z3
  rw [hf,this,hbs,List.length_map];show 0+_=_;omega
 rw [e1] at hfl2 hp⊢
 have hraw: ∀ b∈bs,Yj b 1=true:=fun b hb=>by
  rw [hbs] at hb
  obtain ⟨d,hd,rfl⟩:=List.mem_map.1 hb
  exact bad_mays (hok d (List.mem_filter.1 hd).1)
 have B0:BInv (fun _=>True) f f:=⟨⟨rfl,rfl,rfl,rfl,rfl,rfl,rfl⟩,D.n,⟨D.l.1,by rw [D.l.2];decide⟩,fun t ht=>by
  obtain ⟨a,b,c⟩:=D.t t ht
  exact ⟨a,by omega,by rw [c];trivial,trivial⟩⟩
 have B:=BInv.bodies (i:=0) (fun b hb=>⟨W3 (hraw b hb),fun _=>trivial⟩) B0 hfl2
 have A:=Hc (i:=0) hraw B0 (by omega) (by show some (0:Int)=some f.stm;rw [D.l.2]) hfl2
 have K:=K5 (bs:=bs) (i:=0) (f:=f)
 obtain ⟨g,hg⟩: ∃ g,g=f.bodies 0 bs:=⟨_,rfl⟩
 rw [←hg] at B A K hp⊢
 obtain ⟨b1,b2,b3,b4,b5,b6,b7⟩:=B.e
 obtain ⟨mn,hmn⟩: ∃ mn,mn=(g.names.map (·.s)).getD (f.at Qp - 1) 0:=⟨_,rfl⟩
 rw [←hmn] at hp⊢
 have cn:Fnd.cn { g with main:=mn } =f.cn:=by unfold Fnd.cn;dsimp only;rw [b1,b2,b3,b4,b5,b6]
 obtain ⟨k1,k2,k3,k4,k5,k6,k7⟩:=D.k
 have en:=E.n
 refine ⟨?_,?_⟩
 · unfold Bj
   rw [Bool.and_eq_true,Bool.and_eq_true]
   refine ⟨⟨?_,?_⟩,?_⟩
   · unfold E0
     rw [decide_eq_true_eq]
     dsimp only
     rw [b1,b2,b3,b4,b5,b6]
     refine ⟨by omega,by omega,by omega,fun v hv=>D.v v hv,D.a,D.c,by rw [E.s.1];exact E.s.2⟩
   · unfold inB;rw [decide_eq_true_eq];exact hp.m
   rw [cn]
   rw [beq_iff_eq]
   exact A
 obtain ⟨a1,a2,a3,a4,a5⟩:=K
 dsimp only
 rw [a1,a2,a3,a4,a5]
 have:=E.k
 omega
theorem Fe {l:Bs}{F:Fnd}(h:Je l=some F):FndOk F:=by
 unfold Je at h
 split at h
 · cases h
 exact find_may h
mutual
theorem D8 {B:Nat}: ∀ {s:Stm},s.er.wt≤B→s.lm B∧s.sz≤B
 | .mk k ln cl nm wt e ix body els ba bc ea ec id sl ot lo,h=>by
  simp only [Stm.er,PStm.wt,C0] at h
  have h1:=Kd (B:=B) (l:=body) (by omega)
  have h2:=Kd (B:=B) (l:=els) (by omega)
  have h3:=Km body
  have h4:=Km els
  exact ⟨⟨by omega,by omega,h1,h2⟩,by simp only [Stm.sz];omega⟩
theorem Kd {B:Nat}: ∀ {l:List Stm},W0 (Zj l)≤B→Wr B l
 | [],_=>trivial
 |s::r,h=>by
  simp only [Zj,W0] at h
  exact ⟨(D8 (by omega)).1,Kd (by omega)⟩
theorem Km: ∀ (l:List Stm),Zg l≤W0 (Zj l)
 | []=>Nat.zero_le _
 |s::r=>by
  simp only [Zj,W0,Zg]
  have h1:=(D8 (s:=s) (Nat.le_refl _)).2
  have h2:=Km r
  omega
end
theorem FC.cp {g:FC}{l:Bs}(h:Je l=some g.er):CpOk (14*65536) g:=by
 obtain ⟨p,hl⟩:=text_prg h
 have m:=Fe h
 obtain ⟨a1,a2,a3,a4,a5⟩:=m.k
 obtain ⟨b1,b2,b3,b4,_,_⟩:=p.k
 have e:g.er.ths.length=g.ths.l.length:=by show (g.ths.l.map Th.er).length=_;rw [List.length_map]
 rw [e] at b4
 have b1:g.vars.l.length≤64:=b1
 have b2:g.arrs.l.length≤64:=b2
 have b3:g.chs.l.length≤64:=b3
 have a1:g.nv.l.length≤64:=a1
 have a2:g.na.l.length≤64:=a2
 have a3:g.nm.l.length≤64:=a3
 have a4:g.nc.l.length≤64:=a4
 have a5:g.nh.l.length≤64:=a5
 refine ⟨by omega,by decide,fun x hx=> ?_⟩
 have:=(p.t _ (List.mem_map_of_mem (f:=Th.er) hx)).p
 have e2:(Th.er x).body=Zj x.body:=rfl
 rw [e2] at this
 have h2:=Km x.body
 exact ⟨by omega,Kd (by omega)⟩
theorem Pb {F:Fnd}(hM:MayP F):(V3 F.pr).fine F 0:=by
 have hsa:=U7 (l:=F.arrs) (k:=256) (fun y hy=>by have:=hM.a y hy;omega) (by decide)
 have hfm:=hM.f
 have hmu:((F.mu.toNat:Nat):Int)=F.mu:=by have:=hfm.1.1;omega
 have hco:((F.co.toNat:Nat):Int)=F.co:=by have:=hfm.2.1.1;omega
 have hny:=newS_ok (m:=F.mu.toNat) (c:=F.co.toNat) (rooms:=F.chs) (by rw [hmu,hco];exact hfm)
 obtain ⟨b0,b1⟩:=Tz (N:=0) (m:=1) hM hM.m (by decide)
 have hcd: ∀ l∈(R8 F.mu.toNat F.co.toNat F.chs).conds,l= []:=fun l hl=>(List.mem_replicate.1 hl).2
 refine ⟨⟨?_,?_,hny,⟨?_,?_,?_⟩,⟨Nat.le_refl 1,show 1≤8 by decide⟩,?_,?_⟩,?_,?_⟩
 · show ((F.vars++List.replicate (Y8 F.arrs).toNat 0).length:Int)=_
   rw [List.length_append,List.length_replicate];omega
 · intro x hx
   rcases List.mem_append.1 (show x∈F.vars++List.replicate (Y8 F.arrs).toNat 0 from hx) with hx|hx
   · exact hM.v x hx
   rw [(List.mem_replicate.1 hx).2];unfold val;omega
 · show ((List.replicate F.mu.toNat (-1:Int)).length:Int)=F.mu
   rw [List.length_replicate];exact hmu
 · show ((List.replicate F.co.toNat ([]:List Int)).length:Int)=F.co
   rw [List.length_replicate];exact hco
 · show (F.chs.map _).map Ch.room=F.chs
   rw [List.map_map];simp [Function.comp_def]
 · intro t ht
   rw [List.mem_singleton.1 (show t∈ [Vv F.pr F.main] from ht)]
   exact ThOk.of b0 b1 (by show 1≤8;decide)
 · intro l hl t ht
   rw [hcd l hl] at ht;cases ht
 · have:(V3 F.pr).sy.conds.flatten= []:=by rw [List.flatten_eq_nil_iff];exact hcd
   rw [this];exact List.nodup_nil
 intro t ht
 rw [List.mem_singleton.1 (show t∈ [Vv F.pr F.main] from ht)]
 exact b0.p.1
structure VdC where
 decl:Int
 st:Int
 loc:Sv Int
 nx:Int
 sp:Sv Int
def vdC (x:VdC):List Value:= [.int .i64 x.decl,.int .i64 x.st,x.loc.v,.int .i64 x.nx,x.sp.v]
section
variable {G:World}{q:List HP}{n:Nat}{D:DC}{k u z:Int}{bb:Bool}
variable {S0:SS}{N:Nat}
set_option maxHeartbeats 4000000 in
theorem dview_ok (hK:Kn q fun M=>D.At M)(hn:n<D.ths.l.length):CallF prog G 55 [.agg (docC D).toArray,.int .i64 (n:Int)] (q) (Ret fun v q'=>v= .agg (vdC ⟨(D.ths.l[n]).decl,(D.ths.l[n]).st,(D.ths.l[n]).loc,(D.ths.l[n]).er.nx,(D.ths.l[n]).sp⟩).toArray∧q'=q):=by
 refine CallF.of func55 ntmps55 rfl (fun F cs=> ?_)
 have hS:=Sv.sees (hK.imp fun M h=>h.ths);have hlen:=Zv Su D.ths.l;obtain ⟨T,hT⟩: ∃ T,T=D.ths.l[n]:=⟨_,rfl⟩;rw [←hT];have hTA:Kn q fun M=>T.At M:=hK.imp fun M h=>h.t T (hT ▸ List.getElem_mem hn);have hSf:=Kn.sees (hTA.imp fun M h=>h.lft.1.2.2);have hlen2:=Zv Z3 T.lft.l
 refine Yb (hS.le leA) (by rw [hlen];omega) (fun ab ao e_=> ?_);have hS_:=hS;rw [e_] at hS_
 have hC:CellsAt q ab (ao+(n:Int).toNat*5) (dtC T):=by rw [hT];exact CellsAt.row hS_ (Le.refl _) Su hn rfl
 refine xo 2 ?_;refine Y2 fun n1=> ?_
 refine XO.al zeroValue101 fun n2=> ?_
 refine ol 4 ?_;refine oo 1 ?_;refine XO.know 8 (.slice (some ⟨ab,ao,none⟩) D.ths.l.length D.ths.c) rfl (by rw [←e_];rfl) ?_
 refine oo 1 ?_;refine Pf (us:=dtC T) isAgg142 sizeOf142 rfl (hC.le leA) ?_
 refine XO.al zeroValue142 fun n3=> ?_
 refine stA ?_;refine ol 4 ?_;refine ol 1 ?_;refine ol 1 ?_;refine ol 1 ?_;refine oo 1 ?_;refine XO.al zeroValue101 fun n4=> ?_
 refine stA ?_;refine ol 5 ?_;refine ox 3 ?_;refine X.part 24 rfl (fun h1=> ?_) (fun h1=> ?_)
 · replace h1:=sp h1;have hlp:0<T.lft.l.length:=(by omega);refine Yb (hSf.le leA) (by rw [hlen2];omega) (fun lb lo e2_=> ?_);have hSf_:=hSf;rw [e2_] at hSf_
   obtain ⟨Y,hY0,hnx⟩: ∃ Y,T.lft.l[0]? =some Y∧T.er.nx=Y.er.idn:=(by unfold PTr.nx PTr.next;rw [show T.er.left=Zj T.lft.l from rfl];cases hq:T.lft.l with|nil=>(rw [hq] at hlp;exact absurd hlp (by decide))|cons a r=>exact ⟨a,rfl,by rw [if_neg (by simp [Zj])];rfl⟩);have hY1:T.lft.l[0]=Y:=(by rw [List.getElem?_eq_getElem hlp] at hY0;exact Option.some.inj hY0)
   have hCY:CellsAt q lb (lo+(0:Int).toNat*25) (stC Y):=by rw [←hY1];exact CellsAt.row hSf_ (Le.refl _) Z3 hlp rfl
   obtain ⟨kk,ln,cl,nm,wt,⟨ek,en,enm,esl,elo,eop,el,ea,ec⟩,⟨xk,xn,xnm,xsl,xlo,xop,xl,xa,xc⟩,bd,es2,ba,bc,ea2,ec2,id,sl,ot,lo_⟩:=Y
   refine xj 3 ?_;refine XO.know 26 (.slice (some ⟨lb,lo,none⟩) T.lft.l.length T.lft.c) rfl (by rw [←e2_];rfl) ?_
   refine oo 2 ?_;refine ld ?_ (hc:=((hCY.le leA) 21 _ rfl))
   refine oo 1 ?_;refine st ?_;refine oo 3 ?_;refine ldA ?_;refine stA ?_;refine ox 1 ?_;refine Zq (q) func55 (rA_ results55) ⟨_,rfl,by rw [hnx];rfl,rfl⟩
 replace h1:=sp h1;have hnx:T.er.nx= -1:=(by unfold PTr.nx;rw [if_pos];show Zj T.lft.l= [];exact List.eq_nil_of_length_eq_zero (by rw [Zf];omega))
 refine xo 4 ?_;refine ldA ?_;refine stA ?_;refine ox 1 ?_;refine Zq (q) func55 (rA_ results55) ⟨_,rfl,by rw [hnx];rfl,rfl⟩
variable {a b:Option Addr}{c d:Nat}{l:List Int}
variable {x:VwC}{y:VdC}
variable {x:EvC}{y:EvC}
set_option maxHeartbeats 4000000 in
theorem Nk (hx:x.e=y.e)(ha:Sees q x.aa (x.e.acc.flatMap acC))(hb:Sees q y.aa (y.e.acc.flatMap acC))(hc:Sees q x.na (x.e.syn.flatMap snC))(hd:Sees q y.na (y.e.syn.flatMap snC))(hl:x.e.acc.length≤9223372036854775807∧x.e.syn.length≤9223372036854775807):CallF prog G 27 [.agg (evC x).toArray,.agg (evC y).toArray] (q) (Ret fun v q'=>v= .bool true∧q'=q):=by
 refine CallF.of func27 ntmps27 rfl (fun F cs=> ?_)
 obtain ⟨ye,yaa,yac,yna,ync⟩:=y;obtain ⟨xe,xaa,xac,xna,xnc⟩:=x;dsimp only at hx ha hb hc hd hl;subst hx;have hlnA:=Zv Nc xe.acc;have hlnS:=Zv M9 xe.syn;obtain ⟨hl1,hl2⟩:=hl
 refine xo 2 ?_;refine Y2 fun n1=> ?_
 refine Y2 fun n2=> ?_
 refine ol 6 ?_;refine ol 1 ?_;refine oo 2 ?_;refine XO.know 12 (.bool false) rfl (congrArg Value.bool (by first|exact bne_self_eq_false _|rfl|simp)) ?_
 refine ol 1 ?_;refine ol 1 ?_;refine oo 3 ?_;refine XO.know 19 (.bool false) rfl (congrArg Value.bool (by first|exact bne_self_eq_false _|rfl|simp)) ?_
 refine ol 1 ?_;refine ol 1 ?_;refine oo 3 ?_;refine XO.know 26 (.bool false) rfl (congrArg Value.bool (by first|exact bne_self_eq_false _|rfl|simp)) ?_
 refine ol 1 ?_;refine ol 1 ?_;refine oo 3 ?_;refine XO.know 33 (.bool false) rfl (congrArg Value.bool (by first|exact bne_self_eq_false _|rfl|simp)) ?_
 refine ol 1 ?_;refine ol 1 ?_;refine oo 3 ?_;refine XO.know 40 (.bool false) rfl (congrArg Value.bool (by first|exact bne_self_eq_false _|rfl|simp)) ?_
 refine ol 1 ?_;refine ol 1 ?_;refine oo 3 ?_;refine XO.know 47 (.bool false) rfl (congrArg Value.bool (by first|exact bne_self_eq_false _|rfl|simp)) ?_
 refine ol 1 ?_;refine ol 1 ?_;refine oo 3 ?_;refine XO.know 54 (.bool false) rfl (congrArg Value.bool (by first|exact bne_self_eq_false _|rfl|simp)) ?_
 refine ol 1 ?_;refine ol 2 ?_;refine oo 4 ?_;refine XO.know 63 (.bool false) rfl (congrArg Value.bool (by first|exact bne_self_eq_false _|rfl|simp)) ?_
 refine ol 1 ?_;refine ol 2 ?_;refine ox 4 ?_;refine kx 71 8 ?_;refine X.at (X.loop (fun (s:Nat)=>s≤xe.acc.length) (fun s=> [(2,.pointer (some ⟨n1,0,none⟩)),(3,.pointer (some ⟨n2,0,none⟩)),(5,.int .i64 (s:Int))]) (fun s=>pto n1 (.cells (evC ⟨xe,xaa,xac,xna,xnc⟩).toArray 47 (0,0))::pto n2 (.cells (evC ⟨xe,yaa,yac,yna,ync⟩).toArray 47 (0,0))::(q++F)) (fun s=>xe.acc.length - s) (fun s hi_ ih=> ?_) 0 (Nat.zero_le _)) Zu leA
 try dsimp only at hi_ ih⊢
 obtain hi:=hi_
 refine xj 5 ?_;refine ox 3 ?_;refine X.part 76 rfl (fun h0=> ?_) (fun h0=> ?_)
 · replace h0:=sp h0;have hlt:s<xe.acc.length:=(by omega);refine Yb (ha.le leA) (by rw [hlnA];omega) (fun ab ao e1_=> ?_);have ha_:=ha;rw [e1_] at ha_;refine Yb (hb.le leA) (by rw [hlnA];omega) (fun bb bo e2_=> ?_);have hb_:=hb;rw [e2_] at hb_;have hg_:xe.acc[s]=xe.acc[s]:=rfl;obtain ⟨⟨z1,z2,z3⟩,hz⟩: ∃ z,z=xe.acc[s]:=⟨_,rfl⟩
   have hr1: ∀ (Q:List HP),Le Q q→ ∀ (k:Nat) (u:Value),(acC (z1,z2,z3))[k]? =some u→Cl Q ⟨ab,ao+(s:Int).toNat*3+k,none⟩ u:=fun Q hQ k u hu=>Cl.row (n:=s) ha_ hQ Nc hlt rfl k u (by rw [←hz];exact hu)
   have hr2: ∀ (Q:List HP),Le Q q→ ∀ (k:Nat) (u:Value),(acC (z1,z2,z3))[k]? =some u→Cl Q ⟨bb,bo+(s:Int).toNat*3+k,none⟩ u:=fun Q hQ k u hu=>Cl.row (n:=s) hb_ hQ Nc hlt rfl k u (by rw [←hz];exact hu)
   refine xx 5 ?_;refine drw ?_;refine dl [0] 1 ?_;refine dd [2] ?_;refine XD.know 80 (.slice (some ⟨ab,ao,none⟩) xe.acc.length xac) rfl (by rw [←e1_]) ?_
   refine dd [3] ?_;refine XD.rdCs 4 (us:=acC (z1,z2,z3)) rfl rfl isAgg140 sizeOf140 rfl (hr1 _ leA) ?_
   refine dl [5] 6 ?_;refine dd [7] ?_;refine XD.know 85 (.slice (some ⟨bb,bo,none⟩) xe.acc.length yac) rfl (by rw [←e2_]) ?_
   refine dd [8] ?_;refine XD.rdCs 9 (us:=acC (z1,z2,z3)) rfl rfl isAgg140 sizeOf140 rfl (hr2 _ leA) ?_
   refine XD.pu 10 rfl (Se rfl rfl (by kernel_rfl) (EqV.struct underlying140 (by kernel_rfl) (by kernel_rfl) ⟨_,_,_,_,rfl,rfl,isAgg3,(EqV.int underlying3 _ _),⟨_,_,_,_,rfl,rfl,isAgg4,(EqV.bool underlying4 _ _),⟨_,_,_,_,rfl,rfl,isAgg2,(EqV.int underlying2 _ _),rfl,rfl⟩,rfl⟩,rfl⟩)) ?_
   refine XD.nil ?_;refine kx 89 8 ?_;refine X.at (ih (s+1) (by omega) (by omega)) Zu leA
 replace h0:=sp h0;clear ih
 refine xx 8 ?_;refine X.at (X.loop (fun (s:Nat)=>s≤xe.syn.length) (fun s=> [(2,.pointer (some ⟨n1,0,none⟩)),(3,.pointer (some ⟨n2,0,none⟩)),(6,.int .i64 (s:Int))]) (fun s=>pto n1 (.cells (evC ⟨xe,xaa,xac,xna,xnc⟩).toArray 47 (0,0))::pto n2 (.cells (evC ⟨xe,yaa,yac,yna,ync⟩).toArray 47 (0,0))::(q++F)) (fun s=>xe.syn.length - s) (fun s hi_ ih=> ?_) 0 (Nat.zero_le _)) Zu leA
 try dsimp only at hi_ ih⊢
 obtain hi:=hi_
 refine xj 5 ?_;refine ox 3 ?_;refine X.part 94 rfl (fun h0=> ?_) (fun h0=> ?_)
 · replace h0:=sp h0;have hlt:s<xe.syn.length:=(by omega);refine Yb (hc.le leA) (by rw [hlnS];omega) (fun ab ao e1_=> ?_);have ha_:=hc;rw [e1_] at ha_;refine Yb (hd.le leA) (by rw [hlnS];omega) (fun bb bo e2_=> ?_);have hb_:=hd;rw [e2_] at hb_;have hg_:xe.syn[s]=xe.syn[s]:=rfl;obtain ⟨⟨z1,z2,z3⟩,hz⟩: ∃ z,z=xe.syn[s]:=⟨_,rfl⟩
   have hr1: ∀ (Q:List HP),Le Q q→ ∀ (k:Nat) (u:Value),(snC (z1,z2,z3))[k]? =some u→Cl Q ⟨ab,ao+(s:Int).toNat*3+k,none⟩ u:=fun Q hQ k u hu=>Cl.row (n:=s) ha_ hQ M9 hlt rfl k u (by rw [←hz];exact hu)
   have hr2: ∀ (Q:List HP),Le Q q→ ∀ (k:Nat) (u:Value),(snC (z1,z2,z3))[k]? =some u→Cl Q ⟨bb,bo+(s:Int).toNat*3+k,none⟩ u:=fun Q hQ k u hu=>Cl.row (n:=s) hb_ hQ M9 hlt rfl k u (by rw [←hz];exact hu)
   refine xx 5 ?_;refine drw ?_;refine dl [0] 1 ?_;refine dd [2] ?_;refine XD.know 98 (.slice (some ⟨ab,ao,none⟩) xe.syn.length xnc) rfl (by rw [←e1_]) ?_
   refine dd [3] ?_;refine XD.rdCs 4 (us:=snC (z1,z2,z3)) rfl rfl isAgg50 sizeOf50 rfl (hr1 _ leA) ?_
   refine dl [5] 6 ?_;refine dd [7] ?_;refine XD.know 103 (.slice (some ⟨bb,bo,none⟩) xe.syn.length ync) rfl (by rw [←e2_]) ?_
   refine dd [8] ?_;refine XD.rdCs 9 (us:=snC (z1,z2,z3)) rfl rfl isAgg50 sizeOf50 rfl (hr2 _ leA) ?_
   refine XD.pu 10 rfl (Se rfl rfl (by kernel_rfl) (EqV.struct underlying50 (by kernel_rfl) (by kernel_rfl) ⟨_,_,_,_,rfl,rfl,isAgg48,(EqV.int underlying48 _ _),⟨_,_,_,_,rfl,rfl,isAgg3,(EqV.int underlying3 _ _),⟨_,_,_,_,rfl,rfl,isAgg3,(EqV.int underlying3 _ _),rfl,rfl⟩,rfl⟩,rfl⟩)) ?_
   refine XD.nil ?_;refine kx 107 8 ?_;refine X.at (ih (s+1) (by omega) (by omega)) Zu leA
 replace h0:=sp h0;clear ih
 refine xx 6 ?_;refine Zq (q) func27 (Zm results27 rfl) ⟨_,rfl,rfl,rfl⟩
end
def Ae (F:Fnd)(N:Nat)(s:SS)(g:FC)(σ:StC):Prop:=g.er=F∧σ.er=s∧MayP F∧s.fine F N∧s.pg=s
def gH (p:Nat)(F:Fnd)(N:Nat)(s:SS):HP:=ex fun x:Nat×FC×StC=>stars (pure (Ae F N s x.2.1 x.2.2)::stP p x.1 x.2.2::(Zr x.2.2++ [prM x.1 x.2.1,tdM x.2.2.ths]))
theorem Rk {P:Program}{G:World}{fn:FuncId}{vs:List Value}{p:Nat}{F:Fnd}{N:Nat}{s:SS}{q:List HP}{R:Wx.Ui}
 (h: ∀ (σ:StC) (pp:Nat) (g:FC),g.er=F→σ.er=s→Hd (prM pp g::tdM σ.ths::q) pp g N σ→CallF P G fn vs (stP p pp σ::(Zr σ++(prM pp g::tdM σ.ths::q))) R):CallF P G fn vs (gH p F N s::q) R:=by
 intro E w st cs
 obtain ⟨⟨pp,g,σ⟩,s1⟩:=St.get_ex st
 have s2:=s1.le (Z0 _ (q++E))
 obtain ⟨e1,e2,h3,h4,h5⟩:=s2.get_pure
 have s3:=s2.le (Le.drop _ _)
 subst e1 e2
 refine h σ pp g rfl rfl ⟨Prg.of Kn.prM,h3,h4,h5,Kn.there Kn.tdM⟩ E w ?_ cs
 show St G w (stP p pp σ::(Zr σ++(prM pp g::tdM σ.ths::q))++E)
 simp only [List.cons_append,List.append_assoc] at s3⊢
 exact s3
theorem Dk {p pp N:Nat}{g:FC}{σ:StC}{t0:List TC}{q:List HP}(h:Hd (prM pp g::tdM t0::q) pp g N σ)(E:List HP):Le (stP p pp σ::(Zr σ++(E++(prM pp g::tdM t0::q)))) (gH p g.er N σ.er::(E++q)):=by
 have h1:Le (prM pp g::tdM t0::q) (tdM σ.ths::prM pp g::tdM t0::q):=Kn.add (φ:=fun M=>TodoAt M σ.ths) (mn:=fun e h=>TodoAt.mono e h) h.T
 have h2:Le (prM pp g::tdM t0::q) (prM pp g::tdM σ.ths::q):=h1.trans ((Le.swap _ _ _).trans (Le.cons _ (Le.cons _ (Le.drop _ _))))
 have h3:Le (E++(prM pp g::tdM t0::q)) ([prM pp g,tdM σ.ths]++(E++q)):=(Le.append_left E h2).trans (W7 E [prM pp g,tdM σ.ths] q)
 refine Dj ((pp,g,σ):Nat×FC×StC) ?_;refine Le.trans ?_ (Z5 (pure (Ae g.er N σ.er g σ)::stP p pp σ::(Zr σ++ [prM pp g,tdM σ.ths])) (E++q));refine Le.trans (Le.cons _ (Le.append_left (Zr σ) h3)) (Le.trans (Qy (φ:=Ae g.er N σ.er g σ) ⟨rfl,rfl,h.M,h.F,h.G⟩ _) ?_)
 simp only [List.cons_append,List.append_assoc]
 exact Le.refl _
theorem SS.fine.cells {F:Fnd}{N:Nat}{s:SS}(h:s.fine F N)(hM:MayP F):s.cells.length≤1000:=by
 have h1:=h.ok.c;have h2:=hM.l.1;have h3:=hM.s
 omega
section
variable {G:World}{q:List HP}{p N:Nat}{F:Fnd}{s:SS}{g:FC}{z k:Int}{picks:List Int}{pa:Option Addr}{pc:Nat}
theorem Sh {l:Bs}(hT:Je l=some g.er)(hK:Kn q fun M=>g.At M):CallF prog G 15 [.agg (pgC g).toArray] q (Ret fun v q'=> ∃ p,v= .tuple [.pointer (some ⟨p,0,none⟩),.int .i64 0].toArray∧q'=gH p g.er 0 (V3 g.er.pr)::q):=
 CallF.conv (Le.refl _) (pnew_ok (B:=14*65536) hK (FC.cp hT)) (by
  have hm:=(Fe hT).m
  have hM:=Sw hm
  rintro _ _ ⟨_,rfl,(⟨_,p,pp,g',σ,e1,e2,rfl,rfl⟩|⟨h0,_,_⟩)⟩
  · have hM':MayP g'.er:=by rw [e1];exact hM
    have hH:Hd (prM pp g'::tdM σ.ths::q) pp g' 0 σ:=⟨Prg.of Kn.prM,hM',by rw [e2,e1];exact Pb hM,by rw [e2];rfl,Kn.there Kn.tdM⟩
    refine ⟨_,⟨_,rfl,p,rfl,rfl⟩,?_⟩
    rw [←e2,←e1]
    exact Dk (E:= []) hH
  rw [hm] at h0;cases h0)
theorem gRun_ok (hN:N+picks.length≤899)(hs:Sees q pa (picks.map I64))(hk: ∀ k∈picks, -9223372036854775808≤k∧k≤9223372036854775807):CallF prog G 16 [.pointer (some ⟨p,0,none⟩),.slice pa picks.length pc] (gH p F N s::q)
 (Ret fun v q'=> ∃ (L:List EvC) (a':Option Addr) (c':Nat),v= .tuple [.slice a' L.length c',.agg (otC ((Yn F.pr s picks).1.outc F.pr)).toArray].toArray∧q'=gH p F (N+picks.length) (Yn F.pr s picks).1::(Gl a' c' L++q)∧L.map EvC.e=(Yn F.pr s picks).2∧L.length≤picks.length):=
 Rk fun σ pp g e1 e2 hH=>CallF.conv (Le.refl _) (SRun_ok hH hN (hs.le ((Le.drop _ _).trans (Le.drop _ _))) hk) (by
  subst e1 e2
  rintro _ _ ⟨_,rfl,σ',L,a',c',rfl,rfl,hH',e3,e4,hl⟩
  refine ⟨_,⟨_,rfl,L,a',c',by rw [e3],rfl,e4,hl⟩,?_⟩
  rw [←e3]
  exact Dk hH' (Gl a' c' L))
theorem De:CallF prog G 21 [.pointer (some ⟨p,0,none⟩)] (gH p F N s::q) (Ret fun v q'=> ∃ a' c',v= .slice a' s.cells.length c'∧q'=gH p F N s::lsH I64 2 a' c' s.cells::q):=
 Rk fun σ pp g e1 e2 hH=>CallF.conv (Le.refl _) (Oc (by have:=hH.F.cells hH.M;show σ.er.cells.length≤_;omega)) (by
  subst e1 e2
  rintro _ _ ⟨_,rfl,a',c',rfl,rfl⟩
  exact ⟨_,⟨_,rfl,a',c',rfl,rfl⟩,(W7 [_] (stP p pp σ::Zr σ) _).trans (Dk hH [_])⟩)
end
end Go.Proofs.YtflkjkhijcdbaaaGreat
