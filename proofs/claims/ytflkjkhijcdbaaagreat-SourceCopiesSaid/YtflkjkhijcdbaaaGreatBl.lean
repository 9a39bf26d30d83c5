/- Contracts of functions, proved by walking their code. -/
import Derived.Test.YtflkjkhijcdbaaaGreatBk
import Derived.KernelRfl
set_option maxRecDepth 100000
set_option linter.unusedVariables false
set_option linter.unusedSimpArgs false
namespace Go.Proofs.YtflkjkhijcdbaaaGreat
open Go Go.RowKit Wx Go.Proofs.Tryz
attribute [local irreducible] Wx.lsH Wx.rsH Wx.stars
section
variable {G:World}{q:List HP}{p pp n N:Nat}{g:FC}{σ:StC}
theorem Vr (h:Cl q ⟨p,0,none⟩ (.pointer (some ⟨pp,0,none⟩))):CallF prog G 49 [.pointer (some ⟨p,0,none⟩)] (q) (Ret fun v q'=>v= .bool true∧q'=q):=by
 refine CallF.of func49 ntmps49 rfl (fun F cs=> ?_)
 refine xo 9 ?_;refine XO.kt 5 ?_;refine oo 3 ?_;refine ld ?_ (hc:=(h.le leA))
 refine ox 4 ?_;refine Zq (q) func49 (Zg results49 rfl) ⟨_,rfl,rfl,rfl⟩
set_option maxHeartbeats 4000000 in
theorem Iq (hok:SS.ok g.er N σ.er)(hN:N≤900)(hn:n<σ.ths.length)(hTd:Kn q fun M=>TodoAt M σ.ths):CallF prog G 59 [.pointer (some ⟨p,0,none⟩),.int .i64 (n:Int)] (stP p pp σ::(Zc σ++q)) (Ret fun v q'=>v= .bool (σ.er.can g.er.pr n)∧q'=stP p pp σ::(Zc σ++q)):=by
 refine CallF.of func59 ntmps59 rfl (fun F cs=> ?_)
 change X _ _ _ _ _ _ _ _ (pto p (.cells (Yt pp σ).toArray 98 (0,0))::lsH I64 2 σ.ca σ.cc σ.cells::yH σ.sp σ.sy::rsH trC 5 116 σ.ha σ.hc σ.ths::stars (σ.ths.map trH)::(q++F))
 have hlen:=Zv Zy σ.ths;have h8:σ.ths.length≤8:=by have:=hok.t.2;rwa [StC.nth] at this
 have h1_:1≤σ.ths.length:=by have:=hok.t.1;rwa [StC.nth] at this
 refine Yz (l:=σ.ths) (by omega) (fun ga e_=> ?_)
 have hr: ∀ r,Sees (rsH trC 5 116 σ.ha σ.hc σ.ths::r) (some ⟨ga,0,none⟩) (σ.ths.flatMap trC):=fun r=>by rw [←e_];exact Sees.rsH r
 have hT:=hok.at hn;have hte:=Zo hn;have hys:σ.sy.ok N:=hok.y
 obtain ⟨R,hR⟩: ∃ R,R=σ.er.can g.er.pr n:=⟨_,rfl⟩;have hR0:=hR;rw [←hR];unfold SS.can at hR;dsimp only at hR;rw [hte] at hR
 have hts:(σ.ths[n]).er.st=σ.ths[n].st:=rfl
 refine xj 11 ?_;refine ox 2 ?_;refine X.part 13 rfl (fun h1=> ?_) (fun h1=> ?_)
 · replace h1:=sp h1
   refine xx 5 ?_;refine Zq (stP p pp σ::(Zc σ++q)) func59 (Zg results59 rfl) ⟨_,rfl,congrArg Value.bool (by rw [hR,if_pos (.inl (show σ.er.out.kind=4 from h1))]),rfl⟩
 replace h1:=sp h1;have hk0: ¬σ.er.out.kind=4:=h1
 refine xj 7 ?_;refine oo 1 ?_;refine XO.know 17 (.slice (some ⟨ga,0,none⟩) σ.ths.length σ.hc) rfl (by rw [←e_]) ?_
 refine oo 9 ?_;refine ld ?_ (hc:=(Cl.row (n:=n) (hr _) leA Zy hn rfl 1 _ rfl))
 refine ox 7 ?_;refine X.part 24 rfl (fun h2=> ?_) (fun h2=> ?_)
 · replace h2:=sp h2;have hs1:σ.ths[n].st=1:=h2
   have hne:σ.ths[n].todo≠ []:=fun k=>by have:=hT.e.1 (Ub.2 k);omega
   obtain ⟨y,hy1,hy2,hy3,hy4,hy5⟩:=Ns hne
   have hyA:Kn q fun M=>y.At M:=hTd.imp fun M h=>h _ (List.getElem_mem hn) y hy2
   have hg:=hT.g;rw [hy4] at hg
   refine xo 6 ?_;refine XO.cR call60 (Q1 (b:=ga) (o:=0+(n:Int).toNat*5) (todo:=σ.ths[n].todo) (Cl.row (n:=n) (hr _) leA Zy hn rfl 3 _ rfl) ((Sees.todo hn).le leA) (by have:=hT.n;rw [W2] at this;omega)) ?_
   refine XO.know 29 (.pointer (some ⟨y.b,y.o,none⟩)) rfl (by rw [hy1];rfl) ?_
   refine Zf call93 leA (ready_ok (p:=p) (pp:=pp) (σ:=σ) (n:=n) (y:=y) (q:=q++F) hok hN hn (hTd.le leA) (by rw [hte,hy5]) (hyA.le leA) (by rw [hte];exact hg.1) (by rw [hte,hts];exact hs1) hk0) ?_
   rintro _ _ ⟨rfl,rfl⟩
   refine ox 2 ?_;refine Zq (stP p pp σ::(Zc σ++q)) func59 (Zg results59 rfl) ⟨_,rfl,congrArg Value.bool hR0.symm,rfl⟩
 replace h2:=sp h2
 refine xx 6 ?_;refine X.part 31 rfl (fun h3=> ?_) (fun h3=> ?_)
 · replace h3:=sp h3;have hs1:σ.ths[n].st=3:=h3
   have hne:σ.ths[n].todo≠ []:=fun k=>by have:=hT.e.1 (Ub.2 k);omega
   obtain ⟨y,hy1,hy2,hy3,hy4,hy5⟩:=Ns hne
   have hyA:Kn q fun M=>y.At M:=hTd.imp fun M h=>h _ (List.getElem_mem hn) y hy2
   have hg:=hT.g;rw [hy4] at hg
   obtain ⟨yb,yo,ys⟩:=y
   obtain ⟨kk,ln,cl,nm,wt,⟨ek,en,enm,esl,elo,eop,el,ea,ec⟩,⟨xk,xn,xnm,xsl,xlo,xop,xl,xa,xc⟩,bd,es2,ba,bc,ea2,ec2,id,sl,ot,lo_⟩:=ys
   have hCs:=Kn.stC hyA;dsimp only at hCs hy1 hy4 hy5 hg;have hkd:=hT.w (.inr hs1);rw [hy5] at hkd hR;simp only [Stm.er,PStm.kd] at hkd hR;obtain ⟨⟨hg1,hg2,_⟩,_⟩:=hg;obtain ⟨hq1,hq2,hq3,hq6,hq8,hq8o,_⟩:=Yi hg2
   have hz1:(σ.sy.owners.length:Int)=g.er.cn.mu:=hok.z.1
   rw [if_neg (by intro k;rcases k with k|k|k;exact hk0 k;omega;omega),if_pos (by omega)] at hR
   refine xx 2 ?_;refine drw ?_;refine dl [0,1,2] 3 ?_;refine dd [4] ?_;refine Ym 5 call60 (Q1 (b:=ga) (o:=0+(n:Int).toNat*5) (todo:=σ.ths[n].todo) (Cl.row (n:=n) (hr _) leA Zy hn rfl 3 _ rfl) ((Sees.todo hn).le leA) (by have:=hT.n;rw [W2] at this;omega)) ?_ (hL:=(hlA (h:=by repeat first|exact trivial|refine ⟨clA,?_⟩|refine ⟨(Cl.row (n:=n) (hr _) leA Zy hn rfl 1 _ rfl),?_⟩|refine ⟨((hCs.le leA) 23 _ rfl),?_⟩)))
   refine XD.know 39 (.pointer (some ⟨yb,yo,none⟩)) rfl (by rw [hy1];rfl) ?_
   refine dd [6,7] ?_;refine ldD 8 ?_ (hc:=((hCs.le leA) 23 _ rfl))
   refine Uy 9 call56 (Iw (m:=ot) hys (by omega)) ?_
   rintro _ _ ⟨rfl,rfl⟩ _ e_;simp only [ca,na] at e_;subst e_
   refine ⟨trivial,?_⟩
   refine dd [10,11,12,13,14] ?_;refine XD.nil ?_;refine xx 6 ?_;refine Zq (stP p pp σ::(Zc σ++q)) func59 (Zg results59 rfl) ⟨_,rfl,congrArg Value.bool (by rw [hR];unfold Hx;rw [if_pos ⟨(hq8o hkd).1,by have:=(hq8o hkd).2;omega⟩];dsimp only;have ho:=hys.o _ (Y7 (d:=0) (i:=ot.toNat) (l:=σ.sy.owners) (by have:=(hq8o hkd);omega));show _=(σ.sy.owners.getD ot.toNat 0== -1);generalize σ.sy.owners.getD ot.toNat 0=ow at*;rw [Bool.eq_iff_iff];simp only [decide_eq_true_eq,beq_iff_eq];omega),rfl⟩
 replace h3:=sp h3
 refine xx 7 ?_;refine Zq (stP p pp σ::(Zc σ++q)) func59 (Zg results59 rfl) ⟨_,rfl,congrArg Value.bool (by rw [hR,if_pos];have:=hT.s;rw [hts] at*;omega),rfl⟩
theorem Hz:CallF prog G 41 [.pointer (some ⟨p,0,none⟩)] (stP p pp σ::(Zc σ++q)) (Ret fun v q'=>v= .int .i64 (σ.ths.length:Int)∧q'=stP p pp σ::(Zc σ++q)):=by
 refine CallF.of func41 ntmps41 rfl (fun F cs=> ?_)
 change X _ _ _ _ _ _ _ _ (pto p (.cells (Yt pp σ).toArray 98 (0,0))::lsH I64 2 σ.ca σ.cc σ.cells::yH σ.sp σ.sy::rsH trC 5 116 σ.ha σ.hc σ.ths::stars (σ.ths.map trH)::(q++F))
 refine xo 8 ?_;refine XO.cR call49 (Vr (pp:=pp) clA) ?_
 refine Zt (Pu.not rfl) ?_;refine ox 1 ?_;refine Wy 5 ?_;refine xj 7 ?_;refine ox 3 ?_;refine Zq (stP p pp σ::(Zc σ++q)) func41 (Zg results41 rfl) ⟨_,rfl,rfl,rfl⟩
theorem Cx {p:PPr}{s:SS}{i:Nat}:((List.range (i+1)).filter fun n=>s.can p n).map (fun (n:Nat)=>(n:Int))=((List.range i).filter fun n=>s.can p n).map (fun (n:Nat)=>(n:Int))++(if s.can p i=true then [(i:Int)] else []):=by
 rw [List.range_succ,List.filter_append,List.map_append]
 by_cases h:s.can p i=true<;>simp [h]
def SS.allU (p:PPr)(s:SS)(i:Nat):List Int:=((List.range i).filter fun n=>s.can p n).map fun (n:Nat)=>(n:Int)
theorem Cy (p:PPr)(s:SS)(i:Nat):(s.allU p i).length≤i:=by
 unfold SS.allU;rw [List.length_map];exact Nat.le_trans (List.length_filter_le _ _) (by simp)
set_option maxHeartbeats 2000000 in
theorem L1 (hok:SS.ok g.er N σ.er)(hN:N≤900)(hTd:Kn q fun M=>TodoAt M σ.ths):CallF prog G 40 [.pointer (some ⟨p,0,none⟩)] (stP p pp σ::(Zc σ++q)) (Ret fun v q'=> ∃ a' c',v= .slice a' (σ.er.all g.er.pr).length c'∧q'=lsH I64 3 a' c' (σ.er.all g.er.pr)::stP p pp σ::(Zc σ++q)):=by
 refine CallF.of func40 ntmps40 rfl (fun F cs=> ?_)
 have h8:σ.ths.length≤8:=by have:=hok.t.2;rwa [StC.nth] at this
 refine xo 12 ?_;refine Zf call41 leA (Hz (p:=p) (pp:=pp) (σ:=σ) (q:=q++F)) ?_
 rintro _ _ ⟨rfl,rfl⟩
 refine ox 3 ?_;refine X.at (X.loop (fun (s:Nat×Option Addr×Nat)=>s.1≤σ.ths.length) (fun s=> [(0,.pointer (some ⟨p,0,none⟩)),(3,.slice s.2.1 (σ.er.allU g.er.pr s.1).length s.2.2),(6,.int .i64 (σ.ths.length:Int)),(7,.int .i64 (s.1:Int))]) (fun s=>lsH I64 3 s.2.1 s.2.2 (σ.er.allU g.er.pr s.1)::stP p pp σ::(Zc σ++(q++F))) (fun s=>σ.ths.length - s.1) (fun s hi_ ih=> ?_) (0,none,0) (Nat.zero_le _)) Zd (Le.trans (Ze I64 3 _) leA)
 try dsimp only at hi_ ih⊢
 obtain hi:=hi_
 obtain ⟨s,a1,c1⟩:=s;dsimp only at*
 refine xx 5 ?_;refine X.part 8 rfl (fun h0=> ?_) (fun h0=> ?_)
 · replace h0:=sp h0;have hlt:s<σ.ths.length:=(by omega)
   refine xo 13 ?_;refine Zf call59 leA (Iq (p:=p) (pp:=pp) (σ:=σ) (n:=s) (q:=lsH I64 3 a1 c1 (σ.er.allU g.er.pr s)::(q++F)) hok hN hlt (hTd.le leA)) ?_
   rintro _ _ ⟨rfl,rfl⟩
   refine ox 1 ?_;refine X.part 12 rfl (fun h1=> ?_) (fun h1=> ?_)
   · replace h1:=sp h1
     refine xo 4 ?_;refine XO.ef (Qq (u:=(s:Int)) I64 underlying22 Rh rfl rfl) ?_
     rintro _ _ ⟨g2,rfl,rfl⟩
     refine XO.ef (Yb (f:=I64) (l:=σ.er.allU g.er.pr s) (m:= [(s:Int)]) underlying22 Rh rfl rfl rfl Zk ((Sees.lsH _).le leA) (fun _=>rfl) (by have:=Cy g.er.pr σ.er s;simp;omega) (by have:=Cy g.er.pr σ.er s;simp;omega)) ?_
     rintro _ _ ⟨a2,c2,rfl,rfl⟩
     refine ox 7 ?_
     rw [show σ.er.allU g.er.pr s++ [(s:Int)]=σ.er.allU g.er.pr (s+1) by unfold SS.allU;rw [Cx,if_pos h1]]
     refine X.at (ih (s+1,a2,c2) (by dsimp only;omega) (by dsimp only;omega)) Zd leA
   replace h1:=sp h1
   refine xx 7 ?_
   rw [show σ.er.allU g.er.pr s=σ.er.allU g.er.pr (s+1) by unfold SS.allU;rw [Cx,if_neg (by rw [h1];decide),List.append_nil]]
   refine X.at (ih (s+1,a1,c1) (by dsimp only;omega) (by dsimp only;omega)) Zd leA
 replace h0:=sp h0;obtain rfl:s=σ.ths.length:=(by omega);rw [show σ.er.allU g.er.pr σ.ths.length=σ.er.all g.er.pr by unfold SS.all SS.allU;rw [StC.nth]]
 refine xx 7 ?_;refine Zq (lsH I64 3 a1 c1 (σ.er.all g.er.pr)::stP p pp σ::(Zc σ++q)) func40 (Zg results40 rfl) ⟨_,rfl,a1,c1,rfl,rfl⟩
end
theorem Qe (b:Bool):val (Qh b):=by cases b<;>decide
theorem twoS_v (op a b:Int):val (Wu op a b).1:=by
 unfold Wu
 split;exact Qe _
 split;exact Qe _
 split;exact Qe _
 split;exact Qe _
 split;decide
 have key: ∀ n:Int,val (if val n then (n,(0:Int)) else (0,2)).1:=fun n=>by
  split
  · assumption
  decide
 exact key _
theorem Ew {c:Cn}{lo k n slot op d:Int}{nm:ByteArray}{loc:Bool}{args:List PEx}(h:(PEx.mk k n nm slot loc op args).ask c lo d=true):
 1≤d∧(args.length:Int)=V4 c lo k n slot loc op∧(∀ e∈args,e.ask c lo (d - 1)=true)∧(1≤k∧k≤6)∧(k=1→val n∧args.length=0)∧(k=2→inV c lo slot loc∧args.length=0)∧(k=3→(0≤slot∧slot<c.a)∧args.length=1)∧(k=4∨k=5→args.length=1)∧(k=6→(1≤op∧op≤11)∧args.length=2):=by
 simp only [PEx.ask,Bool.and_eq_true,decide_eq_true_eq] at h
 obtain ⟨⟨h1,h2⟩,h3⟩:=h
 have h4:=Nl.1 h3
 refine ⟨h1,h2,h4,?_⟩
 unfold V4 at h2
 split at h2
 · split at h2
   · rename_i a b;refine ⟨by omega,fun _=>⟨b,by omega⟩,fun _=>by omega,fun _=>by omega,fun _=>by omega,fun _=>by omega⟩
   omega
 split at h2
 · split at h2
   · rename_i a b;unfold V3 inB at b;simp only [decide_eq_true_eq] at b;exact ⟨by omega,fun _=>by omega,fun _=>⟨b,by omega⟩,fun _=>by omega,fun _=>by omega,fun _=>by omega⟩
   omega
 split at h2
 · split at h2
   · rename_i a b;unfold inB at b;simp only [decide_eq_true_eq] at b;exact ⟨by omega,fun _=>by omega,fun _=>by omega,fun _=>⟨b,by omega⟩,fun _=>by omega,fun _=>by omega⟩
   omega
 split at h2
 · exact ⟨by omega,fun _=>by omega,fun _=>by omega,fun _=>by omega,fun _=>by omega,fun _=>by omega⟩
 split at h2
 · split at h2
   · exact ⟨by omega,fun _=>by omega,fun _=>by omega,fun _=>by omega,fun _=>by omega,fun _=>by omega⟩
   omega
 omega
theorem Qs {p:PPr}{cells loc:List Int}: ∀ {l:List PEx} {i:Nat} (h:i<l.length),(Ya p cells loc l).getD i (0,0, [])=(l[i]).made p cells loc
 |e::r,0,_=>by simp [Ya]
 |e::r,i+1,h=>by
  have h2:i<r.length:=by simpa using h
  have:=Qs (p:=p) (cells:=cells) (loc:=loc) h2
  simpa [Ya] using this
theorem Bn {l:List Int}(h: ∀ x∈l,val x)(i:Nat):val (l.getD i 0):=by
 by_cases hi:i<l.length
 · exact h _ (Y7 hi)
 have e:l.getD i 0=0:=by simp [List.getD,List.getElem?_eq_none (show l.length≤i by omega)]
 rw [e];decide
theorem Gg (n:Nat):1≤2 ^ n:=Nat.one_le_two_pow
mutual
theorem Yp {p:PPr}{cells loc:List Int}{c:Cn}{lo:Int}(hc: ∀ x∈cells,val x)(hl: ∀ x∈loc,val x): ∀ {e:PEx} {d:Int},e.ask c lo d=true→val (e.made p cells loc).1∧(e.made p cells loc).2.2.length≤2 ^ d.toNat
 | .mk k n nm slot lc op args,d,h=>by
  obtain ⟨h1,_,h3,hk,k1,k2,k3,k4,k6⟩:=Ew h
  have hm:=N5 hc hl (p:=p) h3
  obtain ⟨D,hD⟩:=Int.eq_ofNat_of_zero_le (show 0≤d - 1 by omega)
  have hd:d.toNat=D+1:=by omega
  have hp:=Gg D
  rw [hd,Nat.pow_succ]
  rw [show (d - 1).toNat=D by omega] at hm
  generalize hms:Ya p cells loc args=ms at hm
  simp only [PEx.made,hms]
  split
  · exact ⟨(k1 (by assumption)).1,by simp⟩
  split
  · split
    · exact ⟨Bn hl _,by simp⟩
    exact ⟨Bn hc _,by simp only [List.length_singleton];omega⟩
  have ha:=hm 0
  have hb:=hm 1
  generalize ms.getD 0 (0,0, [])=a at ha
  generalize ms.getD 1 (0,0, [])=b at hb
  split
  · exact ⟨ha.1,by omega⟩
  split
  · split
    · exact ⟨(by decide:val 0),by dsimp only;omega⟩
    exact ⟨Bn hc _,by dsimp only;rw [List.length_append];simp only [List.length_singleton];omega⟩
  split
  · exact ⟨twoS_v _ _ _,by dsimp only;omega⟩
  split
  · exact ⟨Qe _,by dsimp only;omega⟩
  split
  · exact ⟨Qe _,by dsimp only;omega⟩
  split
  · exact ⟨hb.1,by dsimp only;rw [List.length_append];omega⟩
  split
  · exact ⟨Qe _,by dsimp only;rw [List.length_append];omega⟩
  exact ⟨twoS_v _ _ _,by dsimp only;rw [List.length_append];omega⟩
theorem N5 {p:PPr}{cells loc:List Int}{c:Cn}{lo:Int}(hc: ∀ x∈cells,val x)(hl: ∀ x∈loc,val x): ∀ {l:List PEx} {d:Int},(∀ e∈l,e.ask c lo d=true)→ ∀ i,val ((Ya p cells loc l).getD i (0,0, [])).1∧((Ya p cells loc l).getD i (0,0, [])).2.2.length≤2 ^ d.toNat
 | [],d,_,i=>by simp [Ya];decide
 |e::r,d,h,i=>by
  cases i with
  |zero=>simpa [Ya] using Yp hc hl (h e (List.mem_cons_self ..))
  |succ i=>simpa [Ya] using N5 hc hl (fun x hx=>h x (List.mem_cons_of_mem _ hx)) i
end
theorem Tz {l:List Int}(h: ∀ x∈l,1≤x∧x≤256): ∀ {n:Nat} (_:n<l.length),Wv (l.take n)+l.getD n 0≤Wv l∧0≤Wv (l.take n)
 |n,hn=>by
  have e:l=l.take n++(l[n]::l.drop (n+1)):=by rw [←List.drop_eq_getElem_cons hn,List.take_append_drop]
  have e2:Wv l=Wv (l.take n)+(l[n]+Wv (l.drop (n+1))):=by
   conv=>lhs;rw [e]
   rw [Nw];rfl
  have h1:=(U8 (l:=l.take n) (k:=256) (fun y hy=>by have:=h y (List.mem_of_mem_take hy);omega) (by decide)).1
  have h2:=(U8 (l:=l.drop (n+1)) (k:=256) (fun y hy=>by have:=h y (List.mem_of_mem_drop hy);omega) (by decide)).1
  rw [Wl hn]
  omega
theorem Ej:(prog.info? 140).map (fun i=>(i.zero,i.size,i.bytes))=some (some (.agg #[.int .i64 0,.bool false,.int .i64 0]),3,24):=by kernel_rfl
theorem Cq:(prog.info? 50).map (fun i=>(i.zero,i.size,i.bytes))=some (some (.agg #[.int .i64 0,.int .i64 0,.int .i64 0]),3,24):=by kernel_rfl
def Zx (p pp who:Nat)(σ:StC)(e:EvC):List HP:=spP p pp who σ e::(Zc σ++evL e)
theorem S9 (x:Ac):(acC x).length=3:=rfl
theorem Sw (x:Sn):(snC x).length=3:=rfl
theorem acC_one (x:Ac):(acC x).all (·.oneCell')=true:=rfl
theorem snC_one (x:Sn):(snC x).all (·.oneCell')=true:=rfl
def PEv.ac (e:PEv)(l:List Ac):PEv:= { e with acc:=e.acc++l }
def PEv.sn (e:PEv)(l:List Sn):PEv:= { e with syn:=e.syn++l }
theorem H5 (e:PEv)(a b:List Ac):(e.ac a).ac b=e.ac (a++b):=by unfold PEv.ac;simp
theorem Ma (e:PEv):e.ac []=e:=by unfold PEv.ac;simp
section
variable {G:World}{q:List HP}{p pp who n N:Nat}{g:FC}{σ:StC}{ev:EvC}{k sl ot u:Int}{bb:Bool}
set_option maxHeartbeats 1000000 in
theorem V2 (hl:ev.e.syn.length≤1000000000):CallF prog G 98 [.pointer (some ⟨p,0,none⟩),.int .i64 k,.int .i64 sl,.int .i64 ot] (Zx p pp who σ ev++q) (Ret fun v q'=> ∃ ev':EvC,ev'.e=ev.e.sn [(k,sl,ot)]∧q'=Zx p pp who σ ev'++q):=by
 refine CallF.of func98 ntmps98 rfl (fun F cs=> ?_)
 change X _ _ _ _ _ _ _ _ (pto p (.cells (Yt pp σ++(.int .i64 (who:Int)::evC ev)).toArray 145 (0,0))::lsH I64 2 σ.ca σ.cc σ.cells::yH σ.sp σ.sy::rsH trC 5 116 σ.ha σ.hc σ.ths::stars (σ.ths.map trH)::rsH acC 3 140 ev.aa ev.ac ev.e.acc::rsH snC 3 50 ev.na ev.nc ev.e.syn::(q++F))
 refine xj 6 ?_;refine oo 4 ?_;refine XO.ef (Yj (u:=(k,sl,ot)) snC underlying45 Cq rfl rfl Sw rfl) ?_
 rintro _ _ ⟨g1,rfl,rfl⟩
 refine XO.ef (Yq (f:=snC) (l:=ev.e.syn) (m:= [(k,sl,ot)]) underlying45 Cq rfl rfl Sw rfl rfl Zk ((Sees.rsH _).le leA) snC_one (by simp;omega) (by simp;omega)) ?_
 rintro _ _ ⟨a2,c2,rfl,rfl⟩
 refine oo 3 ?_;refine st ?_;refine ox 1 ?_;refine Z7 (Zx p pp who σ ({ ev with e:=ev.e.sn [(k,sl,ot)],na:=a2,nc:=c2 } :EvC)++q) func98 (Vg results98) ⟨_,rfl,({ ev with e:=ev.e.sn [(k,sl,ot)],na:=a2,nc:=c2 } :EvC),rfl,rfl⟩
set_option maxHeartbeats 1000000 in
theorem Ey (hl:ev.e.acc.length≤1000000000):CallF prog G 192 [.pointer (some ⟨p,0,none⟩),.int .i64 sl,.bool bb,.int .i64 u] (Zx p pp who σ ev++q) (Ret fun v q'=> ∃ ev':EvC,ev'.e=ev.e.ac [(sl,bb,u)]∧q'=Zx p pp who σ ev'++q):=by
 refine CallF.of func192 ntmps192 rfl (fun F cs=> ?_)
 change X _ _ _ _ _ _ _ _ (pto p (.cells (Yt pp σ++(.int .i64 (who:Int)::evC ev)).toArray 145 (0,0))::lsH I64 2 σ.ca σ.cc σ.cells::yH σ.sp σ.sy::rsH trC 5 116 σ.ha σ.hc σ.ths::stars (σ.ths.map trH)::rsH acC 3 140 ev.aa ev.ac ev.e.acc::rsH snC 3 50 ev.na ev.nc ev.e.syn::(q++F))
 refine xj 6 ?_;refine oo 4 ?_;refine XO.ef (Yj (u:=(sl,bb,u)) acC underlying44 Ej rfl rfl S9 rfl) ?_
 rintro _ _ ⟨g1,rfl,rfl⟩
 refine XO.ef (Yq (f:=acC) (l:=ev.e.acc) (m:= [(sl,bb,u)]) underlying44 Ej rfl rfl S9 rfl rfl Zk ((Sees.rsH _).le leA) acC_one (by simp;omega) (by simp;omega)) ?_
 rintro _ _ ⟨a2,c2,rfl,rfl⟩
 refine oo 3 ?_;refine st ?_;refine ox 1 ?_;refine Z7 (Zx p pp who σ ({ ev with e:=ev.e.ac [(sl,bb,u)],aa:=a2,ac:=c2 } :EvC)++q) func192 (Vg results192) ⟨_,rfl,({ ev with e:=ev.e.ac [(sl,bb,u)],aa:=a2,ac:=c2 } :EvC),rfl,rfl⟩
theorem Q4 {ga m c:Nat}(h3:Cl q ⟨p,0+3,none⟩ (.slice (some ⟨ga,0,none⟩) m c))(h8:Cl q ⟨p,8,none⟩ (.int .i64 (who:Int)))(hn:who<m):CallF prog G 95 [.pointer (some ⟨p,0,none⟩)] (q) (Ret fun v q'=>v= .pointer (some ⟨ga,0+(who:Int).toNat*5,none⟩)∧q'=q):=by
 refine CallF.of func95 ntmps95 rfl (fun F cs=> ?_)
 refine xx 5 ?_;refine drw ?_;refine dd [0,1,2,3] ?_;refine ldD 4 ?_ (hc:=(h3.le leA))
 refine dd [5,6,7] ?_;refine ldD 8 ?_ (hc:=(h8.le leA))
 refine dd [9,10] ?_;refine XD.nil ?_;refine Zq (q) func95 (Zg results95 rfl) ⟨_,rfl,rfl,rfl⟩
set_option maxHeartbeats 1000000 in
theorem Sg (hn:n<σ.cells.length)(hl:ev.e.acc.length≤1000000000):CallF prog G 188 [.pointer (some ⟨p,0,none⟩),.int .i64 (n:Int)] (Zx p pp who σ ev++q) (Ret fun v q'=>v= .int .i64 (σ.cells.getD n 0)∧ ∃ ev':EvC,ev'.e=ev.e.ac [((n:Int),false,σ.cells.getD n 0)]∧q'=Zx p pp who σ ev'++q):=by
 refine CallF.of func188 ntmps188 rfl (fun F cs=> ?_)
 change X _ _ _ _ _ _ _ _ (pto p (.cells (Yt pp σ++(.int .i64 (who:Int)::evC ev)).toArray 145 (0,0))::lsH I64 2 σ.ca σ.cc σ.cells::yH σ.sp σ.sy::rsH trC 5 116 σ.ha σ.hc σ.ths::stars (σ.ths.map trH)::rsH acC 3 140 ev.aa ev.ac ev.e.acc::rsH snC 3 50 ev.na ev.nc ev.e.syn::(q++F))
 rw [Wl hn]
 refine V9 (l:=σ.cells) (by omega) (fun gc e_=> ?_)
 have hr: ∀ r,Sees (lsH I64 2 σ.ca σ.cc σ.cells::r) (some ⟨gc,0,none⟩) (σ.cells.map I64):=fun r=>by rw [←e_];exact Sees.lsH r
 refine xj 12 ?_;refine oo 1 ?_;refine XO.know 11 (.slice (some ⟨gc,0,none⟩) σ.cells.length σ.cc) rfl (by rw [←e_]) ?_
 refine oo 1 ?_;refine ld ?_ (hc:=(((hr _).le leA).at (by omega) hn))
 refine Zf call192 leA (Ey (p:=p) (pp:=pp) (who:=who) (σ:=σ) (ev:=ev) (q:=q++F) hl) ?_
 rintro _ _ ⟨ev2,he2,rfl⟩
 change XO _ _ _ _ _ _ _ _ _ _ (pto p (.cells (Yt pp σ++(.int .i64 (who:Int)::evC ev2)).toArray 145 (0,0))::lsH I64 2 σ.ca σ.cc σ.cells::yH σ.sp σ.sy::rsH trC 5 116 σ.ha σ.hc σ.ths::stars (σ.ths.map trH)::rsH acC 3 140 ev2.aa ev2.ac ev2.e.acc::rsH snC 3 50 ev2.na ev2.nc ev2.e.syn::(q++F))
 refine ol 7 ?_;refine oo 1 ?_;refine XO.know 20 (.slice (some ⟨gc,0,none⟩) σ.cells.length σ.cc) rfl (by rw [←e_]) ?_
 refine oo 1 ?_;refine ld ?_ (hc:=(((hr _).le leA).at (by omega) hn))
 refine ox 2 ?_;refine Zq (Zx p pp who σ ev2++q) func188 (Zg results188 rfl) ⟨_,rfl,rfl,ev2,he2,rfl⟩
set_option maxHeartbeats 1000000 in
theorem F5 (hn:n<σ.cells.length)(hl:ev.e.acc.length≤1000000000):CallF prog G 167 [.pointer (some ⟨p,0,none⟩),.int .i64 (n:Int),.int .i64 u] (Zx p pp who σ ev++q) (Ret fun v q'=> ∃ ev':EvC,ev'.e=ev.e.ac [((n:Int),true,u)]∧q'=Zx p pp who ({ σ with cells:=σ.cells.set n u } :StC) ev'++q):=by
 refine CallF.of func167 ntmps167 rfl (fun F cs=> ?_)
 change X _ _ _ _ _ _ _ _ (pto p (.cells (Yt pp σ++(.int .i64 (who:Int)::evC ev)).toArray 145 (0,0))::lsH I64 2 σ.ca σ.cc σ.cells::yH σ.sp σ.sy::rsH trC 5 116 σ.ha σ.hc σ.ths::stars (σ.ths.map trH)::rsH acC 3 140 ev.aa ev.ac ev.e.acc::rsH snC 3 50 ev.na ev.nc ev.e.syn::(q++F))
 refine V9 (l:=σ.cells) (by omega) (fun gc e_=> ?_)
 refine xo 5 ?_;refine Zf call192 leA (Ey (p:=p) (pp:=pp) (who:=who) (σ:=σ) (ev:=ev) (q:=q++F) hl) ?_
 rintro _ _ ⟨ev2,he2,rfl⟩
 change XO _ _ _ _ _ _ _ _ _ _ (pto p (.cells (Yt pp σ++(.int .i64 (who:Int)::evC ev2)).toArray 145 (0,0))::lsH I64 2 σ.ca σ.cc σ.cells::yH σ.sp σ.sy::rsH trC 5 116 σ.ha σ.hc σ.ths::stars (σ.ths.map trH)::rsH acC 3 140 ev2.aa ev2.ac ev2.e.acc::rsH snC 3 50 ev2.na ev2.nc ev2.e.syn::(q++F))
 refine ol 6 ?_;refine oo 2 ?_;refine XO.know 14 (.slice (some ⟨gc,0,none⟩) σ.cells.length σ.cc) rfl (by rw [←e_]) ?_
 refine oo 1 ?_;refine XO.le (q':=lsH I64 2 (some ⟨gc,0,none⟩) σ.cc σ.cells::_) (by rw [←e_];exact Zk) ?_
 refine XO.ef0 (Rt (f:=I64) (l:=σ.cells) (n:=n) (u:=u) rfl rfl sizeOf2 rfl hn rfl rfl Zk) ?_
 rintro _ _ ⟨rfl,rfl⟩
 refine ox 1 ?_
 rw [←e_]
 refine X.le (q':=Zx p pp who ({ σ with cells:=σ.cells.set n u } :StC) ev2++(q++F)) (by unfold Zx spP Yt Zc;simp only [List.length_set];exact leA) ?_
 refine Z7 (Zx p pp who ({ σ with cells:=σ.cells.set n u } :StC) ev2++q) func167 (Vg results167) ⟨_,rfl,ev2,he2,rfl⟩ (by rw [List.append_assoc];exact Le.refl _)
end
theorem Sv.cap {α:Type}{q:List HP}{f:α→List Value}{x:Sv α}{G w:World}(h:Kn q fun M=>x.At M f)(s:St G w q):x.l.length≤x.c:=h.fact (fun M h=>h.1) s
section
variable {G:World}{q:List HP}{p pp who n N:Nat}{g:FC}{σ:StC}{ev:EvC}{k sl ot u:Int}{bb:Bool}
set_option maxHeartbeats 2000000 in
theorem Gh (hP:Prg q pp g)(hM:MayP g.er)(hn:n<g.arrs.l.length)(hu:val u):CallF prog G 168 [.pointer (some ⟨p,0,none⟩),.int .i64 (n:Int),.int .i64 u] (Zx p pp who σ ev++q) (RP (fun v q'=>(0≤g.er.pr.cell n u∧v= .int .i64 (g.er.pr.cell n u))∧q'=Zx p pp who σ ev++q) (fun ch q'=>(g.er.pr.cell n u<0∧ch= [Vp 3])∧q'=Zx p pp who σ ev++q)):=by
 refine CallF.of func168 ntmps168 rfl (fun F cs=> ?_)
 change X _ _ _ _ _ _ _ _ (pto p (.cells (Yt pp σ++(.int .i64 (who:Int)::evC ev)).toArray 145 (0,0))::lsH I64 2 σ.ca σ.cc σ.cells::yH σ.sp σ.sy::rsH trC 5 116 σ.ha σ.hc σ.ths::stars (σ.ths.map trH)::rsH acC 3 140 ev.aa ev.ac ev.e.acc::rsH snC 3 50 ev.na ev.nc ev.e.syn::(q++F))
 have hp2:CellsAt q pp 0 [.slice g.vars.a g.vars.l.length g.vars.c,.slice g.arrs.a g.arrs.l.length g.arrs.c,.int .i64 g.mu,.int .i64 g.co,.slice g.chs.a g.chs.l.length g.chs.c,.slice g.ths.a g.ths.l.length g.ths.c,.int .i64 g.main,.int .i64 g.stm]:=fun k v hk=>hP.hp k v (by revert hk;match k with|0|1|2|3|4|5|6|7=>exact fun h=>h|(k+8)=>intro h;cases h)
 have hA:=Sv.sees (hP.hK.imp fun M h=>h.arrs);rw [U3] at hA;have hal:g.arrs.l.length≤64:=hM.l.2.1;have hvl:g.vars.l.length≤64:=hM.l.1;have hu2:=hu;unfold val at hu2
 have ha: ∀ n∈g.arrs.l,1≤n∧n≤256:=hM.a;have hss:Wv g.arrs.l≤256:=hM.s;have han:=ha _ (List.getElem_mem hn);have hst:=Tz ha hn;rw [Wl hn] at hst
 obtain ⟨R,hR⟩: ∃ R,R=g.er.pr.cell n u:=⟨_,rfl⟩;rw [←hR];unfold PPr.cell at hR;rw [show ((n:Int)).toNat=n from rfl,show g.er.pr.arrs=g.arrs.l from rfl,show g.er.pr.vars=g.vars.l from rfl,Wl hn] at hR
 refine X.fact (fun w s=>Sv.cap ((hP.hK.imp fun M h=>h.arrs).le leA) s) (fun hcap=> ?_)
 refine Yx (hA.le leA) (by simp;omega) (fun ab ao e_=> ?_);have hs_:=hA;have hp3:=hp2;rw [e_] at hs_ hp3
 refine xo 10 ?_;refine Zm [12,6,0,1,2] ?_
 apply Zb 14 26 12 rfl
 · intro g10 M10;have c10:=sp g10
   refine ol 5 ?_;refine oo 2 ?_;refine ld ?_ (hc:=((hp3.le leA) 1 _ rfl))
   refine oo 2 ?_;refine ld ?_ (hc:=((hs_.le leA).at rfl hn))
   refine oo 2 ?_;exact Zz M10 ⟨orF g10,Zw⟩
 · intro g10 M10;have c10:=sp g10
   refine oo 14 ?_;exact Zz M10 ⟨orT g10,Zw⟩
 refine ox 1 ?_;refine X.part 26 rfl (fun h1=> ?_) (fun h1=> ?_)
 · replace h1:=sp h1;have hR1:R= -1:=(by rw [hR,if_neg (by first|omega|(simp at h1;omega))])
   refine xo 2 ?_;refine Vh call169 (Le.refl _) (Kf (z:=3)) ?_ ?_
   · rintro _ _ ⟨rfl,rfl⟩
     exact FQ.panic func168 (RP.thr ⟨⟨by omega,rfl⟩,rfl⟩)
   rintro _ _ ⟨⟩
 replace h1:=sp h1;have hin:0≤u∧u<g.arrs.l[n]:=(by first|omega|(simp at h1;omega));rw [if_pos hin] at hR
 refine xj 8 ?_;refine oo 2 ?_;refine ld ?_ (hc:=((hp3.le leA) 0 _ rfl))
 refine ol 12 ?_;refine oo 2 ?_;refine ld ?_ (hc:=((hp3.le leA) 1 _ rfl))
 refine ox 6 ?_;refine X.know 7 (.int .i64 (g.vars.l.length+u+Wv (g.arrs.l.take 0))) rfl (by simp [Wv]) ?_
 refine X.at (X.loop (fun (s:Nat)=>s≤n) (fun s=> [(7,.int .i64 (g.vars.l.length+u+Wv (g.arrs.l.take s))),(48,.slice (some ⟨ab,ao,none⟩) (n:Int).toNat g.arrs.c),(49,.int .i64 (n:Int)),(50,.int .i64 (s:Int))]) (fun s=>pto p (.cells (Yt pp σ++(.int .i64 (who:Int)::evC ev)).toArray 145 (0,0))::lsH I64 2 σ.ca σ.cc σ.cells::yH σ.sp σ.sy::rsH trC 5 116 σ.ha σ.hc σ.ths::stars (σ.ths.map trH)::rsH acC 3 140 ev.aa ev.ac ev.e.acc::rsH snC 3 50 ev.na ev.nc ev.e.syn::(q++F)) (fun s=>n - s) (fun s hi_ ih=> ?_) 0 (Nat.zero_le _)) Zd leA
 try dsimp only at hi_ ih⊢
 obtain hi:=hi_
 refine xx 5 ?_;refine X.part 51 rfl (fun h0=> ?_) (fun h0=> ?_)
 · replace h0:=sp h0;have hlt:s<g.arrs.l.length:=(by omega)
   refine xo 7 ?_;refine ld ?_ (hc:=((hs_.le leA).at rfl hlt))
   have hx:=ha _ (List.getElem_mem hlt);have hsn:Wv (g.arrs.l.take (s+1))=Wv (g.arrs.l.take s)+g.arrs.l[s]:=by rw [List.take_succ_eq_append_getElem hlt,Nw];simp [Wv]
   have hsl:=U8 (l:=g.arrs.l.take s) (k:=256) (fun y hy=>by have:=ha y (List.mem_of_mem_take hy);omega) (by decide);rw [List.length_take] at hsl;have hmn:((min s g.arrs.l.length:Nat):Int)=s:=(by omega);rw [hmn] at hsl
   refine ox 13 ?_
   rw [show (g.vars.l.length:Int)+u+Wv (g.arrs.l.take s)+g.arrs.l[s]=g.vars.l.length+u+Wv (g.arrs.l.take (s+1)) by rw [hsn];omega]
   refine X.at (ih (s+1) (by omega) (by omega)) Zd leA
 replace h0:=sp h0;obtain rfl:s=n:=(by omega)
 refine xx 7 ?_;refine Zq (Zx p pp who σ ev++q) func168 (Zg results168 rfl) (RP.ret ⟨⟨by omega,by rw [hR];congr 1;omega⟩,rfl⟩)
variable {hwho:who<σ.ths.length}
set_option maxHeartbeats 8000000 in
theorem Qo: ∀ (N:Nat) {e:Ex} {b o:Nat} {d:Int} {ev:EvC} {q:List HP},e.sz≤N→True→d≤24→e.er.ask g.er.cn σ.ths[who].loc.length d=true→ev.e.acc.length+2 ^ d.toNat≤100000000→(Kn q fun M=>ExAt M ⟨b,o,none⟩ e)→Prg q pp g→MayP g.er→(σ.cells.length:Int)=g.vars.l.length+Wv g.arrs.l→(∀ x∈σ.cells,val x)→(∀ x∈σ.ths[who].loc,val x)→CallF prog G 166 [.pointer (some ⟨p,0,none⟩),.pointer (some ⟨b,o,none⟩)] (Zx p pp who σ ev++q) (RP (fun v q'=>((e.er).made g.er.pr σ.cells σ.ths[who].loc).2.1=0∧v= .int .i64 ((e.er).made g.er.pr σ.cells σ.ths[who].loc).1∧ ∃ ev':EvC,ev'.e=ev.e.ac ((e.er).made g.er.pr σ.cells σ.ths[who].loc).2.2∧q'=Zx p pp who σ ev'++q) (fun ch q'=>((e.er).made g.er.pr σ.cells σ.ths[who].loc).2.1≠0∧ch= [Vp ((e.er).made g.er.pr σ.cells σ.ths[who].loc).2.1]∧ ∃ ev':EvC,ev'.e=ev.e.ac ((e.er).made g.er.pr σ.cells σ.ths[who].loc).2.2∧q'=Zx p pp who σ ev'++q)):=fun N=>by
 induction N with
 |zero=>intro e b o d ev q hs;exact absurd hs (by cases e;simp only [Ex.sz];omega)
 |succ N IH=> 
 intro e b o d ev q hs hN hd ha hbd hK hP hM hcl hcv hlv
 obtain ⟨ek,en,enm,esl,elo,eop,el,ea,ec⟩:=e
 refine CallF.of func166 ntmps166 rfl (fun F cs=> ?_)
 have hCe:=Kn.exC hK;have hA:Kn q fun M=>SlAt M ea ec el.length (el.flatMap exC)∧Ex.Ats M el:=hK.imp fun M h=>h.2;have hS:=Kn.sees (hA.imp fun M h=>h.1.2.2);have hlen:=Zv Z4 el
 simp only [Ex.er] at ha;obtain ⟨h1,_,h3,hk,k1,k2,k3,k4,k6⟩:=Ew ha;rw [W8] at k1 k2 k3 k4 k6;rw [Yg] at h3
 obtain ⟨M,hMM⟩: ∃ M,M=(Ex.er (Ex.mk ek en enm esl elo eop el ea ec)).made g.er.pr σ.cells σ.ths[who].loc:=⟨_,rfl⟩;rw [←hMM];simp only [Ex.er,PEx.made] at hMM
 obtain ⟨D,hD⟩:=Int.eq_ofNat_of_zero_le (show 0≤d - 1 by omega);have hdt:d.toNat=D+1:=(by omega);have hdt2:(d - 1).toNat=D:=(by omega);have hp2_:=Gg D;rw [hdt,Nat.pow_succ] at hbd
 change X _ _ _ _ _ _ _ _ (pto p (.cells (Yt pp σ++(.int .i64 (who:Int)::evC ev)).toArray 145 (0,0))::lsH I64 2 σ.ca σ.cc σ.cells::yH σ.sp σ.sy::rsH trC 5 116 σ.ha σ.hc σ.ths::stars (σ.ths.map trH)::rsH acC 3 140 ev.aa ev.ac ev.e.acc::rsH snC 3 50 ev.na ev.nc ev.e.syn::(q++F))
 have hcase:ek=1∨ek=2∨ek=3∨ek=4∨ek=5∨ek=6:=(by omega)
 rcases hcase with rfl|rfl|rfl|rfl|rfl|rfl
 · rw [if_pos rfl] at hMM
   refine xo 10 ?_;refine ld ?_ (hc:=((hCe.le leA) 0 _ rfl))
   refine ox 7 ?_;refine X.kt 10 ?_;refine xo 6 ?_;refine ld ?_ (hc:=((hCe.le leA) 1 _ rfl))
   refine ox 2 ?_;refine Zq (Zx p pp who σ ev++q) func166 (Zg results166 rfl) (RP.ret (by rw [hMM];exact ⟨rfl,rfl,ev,(Ma _).symm,rfl⟩))
 · rw [if_neg (by decide),if_pos rfl] at hMM
   refine Yz (l:=σ.ths) (by omega) (fun ga e_=> ?_)
   have hr: ∀ r,Sees (rsH trC 5 116 σ.ha σ.hc σ.ths::r) (some ⟨ga,0,none⟩) (σ.ths.flatMap trC):=fun r=>by rw [←e_];exact Sees.rsH r
   have hin:=(k2 rfl).1;unfold inV at hin
   refine xo 10 ?_;refine ld ?_ (hc:=((hCe.le leA) 0 _ rfl))
   refine ox 7 ?_;refine kx 10 6 ?_;refine X.kt 16 ?_;refine xo 7 ?_;refine ld ?_ (hc:=((hCe.le leA) 4 _ rfl))
   refine ox 1 ?_;refine X.part 21 rfl (fun h5=> ?_) (fun h5=> ?_)
   · replace h5:=sp h5;rw [if_pos h5] at hMM;rw [if_pos h5] at hin;obtain ⟨Sn_,hSn⟩:=Int.eq_ofNat_of_zero_le hin.1;have hslt:Sn_<σ.ths[who].loc.length:=(by omega)
     rw [hSn,show ((Sn_:Int)).toNat=Sn_ from rfl,Wl hslt] at hMM;have hsl0:=fun q:List HP=>H3 (q:=q) hwho;refine Yx ((hsl0 _).le leA) (by simp;omega) (fun lb lo_ e2_=> ?_);have hsl_:=fun q:List HP=>(H3 (q:=q) hwho);rw [e2_] at hsl_
     refine xx 2 ?_;refine drw ?_;refine dd [0,5,6,7] ?_;refine ldD 8 ?_ (hc:=((hCe.le leA) 3 _ rfl))
     refine Ym 1 call95 (Q4 (p:=p) (who:=who) (ga:=ga) (m:=σ.ths.length) (c:=σ.hc) (by rw [←e_];exact clA) clA hwho) ?_ (hL:=(hlA (h:=by repeat first|exact trivial|refine ⟨clA,?_⟩|refine ⟨((hCe.le leA) 3 _ rfl),?_⟩|refine ⟨((hCe.le leA) 5 _ rfl),?_⟩|refine ⟨((hCe.le leA) 6 _ rfl),?_⟩|refine ⟨(Cl.row (n:=who) (hr _) leA Zy hwho rfl 2 _ rfl),?_⟩)))
     refine dd [2,3] ?_;refine ldD 4 ?_ (hc:=(Cl.row (n:=who) (hr _) leA Zy hwho rfl 2 _ rfl))
     refine XD.know 26 (.slice (some ⟨lb,lo_,none⟩) σ.ths[who].loc.length σ.ths[who].lc) rfl (by rw [←e2_]) ?_
     refine XD.know 30 (.int .i64 (Sn_:Int)) rfl (by rw [←hSn]) ?_
     refine dd [9] ?_;refine ldD 10 ?_ (hc:=(((hsl_ _).le leA).at rfl hslt))
     refine dd [11] ?_;refine XD.nil ?_;refine Zq (Zx p pp who σ ev++q) func166 (Zg results166 rfl) (RP.ret (by rw [hMM];exact ⟨rfl,rfl,ev,(Ma _).symm,rfl⟩))
   replace h5:=sp h5;rw [if_neg (by rw [h5];decide)] at hMM;rw [if_neg (by rw [h5];decide)] at hin;obtain ⟨Cn_,hSn⟩:=Int.eq_ofNat_of_zero_le hin.1;have hcn:Cn_<σ.cells.length:=(by have:=U8 (l:=g.arrs.l) (k:=256) (fun y hy=>by have:=hM.a y hy;omega) (by decide);have:=hin.2;rw [Nr] at this;omega)
   rw [hSn,show ((Cn_:Int)).toNat=Cn_ from rfl] at hMM
   refine xo 8 ?_;refine ld ?_ (hc:=((hCe.le leA) 3 _ rfl))
   refine XO.know 37 (.int .i64 (Cn_:Int)) rfl (by rw [←hSn]) ?_
   refine Zf call188 leA (Sg (p:=p) (pp:=pp) (who:=who) (σ:=σ) (ev:=ev) (n:=Cn_) (q:=q++F) hcn (by omega)) ?_
   rintro _ _ ⟨rfl,ev2,he2,eq_⟩;simp only [Zx,spP,Zc,evL,ca,na] at eq_;subst eq_
   change XO _ _ _ _ _ _ _ _ _ _ (pto p (.cells (Yt pp σ++(.int .i64 (who:Int)::evC ev2)).toArray 145 (0,0))::lsH I64 2 σ.ca σ.cc σ.cells::yH σ.sp σ.sy::rsH trC 5 116 σ.ha σ.hc σ.ths::stars (σ.ths.map trH)::rsH acC 3 140 ev2.aa ev2.ac ev2.e.acc::rsH snC 3 50 ev2.na ev2.nc ev2.e.syn::(q++F))
   refine ox 2 ?_;refine Zq (Zx p pp who σ ev2++q) func166 (Zg results166 rfl) (RP.ret (by rw [hMM];exact ⟨rfl,rfl,ev2,he2,rfl⟩))
 · have hl1:=(k3 rfl).2
   refine Yx (hS.le leA) (by rw [hlen];omega) (fun ab ao e_=> ?_);subst e_
   have hKa0:Kn q fun M=>ExAt M ⟨ab,ao+(0:Int).toNat*7,none⟩ el[0]:=hK.imp fun M h=>by
    obtain ⟨b',o',e1,e2⟩:=SeesZ.row (i:=0) Z4 (by decide) h.2.1.2.2 (by omega)
    cases e1
    exact ⟨e2,Y4.1 h.2.2 _ (List.getElem_mem _)⟩
   have haa0:(el[0]).er.ask g.er.cn σ.ths[who].loc.length (d - 1)=true:=h3 _ (List.mem_map_of_mem (List.getElem_mem _));have hz0:(el[0]).sz≤N:=by have:=Vk (List.getElem_mem (show 0<el.length by omega));simp only [Ex.sz] at hs;omega
   obtain ⟨A0,hA0⟩: ∃ A,A=((el[0]).er).made g.er.pr σ.cells σ.ths[who].loc:=⟨_,rfl⟩;have hg0:(Ya g.er.pr σ.cells σ.ths[who].loc (Z3 el)).getD 0 (0,0, [])=A0:=by rw [hA0,Qs (by rw [W8];omega)];simp only [Yg,List.getElem_map]
   have hok0:=Yp (p:=g.er.pr) hcv hlv haa0;rw [←hA0,hdt2] at hok0;have hv0: -2147483648≤A0.1∧A0.1≤2147483647:=hok0.1
   rw [if_neg (by decide),if_neg (by decide),hg0] at hMM
   skip
   refine xo 10 ?_;refine ld ?_ (hc:=((hCe.le leA) 0 _ rfl))
   refine ox 7 ?_;refine kx 10 6 ?_;refine kx 16 6 ?_;refine X.kt 39 ?_;refine xx 2 ?_;refine drw ?_;refine dd [0,1,2,3,4] ?_;refine ldD 5 ?_ (hc:=((hCe.le leA) 3 _ rfl))
   refine dd [6,7,8,9] ?_;refine ldD 10 ?_ (hc:=((hCe.le leA) 6 _ rfl))
   refine dd [11] ?_;refine Eb 12 call166 leA (IH (e:=el[0]) (d:=d - 1) (b:=ab) (o:=ao+(0:Int).toNat*7) (ev:=ev) (q:=q++F) hz0 trivial (by omega) haa0 (by rw [hdt2];omega) (hKa0.le leA) (hP.le leA) hM hcl hcv hlv) ?_ ?_ trivial
   · rintro _ _ ⟨ht,rfl,ev9,he_,rfl⟩
     exact FQ.panic func166 (RP.thr (by rw [←hA0] at ht he_⊢;rw [if_pos ht] at hMM;rw [hMM];exact ⟨ht,rfl,ev9,he_,rfl⟩)) (by rw [List.append_assoc];exact Le.refl _)
   rintro _ _ ⟨ht0,rfl,ev2,he2,eq_⟩;simp only [Zx,spP,Zc,evL,ca,na] at eq_;subst eq_
   refine ⟨(hlA (h:=by repeat first|exact trivial|refine ⟨clA,?_⟩|refine ⟨((hCe.le leA) 3 _ rfl),?_⟩|refine ⟨((hCe.le leA) 5 _ rfl),?_⟩|refine ⟨((hCe.le leA) 6 _ rfl),?_⟩)),?_⟩
   rw [←hA0] at ht0 he2⊢
   rw [if_neg (fun k=>k ht0),if_pos rfl] at hMM
   obtain ⟨An,hAn⟩:=Int.eq_ofNat_of_zero_le (k3 rfl).1.1;have hAl:An<g.arrs.l.length:=by have:=(k3 rfl).1.2;rw [Ni] at this;omega
   refine XD.know 46 (.int .i64 (An:Int)) rfl (by rw [hAn]) ?_
   rw [hAn] at hMM
   refine Eb 13 call168 leA (Gh (p:=p) (pp:=pp) (who:=who) (σ:=σ) (ev:=ev2) (n:=An) (u:=A0.1) (q:=q++F) (hP.le leA) hM hAl hok0.1) ?_ ?_ trivial
   · rintro _ _ ⟨⟨hneg,rfl⟩,rfl⟩
     exact FQ.panic func166 (RP.thr (by rw [if_pos hneg] at hMM;rw [hMM];exact ⟨(show (3:Int)≠0 by decide),rfl,ev2,he2,rfl⟩)) (by rw [List.append_assoc];exact Le.refl _)
   rintro _ _ ⟨⟨hpos,rfl⟩,eq_⟩;simp only [Zx,spP,Zc,evL,ca,na] at eq_;subst eq_
   refine ⟨(hlA (h:=by repeat first|exact trivial|refine ⟨clA,?_⟩|refine ⟨((hCe.le leA) 3 _ rfl),?_⟩|refine ⟨((hCe.le leA) 5 _ rfl),?_⟩|refine ⟨((hCe.le leA) 6 _ rfl),?_⟩)),?_⟩
   rw [if_neg (by omega)] at hMM;obtain ⟨Cn_,hCn⟩:=Int.eq_ofNat_of_zero_le hpos
   refine XD.know 54 (.int .i64 (Cn_:Int)) rfl (by rw [hCn]) ?_
   have hcn:Cn_<σ.cells.length:=by
    have hx:=hCn;unfold PPr.cell at hx;rw [show g.er.pr.arrs=g.arrs.l from rfl,show g.er.pr.vars=g.vars.l from rfl,show ((An:Int)).toNat=An from rfl] at hx
    have hst:=Tz (l:=g.arrs.l) hM.a hAl
    split at hx<;>omega
   rw [hCn,show ((Cn_:Int)).toNat=Cn_ from rfl] at hMM
   refine Y5 14 call188 leA (Sg (p:=p) (pp:=pp) (who:=who) (σ:=σ) (ev:=ev2) (n:=Cn_) (q:=q++F) hcn (by rw [he2];unfold PEv.ac;simp only [List.length_append];omega)) ?_
   rintro _ _ ⟨rfl,ev3,he3,eq_⟩;simp only [Zx,spP,Zc,evL,ca,na] at eq_;subst eq_
   refine ⟨(hlA (h:=by repeat first|exact trivial|refine ⟨clA,?_⟩|refine ⟨((hCe.le leA) 3 _ rfl),?_⟩|refine ⟨((hCe.le leA) 5 _ rfl),?_⟩|refine ⟨((hCe.le leA) 6 _ rfl),?_⟩)),?_⟩
   refine dd [15] ?_;refine XD.nil ?_;refine Zq (Zx p pp who σ ev3++q) func166 (Zg results166 rfl) (RP.ret (by rw [hMM];exact ⟨rfl,rfl,ev3,by rw [he3,he2,H5],rfl⟩))
 · have hl1:=k4 (.inl rfl)
   refine Yx (hS.le leA) (by rw [hlen];omega) (fun ab ao e_=> ?_);subst e_
   have hKa0:Kn q fun M=>ExAt M ⟨ab,ao+(0:Int).toNat*7,none⟩ el[0]:=hK.imp fun M h=>by
    obtain ⟨b',o',e1,e2⟩:=SeesZ.row (i:=0) Z4 (by decide) h.2.1.2.2 (by omega)
    cases e1
    exact ⟨e2,Y4.1 h.2.2 _ (List.getElem_mem _)⟩
   have haa0:(el[0]).er.ask g.er.cn σ.ths[who].loc.length (d - 1)=true:=h3 _ (List.mem_map_of_mem (List.getElem_mem _));have hz0:(el[0]).sz≤N:=by have:=Vk (List.getElem_mem (show 0<el.length by omega));simp only [Ex.sz] at hs;omega
   obtain ⟨A0,hA0⟩: ∃ A,A=((el[0]).er).made g.er.pr σ.cells σ.ths[who].loc:=⟨_,rfl⟩;have hg0:(Ya g.er.pr σ.cells σ.ths[who].loc (Z3 el)).getD 0 (0,0, [])=A0:=by rw [hA0,Qs (by rw [W8];omega)];simp only [Yg,List.getElem_map]
   have hok0:=Yp (p:=g.er.pr) hcv hlv haa0;rw [←hA0,hdt2] at hok0;have hv0: -2147483648≤A0.1∧A0.1≤2147483647:=hok0.1
   rw [if_neg (by decide),if_neg (by decide),hg0] at hMM
   have htw:Wu 8 0 A0.1=if val (-A0.1) then (-A0.1,0) else (0,2):=by unfold Wu;rw [if_neg (by decide),if_neg (by decide),if_neg (by decide),if_neg (by decide),if_neg (by rintro ⟨h|h,_⟩<;>exact absurd h (by decide))];dsimp only;rw [if_neg (show ¬ (8:Int)=7 by decide),if_pos rfl,Int.zero_sub]
   refine xo 10 ?_;refine ld ?_ (hc:=((hCe.le leA) 0 _ rfl))
   refine ox 7 ?_;refine kx 10 6 ?_;refine kx 16 6 ?_;refine kx 39 6 ?_;refine X.kt 56 ?_;refine xo 7 ?_;refine ld ?_ (hc:=((hCe.le leA) 6 _ rfl))
   refine oo 1 ?_;refine Vh call166 leA (IH (e:=el[0]) (d:=d - 1) (b:=ab) (o:=ao+(0:Int).toNat*7) (ev:=ev) (q:=q++F) hz0 trivial (by omega) haa0 (by rw [hdt2];omega) (hKa0.le leA) (hP.le leA) hM hcl hcv hlv) ?_ ?_
   · rintro _ _ ⟨ht,rfl,ev9,he_,rfl⟩
     exact FQ.panic func166 (RP.thr (by rw [←hA0] at ht he_⊢;rw [if_pos ht] at hMM;rw [hMM];exact ⟨ht,rfl,ev9,he_,rfl⟩)) (by rw [List.append_assoc];exact Le.refl _)
   rintro _ _ ⟨ht0,rfl,ev2,he2,eq_⟩;simp only [Zx,spP,Zc,evL,ca,na] at eq_;subst eq_
   rw [←hA0] at ht0 he2⊢
   change XO _ _ _ _ _ _ _ _ _ _ (pto p (.cells (Yt pp σ++(.int .i64 (who:Int)::evC ev2)).toArray 145 (0,0))::lsH I64 2 σ.ca σ.cc σ.cells::yH σ.sp σ.sy::rsH trC 5 116 σ.ha σ.hc σ.ths::stars (σ.ths.map trH)::rsH acC 3 140 ev2.aa ev2.ac ev2.e.acc::rsH snC 3 50 ev2.na ev2.nc ev2.e.syn::(q++F))
   rw [if_neg (fun k=>k ht0),if_neg (by decide),if_pos rfl] at hMM
   refine oo 1 ?_;refine XO.know 65 (.int .i64 (-A0.1)) rfl (congrArg (Value.int .i64) (show IntKind.i64.wrap (0 - A0.1)= -A0.1 by rw [Int.zero_sub];exact Uk (by omega) (by omega))) ?_
   refine Vh call189 (Le.refl _) (J0 (z:= -A0.1) (q:=pto p (.cells (Yt pp σ++(.int .i64 (who:Int)::evC ev2)).toArray 145 (0,0))::lsH I64 2 σ.ca σ.cc σ.cells::yH σ.sp σ.sy::rsH trC 5 116 σ.ha σ.hc σ.ths::stars (σ.ths.map trH)::rsH acC 3 140 ev2.aa ev2.ac ev2.e.acc::rsH snC 3 50 ev2.na ev2.nc ev2.e.syn::(q++F))) ?_ ?_
   · rintro _ _ ⟨⟨hn_,rfl⟩,rfl⟩
     exact FQ.panic func166 (RP.thr (by rw [htw,if_neg hn_] at hMM;rw [hMM];exact ⟨(show (2:Int)≠0 by decide),rfl,ev2,he2,rfl⟩)) leA
   rintro _ _ ⟨⟨hw_,rfl⟩,rfl⟩
   refine ox 2 ?_;refine Zq (Zx p pp who σ ev2++q) func166 (Zg results166 rfl) (RP.ret (by rw [htw,if_pos hw_] at hMM;rw [hMM];exact ⟨rfl,rfl,ev2,he2,rfl⟩))
 · have hl1:=k4 (.inr rfl)
   refine Yx (hS.le leA) (by rw [hlen];omega) (fun ab ao e_=> ?_);subst e_
   have hKa0:Kn q fun M=>ExAt M ⟨ab,ao+(0:Int).toNat*7,none⟩ el[0]:=hK.imp fun M h=>by
    obtain ⟨b',o',e1,e2⟩:=SeesZ.row (i:=0) Z4 (by decide) h.2.1.2.2 (by omega)
    cases e1
    exact ⟨e2,Y4.1 h.2.2 _ (List.getElem_mem _)⟩
   have haa0:(el[0]).er.ask g.er.cn σ.ths[who].loc.length (d - 1)=true:=h3 _ (List.mem_map_of_mem (List.getElem_mem _));have hz0:(el[0]).sz≤N:=by have:=Vk (List.getElem_mem (show 0<el.length by omega));simp only [Ex.sz] at hs;omega
   obtain ⟨A0,hA0⟩: ∃ A,A=((el[0]).er).made g.er.pr σ.cells σ.ths[who].loc:=⟨_,rfl⟩;have hg0:(Ya g.er.pr σ.cells σ.ths[who].loc (Z3 el)).getD 0 (0,0, [])=A0:=by rw [hA0,Qs (by rw [W8];omega)];simp only [Yg,List.getElem_map]
   have hok0:=Yp (p:=g.er.pr) hcv hlv haa0;rw [←hA0,hdt2] at hok0;have hv0: -2147483648≤A0.1∧A0.1≤2147483647:=hok0.1
   rw [if_neg (by decide),if_neg (by decide),hg0] at hMM
   refine xo 10 ?_;refine ld ?_ (hc:=((hCe.le leA) 0 _ rfl))
   refine ox 7 ?_;refine kx 10 6 ?_;refine kx 16 6 ?_;refine kx 39 6 ?_;refine kx 56 6 ?_;refine X.kt 67 ?_;refine xo 7 ?_;refine ld ?_ (hc:=((hCe.le leA) 6 _ rfl))
   refine oo 1 ?_;refine Vh call166 leA (IH (e:=el[0]) (d:=d - 1) (b:=ab) (o:=ao+(0:Int).toNat*7) (ev:=ev) (q:=q++F) hz0 trivial (by omega) haa0 (by rw [hdt2];omega) (hKa0.le leA) (hP.le leA) hM hcl hcv hlv) ?_ ?_
   · rintro _ _ ⟨ht,rfl,ev9,he_,rfl⟩
     exact FQ.panic func166 (RP.thr (by rw [←hA0] at ht he_⊢;rw [if_pos ht] at hMM;rw [hMM];exact ⟨ht,rfl,ev9,he_,rfl⟩)) (by rw [List.append_assoc];exact Le.refl _)
   rintro _ _ ⟨ht0,rfl,ev2,he2,eq_⟩;simp only [Zx,spP,Zc,evL,ca,na] at eq_;subst eq_
   rw [←hA0] at ht0 he2⊢
   change XO _ _ _ _ _ _ _ _ _ _ (pto p (.cells (Yt pp σ++(.int .i64 (who:Int)::evC ev2)).toArray 145 (0,0))::lsH I64 2 σ.ca σ.cc σ.cells::yH σ.sp σ.sy::rsH trC 5 116 σ.ha σ.hc σ.ths::stars (σ.ths.map trH)::rsH acC 3 140 ev2.aa ev2.ac ev2.e.acc::rsH snC 3 50 ev2.na ev2.nc ev2.e.syn::(q++F))
   rw [if_neg (fun k=>k ht0),if_neg (by decide),if_neg (by decide),if_pos rfl] at hMM
   refine oo 1 ?_;refine XO.cR call190 (Uo) ?_;refine ox 2 ?_;refine Zq (Zx p pp who σ ev2++q) func166 (Zg results166 rfl) (RP.ret (by rw [hMM];exact ⟨rfl,by first|rfl|(congr 2;done)|(congr 2;rw [Bool.eq_iff_iff];simp),ev2,he2,rfl⟩))
 have hl1:=(k6 rfl).2
 refine Yx (hS.le leA) (by rw [hlen];omega) (fun ab ao e_=> ?_);subst e_
 have hKa0:Kn q fun M=>ExAt M ⟨ab,ao+(0:Int).toNat*7,none⟩ el[0]:=hK.imp fun M h=>by
  obtain ⟨b',o',e1,e2⟩:=SeesZ.row (i:=0) Z4 (by decide) h.2.1.2.2 (by omega)
  cases e1
  exact ⟨e2,Y4.1 h.2.2 _ (List.getElem_mem _)⟩
 have haa0:(el[0]).er.ask g.er.cn σ.ths[who].loc.length (d - 1)=true:=h3 _ (List.mem_map_of_mem (List.getElem_mem _));have hz0:(el[0]).sz≤N:=by have:=Vk (List.getElem_mem (show 0<el.length by omega));simp only [Ex.sz] at hs;omega
 obtain ⟨A0,hA0⟩: ∃ A,A=((el[0]).er).made g.er.pr σ.cells σ.ths[who].loc:=⟨_,rfl⟩;have hg0:(Ya g.er.pr σ.cells σ.ths[who].loc (Z3 el)).getD 0 (0,0, [])=A0:=by rw [hA0,Qs (by rw [W8];omega)];simp only [Yg,List.getElem_map]
 have hok0:=Yp (p:=g.er.pr) hcv hlv haa0;rw [←hA0,hdt2] at hok0;have hv0: -2147483648≤A0.1∧A0.1≤2147483647:=hok0.1
 have hKa1:Kn q fun M=>ExAt M ⟨ab,ao+(1:Int).toNat*7,none⟩ el[1]:=hK.imp fun M h=>by
  obtain ⟨b',o',e1,e2⟩:=SeesZ.row (i:=1) Z4 (by decide) h.2.1.2.2 (by omega)
  cases e1
  exact ⟨e2,Y4.1 h.2.2 _ (List.getElem_mem _)⟩
 have haa1:(el[1]).er.ask g.er.cn σ.ths[who].loc.length (d - 1)=true:=h3 _ (List.mem_map_of_mem (List.getElem_mem _));have hz1:(el[1]).sz≤N:=by have:=Vk (List.getElem_mem (show 1<el.length by omega));simp only [Ex.sz] at hs;omega
 obtain ⟨A1,hA1⟩: ∃ A,A=((el[1]).er).made g.er.pr σ.cells σ.ths[who].loc:=⟨_,rfl⟩;have hg1:(Ya g.er.pr σ.cells σ.ths[who].loc (Z3 el)).getD 1 (0,0, [])=A1:=by rw [hA1,Qs (by rw [W8];omega)];simp only [Yg,List.getElem_map]
 have hok1:=Yp (p:=g.er.pr) hcv hlv haa1;rw [←hA1,hdt2] at hok1;have hv1: -2147483648≤A1.1∧A1.1≤2147483647:=hok1.1
 rw [if_neg (by decide),if_neg (by decide),hg0,hg1] at hMM
 have hop12:eop=1∨eop=2∨3≤eop:=(by have:=(k6 rfl).1;omega)
 refine xo 10 ?_;refine ld ?_ (hc:=((hCe.le leA) 0 _ rfl))
 refine ox 7 ?_;refine kx 10 6 ?_;refine kx 16 6 ?_;refine kx 39 6 ?_;refine kx 56 6 ?_;refine Wy 67 ?_;refine xo 9 ?_;refine ld ?_ (hc:=((hCe.le leA) 6 _ rfl))
 refine oo 1 ?_;refine Vh call166 leA (IH (e:=el[0]) (d:=d - 1) (b:=ab) (o:=ao+(0:Int).toNat*7) (ev:=ev) (q:=q++F) hz0 trivial (by omega) haa0 (by rw [hdt2];omega) (hKa0.le leA) (hP.le leA) hM hcl hcv hlv) ?_ ?_
 · rintro _ _ ⟨ht,rfl,ev9,he_,rfl⟩
   exact FQ.panic func166 (RP.thr (by rw [←hA0] at ht he_⊢;rw [if_pos ht] at hMM;rw [hMM];exact ⟨ht,rfl,ev9,he_,rfl⟩)) (by rw [List.append_assoc];exact Le.refl _)
 rintro _ _ ⟨ht0,rfl,ev2,he2,eq_⟩;simp only [Zx,spP,Zc,evL,ca,na] at eq_;subst eq_
 rw [←hA0] at ht0 he2⊢
 change XO _ _ _ _ _ _ _ _ _ _ (pto p (.cells (Yt pp σ++(.int .i64 (who:Int)::evC ev2)).toArray 145 (0,0))::lsH I64 2 σ.ca σ.cc σ.cells::yH σ.sp σ.sy::rsH trC 5 116 σ.ha σ.hc σ.ths::stars (σ.ths.map trH)::rsH acC 3 140 ev2.aa ev2.ac ev2.e.acc::rsH snC 3 50 ev2.na ev2.nc ev2.e.syn::(q++F))
 rw [if_neg (fun k=>k ht0)] at hMM
 refine oo 8 ?_;refine ld ?_ (hc:=((hCe.le leA) 5 _ rfl))
 refine oo 2 ?_;refine Zm [90,5,4,0,1] ?_
 apply Zp 3 93 90 rfl
 · intro g11 M11;have c11:=sp g11
   refine oo 3 ?_;exact Zz M11 ⟨Wz g11,Zw⟩
 · intro g11 M11;have c11:=sp g11
   refine oo 3 ?_;exact Zz M11 ⟨Wj g11,Zw⟩
 refine ox 1 ?_;refine X.part 93 rfl (fun g1=> ?_) (fun g1=> ?_)
 · replace g1:=sp g1
   have hop:eop=1:=g1.1;rw [if_neg (by decide),if_neg (by decide),if_neg (by decide),if_pos (by exact .inl ⟨hop,g1.2⟩),hop] at hMM
   refine xx 5 ?_;refine Zq (Zx p pp who σ ev2++q) func166 (Zg results166 rfl) (RP.ret (by rw [hMM];exact ⟨rfl,by first|rfl|(simp only [hop];rfl),ev2,he2,rfl⟩))
 replace g1:=sp g1
 refine xo 8 ?_;refine ld ?_ (hc:=((hCe.le leA) 5 _ rfl))
 refine oo 2 ?_;refine Zm [99,5,4,0,1] ?_
 apply Zp 3 102 99 rfl
 · intro g12 M12;have c12:=sp g12
   refine oo 3 ?_;exact Zz M12 ⟨Wz g12,Zw⟩
 · intro g12 M12;have c12:=sp g12
   refine oo 3 ?_;exact Zz M12 ⟨Wj g12,Zw⟩
 refine ox 1 ?_;refine X.part 102 rfl (fun g2=> ?_) (fun g2=> ?_)
 · replace g2:=sp g2
   have hop:eop=2:=g2.1;rw [if_neg (by decide),if_neg (by decide),if_neg (by decide),if_pos (by exact .inr ⟨hop,g2.2⟩),hop] at hMM
   refine xx 5 ?_;refine Zq (Zx p pp who σ ev2++q) func166 (Zg results166 rfl) (RP.ret (by rw [hMM];exact ⟨rfl,by first|rfl|(simp only [hop];rfl),ev2,he2,rfl⟩))
 replace g2:=sp g2
 rw [if_neg (by decide),if_neg (by decide),if_neg (by decide),if_neg (by rintro (⟨z1,z2⟩|⟨z1,z2⟩)<;>simp_all)] at hMM
 have hbt:(if eop≤2 then (Qh (A1.1 !=0),(0:Int),A0.2.2++A1.2.2) else ((Wu eop A0.1 A1.1).1,(Wu eop A0.1 A1.1).2,A0.2.2++A1.2.2))=((Wo eop A0.1 A1.1).1,(Wo eop A0.1 A1.1).2,A0.2.2++A1.2.2):=by unfold Wo;split<;>rfl
 refine xx 3 ?_;refine drw ?_;refine dd [0,1,2] ?_;refine ldD 3 ?_ (hc:=((hCe.le leA) 5 _ rfl))
 refine dd [4,5,6,7,8] ?_;refine ldD 9 ?_ (hc:=((hCe.le leA) 6 _ rfl))
 refine dd [10] ?_;refine Eb 11 call166 leA (IH (e:=el[1]) (d:=d - 1) (b:=ab) (o:=ao+(1:Int).toNat*7) (ev:=ev2) (q:=q++F) hz1 trivial (by omega) haa1 (by rw [hdt2,he2];unfold PEv.ac;simp only [List.length_append];omega) (hKa1.le leA) (hP.le leA) hM hcl hcv hlv) ?_ ?_ trivial
 · rintro _ _ ⟨ht,rfl,ev9,he_,rfl⟩
   exact FQ.panic func166 (RP.thr (by rw [←hA1] at ht he_⊢;rw [if_pos ht] at hMM;rw [hMM];exact ⟨ht,rfl,ev9,by rw [he_,he2,H5],rfl⟩)) (by rw [List.append_assoc];exact Le.refl _)
 rintro _ _ ⟨ht1,rfl,ev3,he3,eq_⟩;simp only [Zx,spP,Zc,evL,ca,na] at eq_;subst eq_
 refine ⟨(hlA (h:=by repeat first|exact trivial|refine ⟨clA,?_⟩|refine ⟨((hCe.le leA) 3 _ rfl),?_⟩|refine ⟨((hCe.le leA) 5 _ rfl),?_⟩|refine ⟨((hCe.le leA) 6 _ rfl),?_⟩)),?_⟩
 rw [←hA1] at ht1 he3⊢
 rw [if_neg (fun k=>k ht1)] at hMM
 refine Eb 12 call191 (Le.refl _) (both_ok (op:=eop) (u:=A0.1) (z:=A1.1) (q:=pto p (.cells (Yt pp σ++(.int .i64 (who:Int)::evC ev3)).toArray 145 (0,0))::lsH I64 2 σ.ca σ.cc σ.cells::yH σ.sp σ.sy::rsH trC 5 116 σ.ha σ.hc σ.ths::stars (σ.ths.map trH)::rsH acC 3 140 ev3.aa ev3.ac ev3.e.acc::rsH snC 3 50 ev3.na ev3.nc ev3.e.syn::(q++F)) (k6 rfl).1 hok0.1 hok1.1) ?_ ?_ trivial
 · rintro _ _ ⟨⟨hn_,rfl⟩,rfl⟩
   exact FQ.panic func166 (RP.thr (by rw [hbt] at hMM;rw [hMM];exact ⟨hn_,rfl,ev3,by rw [he3,he2,H5],rfl⟩)) leA
 rintro _ _ ⟨⟨hw_,rfl⟩,rfl⟩
 refine ⟨(hlA (h:=by repeat first|exact trivial|refine ⟨clA,?_⟩|refine ⟨((hCe.le leA) 3 _ rfl),?_⟩|refine ⟨((hCe.le leA) 5 _ rfl),?_⟩|refine ⟨((hCe.le leA) 6 _ rfl),?_⟩)),?_⟩
 refine dd [13] ?_;refine XD.nil ?_;refine Zq (Zx p pp who σ ev3++q) func166 (Zg results166 rfl) (RP.ret (by rw [hbt] at hMM;rw [hMM];exact ⟨hw_,rfl,ev3,by rw [he3,he2,H5],rfl⟩))
end
section
variable {G:World}{q:List HP}{a:Option Addr}{c:Nat}
theorem Xv {l:List PS}(hs:Sees q a (l.map PS.v))(hL:l.length≤1000000000):CallF prog G 69 [.slice a l.length c] (q) (Ret fun v q'=> ∃ a' c',v= .slice a' l.length c'∧q'=lsH PS.v 146 a' c' l::q):=by
 refine CallF.of func69 ntmps69 rfl (fun F cs=> ?_)
 rcases Nat.eq_zero_or_pos l.length with hl0|hl0
 · obtain rfl:=List.eq_nil_of_length_eq_zero hl0
   refine xx 10 ?_;refine X.part 4 rfl (fun h1=> ?_) (fun h1=> ?_)
   · refine xx 5 ?_;refine Zq (lsH PS.v 146 none 0 []::q) func69 (Zg results69 rfl) ⟨_,rfl,none,0,rfl,rfl⟩ ((leA).trans (Ze _ _ _))
   refine xo 4 ?_;refine XO.ef (Jt PS.v underlying114 We) ?_;rintro _ _ ⟨g,rfl,rfl⟩
   refine oo 1 ?_;refine XO.ef (Yb (f:=PS.v) (l:= []) (m:= []) underlying114 We rfl rfl rfl Zk (hs.le leA) (fun _=>rfl) (by simp;try omega) (by simp;try omega)) ?_
   rintro _ _ ⟨a2,c2,rfl,rfl⟩
   refine ox 2 ?_;refine Zq (lsH PS.v 146 a2 c2 []::q) func69 (Zg results69 rfl) ⟨_,rfl,a2,c2,by simp,rfl⟩
 refine Yx hs (by rw [List.length_map];omega) (fun b1 o1 e_=> ?_);subst e_
 refine xx 10 ?_;refine Wy 4 ?_;refine xo 4 ?_;refine XO.ef (Jt PS.v underlying114 We) ?_;rintro _ _ ⟨g,rfl,rfl⟩
 refine oo 1 ?_;refine XO.ef (Yb (f:=PS.v) (l:= []) (m:=l) underlying114 We rfl rfl rfl Zk (hs.le leA) (fun _=>rfl) (by simp;try omega) (by simp;try omega)) ?_
 rintro _ _ ⟨a2,c2,rfl,rfl⟩
 refine ox 2 ?_;refine Zq (lsH PS.v 146 a2 c2 l::q) func69 (Zg results69 rfl) ⟨_,rfl,a2,c2,by simp,rfl⟩
theorem Xk {l:List TC}(hs:Sees q a (l.flatMap trC))(hL:l.length≤1000000000):CallF prog G 68 [.slice a l.length c] (q) (Ret fun v q'=> ∃ a' c',v= .slice a' l.length c'∧q'=rsH trC 5 116 a' c' l::q):=by
 refine CallF.of func68 ntmps68 rfl (fun F cs=> ?_)
 rcases Nat.eq_zero_or_pos l.length with hl0|hl0
 · obtain rfl:=List.eq_nil_of_length_eq_zero hl0
   refine xx 10 ?_;refine X.part 4 rfl (fun h1=> ?_) (fun h1=> ?_)
   · refine xx 5 ?_;refine Zq (rsH trC 5 116 none 0 []::q) func68 (Zg results68 rfl) ⟨_,rfl,none,0,rfl,rfl⟩ ((leA).trans (Zl _ _ _ _))
   refine xo 4 ?_;refine XO.ef (Qg trC underlying96 U2) ?_;rintro _ _ ⟨g,rfl,rfl⟩
   refine oo 1 ?_;refine XO.ef (Yq (f:=trC) (l:= []) (m:= []) underlying96 U2 rfl rfl Zy rfl rfl Zk (hs.le leA) Er (by simp;try omega) (by simp;try omega)) ?_
   rintro _ _ ⟨a2,c2,rfl,rfl⟩
   refine ox 2 ?_;refine Zq (rsH trC 5 116 a2 c2 []::q) func68 (Zg results68 rfl) ⟨_,rfl,a2,c2,by simp,rfl⟩
 refine Yx hs (by rw [Zv Zy];omega) (fun b1 o1 e_=> ?_);subst e_
 refine xx 10 ?_;refine Wy 4 ?_;refine xo 4 ?_;refine XO.ef (Qg trC underlying96 U2) ?_;rintro _ _ ⟨g,rfl,rfl⟩
 refine oo 1 ?_;refine XO.ef (Yq (f:=trC) (l:= []) (m:=l) underlying96 U2 rfl rfl Zy rfl rfl Zk (hs.le leA) Er (by simp;try omega) (by simp;try omega)) ?_
 rintro _ _ ⟨a2,c2,rfl,rfl⟩
 refine ox 2 ?_;refine Zq (rsH trC 5 116 a2 c2 l::q) func68 (Zg results68 rfl) ⟨_,rfl,a2,c2,by simp,rfl⟩
end
section
variable {G:World}{q:List HP}{p pp n N:Nat}{g:FC}{σ:StC}
set_option maxHeartbeats 8000000 in
theorem Ce (hok:SS.ok g.er N σ.er)(hN:N≤900)(hC:σ.cells.length≤1000000):CallF prog G 37 [.pointer (some ⟨p,0,none⟩)] (stP p pp σ::(Zc σ++q)) (Ret fun v q'=> ∃ (p2:Nat) (σ2:StC),σ2.er=σ.er∧σ2.ths.map TC.todo=σ.ths.map TC.todo∧v= .pointer (some ⟨p2,0,none⟩)∧q'=stP p2 pp σ2::(Zc σ2++(stP p pp σ::(Zc σ++q)))):=by
 refine CallF.of func37 ntmps37 rfl (fun F cs=> ?_)
 change X _ _ _ _ _ _ _ _ (pto p (.cells (Yt pp σ).toArray 98 (0,0))::lsH I64 2 σ.ca σ.cc σ.cells::yH σ.sp σ.sy::rsH trC 5 116 σ.ha σ.hc σ.ths::stars (σ.ths.map trH)::(q++F))
 have hlen:=Zv Zy σ.ths;have h8:σ.ths.length≤8:=by have:=hok.t.2;rwa [StC.nth] at this
 have h1_:1≤σ.ths.length:=by have:=hok.t.1;rwa [StC.nth] at this
 have hys:σ.sy.ok N:=hok.y;have hcl:σ.cells.length≤1000000:=hC
 refine xo 8 ?_;refine XO.cR call49 (Vr (p:=p) (pp:=pp) clA) ?_
 refine Zt (Pu.not rfl) ?_;refine ox 1 ?_;refine Wy 8 ?_;refine xo 6 ?_;refine ldA ?_;refine XO.al zeroValue98 fun n1=> ?_
 refine stA ?_;refine ox 2 ?_;refine drw ?_;refine dl [0,1,2] 3 ?_;refine dl [5,6,7] 8 ?_;refine dl [10,11,12] 13 ?_;refine Y5 4 call50 (Le.refl _) (Uj (l:=σ.cells) ((Sees.lsH _).le leA) (by omega)) ?_
 rintro _ _ ⟨ac,cc,rfl,rfl⟩
 refine ⟨hlA,?_⟩
 refine Uy 9 call67 (Copy_Y hys (by omega)) ?_
 rintro _ _ ⟨py,rfl,rfl⟩ _ e_;simp only [ca,na] at e_;subst e_
 refine ⟨hlA,?_⟩
 refine Y5 14 call68 (Le.refl _) (Xk (l:=σ.ths) ((Sees.rsH _).le leA) (by omega)) ?_
 rintro _ _ ⟨at_,ct,rfl,rfl⟩
 refine ⟨trivial,?_⟩
 refine dd [15] ?_;refine stD 16 ?_;refine dd [17] ?_;refine stD 18 ?_;refine dd [19] ?_;refine stD 20 ?_;refine XD.nil ?_;refine xj 4 ?_;refine ox 4 ?_;refine Yz (a:=at_) (l:=σ.ths) (by omega) (fun gt et_=> ?_);subst et_
 refine X.at (X.loop (fun (s:Nat×List TC)=>s.1≤σ.ths.length∧s.2.length=s.1∧s.2.map TC.er=(σ.ths.take s.1).map TC.er∧s.2.map TC.todo=(σ.ths.take s.1).map TC.todo) (fun s=> [(3,.pointer (some ⟨n1,0,none⟩)),(32,.int .i64 (σ.ths.length:Int)),(33,.int .i64 (s.1:Int))]) (fun s=>pto n1 (.cells [.pointer (some ⟨pp,0,none⟩),.slice ac σ.cells.length cc,.pointer (some ⟨py,0,none⟩),.slice (some ⟨gt,0,none⟩) σ.ths.length ct,.int .i64 σ.out.kind,.int .i64 σ.out.trap,.int .i64 σ.out.th,.int .i64 σ.out.stmt].toArray 98 (0,0))::lsH I64 2 ac cc σ.cells::yH py σ.sy::rsH trC 5 116 (some ⟨gt,0,none⟩) ct (s.2++σ.ths.drop s.1)::stars (s.2.map trH)::pto p (.cells (Yt pp σ).toArray 98 (0,0))::lsH I64 2 σ.ca σ.cc σ.cells::yH σ.sp σ.sy::rsH trC 5 116 σ.ha σ.hc σ.ths::stars (σ.ths.map trH)::(q++F)) (fun s=>σ.ths.length - s.1) (fun s hi_ ih=> ?_) (0, []) ⟨Nat.zero_le _,rfl,rfl,rfl⟩) Zd (Le.trans (W5 _) leA)
 try dsimp only at hi_ ih⊢
 obtain ⟨hi1,hi2,hi3,hi4⟩:=hi_
 obtain ⟨i,T1⟩:=s;dsimp only at*
 refine xx 5 ?_;refine X.part 34 rfl (fun h0=> ?_) (fun h0=> ?_)
 · replace h0:=sp h0;have hlt:i<σ.ths.length:=(by omega)
   obtain ⟨x,hx⟩: ∃ x,x=σ.ths[i]:=⟨_,rfl⟩;have hT:=hok.at hlt;rw [←hx] at hT;have hTn:=hT.n;rw [W2] at hTn;have hTl:x.loc.length≤32:=hT.l;have hTp:x.sp.length≤8:=hT.p.1
   have hSl:=fun q:List HP=>H3 (q:=q) hlt;have hSt:=fun q:List HP=>Sees.todo (q:=q) hlt;have hSs:=fun q:List HP=>N1 (q:=q) hlt;rw [←hx] at hSl hSt hSs
   have hil:i<(T1++σ.ths.drop i).length:=by rw [List.length_append,List.length_drop];omega
   have hix:(T1++σ.ths.drop i)[i]=x:=by rw [List.getElem_append_right (by omega)];simp [hi2,hx]
   refine xj 12 ?_;refine ox 4 ?_;refine drw ?_;refine dd [0,1,2,3,4,5] ?_;refine ldD 6 ?_ (hc:=(Cl.row (n:=i) (l:=(T1++σ.ths.drop i)) (Sees.rsH _) leA Zy hil rfl 2 _ (by rw [hix];rfl)))
   refine dd [8,9,10] ?_;refine ldD 11 ?_ (hc:=(Cl.row (n:=i) (l:=(T1++σ.ths.drop i)) (Sees.rsH _) leA Zy hil rfl 3 _ (by rw [hix];rfl)))
   refine dd [13,14,15] ?_;refine ldD 16 ?_ (hc:=(Cl.row (n:=i) (l:=(T1++σ.ths.drop i)) (Sees.rsH _) leA Zy hil rfl 4 _ (by rw [hix];rfl)))
   refine Y5 7 call50 (Le.refl _) (Uj (l:=x.loc) ((hSl _).le leA) (by omega)) ?_
   rintro _ _ ⟨al,cl,rfl,rfl⟩
   refine ⟨(hlA (h:=by repeat first|exact trivial|refine ⟨clA,?_⟩|refine ⟨(Cl.row (n:=i) (l:=(T1++σ.ths.drop i)) (Sees.rsH _) leA Zy hil rfl 2 _ (by rw [hix];rfl)),?_⟩|refine ⟨(Cl.row (n:=i) (l:=(T1++σ.ths.drop i)) (Sees.rsH _) leA Zy hil rfl 3 _ (by rw [hix];rfl)),?_⟩|refine ⟨(Cl.row (n:=i) (l:=(T1++σ.ths.drop i)) (Sees.rsH _) leA Zy hil rfl 4 _ (by rw [hix];rfl)),?_⟩)),?_⟩
   refine Y5 12 call69 (Le.refl _) (Xv (l:=x.todo) ((hSt _).le leA) (by omega)) ?_
   rintro _ _ ⟨a3,c3,rfl,rfl⟩
   refine ⟨(hlA (h:=by repeat first|exact trivial|refine ⟨clA,?_⟩|refine ⟨(Cl.row (n:=i) (l:=(T1++σ.ths.drop i)) (Sees.rsH _) leA Zy hil rfl 2 _ (by rw [hix];rfl)),?_⟩|refine ⟨(Cl.row (n:=i) (l:=(T1++σ.ths.drop i)) (Sees.rsH _) leA Zy hil rfl 3 _ (by rw [hix];rfl)),?_⟩|refine ⟨(Cl.row (n:=i) (l:=(T1++σ.ths.drop i)) (Sees.rsH _) leA Zy hil rfl 4 _ (by rw [hix];rfl)),?_⟩)),?_⟩
   refine Y5 17 call70 (Le.refl _) (Jw (l:=x.sp) ((hSs _).le leA) (by omega)) ?_
   rintro _ _ ⟨a4,c4,rfl,rfl⟩
   refine ⟨trivial,?_⟩
   refine dd [18,19] ?_;refine XD.ef0 20 rfl (Ye (g:=gt) (f:=trC) (l:=(T1++σ.ths.drop i)) (u:= { x with la:=al,lc:=cl }) (n:=i) (k:=2) (j:=(i:Int)) rfl rfl sizeOf23 Zy rfl (by exact hil) rfl (by rw [hix];rfl) rfl rfl Zk) ?_
   rintro _ _ ⟨rfl,rfl⟩
   refine ⟨trivial,?_⟩
   refine dd [21,22] ?_;refine XD.ef0 23 rfl (Ye (g:=gt) (f:=trC) (l:=((T1++σ.ths.drop i).set i { x with la:=al,lc:=cl })) (u:= { x with la:=al,lc:=cl,ta:=a3,tc:=c3 }) (n:=i) (k:=3) (j:=(i:Int)) rfl rfl sizeOf114 Zy rfl (by rw [List.length_set];exact hil) rfl (by rw [List.getElem_set_self];rfl) rfl rfl Zk) ?_
   rintro _ _ ⟨rfl,rfl⟩
   refine ⟨trivial,?_⟩
   rw [List.set_set]
   refine dd [24,25] ?_;refine XD.ef0 26 rfl (Ye (g:=gt) (f:=trC) (l:=((T1++σ.ths.drop i).set i { x with la:=al,lc:=cl,ta:=a3,tc:=c3 })) (u:= { x with la:=al,lc:=cl,ta:=a3,tc:=c3,sa:=a4,sc:=c4 }) (n:=i) (k:=4) (j:=(i:Int)) rfl rfl sizeOf22 Zy rfl (by rw [List.length_set];exact hil) rfl (by rw [List.getElem_set_self];rfl) rfl rfl Zk) ?_
   rintro _ _ ⟨rfl,rfl⟩
   refine ⟨trivial,?_⟩
   rw [List.set_set]
   refine XD.nil ?_;refine xx 5 ?_
   rw [Rb T1 (σ.ths.drop i) i _ hi2 (by rw [List.length_drop];omega),List.drop_drop]
   refine X.le (q':=stars ((T1++ [({ x with la:=al,lc:=cl,ta:=a3,tc:=c3,sa:=a4,sc:=c4 } :TC)]).map trH)::_) (Le.trans (b:=stars (T1.map trH)::lsH I64 2 al cl x.loc::lsH PS.v 146 a3 c3 x.todo::lsH I64 3 a4 c4 x.sp::_) (Le.pick Zk (Le.pick Zk (Le.pick Zk Zk))) (Le.trans (Le.cons _ (Z5 (trL ({ x with la:=al,lc:=cl,ta:=a3,tc:=c3,sa:=a4,sc:=c4 } :TC)) _)) (Le.stars_snoc trH T1 ({ x with la:=al,lc:=cl,ta:=a3,tc:=c3,sa:=a4,sc:=c4 } :TC) _))) ?_
   refine X.at (ih (i+1,T1++ [({ x with la:=al,lc:=cl,ta:=a3,tc:=c3,sa:=a4,sc:=c4 } :TC)]) ⟨by dsimp only;omega,by dsimp only;rw [List.length_append];simp [hi2],by dsimp only;rw [List.take_succ_eq_append_getElem hlt,List.map_append,List.map_append,hi3,←hx];rfl,by dsimp only;rw [List.take_succ_eq_append_getElem hlt,List.map_append,List.map_append,hi4,←hx];rfl⟩ (by dsimp only;omega)) Zd leA
 replace h0:=sp h0;obtain rfl:i=σ.ths.length:=(by omega);rw [List.take_length] at hi3 hi4;rw [List.drop_length,List.append_nil];clear ih
 refine xx 6 ?_;refine X.le (q':=stP n1 pp (⟨ac,cc,σ.cells,py,σ.sy,some ⟨gt,0,none⟩,ct,T1,σ.out⟩:StC)::(Zc (⟨ac,cc,σ.cells,py,σ.sy,some ⟨gt,0,none⟩,ct,T1,σ.out⟩:StC)++(stP p pp σ::(Zc σ++(q++F))))) (by unfold stP Yt;dsimp only;rw [hi2];exact leA) ?_
 refine Zq (stP n1 pp (⟨ac,cc,σ.cells,py,σ.sy,some ⟨gt,0,none⟩,ct,T1,σ.out⟩:StC)::(Zc (⟨ac,cc,σ.cells,py,σ.sy,some ⟨gt,0,none⟩,ct,T1,σ.out⟩:StC)++(stP p pp σ::(Zc σ++q)))) func37 (Zg results37 rfl) ⟨_,rfl,n1,(⟨ac,cc,σ.cells,py,σ.sy,some ⟨gt,0,none⟩,ct,T1,σ.out⟩:StC),by simp only [StC.er,hi3],hi4,rfl,rfl⟩
end
theorem W6 (σ:StC)(n:Nat)(x:TC):({ σ with ths:=σ.ths.set n x } :StC).er=σ.er.put n x.er:=by
 unfold StC.er SS.put;simp [List.map_set]
theorem Fg {σ:StC}{n:Nat}(hn:n<σ.ths.length):σ.er.put n (σ.ths[n]).er=σ.er:=by
 unfold StC.er SS.put
 simp only [SS.mk.injEq,true_and,and_true]
 rw [←List.map_set,List.set_getElem_self]
def PStm.slt:PStm→Int
 | .mk _ _ _ _ _ _ _ _ _ _ slot _ _=>slot
theorem TodoAt.of {M:Hp}{l m:List TC}(h:m.map TC.todo=l.map TC.todo)(k:TodoAt M l):TodoAt M m:=fun t ht y hy=>by
 have h1:t.todo∈l.map TC.todo:=h ▸ List.mem_map_of_mem (f:=TC.todo) ht
 obtain ⟨u,hu,e⟩:=List.mem_map.1 h1
 exact k u hu y (e ▸ hy)
theorem Hq {l:List TC}{n:Nat}{x:TC}(hn:n<l.length)(h:x.todo=l[n].todo):(l.set n x).map TC.todo=l.map TC.todo:=by
 rw [List.map_set,h]
 apply List.ext_getElem (by simp)
 intro i h1 h2
 by_cases e:n=i
 · subst e;simp
 simp [List.getElem_set_ne e]
theorem Rx {l:List TC}{n:Nat}{x:TC}(hn:n<l.length)(h:trH x=trH l[n]):(l.set n x).map trH=l.map trH:=by
 rw [List.map_set,h]
 apply List.ext_getElem (by simp)
 intro i h1 h2
 by_cases e:n=i
 · subst e;simp
 simp [List.getElem_set_ne e]
theorem M0 {ths:List TC}{n:Nat}(hn:n<ths.length)(r:List HP):Le (stars (ths.map trH)::r) (lsH I64 2 ths[n].la ths[n].lc ths[n].loc::lsH PS.v 146 ths[n].ta ths[n].tc ths[n].todo::lsH I64 3 ths[n].sa ths[n].sc ths[n].sp::stars ((ths.eraseIdx n).map trH)::r):=
 (Le.focus trH hn r).trans (Zs (trL ths[n]) _)
theorem Mo {ths:List TC}{n:Nat}(hn:n<ths.length)(x:TC)(r:List HP):Le (lsH I64 2 x.la x.lc x.loc::lsH PS.v 146 x.ta x.tc x.todo::lsH I64 3 x.sa x.sc x.sp::stars ((ths.eraseIdx n).map trH)::r) (stars ((ths.set n x).map trH)::r):=
 (Z5 (trL x) _).trans (Ms trH hn x r)
theorem rs_same {l m:List TC}{a:Option Addr}{c ty:Nat}(h:l.flatMap trC=m.flatMap trC):rsH trC 5 ty a c l=rsH trC 5 ty a c m:=by
 have hl:l.length=m.length:=by have:=congrArg List.length h;rw [Zv Zy,Zv Zy] at this;omega
 unfold rsH;rw [h,hl]
theorem Fz {l:List TC}{n:Nat}{x:TC}(hn:n<l.length)(h:trC x=trC l[n]):(l.set n x).flatMap trC=l.flatMap trC:=by
 rw [List.flatMap_def,List.flatMap_def,List.map_set,h]
 congr 1
 apply List.ext_getElem (by simp)
 intro i h1 h2
 by_cases e:n=i
 · subst e;simp
 simp [List.getElem_set_ne e]
structure PO (g:FC) (N who:Nat) (σ:StC):Prop where
 w:who<σ.ths.length
 h8:σ.ths.length≤8
 cl:(σ.cells.length:Int)=g.vars.l.length+Wv g.arrs.l
 cv: ∀ x∈σ.cells,val x
 lv: ∀ x∈σ.ths[who].loc,val x
 ll:σ.ths[who].loc.length≤32
 y:σ.sy.ok N
 n9:N≤900
 mu:(σ.sy.owners.length:Int)=g.er.cn.mu
 co:(σ.sy.conds.length:Int)=g.er.cn.co
 ch:(σ.sy.chans.length:Int)=g.er.cn.ch
 cd: ∀ l∈σ.sy.conds,∀ t∈l,t.toNat<σ.ths.length
 td:σ.ths[who].todo.length≤600*(N+1)
 sp:σ.ths[who].sp.length≤8∧ ∀ i∈σ.ths[who].sp,0≤i∧i<σ.ths.length
section
variable {G:World}{q:List HP}{p pp who n N:Nat}{g:FC}{σ:StC}{ev:EvC}{k sl ot u:Int}{bb:Bool}
variable {hc gh c:Nat}{ths:List TC}{x:TC}{a:Option Addr}{l:List Stm}
theorem I8 (hn:n<ths.length)(hK:Kn q fun M=>BlkAt M a c l)(hl:l.length≤1000000∧x.todo.length≤1000000):CallF prog G 84 [.pointer (some ⟨gh,0+(n:Int).toNat*5,none⟩),.slice a l.length c] (rsH trC 5 116 (some ⟨gh,0,none⟩) hc (ths.set n x)::lsH PS.v 146 x.ta x.tc x.todo::q) (Ret fun v q'=> ∃ a1 c1 b1 o1,(0<l.length→a=some ⟨b1,o1,none⟩)∧q'=rsH trC 5 116 (some ⟨gh,0,none⟩) hc (ths.set n { x with ta:=a1,tc:=c1,todo:=x.todo++(psL b1 o1 l).reverse })::lsH PS.v 146 a1 c1 (x.todo++(psL b1 o1 l).reverse)::q):=by
 have h:=R7 (G:=G) (q:=q) (gh:=gh) (hc:=hc) (ths:=ths.set n x) (n:=n) (a:=a) (c:=c) (l:=l) (by rw [List.length_set];exact hn) hK (by rw [List.getElem_set_self];exact hl)
 have hg:(ths.set n x).getD n zTC=x:=by rw [Wl (by rw [List.length_set];exact hn),List.getElem_set_self]
 simp only [List.getElem_set_self,hg,List.set_set] at h
 exact h
set_option maxHeartbeats 4000000 in
theorem Ss (hO:PO g N who σ)(hin:inV g.er.cn (σ.ths[who]'(hO.w)).loc.length sl bb)(hl:ev.e.acc.length≤1000000000)(hM:MayP g.er):CallF prog G 165 [.pointer (some ⟨p,0,none⟩),.int .i64 sl,.bool bb,.int .i64 u] (Zx p pp who σ ev++q) (Ret fun v q'=> ∃ (σ':StC) (ev':EvC),(σ'.er=(σ.er.into who sl bb u).1∧ev'.e=ev.e.ac (σ.er.into who sl bb u).2∧σ'.ths.map TC.todo=σ.ths.map TC.todo)∧q'=Zx p pp who σ' ev'++q):=by
 refine CallF.of func165 ntmps165 rfl (fun F cs=> ?_)
 have hwho:=hO.w;have h8:=hO.h8;unfold inV at hin;obtain ⟨S,rfl⟩:=Int.eq_ofNat_of_zero_le hin.1;obtain ⟨IX,hX⟩: ∃ X,X=σ.er.into who S bb u:=⟨_,rfl⟩;rw [←hX];unfold SS.into at hX;rw [Zo hwho,show ((S:Int)).toNat=S from rfl] at hX
 change X _ _ _ _ _ _ _ _ (pto p (.cells (Yt pp σ++(.int .i64 (who:Int)::evC ev)).toArray 145 (0,0))::lsH I64 2 σ.ca σ.cc σ.cells::yH σ.sp σ.sy::rsH trC 5 116 σ.ha σ.hc σ.ths::stars (σ.ths.map trH)::rsH acC 3 140 ev.aa ev.ac ev.e.acc::rsH snC 3 50 ev.na ev.nc ev.e.syn::(q++F))
 refine Yz (l:=σ.ths) (by omega) (fun ga e_=> ?_)
 have hr: ∀ r,Sees (rsH trC 5 116 σ.ha σ.hc σ.ths::r) (some ⟨ga,0,none⟩) (σ.ths.flatMap trC):=fun r=>by rw [←e_];exact Sees.rsH r
 refine xx 5 ?_;refine X.part 8 rfl (fun h1=> ?_) (fun h1=> ?_)
 · replace h1:=sp h1;rw [if_pos h1] at hX hin;have hlt:S<σ.ths[who].loc.length:=(by omega)
   refine X.le (q':=stars (σ.ths.map trH)::_) Zk (X.le (M0 hwho _) ?_)
   refine V9 (l:=σ.ths[who].loc) (by omega) (fun gl el_=> ?_)
   refine xo 4 ?_;refine XO.cR call95 (Q4 (p:=p) (who:=who) (ga:=ga) (m:=σ.ths.length) (c:=σ.hc) (by rw [←e_];exact clA) clA hwho) ?_
   refine oo 2 ?_;refine ld ?_ (hc:=(Cl.row (n:=who) (hr _) leA Zy hwho rfl 2 _ rfl))
   refine oo 2 ?_;refine XO.know 13 (.slice (some ⟨gl,0,none⟩) σ.ths[who].loc.length σ.ths[who].lc) rfl (by rw [←el_]) ?_
   refine oo 1 ?_;refine XO.le (q':=lsH I64 2 (some ⟨gl,0,none⟩) σ.ths[who].lc σ.ths[who].loc::_) (by rw [←el_];exact Zk) ?_
   refine XO.ef0 (Rt (f:=I64) (l:=σ.ths[who].loc) (n:=S) (u:=u) rfl rfl sizeOf2 rfl hlt rfl rfl Zk) ?_
   rintro _ _ ⟨rfl,rfl⟩
   refine ox 1 ?_
   rw [←el_]
   refine X.le (q':=stars ((σ.ths.set who ({ σ.ths[who] with loc:=σ.ths[who].loc.set S u } :TC)).map trH)::_) (Le.trans (b:=lsH I64 2 σ.ths[who].la σ.ths[who].lc (σ.ths[who].loc.set S u)::lsH PS.v 146 σ.ths[who].ta σ.ths[who].tc σ.ths[who].todo::lsH I64 3 σ.ths[who].sa σ.ths[who].sc σ.ths[who].sp::stars ((σ.ths.eraseIdx who).map trH)::_) (Le.pick Zk (Le.pick Zk (Le.pick Zk Zk))) (Mo hwho ({ σ.ths[who] with loc:=σ.ths[who].loc.set S u } :TC) _)) ?_
   refine X.le (q':=rsH trC 5 116 σ.ha σ.hc (σ.ths.set who ({ σ.ths[who] with loc:=σ.ths[who].loc.set S u } :TC))::_) (by rw [show rsH trC 5 116 σ.ha σ.hc (σ.ths.set who ({ σ.ths[who] with loc:=σ.ths[who].loc.set S u } :TC))=rsH trC 5 116 σ.ha σ.hc σ.ths from rs_same (Fz hwho (by simp [trC]))];exact Zk) ?_
   refine X.le (q':=Zx p pp who ({ σ with ths:=σ.ths.set who ({ σ.ths[who] with loc:=σ.ths[who].loc.set S u } :TC) } :StC) ev++(q++F)) (by unfold Zx spP Yt Zc;simp only [List.length_set];exact leA) ?_
   refine Zq (Zx p pp who ({ σ with ths:=σ.ths.set who ({ σ.ths[who] with loc:=σ.ths[who].loc.set S u } :TC) } :StC) ev++q) func165 (Vg results165) ⟨_,rfl,({ σ with ths:=σ.ths.set who ({ σ.ths[who] with loc:=σ.ths[who].loc.set S u } :TC) } :StC),ev,⟨by rw [hX,W6];rfl,by rw [hX];exact (Ma _).symm,Hq hwho rfl⟩,rfl⟩ (by rw [List.append_assoc];exact Le.refl _)
 replace h1:=sp h1;rw [if_neg (by rw [h1];decide)] at hX hin;have hcl:=hO.cl;have hcn:S<σ.cells.length:=(by have:=U8 (l:=g.arrs.l) (k:=256) (fun y hy=>by have:=hM.a y hy;omega) (by decide);have:=hin.2;rw [Nr] at this;omega)
 refine xo 6 ?_;refine Zf call167 leA (F5 (p:=p) (pp:=pp) (who:=who) (σ:=σ) (ev:=ev) (n:=S) (u:=u) (q:=q++F) hcn hl) ?_
 rintro _ _ ⟨ev2,he2,rfl⟩
 refine ox 1 ?_;refine Z7 (Zx p pp who ({ σ with cells:=σ.cells.set S u } :StC) ev2++q) func165 (Vg results165) ⟨_,rfl,({ σ with cells:=σ.cells.set S u } :StC),ev2,⟨by rw [hX];rfl,by rw [hX];exact he2,rfl⟩,rfl⟩ (by rw [List.append_assoc];exact Le.refl _)
set_option maxHeartbeats 4000000 in
theorem L5 {y:PS}(hP:Prg q pp g)(hM:MayP g.er)(hO:PO g N who σ)(hev:ev.e.acc= []∧ev.e.syn= [])(hyA:Kn q fun M=>y.At M)(hg:y.s.er.good g.er.cn (σ.ths[who]'(hO.w)).loc.length)(hTd:Kn q fun M=>TodoAt M σ.ths)(hk:y.s.er.kd=1∨y.s.er.kd=2):CallF prog G 129 [.pointer (some ⟨p,0,none⟩),.pointer (some ⟨y.b,y.o,none⟩)] (Zx p pp who σ ev++q) (RP (fun v q'=> ∃ (σ':StC) (ev':EvC),((σ.er.data g.er.pr who y.s.er ev.e).2.2=0∧σ'.er=(σ.er.data g.er.pr who y.s.er ev.e).1∧ev'.e=(σ.er.data g.er.pr who y.s.er ev.e).2.1∧Kn q fun M=>TodoAt M σ'.ths)∧q'=Zx p pp who σ' ev'++q) (fun ch q'=> ∃ (σ':StC) (ev':EvC),((σ.er.data g.er.pr who y.s.er ev.e).2.2≠0∧ch= [Vp (σ.er.data g.er.pr who y.s.er ev.e).2.2]∧ev'.e=(σ.er.data g.er.pr who y.s.er ev.e).2.1)∧q'=Zx p pp who σ' ev'++q)):=by
 refine CallF.of func129 ntmps129 rfl (fun F cs=> ?_)
 obtain ⟨yb,yo,ys⟩:=y
 obtain ⟨kk,ln,cl,nm,wt,⟨ek,en,enm,esl,elo,eop,el,ea,ec⟩,⟨xk,xn,xnm,xsl,xlo,xop,xl,xa,xc⟩,bd,es2,ba,bc,ea2,ec2,id,sl,ot,lo_⟩:=ys
 have hCs:=Kn.stC hyA;dsimp only at hCs hg hyA hk⊢;simp only [Stm.er,PStm.kd] at hk
 have hwho:=hO.w;have h8:=hO.h8;have hys:=hO.y;have hN9:=hO.n9;obtain ⟨hev1,hev2⟩:=hev
 have hKe:Kn q fun M=>ExAt M ⟨yb,yo+5,none⟩ (Ex.mk ek en enm esl elo eop el ea ec):=hyA.imp fun M h=>Yk (pre:= [.int .i64 kk,.int .i64 ln,.int .i64 cl,.string nm,.string wt]) h.1 rfl h.2.1 rfl
 have hKx:Kn q fun M=>ExAt M ⟨yb,yo+12,none⟩ (Ex.mk xk xn xnm xsl xlo xop xl xa xc):=hyA.imp fun M h=>Yk (pre:= [.int .i64 kk,.int .i64 ln,.int .i64 cl,.string nm,.string wt]++exC (Ex.mk ek en enm esl elo eop el ea ec)) h.1 rfl h.2.2.1 rfl
 have hKb:Kn q fun M=>BlkAt M ba bc bd:=hyA.imp fun M h=>h.2.2.2.1;have hKl:Kn q fun M=>BlkAt M ea2 ec2 es2:=hyA.imp fun M h=>⟨h.2.2.2.2.1,h.2.2.2.2.2⟩
 obtain ⟨hg1,hg2,hg3,_⟩:=hg;obtain ⟨hs1,hs2,hs3,hs6,hs8,hs8o,hs11,hs12,hs13⟩:=Yi hg2;obtain ⟨hpe,hpx⟩:=Wd hg1;rw [Zn,Zn] at hg3
 obtain ⟨R,hR⟩: ∃ R,R=σ.er.data g.er.pr who (Stm.er (Stm.mk kk ln cl nm wt (Ex.mk ek en enm esl elo eop el ea ec) (Ex.mk xk xn xnm xsl xlo xop xl xa xc) bd es2 ba bc ea2 ec2 id sl ot lo_)) ev.e:=⟨_,rfl⟩;rw [←hR];unfold SS.data at hR;simp only [Stm.er] at hR;rw [Zo hwho] at hR
 change X _ _ _ _ _ _ _ _ (pto p (.cells (Yt pp σ++(.int .i64 (who:Int)::evC ev)).toArray 145 (0,0))::lsH I64 2 σ.ca σ.cc σ.cells::yH σ.sp σ.sy::rsH trC 5 116 σ.ha σ.hc σ.ths::stars (σ.ths.map trH)::rsH acC 3 140 ev.aa ev.ac ev.e.acc::rsH snC 3 50 ev.na ev.nc ev.e.syn::(q++F))
 rw [if_neg (show ¬kk=3 by omega)] at hR;dsimp only at hR;rw [if_neg (fun k=>k rfl)] at hR
 refine drw ?_;refine dd [0,1,2,3] ?_;refine ldD 4 ?_ (hc:=((hCs.le leA) 22 _ rfl))
 refine dd [5,6,7] ?_;refine ldD 8 ?_ (hc:=((hCs.le leA) 24 _ rfl))
 refine dd [9,10,11,12] ?_;obtain ⟨A1,hA1⟩: ∃ A,A=(Ex.er (Ex.mk ek en enm esl elo eop el ea ec)).made g.er.pr σ.cells σ.ths[who].loc:=⟨_,rfl⟩;have hok1:=Yp (p:=g.er.pr) hO.cv hO.lv (hpe (by omega));rw [←hA1] at hok1
 try rw [show (σ.ths[who].er).loc=σ.ths[who].loc from rfl] at hR
 try rw [show σ.er.cells=σ.cells from rfl] at hR
 rw [←hA1] at hR
 have hpw1:A1.2.2.length≤16777216:=Nat.le_trans hok1.2 (by decide)
 refine Eb 13 call166 leA (Qo (p:=p) (pp:=pp) (who:=who) (hwho:=hwho) (Ex.sz (Ex.mk ek en enm esl elo eop el ea ec)) (e:=(Ex.mk ek en enm esl elo eop el ea ec)) (d:=24) (ev:=ev) (q:=q++F) (Nat.le_refl _) trivial (by decide) (hpe (by omega)) (by rw [hev1];decide) (hKe.le leA) (hP.le leA) hM hO.cl hO.cv hO.lv) ?_ ?_ trivial
 · rintro _ _ ⟨ht,rfl,ev9,he_,rfl⟩
   exact FQ.panic func129 (RP.thr (by rw [←hA1] at ht he_⊢;have hRR:=hR;rw [if_pos ht] at hRR;rw [hRR];exact ⟨σ,ev9,⟨ht,rfl,by rw [he_];unfold PEv.ac;simp only [hev1,List.nil_append]⟩,rfl⟩)) (by rw [List.append_assoc];exact Le.refl _)
 rintro _ _ ⟨ht1,rfl,ev2,he2,eq_⟩;simp only [Zx,spP,Zc,evL,ca,na] at eq_;subst eq_
 refine ⟨(hlA (h:=by repeat first|exact trivial|refine ⟨clA,?_⟩|refine ⟨(hCs.le leA) 21 _ rfl,?_⟩|refine ⟨(hCs.le leA) 22 _ rfl,?_⟩|refine ⟨(hCs.le leA) 23 _ rfl,?_⟩|refine ⟨(hCs.le leA) 24 _ rfl,?_⟩|refine ⟨(hCs.le leA) 19 _ rfl,?_⟩|refine ⟨(hCs.le leA) 20 _ rfl,?_⟩)),?_⟩
 rw [←hA1] at ht1 he2⊢
 rw [if_neg (fun k=>k ht1)] at hR
 rw [if_pos (by omega)] at hR
 refine Y5 14 call165 leA (Ss (p:=p) (pp:=pp) (who:=who) (g:=g) (N:=N) (σ:=σ) (ev:=ev2) (sl:=sl) (bb:=lo_) (u:=A1.1) (q:=q++F) hO (hs2 (by omega)) (by rw [he2];unfold PEv.ac;rw [hev1];simp;omega) hM) ?_
 rintro _ _ ⟨σ2,ev3,⟨hk1,hk2,hk3⟩,rfl⟩
 refine ⟨trivial,?_⟩
 refine XD.nil ?_;refine Z7 (Zx p pp who σ2 ev3++q) func129 (Vg results129) (RP.ret ⟨σ2,ev3,⟨by rw [hR],by rw [hR];exact hk1,by rw [hR,hk2,he2];unfold PEv.ac;simp only [hev1,List.nil_append],hTd.imp fun M h=>TodoAt.of hk3 h⟩,rfl⟩) (by rw [List.append_assoc];exact Le.refl _)
set_option maxHeartbeats 4000000 in
theorem xput_ok {y:PS}(hP:Prg q pp g)(hM:MayP g.er)(hO:PO g N who σ)(hev:ev.e.acc= []∧ev.e.syn= [])(hyA:Kn q fun M=>y.At M)(hg:y.s.er.good g.er.cn (σ.ths[who]'(hO.w)).loc.length)(hTd:Kn q fun M=>TodoAt M σ.ths)(hk:y.s.er.kd=3):CallF prog G 130 [.pointer (some ⟨p,0,none⟩),.pointer (some ⟨y.b,y.o,none⟩)] (Zx p pp who σ ev++q) (RP (fun v q'=> ∃ (σ':StC) (ev':EvC),((σ.er.data g.er.pr who y.s.er ev.e).2.2=0∧σ'.er=(σ.er.data g.er.pr who y.s.er ev.e).1∧ev'.e=(σ.er.data g.er.pr who y.s.er ev.e).2.1∧Kn q fun M=>TodoAt M σ'.ths)∧q'=Zx p pp who σ' ev'++q) (fun ch q'=> ∃ (σ':StC) (ev':EvC),((σ.er.data g.er.pr who y.s.er ev.e).2.2≠0∧ch= [Vp (σ.er.data g.er.pr who y.s.er ev.e).2.2]∧ev'.e=(σ.er.data g.er.pr who y.s.er ev.e).2.1)∧q'=Zx p pp who σ' ev'++q)):=by
 refine CallF.of func130 ntmps130 rfl (fun F cs=> ?_)
 obtain ⟨yb,yo,ys⟩:=y
 obtain ⟨kk,ln,cl,nm,wt,⟨ek,en,enm,esl,elo,eop,el,ea,ec⟩,⟨xk,xn,xnm,xsl,xlo,xop,xl,xa,xc⟩,bd,es2,ba,bc,ea2,ec2,id,sl,ot,lo_⟩:=ys
 have hCs:=Kn.stC hyA;dsimp only at hCs hg hyA hk⊢;simp only [Stm.er,PStm.kd] at hk
 have hwho:=hO.w;have h8:=hO.h8;have hys:=hO.y;have hN9:=hO.n9;obtain ⟨hev1,hev2⟩:=hev
 have hKe:Kn q fun M=>ExAt M ⟨yb,yo+5,none⟩ (Ex.mk ek en enm esl elo eop el ea ec):=hyA.imp fun M h=>Yk (pre:= [.int .i64 kk,.int .i64 ln,.int .i64 cl,.string nm,.string wt]) h.1 rfl h.2.1 rfl
 have hKx:Kn q fun M=>ExAt M ⟨yb,yo+12,none⟩ (Ex.mk xk xn xnm xsl xlo xop xl xa xc):=hyA.imp fun M h=>Yk (pre:= [.int .i64 kk,.int .i64 ln,.int .i64 cl,.string nm,.string wt]++exC (Ex.mk ek en enm esl elo eop el ea ec)) h.1 rfl h.2.2.1 rfl
 have hKb:Kn q fun M=>BlkAt M ba bc bd:=hyA.imp fun M h=>h.2.2.2.1;have hKl:Kn q fun M=>BlkAt M ea2 ec2 es2:=hyA.imp fun M h=>⟨h.2.2.2.2.1,h.2.2.2.2.2⟩
 obtain ⟨hg1,hg2,hg3,_⟩:=hg;obtain ⟨hs1,hs2,hs3,hs6,hs8,hs8o,hs11,hs12,hs13⟩:=Yi hg2;obtain ⟨hpe,hpx⟩:=Wd hg1;rw [Zn,Zn] at hg3
 obtain ⟨R,hR⟩: ∃ R,R=σ.er.data g.er.pr who (Stm.er (Stm.mk kk ln cl nm wt (Ex.mk ek en enm esl elo eop el ea ec) (Ex.mk xk xn xnm xsl xlo xop xl xa xc) bd es2 ba bc ea2 ec2 id sl ot lo_)) ev.e:=⟨_,rfl⟩;rw [←hR];unfold SS.data at hR;simp only [Stm.er] at hR;rw [Zo hwho] at hR
 change X _ _ _ _ _ _ _ _ (pto p (.cells (Yt pp σ++(.int .i64 (who:Int)::evC ev)).toArray 145 (0,0))::lsH I64 2 σ.ca σ.cc σ.cells::yH σ.sp σ.sy::rsH trC 5 116 σ.ha σ.hc σ.ths::stars (σ.ths.map trH)::rsH acC 3 140 ev.aa ev.ac ev.e.acc::rsH snC 3 50 ev.na ev.nc ev.e.syn::(q++F))
 obtain rfl:kk=3:=(by omega)
 rw [if_pos rfl] at hR
 refine xo 6 ?_;obtain ⟨A1,hA1⟩: ∃ A,A=(Ex.er (Ex.mk xk xn xnm xsl xlo xop xl xa xc)).made g.er.pr σ.cells σ.ths[who].loc:=⟨_,rfl⟩;have hok1:=Yp (p:=g.er.pr) hO.cv hO.lv (hpx rfl);rw [←hA1] at hok1
 try rw [show (σ.ths[who].er).loc=σ.ths[who].loc from rfl] at hR
 try rw [show σ.er.cells=σ.cells from rfl] at hR
 rw [←hA1] at hR
 have hpw1:A1.2.2.length≤16777216:=Nat.le_trans hok1.2 (by decide)
 refine Vh call166 leA (Qo (p:=p) (pp:=pp) (who:=who) (hwho:=hwho) (Ex.sz (Ex.mk xk xn xnm xsl xlo xop xl xa xc)) (e:=(Ex.mk xk xn xnm xsl xlo xop xl xa xc)) (d:=24) (ev:=ev) (q:=q++F) (Nat.le_refl _) trivial (by decide) (hpx rfl) (by rw [hev1];decide) (hKx.le leA) (hP.le leA) hM hO.cl hO.cv hO.lv) ?_ ?_
 · rintro _ _ ⟨ht,rfl,ev9,he_,rfl⟩
   exact FQ.panic func130 (RP.thr (by rw [←hA1] at ht he_⊢;have hRR:=hR;rw [if_pos ht] at hRR;rw [hRR];exact ⟨σ,ev9,⟨ht,rfl,by rw [he_];unfold PEv.ac;simp only [hev1,List.nil_append]⟩,rfl⟩)) (by rw [List.append_assoc];exact Le.refl _)
 rintro _ _ ⟨ht1,rfl,ev2,he2,eq_⟩;simp only [Zx,spP,Zc,evL,ca,na] at eq_;subst eq_
 rw [←hA1] at ht1 he2⊢
 rw [if_neg (fun k=>k ht1)] at hR
 try dsimp only at hR
 refine oo 8 ?_;obtain ⟨A2,hA2⟩: ∃ A,A=(Ex.er (Ex.mk ek en enm esl elo eop el ea ec)).made g.er.pr σ.cells σ.ths[who].loc:=⟨_,rfl⟩;have hok2:=Yp (p:=g.er.pr) hO.cv hO.lv (hpe (by omega));rw [←hA2] at hok2
 try rw [show (σ.ths[who].er).loc=σ.ths[who].loc from rfl] at hR
 try rw [show σ.er.cells=σ.cells from rfl] at hR
 rw [←hA2] at hR
 have hpw2:A2.2.2.length≤16777216:=Nat.le_trans hok2.2 (by decide)
 refine Vh call166 leA (Qo (p:=p) (pp:=pp) (who:=who) (hwho:=hwho) (Ex.sz (Ex.mk ek en enm esl elo eop el ea ec)) (e:=(Ex.mk ek en enm esl elo eop el ea ec)) (d:=24) (ev:=ev2) (q:=q++F) (Nat.le_refl _) trivial (by decide) (hpe (by omega)) (by rw [he2];unfold PEv.ac;rw [hev1];simp only [List.nil_append];have hpd:(2:Nat) ^ (24:Int).toNat=16777216:=(by decide);have:=hpw1;omega) (hKe.le leA) (hP.le leA) hM hO.cl hO.cv hO.lv) ?_ ?_
 · rintro _ _ ⟨ht,rfl,ev9,he_,rfl⟩
   exact FQ.panic func130 (RP.thr (by rw [←hA2] at ht he_⊢;have hRR:=hR;rw [if_pos ht] at hRR;rw [hRR];exact ⟨σ,ev9,⟨ht,rfl,by rw [he_,he2];unfold PEv.ac;simp only [hev1,List.nil_append]⟩,rfl⟩)) (by rw [List.append_assoc];exact Le.refl _)
 rintro _ _ ⟨ht2,rfl,ev3,he3,eq_⟩;simp only [Zx,spP,Zc,evL,ca,na] at eq_;subst eq_
 rw [←hA2] at ht2 he3⊢
 rw [if_neg (fun k=>k ht2)] at hR
 rw [if_neg (by omega),if_pos rfl] at hR
 refine oo 8 ?_;refine ld ?_ (hc:=((hCs.le leA) 22 _ rfl))
 refine oo 1 ?_;obtain ⟨An,hAn⟩:=Int.eq_ofNat_of_zero_le (hs3 rfl).1;have hAl:An<g.arrs.l.length:=by have:=(hs3 rfl).2;rw [Ni] at this;omega
 refine XO.know 21 (.int .i64 (An:Int)) rfl (by rw [hAn]) ?_
 rw [hAn] at hR
 refine Vh call168 leA (Gh (p:=p) (pp:=pp) (who:=who) (σ:=σ) (ev:=ev3) (n:=An) (u:=A1.1) (q:=q++F) (hP.le leA) hM hAl hok1.1) ?_ ?_
 · rintro _ _ ⟨⟨hneg,rfl⟩,rfl⟩
   exact FQ.panic func130 (RP.thr (by rw [if_pos hneg] at hR;rw [hR];exact ⟨σ,ev3,⟨(show (3:Int)≠0 by decide),rfl,by rw [he3,he2];unfold PEv.ac;simp only [hev1,List.nil_append]⟩,rfl⟩)) (by rw [List.append_assoc];exact Le.refl _)
 rintro _ _ ⟨⟨hpos,rfl⟩,eq_⟩;simp only [Zx,spP,Zc,evL,ca,na] at eq_;subst eq_
 rw [if_neg (by omega)] at hR;obtain ⟨Cn_,hCn⟩:=Int.eq_ofNat_of_zero_le hpos
 refine XO.know 23 (.int .i64 (Cn_:Int)) rfl (by rw [hCn]) ?_
 have hcl:=hO.cl;have hcn:Cn_<σ.cells.length:=by
  have hx:=hCn;unfold PPr.cell at hx;rw [show g.er.pr.arrs=g.arrs.l from rfl,show g.er.pr.vars=g.vars.l from rfl,show ((An:Int)).toNat=An from rfl] at hx
  have hst:=Tz (l:=g.arrs.l) hM.a hAl
  split at hx<;>omega
 rw [hCn,show ((Cn_:Int)).toNat=Cn_ from rfl] at hR
 refine oo 1 ?_;refine Zf call167 leA (F5 (p:=p) (pp:=pp) (who:=who) (σ:=σ) (ev:=ev3) (n:=Cn_) (u:=A2.1) (q:=q++F) hcn (by rw [he3,he2];unfold PEv.ac;rw [hev1];simp only [List.nil_append,List.length_append];omega)) ?_
 rintro _ _ ⟨ev4,he4,rfl⟩
 refine ox 1 ?_;refine Z7 (Zx p pp who ({ σ with cells:=σ.cells.set Cn_ A2.1 } :StC) ev4++q) func130 (Vg results130) (RP.ret ⟨({ σ with cells:=σ.cells.set Cn_ A2.1 } :StC),ev4,⟨by rw [hR],by rw [hR];rfl,by rw [hR,he4,he3,he2];unfold PEv.ac;simp only [hev1,List.nil_append,List.append_assoc],hTd⟩,rfl⟩) (by rw [List.append_assoc];exact Le.refl _)
set_option maxHeartbeats 8000000 in
theorem Ag {y:PS}(hP:Prg q pp g)(hM:MayP g.er)(hO:PO g N who σ)(hev:ev.e.acc= []∧ev.e.syn= [])(hyA:Kn q fun M=>y.At M)(hg:y.s.er.good g.er.cn (σ.ths[who]'(hO.w)).loc.length)(hTd:Kn q fun M=>TodoAt M σ.ths)(hk:y.s.er.kd=4):CallF prog G 131 [.pointer (some ⟨p,0,none⟩),.pointer (some ⟨y.b,y.o,none⟩)] (Zx p pp who σ ev++q) (RP (fun v q'=> ∃ (σ':StC) (ev':EvC),((σ.er.data g.er.pr who y.s.er ev.e).2.2=0∧σ'.er=(σ.er.data g.er.pr who y.s.er ev.e).1∧ev'.e=(σ.er.data g.er.pr who y.s.er ev.e).2.1∧Kn q fun M=>TodoAt M σ'.ths)∧q'=Zx p pp who σ' ev'++q) (fun ch q'=> ∃ (σ':StC) (ev':EvC),((σ.er.data g.er.pr who y.s.er ev.e).2.2≠0∧ch= [Vp (σ.er.data g.er.pr who y.s.er ev.e).2.2]∧ev'.e=(σ.er.data g.er.pr who y.s.er ev.e).2.1)∧q'=Zx p pp who σ' ev'++q)):=by
 refine CallF.of func131 ntmps131 rfl (fun F cs=> ?_)
 obtain ⟨yb,yo,ys⟩:=y
 obtain ⟨kk,ln,cl,nm,wt,⟨ek,en,enm,esl,elo,eop,el,ea,ec⟩,⟨xk,xn,xnm,xsl,xlo,xop,xl,xa,xc⟩,bd,es2,ba,bc,ea2,ec2,id,sl,ot,lo_⟩:=ys
 have hCs:=Kn.stC hyA;dsimp only at hCs hg hyA hk⊢;simp only [Stm.er,PStm.kd] at hk
 have hwho:=hO.w;have h8:=hO.h8;have hys:=hO.y;have hN9:=hO.n9;obtain ⟨hev1,hev2⟩:=hev
 have hKe:Kn q fun M=>ExAt M ⟨yb,yo+5,none⟩ (Ex.mk ek en enm esl elo eop el ea ec):=hyA.imp fun M h=>Yk (pre:= [.int .i64 kk,.int .i64 ln,.int .i64 cl,.string nm,.string wt]) h.1 rfl h.2.1 rfl
 have hKx:Kn q fun M=>ExAt M ⟨yb,yo+12,none⟩ (Ex.mk xk xn xnm xsl xlo xop xl xa xc):=hyA.imp fun M h=>Yk (pre:= [.int .i64 kk,.int .i64 ln,.int .i64 cl,.string nm,.string wt]++exC (Ex.mk ek en enm esl elo eop el ea ec)) h.1 rfl h.2.2.1 rfl
 have hKb:Kn q fun M=>BlkAt M ba bc bd:=hyA.imp fun M h=>h.2.2.2.1;have hKl:Kn q fun M=>BlkAt M ea2 ec2 es2:=hyA.imp fun M h=>⟨h.2.2.2.2.1,h.2.2.2.2.2⟩
 obtain ⟨hg1,hg2,hg3,_⟩:=hg;obtain ⟨hs1,hs2,hs3,hs6,hs8,hs8o,hs11,hs12,hs13⟩:=Yi hg2;obtain ⟨hpe,hpx⟩:=Wd hg1;rw [Zn,Zn] at hg3
 obtain ⟨R,hR⟩: ∃ R,R=σ.er.data g.er.pr who (Stm.er (Stm.mk kk ln cl nm wt (Ex.mk ek en enm esl elo eop el ea ec) (Ex.mk xk xn xnm xsl xlo xop xl xa xc) bd es2 ba bc ea2 ec2 id sl ot lo_)) ev.e:=⟨_,rfl⟩;rw [←hR];unfold SS.data at hR;simp only [Stm.er] at hR;rw [Zo hwho] at hR
 change X _ _ _ _ _ _ _ _ (pto p (.cells (Yt pp σ++(.int .i64 (who:Int)::evC ev)).toArray 145 (0,0))::lsH I64 2 σ.ca σ.cc σ.cells::yH σ.sp σ.sy::rsH trC 5 116 σ.ha σ.hc σ.ths::stars (σ.ths.map trH)::rsH acC 3 140 ev.aa ev.ac ev.e.acc::rsH snC 3 50 ev.na ev.nc ev.e.syn::(q++F))
 obtain rfl:kk=4:=(by omega)
 rw [if_neg (show ¬ (4:Int)=3 by decide)] at hR;try dsimp only at hR
 rw [if_neg (fun k=>k rfl)] at hR
 refine Yz (l:=σ.ths) (by omega) (fun ga e_=> ?_)
 have hr: ∀ r,Sees (rsH trC 5 116 σ.ha σ.hc σ.ths::r) (some ⟨ga,0,none⟩) (σ.ths.flatMap trC):=fun r=>by rw [←e_];exact Sees.rsH r
 refine xo 7 ?_;obtain ⟨A1,hA1⟩: ∃ A,A=(Ex.er (Ex.mk ek en enm esl elo eop el ea ec)).made g.er.pr σ.cells σ.ths[who].loc:=⟨_,rfl⟩;have hok1:=Yp (p:=g.er.pr) hO.cv hO.lv (hpe (by omega));rw [←hA1] at hok1
 try rw [show (σ.ths[who].er).loc=σ.ths[who].loc from rfl] at hR
 try rw [show σ.er.cells=σ.cells from rfl] at hR
 rw [←hA1] at hR
 have hpw1:A1.2.2.length≤16777216:=Nat.le_trans hok1.2 (by decide)
 refine Vh call166 leA (Qo (p:=p) (pp:=pp) (who:=who) (hwho:=hwho) (Ex.sz (Ex.mk ek en enm esl elo eop el ea ec)) (e:=(Ex.mk ek en enm esl elo eop el ea ec)) (d:=24) (ev:=ev) (q:=q++F) (Nat.le_refl _) trivial (by decide) (hpe (by omega)) (by rw [hev1];decide) (hKe.le leA) (hP.le leA) hM hO.cl hO.cv hO.lv) ?_ ?_
 · rintro _ _ ⟨ht,rfl,ev9,he_,rfl⟩
   exact FQ.panic func131 (RP.thr (by rw [←hA1] at ht he_⊢;have hRR:=hR;rw [if_pos ht] at hRR;rw [hRR];exact ⟨σ,ev9,⟨ht,rfl,by rw [he_];unfold PEv.ac;simp only [hev1,List.nil_append]⟩,rfl⟩)) (by rw [List.append_assoc];exact Le.refl _)
 rintro _ _ ⟨ht1,rfl,ev2,he2,eq_⟩;simp only [Zx,spP,Zc,evL,ca,na] at eq_;subst eq_
 rw [←hA1] at ht1 he2⊢
 rw [if_neg (fun k=>k ht1)] at hR
 rw [if_neg (by decide),if_neg (by decide),if_pos rfl] at hR
 refine oo 3 ?_;refine st ?_;refine ol 7 ?_;refine ox 2 ?_;refine X.part 18 rfl (fun h5=> ?_) (fun h5=> ?_)
 · replace h5:=sp h5
   rw [if_neg (show ¬A1.1=0 by omega)] at hR
   refine X.le (q':=stars (σ.ths.map trH)::_) Zk (X.le (M0 hwho _) ?_)
   refine X.le (q':=rsH trC 5 116 (some ⟨ga,0,none⟩) σ.hc σ.ths::_) (by rw [←e_];exact Zk) ?_
   refine xx 1 ?_;refine drw ?_;refine dd [0,2,3,4] ?_;refine ldD 5 ?_ (hc:=((hCs.le leA) 19 _ rfl))
   refine Ym 1 call95 (Q4 (p:=p) (who:=who) (ga:=ga) (m:=σ.ths.length) (c:=σ.hc) (by rw [←e_];exact clA) clA hwho) ?_ (hL:=(hlA (h:=by repeat first|exact trivial|refine ⟨clA,?_⟩|refine ⟨(hCs.le leA) 21 _ rfl,?_⟩|refine ⟨(hCs.le leA) 22 _ rfl,?_⟩|refine ⟨(hCs.le leA) 23 _ rfl,?_⟩|refine ⟨(hCs.le leA) 24 _ rfl,?_⟩|refine ⟨(hCs.le leA) 19 _ rfl,?_⟩|refine ⟨(hCs.le leA) 20 _ rfl,?_⟩)))
   refine Y5 6 call84 (Le.pick Zk Zk) (R7 (gh:=ga) (n:=who) (hc:=σ.hc) (ths:=σ.ths) (l:=bd) (a:=ba) (c:=bc) hwho (hKb.le leA) ⟨by omega,by have:=hO.td;omega⟩) ?_
   rintro _ _ ⟨a1,c1,b1,o1,hbo,rfl⟩
   refine ⟨trivial,?_⟩
   refine XD.nil ?_
   rw [Wl hwho]
   rw [←e_]
   refine X.le (q':=stars ((σ.ths.set who ({ σ.ths[who] with ta:=a1,tc:=c1,todo:=σ.ths[who].todo++(psL b1 o1 bd).reverse } :TC)).map trH)::_) (Le.trans (b:=lsH I64 2 (({ σ.ths[who] with ta:=a1,tc:=c1,todo:=σ.ths[who].todo++(psL b1 o1 bd).reverse } :TC)).la (({ σ.ths[who] with ta:=a1,tc:=c1,todo:=σ.ths[who].todo++(psL b1 o1 bd).reverse } :TC)).lc (({ σ.ths[who] with ta:=a1,tc:=c1,todo:=σ.ths[who].todo++(psL b1 o1 bd).reverse } :TC)).loc::lsH PS.v 146 (({ σ.ths[who] with ta:=a1,tc:=c1,todo:=σ.ths[who].todo++(psL b1 o1 bd).reverse } :TC)).ta (({ σ.ths[who] with ta:=a1,tc:=c1,todo:=σ.ths[who].todo++(psL b1 o1 bd).reverse } :TC)).tc (({ σ.ths[who] with ta:=a1,tc:=c1,todo:=σ.ths[who].todo++(psL b1 o1 bd).reverse } :TC)).todo::lsH I64 3 (({ σ.ths[who] with ta:=a1,tc:=c1,todo:=σ.ths[who].todo++(psL b1 o1 bd).reverse } :TC)).sa (({ σ.ths[who] with ta:=a1,tc:=c1,todo:=σ.ths[who].todo++(psL b1 o1 bd).reverse } :TC)).sc (({ σ.ths[who] with ta:=a1,tc:=c1,todo:=σ.ths[who].todo++(psL b1 o1 bd).reverse } :TC)).sp::stars ((σ.ths.eraseIdx who).map trH)::_) (Le.pick Zk (Le.pick Zk (Le.pick Zk Zk))) (Mo hwho ({ σ.ths[who] with ta:=a1,tc:=c1,todo:=σ.ths[who].todo++(psL b1 o1 bd).reverse } :TC) _)) ?_
   refine X.le (q':=Zx p pp who ({ σ with ths:=σ.ths.set who ({ σ.ths[who] with ta:=a1,tc:=c1,todo:=σ.ths[who].todo++(psL b1 o1 bd).reverse } :TC) } :StC) ({ ev2 with e:= { ev2.e with value:=A1.1 } } :EvC)++(q++F)) (by unfold Zx spP Yt Zc;simp only [List.length_set];exact leA) ?_
   refine Z7 (Zx p pp who ({ σ with ths:=σ.ths.set who ({ σ.ths[who] with ta:=a1,tc:=c1,todo:=σ.ths[who].todo++(psL b1 o1 bd).reverse } :TC) } :StC) ({ ev2 with e:= { ev2.e with value:=A1.1 } } :EvC)++q) func131 (Vg results131) (RP.ret ⟨({ σ with ths:=σ.ths.set who ({ σ.ths[who] with ta:=a1,tc:=c1,todo:=σ.ths[who].todo++(psL b1 o1 bd).reverse } :TC) } :StC),({ ev2 with e:= { ev2.e with value:=A1.1 } } :EvC),⟨by rw [hR],by rw [hR];dsimp only;rw [W6];congr 1;simp only [TC.er,List.map_append,List.map_reverse,E2,List.reverse_append,List.reverse_reverse,List.map_cons,List.map_nil,List.reverse_cons,List.reverse_nil,List.nil_append,List.append_assoc,Stm.er,List.cons_append],by rw [hR];dsimp only;rw [he2];unfold PEv.ac;simp only [hev1,List.nil_append],(hTd.and ((hyA.and hKb))).imp fun M h t ht z hz=>by
    rcases List.mem_or_eq_of_mem_set ht with ht|rfl
    · exact h.1 t ht z hz
    rcases List.mem_append.1 hz with hz|hz
    · exact h.1 _ (List.getElem_mem hwho) z hz
    have hz2:=List.mem_reverse.1 hz
    have hb:=h.2.2
    rw [hbo (by rw [←Hs b1 o1 bd];exact List.length_pos_of_mem hz2)] at hb
    exact E3 hb z hz2⟩,rfl⟩) (by rw [List.append_assoc];exact Le.refl _)
 replace h5:=sp h5
 rw [if_pos (show A1.1=0 by omega)] at hR
 refine X.le (q':=stars (σ.ths.map trH)::_) Zk (X.le (M0 hwho _) ?_)
 refine X.le (q':=rsH trC 5 116 (some ⟨ga,0,none⟩) σ.hc σ.ths::_) (by rw [←e_];exact Zk) ?_
 refine xx 1 ?_;refine drw ?_;refine dd [0,2,3,4] ?_;refine ldD 5 ?_ (hc:=((hCs.le leA) 20 _ rfl))
 refine Ym 1 call95 (Q4 (p:=p) (who:=who) (ga:=ga) (m:=σ.ths.length) (c:=σ.hc) (by rw [←e_];exact clA) clA hwho) ?_ (hL:=(hlA (h:=by repeat first|exact trivial|refine ⟨clA,?_⟩|refine ⟨(hCs.le leA) 21 _ rfl,?_⟩|refine ⟨(hCs.le leA) 22 _ rfl,?_⟩|refine ⟨(hCs.le leA) 23 _ rfl,?_⟩|refine ⟨(hCs.le leA) 24 _ rfl,?_⟩|refine ⟨(hCs.le leA) 19 _ rfl,?_⟩|refine ⟨(hCs.le leA) 20 _ rfl,?_⟩)))
 refine Y5 6 call84 (Le.pick Zk Zk) (R7 (gh:=ga) (n:=who) (hc:=σ.hc) (ths:=σ.ths) (l:=es2) (a:=ea2) (c:=ec2) hwho (hKl.le leA) ⟨by omega,by have:=hO.td;omega⟩) ?_
 rintro _ _ ⟨a1,c1,b1,o1,hbo,rfl⟩
 refine ⟨trivial,?_⟩
 refine XD.nil ?_
 rw [Wl hwho]
 rw [←e_]
 refine X.le (q':=stars ((σ.ths.set who ({ σ.ths[who] with ta:=a1,tc:=c1,todo:=σ.ths[who].todo++(psL b1 o1 es2).reverse } :TC)).map trH)::_) (Le.trans (b:=lsH I64 2 (({ σ.ths[who] with ta:=a1,tc:=c1,todo:=σ.ths[who].todo++(psL b1 o1 es2).reverse } :TC)).la (({ σ.ths[who] with ta:=a1,tc:=c1,todo:=σ.ths[who].todo++(psL b1 o1 es2).reverse } :TC)).lc (({ σ.ths[who] with ta:=a1,tc:=c1,todo:=σ.ths[who].todo++(psL b1 o1 es2).reverse } :TC)).loc::lsH PS.v 146 (({ σ.ths[who] with ta:=a1,tc:=c1,todo:=σ.ths[who].todo++(psL b1 o1 es2).reverse } :TC)).ta (({ σ.ths[who] with ta:=a1,tc:=c1,todo:=σ.ths[who].todo++(psL b1 o1 es2).reverse } :TC)).tc (({ σ.ths[who] with ta:=a1,tc:=c1,todo:=σ.ths[who].todo++(psL b1 o1 es2).reverse } :TC)).todo::lsH I64 3 (({ σ.ths[who] with ta:=a1,tc:=c1,todo:=σ.ths[who].todo++(psL b1 o1 es2).reverse } :TC)).sa (({ σ.ths[who] with ta:=a1,tc:=c1,todo:=σ.ths[who].todo++(psL b1 o1 es2).reverse } :TC)).sc (({ σ.ths[who] with ta:=a1,tc:=c1,todo:=σ.ths[who].todo++(psL b1 o1 es2).reverse } :TC)).sp::stars ((σ.ths.eraseIdx who).map trH)::_) (Le.pick Zk (Le.pick Zk (Le.pick Zk Zk))) (Mo hwho ({ σ.ths[who] with ta:=a1,tc:=c1,todo:=σ.ths[who].todo++(psL b1 o1 es2).reverse } :TC) _)) ?_
 refine X.le (q':=Zx p pp who ({ σ with ths:=σ.ths.set who ({ σ.ths[who] with ta:=a1,tc:=c1,todo:=σ.ths[who].todo++(psL b1 o1 es2).reverse } :TC) } :StC) ({ ev2 with e:= { ev2.e with value:=A1.1 } } :EvC)++(q++F)) (by unfold Zx spP Yt Zc;simp only [List.length_set];exact leA) ?_
 refine Z7 (Zx p pp who ({ σ with ths:=σ.ths.set who ({ σ.ths[who] with ta:=a1,tc:=c1,todo:=σ.ths[who].todo++(psL b1 o1 es2).reverse } :TC) } :StC) ({ ev2 with e:= { ev2.e with value:=A1.1 } } :EvC)++q) func131 (Vg results131) (RP.ret ⟨({ σ with ths:=σ.ths.set who ({ σ.ths[who] with ta:=a1,tc:=c1,todo:=σ.ths[who].todo++(psL b1 o1 es2).reverse } :TC) } :StC),({ ev2 with e:= { ev2.e with value:=A1.1 } } :EvC),⟨by rw [hR],by rw [hR];dsimp only;rw [W6];congr 1;simp only [TC.er,List.map_append,List.map_reverse,E2,List.reverse_append,List.reverse_reverse,List.map_cons,List.map_nil,List.reverse_cons,List.reverse_nil,List.nil_append,List.append_assoc,Stm.er,List.cons_append],by rw [hR];dsimp only;rw [he2];unfold PEv.ac;simp only [hev1,List.nil_append],(hTd.and ((hyA.and hKl))).imp fun M h t ht z hz=>by
  rcases List.mem_or_eq_of_mem_set ht with ht|rfl
  · exact h.1 t ht z hz
  rcases List.mem_append.1 hz with hz|hz
  · exact h.1 _ (List.getElem_mem hwho) z hz
  have hz2:=List.mem_reverse.1 hz
  have hb:=h.2.2
  rw [hbo (by rw [←Hs b1 o1 es2];exact List.length_pos_of_mem hz2)] at hb
  exact E3 hb z hz2⟩,rfl⟩) (by rw [List.append_assoc];exact Le.refl _)
set_option maxHeartbeats 8000000 in
theorem Af {y:PS}(hP:Prg q pp g)(hM:MayP g.er)(hO:PO g N who σ)(hev:ev.e.acc= []∧ev.e.syn= [])(hyA:Kn q fun M=>y.At M)(hg:y.s.er.good g.er.cn (σ.ths[who]'(hO.w)).loc.length)(hTd:Kn q fun M=>TodoAt M σ.ths)(hk:y.s.er.kd=5):CallF prog G 132 [.pointer (some ⟨p,0,none⟩),.pointer (some ⟨y.b,y.o,none⟩)] (Zx p pp who σ ev++q) (RP (fun v q'=> ∃ (σ':StC) (ev':EvC),((σ.er.data g.er.pr who y.s.er ev.e).2.2=0∧σ'.er=(σ.er.data g.er.pr who y.s.er ev.e).1∧ev'.e=(σ.er.data g.er.pr who y.s.er ev.e).2.1∧Kn q fun M=>TodoAt M σ'.ths)∧q'=Zx p pp who σ' ev'++q) (fun ch q'=> ∃ (σ':StC) (ev':EvC),((σ.er.data g.er.pr who y.s.er ev.e).2.2≠0∧ch= [Vp (σ.er.data g.er.pr who y.s.er ev.e).2.2]∧ev'.e=(σ.er.data g.er.pr who y.s.er ev.e).2.1)∧q'=Zx p pp who σ' ev'++q)):=by
 refine CallF.of func132 ntmps132 rfl (fun F cs=> ?_)
 obtain ⟨yb,yo,ys⟩:=y
 obtain ⟨kk,ln,cl,nm,wt,⟨ek,en,enm,esl,elo,eop,el,ea,ec⟩,⟨xk,xn,xnm,xsl,xlo,xop,xl,xa,xc⟩,bd,es2,ba,bc,ea2,ec2,id,sl,ot,lo_⟩:=ys
 have hCs:=Kn.stC hyA;dsimp only at hCs hg hyA hk⊢;simp only [Stm.er,PStm.kd] at hk
 have hwho:=hO.w;have h8:=hO.h8;have hys:=hO.y;have hN9:=hO.n9;obtain ⟨hev1,hev2⟩:=hev
 have hKe:Kn q fun M=>ExAt M ⟨yb,yo+5,none⟩ (Ex.mk ek en enm esl elo eop el ea ec):=hyA.imp fun M h=>Yk (pre:= [.int .i64 kk,.int .i64 ln,.int .i64 cl,.string nm,.string wt]) h.1 rfl h.2.1 rfl
 have hKx:Kn q fun M=>ExAt M ⟨yb,yo+12,none⟩ (Ex.mk xk xn xnm xsl xlo xop xl xa xc):=hyA.imp fun M h=>Yk (pre:= [.int .i64 kk,.int .i64 ln,.int .i64 cl,.string nm,.string wt]++exC (Ex.mk ek en enm esl elo eop el ea ec)) h.1 rfl h.2.2.1 rfl
 have hKb:Kn q fun M=>BlkAt M ba bc bd:=hyA.imp fun M h=>h.2.2.2.1;have hKl:Kn q fun M=>BlkAt M ea2 ec2 es2:=hyA.imp fun M h=>⟨h.2.2.2.2.1,h.2.2.2.2.2⟩
 obtain ⟨hg1,hg2,hg3,_⟩:=hg;obtain ⟨hs1,hs2,hs3,hs6,hs8,hs8o,hs11,hs12,hs13⟩:=Yi hg2;obtain ⟨hpe,hpx⟩:=Wd hg1;rw [Zn,Zn] at hg3
 obtain ⟨R,hR⟩: ∃ R,R=σ.er.data g.er.pr who (Stm.er (Stm.mk kk ln cl nm wt (Ex.mk ek en enm esl elo eop el ea ec) (Ex.mk xk xn xnm xsl xlo xop xl xa xc) bd es2 ba bc ea2 ec2 id sl ot lo_)) ev.e:=⟨_,rfl⟩;rw [←hR];unfold SS.data at hR;simp only [Stm.er] at hR;rw [Zo hwho] at hR
 change X _ _ _ _ _ _ _ _ (pto p (.cells (Yt pp σ++(.int .i64 (who:Int)::evC ev)).toArray 145 (0,0))::lsH I64 2 σ.ca σ.cc σ.cells::yH σ.sp σ.sy::rsH trC 5 116 σ.ha σ.hc σ.ths::stars (σ.ths.map trH)::rsH acC 3 140 ev.aa ev.ac ev.e.acc::rsH snC 3 50 ev.na ev.nc ev.e.syn::(q++F))
 obtain rfl:kk=5:=(by omega)
 rw [if_neg (show ¬ (5:Int)=3 by decide)] at hR;try dsimp only at hR
 rw [if_neg (fun k=>k rfl)] at hR
 refine Yz (l:=σ.ths) (by omega) (fun ga e_=> ?_)
 have hr: ∀ r,Sees (rsH trC 5 116 σ.ha σ.hc σ.ths::r) (some ⟨ga,0,none⟩) (σ.ths.flatMap trC):=fun r=>by rw [←e_];exact Sees.rsH r
 refine xo 7 ?_;obtain ⟨A1,hA1⟩: ∃ A,A=(Ex.er (Ex.mk ek en enm esl elo eop el ea ec)).made g.er.pr σ.cells σ.ths[who].loc:=⟨_,rfl⟩;have hok1:=Yp (p:=g.er.pr) hO.cv hO.lv (hpe (by omega));rw [←hA1] at hok1
 try rw [show (σ.ths[who].er).loc=σ.ths[who].loc from rfl] at hR
 try rw [show σ.er.cells=σ.cells from rfl] at hR
 rw [←hA1] at hR
 have hpw1:A1.2.2.length≤16777216:=Nat.le_trans hok1.2 (by decide)
 refine Vh call166 leA (Qo (p:=p) (pp:=pp) (who:=who) (hwho:=hwho) (Ex.sz (Ex.mk ek en enm esl elo eop el ea ec)) (e:=(Ex.mk ek en enm esl elo eop el ea ec)) (d:=24) (ev:=ev) (q:=q++F) (Nat.le_refl _) trivial (by decide) (hpe (by omega)) (by rw [hev1];decide) (hKe.le leA) (hP.le leA) hM hO.cl hO.cv hO.lv) ?_ ?_
 · rintro _ _ ⟨ht,rfl,ev9,he_,rfl⟩
   exact FQ.panic func132 (RP.thr (by rw [←hA1] at ht he_⊢;have hRR:=hR;rw [if_pos ht] at hRR;rw [hRR];exact ⟨σ,ev9,⟨ht,rfl,by rw [he_];unfold PEv.ac;simp only [hev1,List.nil_append]⟩,rfl⟩)) (by rw [List.append_assoc];exact Le.refl _)
 rintro _ _ ⟨ht1,rfl,ev2,he2,eq_⟩;simp only [Zx,spP,Zc,evL,ca,na] at eq_;subst eq_
 rw [←hA1] at ht1 he2⊢
 rw [if_neg (fun k=>k ht1)] at hR
 rw [if_neg (by decide),if_neg (by decide),if_neg (by decide),if_pos rfl] at hR
 refine oo 3 ?_;refine st ?_;refine ol 7 ?_;refine ox 2 ?_;refine X.part 18 rfl (fun h5=> ?_) (fun h5=> ?_)
 · replace h5:=sp h5
   rw [if_neg (show ¬A1.1=0 by omega)] at hR
   refine X.le (q':=stars (σ.ths.map trH)::_) Zk (X.le (M0 hwho _) ?_)
   refine X.le (q':=rsH trC 5 116 (some ⟨ga,0,none⟩) σ.hc σ.ths::_) (by rw [←e_];exact Zk) ?_
   refine xo 4 ?_;refine XO.cR call95 (Q4 (p:=p) (who:=who) (ga:=ga) (m:=σ.ths.length) (c:=σ.hc) (by rw [←e_];exact clA) clA hwho) ?_
   refine oo 1 ?_;refine XO.cR call95 (Q4 (p:=p) (who:=who) (ga:=ga) (m:=σ.ths.length) (c:=σ.hc) (by rw [←e_];exact clA) clA hwho) ?_
   refine oo 2 ?_;refine ld ?_ (hc:=(Cl.row (n:=who) (Sees.rsH _) leA Zy hwho rfl 3 _ rfl))
   refine oo 1 ?_;refine XO.ef (Qq (u:=(⟨yb,yo,(Stm.mk 5 ln cl nm wt (Ex.mk ek en enm esl elo eop el ea ec) (Ex.mk xk xn xnm xsl xlo xop xl xa xc) bd es2 ba bc ea2 ec2 id sl ot lo_)⟩:PS)) PS.v underlying114 We rfl rfl) ?_
   rintro _ _ ⟨g2,rfl,rfl⟩
   refine XO.ef (Yb (f:=PS.v) (l:=σ.ths[who].todo) (m:= [(⟨yb,yo,(Stm.mk 5 ln cl nm wt (Ex.mk ek en enm esl elo eop el ea ec) (Ex.mk xk xn xnm xsl xlo xop xl xa xc) bd es2 ba bc ea2 ec2 id sl ot lo_)⟩:PS)]) underlying114 We rfl rfl rfl Zk ((Sees.lsH _).le leA) (fun _=>rfl) (by have:=hO.td;simp only [List.length_singleton];omega) (by have:=hO.td;simp only [List.length_singleton];omega)) ?_
   rintro _ _ ⟨a5,c5,rfl,rfl⟩
   refine oo 2 ?_;refine XO.ef0 (Ye (g:=ga) (f:=trC) (l:=σ.ths) (u:=({ σ.ths[who] with ta:=a5,tc:=c5,todo:=σ.ths[who].todo++ [(⟨yb,yo,(Stm.mk 5 ln cl nm wt (Ex.mk ek en enm esl elo eop el ea ec) (Ex.mk xk xn xnm xsl xlo xop xl xa xc) bd es2 ba bc ea2 ec2 id sl ot lo_)⟩:PS)] } :TC)) (n:=who) (k:=3) (j:=(who:Int)) rfl rfl sizeOf114 Zy rfl hwho rfl rfl rfl rfl Zk) ?_
   rintro _ _ ⟨rfl,rfl⟩
   refine ox 1 ?_;refine drw ?_;refine dd [0,2,3,4] ?_;refine ldD 5 ?_ (hc:=((hCs.le leA) 19 _ rfl))
   refine Ym 1 call95 (Q4 (p:=p) (who:=who) (ga:=ga) (m:=σ.ths.length) (c:=σ.hc) (by rw [←e_];exact clA) clA hwho) ?_ (hL:=(hlA (h:=by repeat first|exact trivial|refine ⟨clA,?_⟩|refine ⟨(hCs.le leA) 21 _ rfl,?_⟩|refine ⟨(hCs.le leA) 22 _ rfl,?_⟩|refine ⟨(hCs.le leA) 23 _ rfl,?_⟩|refine ⟨(hCs.le leA) 24 _ rfl,?_⟩|refine ⟨(hCs.le leA) 19 _ rfl,?_⟩|refine ⟨(hCs.le leA) 20 _ rfl,?_⟩)))
   refine Y5 6 call84 (Le.pick Zk Zk) (I8 (gh:=ga) (n:=who) (hc:=σ.hc) (ths:=σ.ths) (x:=({ σ.ths[who] with ta:=a5,tc:=c5,todo:=σ.ths[who].todo++ [(⟨yb,yo,(Stm.mk 5 ln cl nm wt (Ex.mk ek en enm esl elo eop el ea ec) (Ex.mk xk xn xnm xsl xlo xop xl xa xc) bd es2 ba bc ea2 ec2 id sl ot lo_)⟩:PS)] } :TC)) (l:=bd) (a:=ba) (c:=bc) hwho (hKb.le leA) ⟨by omega,by have:=hO.td;simp only [List.length_append,List.length_singleton];omega⟩) ?_
   rintro _ _ ⟨a1,c1,b1,o1,hbo,rfl⟩
   refine ⟨trivial,?_⟩
   refine XD.nil ?_
   rw [←e_]
   refine X.le (q':=stars ((σ.ths.set who ({ σ.ths[who] with ta:=a1,tc:=c1,todo:=σ.ths[who].todo++ [(⟨yb,yo,(Stm.mk 5 ln cl nm wt (Ex.mk ek en enm esl elo eop el ea ec) (Ex.mk xk xn xnm xsl xlo xop xl xa xc) bd es2 ba bc ea2 ec2 id sl ot lo_)⟩:PS)]++(psL b1 o1 bd).reverse } :TC)).map trH)::_) (Le.trans (b:=lsH I64 2 (({ σ.ths[who] with ta:=a1,tc:=c1,todo:=σ.ths[who].todo++ [(⟨yb,yo,(Stm.mk 5 ln cl nm wt (Ex.mk ek en enm esl elo eop el ea ec) (Ex.mk xk xn xnm xsl xlo xop xl xa xc) bd es2 ba bc ea2 ec2 id sl ot lo_)⟩:PS)]++(psL b1 o1 bd).reverse } :TC)).la (({ σ.ths[who] with ta:=a1,tc:=c1,todo:=σ.ths[who].todo++ [(⟨yb,yo,(Stm.mk 5 ln cl nm wt (Ex.mk ek en enm esl elo eop el ea ec) (Ex.mk xk xn xnm xsl xlo xop xl xa xc) bd es2 ba bc ea2 ec2 id sl ot lo_)⟩:PS)]++(psL b1 o1 bd).reverse } :TC)).lc (({ σ.ths[who] with ta:=a1,tc:=c1,todo:=σ.ths[who].todo++ [(⟨yb,yo,(Stm.mk 5 ln cl nm wt (Ex.mk ek en enm esl elo eop el ea ec) (Ex.mk xk xn xnm xsl xlo xop xl xa xc) bd es2 ba bc ea2 ec2 id sl ot lo_)⟩:PS)]++(psL b1 o1 bd).reverse } :TC)).loc::lsH PS.v 146 (({ σ.ths[who] with ta:=a1,tc:=c1,todo:=σ.ths[who].todo++ [(⟨yb,yo,(Stm.mk 5 ln cl nm wt (Ex.mk ek en enm esl elo eop el ea ec) (Ex.mk xk xn xnm xsl xlo xop xl xa xc) bd es2 ba bc ea2 ec2 id sl ot lo_)⟩:PS)]++(psL b1 o1 bd).reverse } :TC)).ta (({ σ.ths[who] with ta:=a1,tc:=c1,todo:=σ.ths[who].todo++ [(⟨yb,yo,(Stm.mk 5 ln cl nm wt (Ex.mk ek en enm esl elo eop el ea ec) (Ex.mk xk xn xnm xsl xlo xop xl xa xc) bd es2 ba bc ea2 ec2 id sl ot lo_)⟩:PS)]++(psL b1 o1 bd).reverse } :TC)).tc (({ σ.ths[who] with ta:=a1,tc:=c1,todo:=σ.ths[who].todo++ [(⟨yb,yo,(Stm.mk 5 ln cl nm wt (Ex.mk ek en enm esl elo eop el ea ec) (Ex.mk xk xn xnm xsl xlo xop xl xa xc) bd es2 ba bc ea2 ec2 id sl ot lo_)⟩:PS)]++(psL b1 o1 bd).reverse } :TC)).todo::lsH I64 3 (({ σ.ths[who] with ta:=a1,tc:=c1,todo:=σ.ths[who].todo++ [(⟨yb,yo,(Stm.mk 5 ln cl nm wt (Ex.mk ek en enm esl elo eop el ea ec) (Ex.mk xk xn xnm xsl xlo xop xl xa xc) bd es2 ba bc ea2 ec2 id sl ot lo_)⟩:PS)]++(psL b1 o1 bd).reverse } :TC)).sa (({ σ.ths[who] with ta:=a1,tc:=c1,todo:=σ.ths[who].todo++ [(⟨yb,yo,(Stm.mk 5 ln cl nm wt (Ex.mk ek en enm esl elo eop el ea ec) (Ex.mk xk xn xnm xsl xlo xop xl xa xc) bd es2 ba bc ea2 ec2 id sl ot lo_)⟩:PS)]++(psL b1 o1 bd).reverse } :TC)).sc (({ σ.ths[who] with ta:=a1,tc:=c1,todo:=σ.ths[who].todo++ [(⟨yb,yo,(Stm.mk 5 ln cl nm wt (Ex.mk ek en enm esl elo eop el ea ec) (Ex.mk xk xn xnm xsl xlo xop xl xa xc) bd es2 ba bc ea2 ec2 id sl ot lo_)⟩:PS)]++(psL b1 o1 bd).reverse } :TC)).sp::stars ((σ.ths.eraseIdx who).map trH)::_) (Le.pick Zk (Le.pick Zk (Le.pick Zk Zk))) (Mo hwho ({ σ.ths[who] with ta:=a1,tc:=c1,todo:=σ.ths[who].todo++ [(⟨yb,yo,(Stm.mk 5 ln cl nm wt (Ex.mk ek en enm esl elo eop el ea ec) (Ex.mk xk xn xnm xsl xlo xop xl xa xc) bd es2 ba bc ea2 ec2 id sl ot lo_)⟩:PS)]++(psL b1 o1 bd).reverse } :TC) _)) ?_
   refine X.le (q':=Zx p pp who ({ σ with ths:=σ.ths.set who ({ σ.ths[who] with ta:=a1,tc:=c1,todo:=σ.ths[who].todo++ [(⟨yb,yo,(Stm.mk 5 ln cl nm wt (Ex.mk ek en enm esl elo eop el ea ec) (Ex.mk xk xn xnm xsl xlo xop xl xa xc) bd es2 ba bc ea2 ec2 id sl ot lo_)⟩:PS)]++(psL b1 o1 bd).reverse } :TC) } :StC) ({ ev2 with e:= { ev2.e with value:=A1.1 } } :EvC)++(q++F)) (by unfold Zx spP Yt Zc;simp only [List.length_set];exact leA) ?_
   refine Z7 (Zx p pp who ({ σ with ths:=σ.ths.set who ({ σ.ths[who] with ta:=a1,tc:=c1,todo:=σ.ths[who].todo++ [(⟨yb,yo,(Stm.mk 5 ln cl nm wt (Ex.mk ek en enm esl elo eop el ea ec) (Ex.mk xk xn xnm xsl xlo xop xl xa xc) bd es2 ba bc ea2 ec2 id sl ot lo_)⟩:PS)]++(psL b1 o1 bd).reverse } :TC) } :StC) ({ ev2 with e:= { ev2.e with value:=A1.1 } } :EvC)++q) func132 (Vg results132) (RP.ret ⟨({ σ with ths:=σ.ths.set who ({ σ.ths[who] with ta:=a1,tc:=c1,todo:=σ.ths[who].todo++ [(⟨yb,yo,(Stm.mk 5 ln cl nm wt (Ex.mk ek en enm esl elo eop el ea ec) (Ex.mk xk xn xnm xsl xlo xop xl xa xc) bd es2 ba bc ea2 ec2 id sl ot lo_)⟩:PS)]++(psL b1 o1 bd).reverse } :TC) } :StC),({ ev2 with e:= { ev2.e with value:=A1.1 } } :EvC),⟨by rw [hR],by rw [hR];dsimp only;rw [W6];congr 1;simp only [TC.er,List.map_append,List.map_reverse,E2,List.reverse_append,List.reverse_reverse,List.map_cons,List.map_nil,List.reverse_cons,List.reverse_nil,List.nil_append,List.append_assoc,Stm.er,List.cons_append],by rw [hR];dsimp only;rw [he2];unfold PEv.ac;simp only [hev1,List.nil_append],(hTd.and ((hyA.and hKb))).imp fun M h t ht z hz=>by
    rcases List.mem_or_eq_of_mem_set ht with ht|rfl
    · exact h.1 t ht z hz
    rcases List.mem_append.1 hz with hz|hz
    · rcases List.mem_append.1 hz with hz|hz
      · exact h.1 _ (List.getElem_mem hwho) z hz
      rw [List.mem_singleton.1 hz];exact h.2.1
    have hz2:=List.mem_reverse.1 hz
    have hb:=h.2.2
    rw [hbo (by rw [←Hs b1 o1 bd];exact List.length_pos_of_mem hz2)] at hb
    exact E3 hb z hz2⟩,rfl⟩) (by rw [List.append_assoc];exact Le.refl _)
 replace h5:=sp h5
 rw [if_pos (show A1.1=0 by omega)] at hR
 refine xx 2 ?_;refine Z7 (Zx p pp who σ ({ ev2 with e:= { ev2.e with value:=A1.1 } } :EvC)++q) func132 (Vg results132) (RP.ret ⟨σ,({ ev2 with e:= { ev2.e with value:=A1.1 } } :EvC),⟨by rw [hR],by rw [hR];dsimp only;rw [List.nil_append];exact (Fg hwho).symm,by rw [hR];dsimp only;rw [he2];unfold PEv.ac;simp only [hev1,List.nil_append],hTd⟩,rfl⟩) (by rw [List.append_assoc];exact Le.refl _)
set_option maxHeartbeats 4000000 in
theorem Ig {y:PS}(hP:Prg q pp g)(hM:MayP g.er)(hO:PO g N who σ)(hev:ev.e.acc= []∧ev.e.syn= [])(hyA:Kn q fun M=>y.At M)(hg:y.s.er.good g.er.cn (σ.ths[who]'(hO.w)).loc.length)(hTd:Kn q fun M=>TodoAt M σ.ths)(hk:y.s.er.kd=15):CallF prog G 142 [.pointer (some ⟨p,0,none⟩),.pointer (some ⟨y.b,y.o,none⟩)] (Zx p pp who σ ev++q) (RP (fun v q'=> ∃ (σ':StC) (ev':EvC),((σ.er.data g.er.pr who y.s.er ev.e).2.2=0∧σ'.er=(σ.er.data g.er.pr who y.s.er ev.e).1∧ev'.e=(σ.er.data g.er.pr who y.s.er ev.e).2.1∧Kn q fun M=>TodoAt M σ'.ths)∧q'=Zx p pp who σ' ev'++q) (fun ch q'=> ∃ (σ':StC) (ev':EvC),((σ.er.data g.er.pr who y.s.er ev.e).2.2≠0∧ch= [Vp (σ.er.data g.er.pr who y.s.er ev.e).2.2]∧ev'.e=(σ.er.data g.er.pr who y.s.er ev.e).2.1)∧q'=Zx p pp who σ' ev'++q)):=by
 refine CallF.of func142 ntmps142 rfl (fun F cs=> ?_)
 obtain ⟨yb,yo,ys⟩:=y
 obtain ⟨kk,ln,cl,nm,wt,⟨ek,en,enm,esl,elo,eop,el,ea,ec⟩,⟨xk,xn,xnm,xsl,xlo,xop,xl,xa,xc⟩,bd,es2,ba,bc,ea2,ec2,id,sl,ot,lo_⟩:=ys
 have hCs:=Kn.stC hyA;dsimp only at hCs hg hyA hk⊢;simp only [Stm.er,PStm.kd] at hk
 have hwho:=hO.w;have h8:=hO.h8;have hys:=hO.y;have hN9:=hO.n9;obtain ⟨hev1,hev2⟩:=hev
 have hKe:Kn q fun M=>ExAt M ⟨yb,yo+5,none⟩ (Ex.mk ek en enm esl elo eop el ea ec):=hyA.imp fun M h=>Yk (pre:= [.int .i64 kk,.int .i64 ln,.int .i64 cl,.string nm,.string wt]) h.1 rfl h.2.1 rfl
 have hKx:Kn q fun M=>ExAt M ⟨yb,yo+12,none⟩ (Ex.mk xk xn xnm xsl xlo xop xl xa xc):=hyA.imp fun M h=>Yk (pre:= [.int .i64 kk,.int .i64 ln,.int .i64 cl,.string nm,.string wt]++exC (Ex.mk ek en enm esl elo eop el ea ec)) h.1 rfl h.2.2.1 rfl
 have hKb:Kn q fun M=>BlkAt M ba bc bd:=hyA.imp fun M h=>h.2.2.2.1;have hKl:Kn q fun M=>BlkAt M ea2 ec2 es2:=hyA.imp fun M h=>⟨h.2.2.2.2.1,h.2.2.2.2.2⟩
 obtain ⟨hg1,hg2,hg3,_⟩:=hg;obtain ⟨hs1,hs2,hs3,hs6,hs8,hs8o,hs11,hs12,hs13⟩:=Yi hg2;obtain ⟨hpe,hpx⟩:=Wd hg1;rw [Zn,Zn] at hg3
 obtain ⟨R,hR⟩: ∃ R,R=σ.er.data g.er.pr who (Stm.er (Stm.mk kk ln cl nm wt (Ex.mk ek en enm esl elo eop el ea ec) (Ex.mk xk xn xnm xsl xlo xop xl xa xc) bd es2 ba bc ea2 ec2 id sl ot lo_)) ev.e:=⟨_,rfl⟩;rw [←hR];unfold SS.data at hR;simp only [Stm.er] at hR;rw [Zo hwho] at hR
 change X _ _ _ _ _ _ _ _ (pto p (.cells (Yt pp σ++(.int .i64 (who:Int)::evC ev)).toArray 145 (0,0))::lsH I64 2 σ.ca σ.cc σ.cells::yH σ.sp σ.sy::rsH trC 5 116 σ.ha σ.hc σ.ths::stars (σ.ths.map trH)::rsH acC 3 140 ev.aa ev.ac ev.e.acc::rsH snC 3 50 ev.na ev.nc ev.e.syn::(q++F))
 obtain rfl:kk=15:=(by omega)
 rw [if_neg (show ¬ (15:Int)=3 by decide)] at hR;try dsimp only at hR
 rw [if_neg (fun k=>k rfl)] at hR
 refine xo 7 ?_;obtain ⟨A1,hA1⟩: ∃ A,A=(Ex.er (Ex.mk ek en enm esl elo eop el ea ec)).made g.er.pr σ.cells σ.ths[who].loc:=⟨_,rfl⟩;have hok1:=Yp (p:=g.er.pr) hO.cv hO.lv (hpe (by omega));rw [←hA1] at hok1
 try rw [show (σ.ths[who].er).loc=σ.ths[who].loc from rfl] at hR
 try rw [show σ.er.cells=σ.cells from rfl] at hR
 rw [←hA1] at hR
 have hpw1:A1.2.2.length≤16777216:=Nat.le_trans hok1.2 (by decide)
 refine Vh call166 leA (Qo (p:=p) (pp:=pp) (who:=who) (hwho:=hwho) (Ex.sz (Ex.mk ek en enm esl elo eop el ea ec)) (e:=(Ex.mk ek en enm esl elo eop el ea ec)) (d:=24) (ev:=ev) (q:=q++F) (Nat.le_refl _) trivial (by decide) (hpe (by omega)) (by rw [hev1];decide) (hKe.le leA) (hP.le leA) hM hO.cl hO.cv hO.lv) ?_ ?_
 · rintro _ _ ⟨ht,rfl,ev9,he_,rfl⟩
   exact FQ.panic func142 (RP.thr (by rw [←hA1] at ht he_⊢;have hRR:=hR;rw [if_pos ht] at hRR;rw [hRR];exact ⟨σ,ev9,⟨ht,rfl,by rw [he_];unfold PEv.ac;simp only [hev1,List.nil_append]⟩,rfl⟩)) (by rw [List.append_assoc];exact Le.refl _)
 rintro _ _ ⟨ht1,rfl,ev2,he2,eq_⟩;simp only [Zx,spP,Zc,evL,ca,na] at eq_;subst eq_
 rw [←hA1] at ht1 he2⊢
 rw [if_neg (fun k=>k ht1)] at hR
 rw [if_neg (by decide),if_neg (by decide),if_neg (by decide),if_neg (by decide),if_neg (by decide)] at hR
 refine oo 3 ?_;refine st ?_;refine oo 6 ?_;refine st ?_;refine ox 1 ?_;refine Z7 (Zx p pp who σ ({ ev2 with e:= { ev2.e with told:=true,outv:=A1.1 } } :EvC)++q) func142 (Vg results142) (RP.ret ⟨σ,({ ev2 with e:= { ev2.e with told:=true,outv:=A1.1 } } :EvC),⟨by rw [hR],by rw [hR],by rw [hR];dsimp only;rw [he2];unfold PEv.ac;simp only [hev1,List.nil_append],hTd⟩,rfl⟩) (by unfold Zx spP;exact leA)
set_option maxHeartbeats 4000000 in
theorem xsend_ok {y:PS}(hP:Prg q pp g)(hM:MayP g.er)(hO:PO g N who σ)(hev:ev.e.acc= []∧ev.e.syn= [])(hyA:Kn q fun M=>y.At M)(hg:y.s.er.good g.er.cn (σ.ths[who]'(hO.w)).loc.length)(hTd:Kn q fun M=>TodoAt M σ.ths)(hk:y.s.er.kd=11)(hroom:((σ.sy.chans.getD y.s.er.slt.toNat ch0).items.length:Int)<(σ.sy.chans.getD y.s.er.slt.toNat ch0).room):CallF prog G 138 [.pointer (some ⟨p,0,none⟩),.pointer (some ⟨y.b,y.o,none⟩)] (Zx p pp who σ ev++q) (RP (fun v q'=> ∃ (σ':StC) (ev':EvC),((σ.er.data g.er.pr who y.s.er ev.e).2.2=0∧σ'.er=(σ.er.data g.er.pr who y.s.er ev.e).1∧ev'.e=(σ.er.data g.er.pr who y.s.er ev.e).2.1∧Kn q fun M=>TodoAt M σ'.ths)∧q'=Zx p pp who σ' ev'++q) (fun ch q'=> ∃ (σ':StC) (ev':EvC),((σ.er.data g.er.pr who y.s.er ev.e).2.2≠0∧ch= [Vp (σ.er.data g.er.pr who y.s.er ev.e).2.2]∧ev'.e=(σ.er.data g.er.pr who y.s.er ev.e).2.1)∧q'=Zx p pp who σ' ev'++q)):=by
 refine CallF.of func138 ntmps138 rfl (fun F cs=> ?_)
 obtain ⟨yb,yo,ys⟩:=y
 obtain ⟨kk,ln,cl,nm,wt,⟨ek,en,enm,esl,elo,eop,el,ea,ec⟩,⟨xk,xn,xnm,xsl,xlo,xop,xl,xa,xc⟩,bd,es2,ba,bc,ea2,ec2,id,sl,ot,lo_⟩:=ys
 have hCs:=Kn.stC hyA;dsimp only at hCs hg hyA hk⊢;simp only [Stm.er,PStm.kd] at hk
 have hwho:=hO.w;have h8:=hO.h8;have hys:=hO.y;have hN9:=hO.n9;obtain ⟨hev1,hev2⟩:=hev
 have hKe:Kn q fun M=>ExAt M ⟨yb,yo+5,none⟩ (Ex.mk ek en enm esl elo eop el ea ec):=hyA.imp fun M h=>Yk (pre:= [.int .i64 kk,.int .i64 ln,.int .i64 cl,.string nm,.string wt]) h.1 rfl h.2.1 rfl
 have hKx:Kn q fun M=>ExAt M ⟨yb,yo+12,none⟩ (Ex.mk xk xn xnm xsl xlo xop xl xa xc):=hyA.imp fun M h=>Yk (pre:= [.int .i64 kk,.int .i64 ln,.int .i64 cl,.string nm,.string wt]++exC (Ex.mk ek en enm esl elo eop el ea ec)) h.1 rfl h.2.2.1 rfl
 have hKb:Kn q fun M=>BlkAt M ba bc bd:=hyA.imp fun M h=>h.2.2.2.1;have hKl:Kn q fun M=>BlkAt M ea2 ec2 es2:=hyA.imp fun M h=>⟨h.2.2.2.2.1,h.2.2.2.2.2⟩
 obtain ⟨hg1,hg2,hg3,_⟩:=hg;obtain ⟨hs1,hs2,hs3,hs6,hs8,hs8o,hs11,hs12,hs13⟩:=Yi hg2;obtain ⟨hpe,hpx⟩:=Wd hg1;rw [Zn,Zn] at hg3
 obtain ⟨R,hR⟩: ∃ R,R=σ.er.data g.er.pr who (Stm.er (Stm.mk kk ln cl nm wt (Ex.mk ek en enm esl elo eop el ea ec) (Ex.mk xk xn xnm xsl xlo xop xl xa xc) bd es2 ba bc ea2 ec2 id sl ot lo_)) ev.e:=⟨_,rfl⟩;rw [←hR];unfold SS.data at hR;simp only [Stm.er] at hR;rw [Zo hwho] at hR
 change X _ _ _ _ _ _ _ _ (pto p (.cells (Yt pp σ++(.int .i64 (who:Int)::evC ev)).toArray 145 (0,0))::lsH I64 2 σ.ca σ.cc σ.cells::yH σ.sp σ.sy::rsH trC 5 116 σ.ha σ.hc σ.ths::stars (σ.ths.map trH)::rsH acC 3 140 ev.aa ev.ac ev.e.acc::rsH snC 3 50 ev.na ev.nc ev.e.syn::(q++F))
 obtain rfl:kk=11:=(by omega)
 rw [if_neg (show ¬ (11:Int)=3 by decide)] at hR;try dsimp only at hR
 rw [if_neg (fun k=>k rfl)] at hR
 have hin11:=hs11 (.inl rfl);have hch:=hO.ch
 refine xx 1 ?_;refine drw ?_;refine dl [0,1,2,3] 4 ?_;refine dd [5,6,7] ?_;refine ldD 8 ?_ (hc:=((hCs.le leA) 22 _ rfl))
 refine dd [9,10,11,12] ?_;obtain ⟨A1,hA1⟩: ∃ A,A=(Ex.er (Ex.mk ek en enm esl elo eop el ea ec)).made g.er.pr σ.cells σ.ths[who].loc:=⟨_,rfl⟩;have hok1:=Yp (p:=g.er.pr) hO.cv hO.lv (hpe (by omega));rw [←hA1] at hok1
 try rw [show (σ.ths[who].er).loc=σ.ths[who].loc from rfl] at hR
 try rw [show σ.er.cells=σ.cells from rfl] at hR
 rw [←hA1] at hR
 have hpw1:A1.2.2.length≤16777216:=Nat.le_trans hok1.2 (by decide)
 refine Eb 13 call166 leA (Qo (p:=p) (pp:=pp) (who:=who) (hwho:=hwho) (Ex.sz (Ex.mk ek en enm esl elo eop el ea ec)) (e:=(Ex.mk ek en enm esl elo eop el ea ec)) (d:=24) (ev:=ev) (q:=q++F) (Nat.le_refl _) trivial (by decide) (hpe (by omega)) (by rw [hev1];decide) (hKe.le leA) (hP.le leA) hM hO.cl hO.cv hO.lv) ?_ ?_ trivial
 · rintro _ _ ⟨ht,rfl,ev9,he_,rfl⟩
   exact FQ.panic func138 (RP.thr (by rw [←hA1] at ht he_⊢;have hRR:=hR;rw [if_pos ht] at hRR;rw [hRR];exact ⟨σ,ev9,⟨ht,rfl,by rw [he_];unfold PEv.ac;simp only [hev1,List.nil_append]⟩,rfl⟩)) (by rw [List.append_assoc];exact Le.refl _)
 rintro _ _ ⟨ht1,rfl,ev2,he2,eq_⟩;simp only [Zx,spP,Zc,evL,ca,na] at eq_;subst eq_
 refine ⟨(hlA (h:=by repeat first|exact trivial|refine ⟨clA,?_⟩|refine ⟨(hCs.le leA) 21 _ rfl,?_⟩|refine ⟨(hCs.le leA) 22 _ rfl,?_⟩|refine ⟨(hCs.le leA) 23 _ rfl,?_⟩|refine ⟨(hCs.le leA) 24 _ rfl,?_⟩|refine ⟨(hCs.le leA) 19 _ rfl,?_⟩|refine ⟨(hCs.le leA) 20 _ rfl,?_⟩)),?_⟩
 rw [←hA1] at ht1 he2⊢
 rw [if_neg (fun k=>k ht1)] at hR
 rw [if_neg (by decide),if_neg (by decide),if_neg (by decide),if_neg (by decide),if_pos rfl] at hR
 refine Uy 14 call174 (Send_Y (k:=sl) (t:=A1.1) hys (by omega)) ?_
 rintro _ _ ⟨rfl,rfl⟩ _ e_;simp only [ca,na] at e_;subst e_
 refine ⟨trivial,?_⟩
 refine dd [15,16,17,18,19,20,21] ?_;refine XD.nil ?_;refine xo 5 ?_;refine ld ?_ (hc:=((hCs.le leA) 22 _ rfl))
 refine oo 1 ?_;refine Zf call98 leA (V2 (p:=p) (pp:=pp) (who:=who) (σ:=({ σ with sy:=(Vx σ.sy sl A1.1).1 } :StC)) (ev:=ev2) (q:=q++F) (by rw [he2];unfold PEv.ac;dsimp only;rw [hev2];decide)) ?_
 rintro _ _ ⟨ev3,he3,rfl⟩
 refine ox 1 ?_
 replace hroom:((σ.sy.chans.getD sl.toNat ch0).items.length:Int)<(σ.sy.chans.getD sl.toNat ch0).room:=hroom
 have hsn:(Vx σ.sy sl A1.1).2.1=((σ.sy.chans.getD sl.toNat ch0).all.length:Int):=by unfold Vx;rw [if_pos ⟨hin11.1,by omega⟩,if_pos hok1.1,if_pos hroom]
 refine Z7 (Zx p pp who ({ σ with sy:=(Vx σ.sy sl A1.1).1 } :StC) ev3++q) func138 (Vg results138) (RP.ret ⟨({ σ with sy:=(Vx σ.sy sl A1.1).1 } :StC),ev3,⟨by rw [hR],by rw [hR];rfl,by rw [hR,he3,he2,hsn];unfold PEv.ac PEv.sn;dsimp only;rw [hev1,hev2,Int.max_eq_left (by omega)];simp;rfl,hTd⟩,rfl⟩) (by rw [List.append_assoc];exact Le.refl _)
end
end Go.Proofs.YtflkjkhijcdbaaaGreat
