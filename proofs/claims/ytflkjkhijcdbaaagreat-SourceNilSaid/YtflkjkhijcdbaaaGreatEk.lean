/- Contracts of functions, proved by walking their code. -/
import Derived.Test.YtflkjkhijcdbaaaGreatEj
import Derived.KernelRfl
set_option maxRecDepth 100000
set_option linter.unusedVariables false
set_option linter.unusedSimpArgs false
namespace Go.Proofs.YtflkjkhijcdbaaaGreat
open Go Go.RowKit Wx Go.Proofs.Tryz
attribute [local irreducible] Wx.lsH Wx.rsH Wx.stars
structure ThOk (F:Fnd) (N nth:Nat) (t:PTr):Prop where
 d:0≤t.decl∧t.decl<F.ths.length
 s:1≤t.st∧t.st≤4
 l:t.loc.length≤32
 v: ∀ x∈t.loc,val x
 g:Wg F.cn t.loc.length t.left
 n:t.left.length≤600*(N+1)
 e:t.left= []↔t.st=4
 w:t.st=2∨t.st=3→t.next.kd=8
 p:t.sp.length≤8∧ ∀ i∈t.sp,0≤i∧i<nth
structure SS.ok (F:Fnd) (N:Nat) (s:SS):Prop where
 c:(s.cells.length:Int)=F.vars.length+Y8 F.arrs
 v: ∀ x∈s.cells,val x
 y:s.sy.ok N
 z:(s.sy.owners.length:Int)=F.mu∧(s.sy.conds.length:Int)=F.co∧s.sy.chans.map Ch.room=F.chs
 t:1≤s.ths.length∧s.ths.length≤8
 h: ∀ t∈s.ths,ThOk F N s.ths.length t
 w: ∀ l∈s.sy.conds,∀ t∈l,t.toNat<s.ths.length∧(s.th t.toNat).st=2
theorem Hg {s:SS}{n:Nat}(h:n<s.ths.length):s.th n=s.ths[n]:=by unfold SS.th;simp [List.getD,h]
theorem Wc {α:Type}{l:List α}{n:Nat}{d:α}(h:n<l.length):l.getD n d=l[n]:=by simp [List.getD,h]
theorem Rx {t:TC}(h:t.todo≠ []): ∃ y,t.todo.getLast? =some y∧y∈t.todo∧t.todo=t.todo.dropLast++ [y]∧t.er.left=y.s.er::(t.todo.dropLast.map fun y=>y.s.er).reverse∧t.er.next=y.s.er:=by
 have e:t.todo=t.todo.dropLast++ [t.todo.getLast h]:=(List.dropLast_concat_getLast h).symm
 have e2:t.er.left=(t.todo.getLast h).s.er::(t.todo.dropLast.map fun y=>y.s.er).reverse:=by
  show (t.todo.map fun y=>y.s.er).reverse=_
  conv=>lhs;rw [e]
  simp
 exact ⟨t.todo.getLast h,List.getLast?_eq_some_getLast h,List.getLast_mem h,e,e2,by unfold PTr.next;rw [e2];rfl⟩
theorem Qw {t:TC}:t.er.left= []↔t.todo= []:=by
 show (t.todo.map fun y=>y.s.er).reverse= []↔_
 simp
theorem Vc (t:TC):t.er.left.length=t.todo.length:=by
 show ((t.todo.map fun y=>y.s.er).reverse).length=_
 simp
theorem Ze {σ:StC}{n:Nat}(h:n<σ.ths.length):σ.er.th n=(σ.ths[n]).er:=by
 have h2:n<σ.er.ths.length:=by show n<(σ.ths.map TC.er).length;simpa using h
 rw [Hg h2];exact List.getElem_map TC.er
theorem StC.nth (σ:StC):σ.er.ths.length=σ.ths.length:=by show (σ.ths.map TC.er).length=_;simp
theorem SS.ok.at {F:Fnd}{N:Nat}{σ:StC}(h:SS.ok F N σ.er){n:Nat}(hn:n<σ.ths.length):ThOk F N σ.ths.length (σ.ths[n]).er:=by
 have:=h.h (σ.ths[n]).er (List.mem_map_of_mem (f:=TC.er) (List.getElem_mem hn))
 rwa [StC.nth] at this
section
variable {q:List HP}{ths:List TC}{i:Nat}{x:TC}
theorem Sees.trT:Sees (trH x::q) x.ta (x.todo.map PS.v):=Sees.le (Sees.there (Sees.lsH _)) (Z0 (trL x) q)
theorem Sees.trL:Sees (trH x::q) x.la (x.loc.map I64):=Sees.le (Sees.lsH _) (Z0 (Go.Proofs.YtflkjkhijcdbaaaGreat.trL x) q)
theorem Sees.trS:Sees (trH x::q) x.sa (x.sp.map I64):=Sees.le (Sees.there (Sees.there (Sees.lsH _))) (Z0 (Go.Proofs.YtflkjkhijcdbaaaGreat.trL x) q)
theorem Sees.todo (hi:i<ths.length):Sees (stars (ths.map trH)::q) ths[i].ta (ths[i].todo.map PS.v):=Sees.star hi (fun q=>Sees.trT) q
theorem Tj (hi:i<ths.length):Sees (stars (ths.map trH)::q) ths[i].la (ths[i].loc.map I64):=Sees.star hi (fun q=>Sees.trL) q
theorem Bo (hi:i<ths.length):Sees (stars (ths.map trH)::q) ths[i].sa (ths[i].sp.map I64):=Sees.star hi (fun q=>Sees.trS) q
end
abbrev inV (c:Cn)(lo s:Int)(l:Bool):Prop:=0≤s∧s<if l=true then lo else c.v
theorem Yc {c:Cn}{lo k slot other:Int}{loc:Bool}(h:Nq c lo k slot other loc=true):(1≤k∧k≤15)∧(k=1∨k=2→inV c lo slot loc)∧(k=3→0≤slot∧slot<c.a)∧(k=6∨k=7→0≤slot∧slot<c.mu)∧(k=8∨k=9∨k=10→0≤slot∧slot<c.co)∧(k=8→0≤other∧other<c.mu)∧(k=11∨k=12→0≤slot∧slot<c.ch)∧(k=12→inV c lo other loc)∧(k=13→0≤slot∧slot<c.th):=by
 unfold Nq V1 inB at h
 have hk:k=1∨k=2∨k=3∨k=4∨k=5∨k=6∨k=7∨k=8∨k=9∨k=10∨k=11∨k=12∨k=13∨k=14∨k=15:=by
  (repeat' split at h)<;>first|omega|(simp only [decide_eq_true_eq] at h;omega)
 rcases hk with rfl|rfl|rfl|rfl|rfl|rfl|rfl|rfl|rfl|rfl|rfl|rfl|rfl|rfl|rfl<;>
  (simp only [Int.reduceEq,if_true,if_false,or_self,or_true,true_or,or_false,false_or,Bool.and_eq_true,decide_eq_true_eq,↓reduceIte] at h;refine ⟨by omega,fun e=> ?_,fun e=> ?_,fun e=> ?_,fun e=> ?_,fun e=> ?_,fun e=> ?_,fun e=> ?_,fun e=> ?_⟩<;>first|omega|exact h|exact h.1|exact h.2)
theorem Wm {c:Cn}{lo k:Int}{e ix:PEx}{nb ne:Nat}(h:Nx c lo k e ix nb ne=true):((1≤k∧k≤5)∨k=11∨k=15→e.ask c lo 24=true)∧(k=3→ix.ask c lo 24=true):=by
 unfold Nx at h
 simp only [Bool.and_eq_true,Bool.or_eq_true,Bool.not_eq_true',decide_eq_false_iff_not,bne_iff_ne] at h
 obtain ⟨⟨_,h1⟩,h2⟩:=h
 exact ⟨fun k=>h2.resolve_left (fun z=>z k),fun k=>h1.resolve_left (fun z=>z k)⟩
theorem L4 {l:List Ch}{i:Nat}(h:i<l.length):(l.map Ch.room).getD i 0=(l.getD i ch0).room:=by simp [List.getD,h]
section
variable {G:World}{q:List HP}{a:Option Addr}{c:Nat}{fv:Value}
theorem any_take {l:List Int}{u:Int→Bool}{s:Nat}(h:s<l.length):(l.take (s+1)).any u=((l.take s).any u||u l[s]):=by rw [List.take_succ_eq_append_getElem h,List.any_append];simp
theorem any_at {l:List Int}{u:Int→Bool}{s:Nat}(h:s<l.length)(k:u l[s]=true):l.any u=true:=List.any_eq_true.2 ⟨_,List.getElem_mem h,k⟩
set_option maxHeartbeats 1000000 in
theorem Aa {l:List Int}{u:Int→Bool}(hs:Sees q a (l.map I64))(hn:l.length≤9223372036854775807)(hp:Rdr prog G fv I64 (fun x=> .bool (u x)) q l):CallF prog G 164 [.slice a l.length c,fv] (q) (Ret fun v q'=> ∃ k:Int,v= .int .i64 k∧decide (0≤k)=l.any u∧q'=q):=by
 refine CallF.of func164 ntmps164 rfl (fun F cs=> ?_)
 have hlen:(l.map I64).length=l.length:=by simp
 refine xx 12 ?_;refine X.at (X.loop (fun (s:Nat×Option Addr)=>s.1≤l.length∧s.2=a∧(l.take s.1).any u=false) (fun s=> [(0,.slice s.2 l.length c),(1,fv),(7,.int .i64 (l.length:Int)),(8,.int .i64 (s.1:Int))]) (fun s=>q++F) (fun s=>l.length - s.1) (fun s hi_ ih=> ?_) (0,a) ⟨by dsimp only;omega,rfl,rfl⟩) Zu leA
 try dsimp only at hi_ ih⊢
 obtain ⟨hi1,rfl,hi2⟩:=hi_
 obtain ⟨s,a⟩:=s;dsimp only at*
 refine xx 5 ?_;refine X.part 9 rfl (fun h0=> ?_) (fun h0=> ?_)
 · replace h0:=sp h0
   have hi0:s<l.length:=by omega
   refine Yb hs (by rw [hlen];omega) (fun b1 o1 e_=> ?_);subst e_
   refine xj 15 ?_;refine XO.cRV (hp _ leA _ (List.getElem_mem hi0)) ?_;refine ox 1 ?_;refine X.part 16 rfl (fun h1=> ?_) (fun h1=> ?_)
   · replace h1:=sp h1
     refine xx 6 ?_;refine Zq (q) func164 (Zm results164 rfl) ⟨_,rfl,_,rfl,by rw [any_at hi0 h1];exact decide_eq_true (by omega),rfl⟩
   replace h1:=sp h1
   refine xx 7 ?_;refine X.at (ih (s+1,some ⟨b1,o1,none⟩) ⟨by dsimp only;omega,rfl,by dsimp only;rw [any_take hi0,hi2,h1];rfl⟩ (by dsimp only;omega)) Zu leA
 replace h0:=sp h0
 refine xx 6 ?_
 rw [List.take_of_length_le (show l.length≤s by omega)] at hi2
 refine Zq (q) func164 (Zm results164 rfl) ⟨_,rfl,_,rfl,by rw [hi2];rfl,rfl⟩
theorem Ok {l:List Int}{u:Int→Bool}(hs:Sees q a (l.map I64))(hn:l.length≤9223372036854775807)(hp:Rdr prog G fv I64 (fun x=> .bool (u x)) q l):CallF prog G 126 [.slice a l.length c,fv] (q) (Ret fun v q'=>v= .bool (l.any u)∧q'=q):=by
 refine CallF.of func126 ntmps126 rfl (fun F cs=> ?_)
 refine xo 8 ?_;refine Zb call164 (Le.refl _) (Aa (hs.le leA) hn (hp.le leA)) ?_;rintro _ _ ⟨k,rfl,hk,rfl⟩
 refine ox 3 ?_;refine Zq (q) func126 (Zm results126 rfl) ⟨_,rfl,congrArg Value.bool hk,rfl⟩
end
section
variable {G:World}{q:List HP}{p pp n N:Nat}{g:FC}{σ:StC}
structure StSee (q:List HP) (p:Nat) (σ:StC):Prop where
 t:Cl q ⟨p,0+3,none⟩ (.slice σ.ha σ.ths.length σ.hc)
 r:Sees q σ.ha (σ.ths.flatMap trC)
theorem StSee.le {q q':List HP}(h:StSee q' p σ)(l:Le q q'):StSee q p σ:=⟨h.t.le l,h.r.le l⟩
set_option maxHeartbeats 1000000 in
theorem Ic {pb:Nat}(hb:Cl q ⟨pb,0,none⟩ (.pointer (some ⟨p,0,none⟩)))(hS:StSee q p σ)(hn:n<σ.ths.length)(hl:σ.ths.length≤8):CallF prog G 127 [.int .i64 (n:Int),.pointer (some ⟨pb,0,none⟩)] (q) (Ret fun v q'=>v= .bool (decide ((σ.ths.getD n zTC).st≠4))∧q'=q):=by
 refine CallF.of func127 ntmps127 rfl (fun F cs=> ?_)
 have hlen:=Zv Zd σ.ths;have hr:=hS.r;refine Yb (hr.le leA) (by rw [hlen];omega) (fun b1 o1 e_=> ?_)
 have ht:=hS.t;rw [e_] at hr ht;rw [Wc hn]
 refine xo 6 ?_;refine ld ?_ (hc:=(hb.le leA))
 refine oo 2 ?_;refine ld ?_ (hc:=(ht.le leA))
 refine oo 3 ?_;refine ld ?_ (hc:=(Cl.row (n:=n) hr leA Zd hn rfl 1 _ rfl))
 refine ox 3 ?_;refine Zq (q) func127 (Zm results127 rfl) ⟨_,rfl,congrArg Value.bool (by rw [Bool.eq_iff_iff];simp),rfl⟩
set_option maxHeartbeats 8000000 in
theorem ready_ok {y:PS}(hok:SS.ok g.er N σ.er)(hN:N≤900)(hn:n<σ.ths.length)(hTd:Kn q fun M=>TodoAt M σ.ths)(hy:y.s.er=(σ.er.th n).next)(hyA:Kn q fun M=>y.At M)(hg:y.s.er.good g.er.cn (σ.er.th n).loc.length)(hst:(σ.er.th n).st=1)(hk0: ¬σ.er.out.kind=4):CallF prog G 93 [.pointer (some ⟨p,0,none⟩),.int .i64 (n:Int),.pointer (some ⟨y.b,y.o,none⟩)] (stP p pp σ::(Zr σ++q)) (Ret fun v q'=>v= .bool (σ.er.can g.er.pr n)∧q'=stP p pp σ::(Zr σ++q)):=by
 refine CallF.of func93 ntmps93 rfl (fun F cs=> ?_)
 have hCs:=Kn.stC hyA;have hlen:=Zv Zd σ.ths;have h8:σ.ths.length≤8:=by have:=hok.t.2;rwa [StC.nth] at this
 obtain ⟨R,hR⟩: ∃ R,R=σ.er.can g.er.pr n:=⟨_,rfl⟩;rw [←hR];unfold SS.can at hR;dsimp only at hR;rw [←hy] at hR
 obtain ⟨yb,yo,ys⟩:=y;obtain ⟨kk,ln,cl,nm,wt,⟨ek,en,enm,esl,elo,eop,el,ea,ec⟩,⟨xk,xn,xnm,xsl,xlo,xop,xl,xa,xc⟩,bd,es2,ba,bc,ea2,ec2,id,sl,ot,lo_⟩:=ys
 dsimp only at hCs hR hg⊢;simp only [Stm.er] at hR;obtain ⟨hg1,hg2,_⟩:=hg;obtain ⟨hs1,hs2,hs3,hs6,hs8,hs8o,hs11,hs12,hs13⟩:=Yc hg2;obtain ⟨hz1,hz2,hz3⟩:=hok.z;have hz3l:(σ.er.sy.chans.length:Int)=g.er.cn.ch:=by have:=congrArg List.length hz3;rw [List.length_map] at this;show _=((g.chs.l.length:Nat):Int);rw [this];rfl
 rw [if_neg (by intro k;rcases k with k|k|k;exact hk0 k;omega;omega),if_neg (by omega)] at hR
 change X _ _ _ _ _ _ _ _ (pto p (.cells (Yu pp σ).toArray 98 (0,0))::lsH I64 2 σ.ca σ.cc σ.cells::yH σ.sp σ.sy::rsH trC 5 116 σ.ha σ.hc σ.ths::stars (σ.ths.map trH)::(q++F))
 have hys:σ.sy.ok N:=hok.y;rw [show σ.er.sy=σ.sy from rfl] at hR hz1 hz2 hz3 hz3l;replace hz1:(σ.sy.owners.length:Int)=g.er.cn.mu:=hz1;replace hz2:(σ.sy.conds.length:Int)=g.er.cn.co:=hz2
 refine xo 2 ?_;refine Y2 fun n1=> ?_
 refine oo 8 ?_;refine ld ?_ (hc:=((hCs.le leA) 0 _ rfl))
 refine ox 7 ?_;refine X.part 19 rfl (fun g1=> ?_) (fun g1=> ?_)
 · replace g1:=sp g1
   rw [if_pos (show kk=6 from g1)] at hR
   refine xx 2 ?_;refine drw ?_;refine ldD 0 ?_;refine dl [1,2] 3 ?_;refine dd [4,5,6] ?_;refine ldD 7 ?_ (hc:=((hCs.le leA) 22 _ rfl))
   refine Un 8 call56 (S5 (m:=sl) hys (by omega)) ?_
   rintro _ _ ⟨rfl,rfl⟩ _ e_;simp only [ca,na] at e_;subst e_
   refine ⟨(hlA (h:=by repeat first|exact trivial|refine ⟨clA,?_⟩|refine ⟨(hCs.le leA) 0 _ rfl,?_⟩|refine ⟨(hCs.le leA) 21 _ rfl,?_⟩|refine ⟨(hCs.le leA) 22 _ rfl,?_⟩|refine ⟨(hCs.le leA) 23 _ rfl,?_⟩)),?_⟩
   refine dd [9,10,11,12,13] ?_;refine XD.nil ?_;refine xo 5 ?_;refine Zh [35,7,6,1] ?_
   apply Zy 4 39 35 rfl
   · intro g12 M12;have c12:=sp g12
     refine oo 4 ?_;exact Zz M12 ⟨orF g12,Zw⟩
   · intro g12 M12;have c12:=sp g12
     refine oo 4 ?_;exact Zz M12 ⟨orT g12,Zw⟩
   refine ox 2 ?_;refine Zq (stP p pp σ::(Zr σ++q)) func93 (Zm results93 rfl) ⟨_,rfl,congrArg Value.bool (by rw [hR];unfold Hv;rw [if_pos ⟨(hs6 (.inl g1)).1,by have:=(hs6 (.inl g1)).2;omega⟩];dsimp only;have ho:=hys.o _ (Y1 (d:=0) (i:=sl.toNat) (l:=σ.sy.owners) (by have:=(hs6 (.inl g1));omega));generalize σ.sy.owners.getD sl.toNat 0=ow at*;rw [Bool.eq_iff_iff];simp only [Bool.or_eq_true,decide_eq_true_eq,beq_iff_eq];omega),rfl⟩
 replace g1:=sp g1
 refine xx 6 ?_;refine X.part 40 rfl (fun g2=> ?_) (fun g2=> ?_)
 · replace g2:=sp g2
   rw [if_neg (by omega),if_pos (show kk=11 from g2)] at hR
   refine xx 2 ?_;refine drw ?_;refine ldD 0 ?_;refine dl [1,2] 3 ?_;refine dd [4,5,6] ?_;refine ldD 7 ?_ (hc:=((hCs.le leA) 22 _ rfl))
   refine Un 8 call58 (Cz (k:=sl) hys (by omega)) ?_
   rintro _ _ ⟨av,cv,rfl,rfl⟩ _ e_;simp only [ca,na] at e_;subst e_
   refine ⟨(hlA (h:=by repeat first|exact trivial|refine ⟨clA,?_⟩|refine ⟨(hCs.le leA) 0 _ rfl,?_⟩|refine ⟨(hCs.le leA) 21 _ rfl,?_⟩|refine ⟨(hCs.le leA) 22 _ rfl,?_⟩|refine ⟨(hCs.le leA) 23 _ rfl,?_⟩)),?_⟩
   refine dd [9,10,11,12,13] ?_;refine XD.nil ?_;refine xx 1 ?_;refine drw ?_;refine ldD 0 ?_;refine dl [1,2] 3 ?_;refine dd [4,5,6] ?_;refine ldD 7 ?_ (hc:=((hCs.le leA) 22 _ rfl))
   refine Un 8 call125 (Room_Y (k:=sl) hys (by omega)) ?_
   rintro _ _ ⟨rfl,rfl⟩ _ e_;simp only [ca,na] at e_;subst e_
   refine ⟨(hlA (h:=by repeat first|exact trivial|refine ⟨clA,?_⟩|refine ⟨(hCs.le leA) 0 _ rfl,?_⟩|refine ⟨(hCs.le leA) 21 _ rfl,?_⟩|refine ⟨(hCs.le leA) 22 _ rfl,?_⟩|refine ⟨(hCs.le leA) 23 _ rfl,?_⟩)),?_⟩
   refine dd [9,10,11,12,13] ?_;refine XD.nil ?_;refine xx 8 ?_;refine Zq (stP p pp σ::(Zr σ++q)) func93 (Zm results93 rfl) ⟨_,rfl,congrArg Value.bool (by rw [hR];unfold U6 Rr;rw [if_pos ⟨(hs11 (.inl g2)).1,by have:=(hs11 (.inl g2)).2;omega⟩,if_pos ⟨(hs11 (.inl g2)).1,by have:=(hs11 (.inl g2)).2;omega⟩];dsimp only;rw [show g.er.pr.room=σ.sy.chans.map Ch.room from hz3.symm];rw [L4 (by have:=hs11 (.inl g2);omega)]),rfl⟩
 replace g2:=sp g2
 refine xx 6 ?_;refine X.part 70 rfl (fun g3=> ?_) (fun g3=> ?_)
 · replace g3:=sp g3
   rw [if_neg (by omega),if_neg (by omega),if_pos (show kk=12 from g3)] at hR
   refine xx 2 ?_;refine drw ?_;refine ldD 0 ?_;refine dl [1,2] 3 ?_;refine dd [4,5,6] ?_;refine ldD 7 ?_ (hc:=((hCs.le leA) 22 _ rfl))
   refine Un 8 call58 (Cz (k:=sl) hys (by omega)) ?_
   rintro _ _ ⟨av,cv,rfl,rfl⟩ _ e_;simp only [ca,na] at e_;subst e_
   refine ⟨(hlA (h:=by repeat first|exact trivial|refine ⟨clA,?_⟩|refine ⟨(hCs.le leA) 0 _ rfl,?_⟩|refine ⟨(hCs.le leA) 21 _ rfl,?_⟩|refine ⟨(hCs.le leA) 22 _ rfl,?_⟩|refine ⟨(hCs.le leA) 23 _ rfl,?_⟩)),?_⟩
   refine dd [9,10,11,12,13] ?_;refine XD.nil ?_;refine xx 7 ?_;refine Zq (stP p pp σ::(Zr σ++q)) func93 (Zm results93 rfl) ⟨_,rfl,congrArg Value.bool (by rw [hR];unfold U6;rw [if_pos ⟨(hs11 (.inr g3)).1,by have:=(hs11 (.inr g3)).2;omega⟩];dsimp only;rw [Bool.eq_iff_iff];simp),rfl⟩
 replace g3:=sp g3
 refine xx 6 ?_;refine X.part 87 rfl (fun g4=> ?_) (fun g4=> ?_)
 · replace g4:=sp g4
   rw [if_neg (by omega),if_neg (by omega),if_neg (by omega),if_pos (show kk=14 from g4)] at hR
   refine Yk (l:=σ.ths) (by omega) (fun ga e_=> ?_);rw [e_]
   refine xj 3 ?_;refine ol 2 ?_;refine oo 1 ?_;refine XO.know 92 (.slice (some ⟨ga,0,none⟩) σ.ths.length σ.hc) rfl (by rw [←e_]) ?_
   refine oo 2 ?_;refine ld ?_ (hc:=(Cl.row (n:=n) (Sees.rsH _) leA Zd hn rfl 4 _ rfl))
   refine oo 1 ?_
   have hpS:=(hok.at hn).p;rw [←Ze hn] at hpS;have hspe:(σ.er.th n).sp=σ.ths[n].sp:=by rw [Ze hn];rfl
   rw [hspe] at hpS hR
   refine XO.cR call126 (Ok (l:=σ.ths[n].sp) (u:=fun i=>decide ((σ.ths.getD i.toNat zTC).st≠4)) ((Bo hn).le leA) (by omega) (fun q1 l1 i hi=>by
    obtain ⟨k,rfl⟩:=Int.eq_ofNat_of_zero_le (hpS.2 i hi).1
    have hk:k<σ.ths.length:=by have:=(hpS.2 _ hi).2;omega
    exact CallV.c11 call127 (Ic (pb:=n1) (p:=p) (Cl.le (by exact clA) l1) (StSee.le ⟨by exact clA,by rw [e_];exact (Sees.rsH _).le leA⟩ l1) hk h8))) ?_
   refine XO.pu (Pu.not rfl) ?_;refine ox 2 ?_
   rw [←e_]
   refine Zq (stP p pp σ::(Zr σ++q)) func93 (Zm results93 rfl) ⟨_,rfl,congrArg Value.bool (by rw [hR,Bool.eq_iff_iff];simp only [Bool.not_eq_true',List.any_eq_false,List.all_eq_true,decide_eq_true_eq,beq_iff_eq,ne_eq,Decidable.not_not];constructor<;>(intro z i hi;have:=z i hi;have hk:i.toNat<σ.ths.length:=(by have:=hpS.2 i hi;omega);rw [Wc hk] at*;rw [Ze hk] at*;exact this)),rfl⟩
 replace g4:=sp g4
 refine xx 7 ?_;refine Zq (stP p pp σ::(Zr σ++q)) func93 (Zm results93 rfl) ⟨_,rfl,congrArg Value.bool (by rw [hR,if_neg (by omega),if_neg (by omega),if_neg (by omega),if_neg (by omega)]),rfl⟩
end
section
variable {G:World}{q:List HP}{p pp n N:Nat}{g:FC}{σ:StC}
theorem Vt (h:Cl q ⟨p,0,none⟩ (.pointer (some ⟨pp,0,none⟩))):CallF prog G 49 [.pointer (some ⟨p,0,none⟩)] (q) (Ret fun v q'=>v= .bool true∧q'=q):=by
 refine CallF.of func49 ntmps49 rfl (fun F cs=> ?_)
 refine xo 9 ?_;refine XO.kt 5 ?_;refine oo 3 ?_;refine ld ?_ (hc:=(h.le leA))
 refine ox 4 ?_;refine Zq (q) func49 (Zm results49 rfl) ⟨_,rfl,rfl,rfl⟩
set_option maxHeartbeats 4000000 in
theorem Sl (hok:SS.ok g.er N σ.er)(hN:N≤900)(hn:n<σ.ths.length)(hTd:Kn q fun M=>TodoAt M σ.ths):CallF prog G 59 [.pointer (some ⟨p,0,none⟩),.int .i64 (n:Int)] (stP p pp σ::(Zr σ++q)) (Ret fun v q'=>v= .bool (σ.er.can g.er.pr n)∧q'=stP p pp σ::(Zr σ++q)):=by
 refine CallF.of func59 ntmps59 rfl (fun F cs=> ?_)
 change X _ _ _ _ _ _ _ _ (pto p (.cells (Yu pp σ).toArray 98 (0,0))::lsH I64 2 σ.ca σ.cc σ.cells::yH σ.sp σ.sy::rsH trC 5 116 σ.ha σ.hc σ.ths::stars (σ.ths.map trH)::(q++F))
 have hlen:=Zv Zd σ.ths;have h8:σ.ths.length≤8:=by have:=hok.t.2;rwa [StC.nth] at this
 have h1_:1≤σ.ths.length:=by have:=hok.t.1;rwa [StC.nth] at this
 refine Yk (l:=σ.ths) (by omega) (fun ga e_=> ?_)
 have hr: ∀ r,Sees (rsH trC 5 116 σ.ha σ.hc σ.ths::r) (some ⟨ga,0,none⟩) (σ.ths.flatMap trC):=fun r=>by rw [←e_];exact Sees.rsH r
 have hT:=hok.at hn;have hte:=Ze hn;have hys:σ.sy.ok N:=hok.y
 obtain ⟨R,hR⟩: ∃ R,R=σ.er.can g.er.pr n:=⟨_,rfl⟩;have hR0:=hR;rw [←hR];unfold SS.can at hR;dsimp only at hR;rw [hte] at hR
 have hts:(σ.ths[n]).er.st=σ.ths[n].st:=rfl
 refine xj 11 ?_;refine ox 2 ?_;refine X.part 13 rfl (fun h1=> ?_) (fun h1=> ?_)
 · replace h1:=sp h1
   refine xx 5 ?_;refine Zq (stP p pp σ::(Zr σ++q)) func59 (Zm results59 rfl) ⟨_,rfl,congrArg Value.bool (by rw [hR,if_pos (.inl (show σ.er.out.kind=4 from h1))]),rfl⟩
 replace h1:=sp h1;have hk0: ¬σ.er.out.kind=4:=h1
 refine xj 7 ?_;refine oo 1 ?_;refine XO.know 17 (.slice (some ⟨ga,0,none⟩) σ.ths.length σ.hc) rfl (by rw [←e_]) ?_
 refine oo 9 ?_;refine ld ?_ (hc:=(Cl.row (n:=n) (hr _) leA Zd hn rfl 1 _ rfl))
 refine ox 7 ?_;refine X.part 24 rfl (fun h2=> ?_) (fun h2=> ?_)
 · replace h2:=sp h2;have hs1:σ.ths[n].st=1:=h2
   have hne:σ.ths[n].todo≠ []:=fun k=>by have:=hT.e.1 (Qw.2 k);omega
   obtain ⟨y,hy1,hy2,hy3,hy4,hy5⟩:=Rx hne
   have hyA:Kn q fun M=>y.At M:=hTd.imp fun M h=>h _ (List.getElem_mem hn) y hy2
   have hg:=hT.g;rw [hy4] at hg
   refine xo 6 ?_;refine XO.cR call60 (J1 (b:=ga) (o:=0+(n:Int).toNat*5) (todo:=σ.ths[n].todo) (Cl.row (n:=n) (hr _) leA Zd hn rfl 3 _ rfl) ((Sees.todo hn).le leA) (by have:=hT.n;rw [Vc] at this;omega)) ?_
   refine XO.know 29 (.pointer (some ⟨y.b,y.o,none⟩)) rfl (by rw [hy1];rfl) ?_
   refine Zb call93 leA (ready_ok (p:=p) (pp:=pp) (σ:=σ) (n:=n) (y:=y) (q:=q++F) hok hN hn (hTd.le leA) (by rw [hte,hy5]) (hyA.le leA) (by rw [hte];exact hg.1) (by rw [hte,hts];exact hs1) hk0) ?_
   rintro _ _ ⟨rfl,rfl⟩
   refine ox 2 ?_;refine Zq (stP p pp σ::(Zr σ++q)) func59 (Zm results59 rfl) ⟨_,rfl,congrArg Value.bool hR0.symm,rfl⟩
 replace h2:=sp h2
 refine xx 6 ?_;refine X.part 31 rfl (fun h3=> ?_) (fun h3=> ?_)
 · replace h3:=sp h3;have hs1:σ.ths[n].st=3:=h3
   have hne:σ.ths[n].todo≠ []:=fun k=>by have:=hT.e.1 (Qw.2 k);omega
   obtain ⟨y,hy1,hy2,hy3,hy4,hy5⟩:=Rx hne
   have hyA:Kn q fun M=>y.At M:=hTd.imp fun M h=>h _ (List.getElem_mem hn) y hy2
   have hg:=hT.g;rw [hy4] at hg
   obtain ⟨yb,yo,ys⟩:=y
   obtain ⟨kk,ln,cl,nm,wt,⟨ek,en,enm,esl,elo,eop,el,ea,ec⟩,⟨xk,xn,xnm,xsl,xlo,xop,xl,xa,xc⟩,bd,es2,ba,bc,ea2,ec2,id,sl,ot,lo_⟩:=ys
   have hCs:=Kn.stC hyA;dsimp only at hCs hy1 hy4 hy5 hg;have hkd:=hT.w (.inr hs1);rw [hy5] at hkd hR;simp only [Stm.er,PStm.kd] at hkd hR;obtain ⟨⟨hg1,hg2,_⟩,_⟩:=hg;obtain ⟨hq1,hq2,hq3,hq6,hq8,hq8o,_⟩:=Yc hg2
   have hz1:(σ.sy.owners.length:Int)=g.er.cn.mu:=hok.z.1
   rw [if_neg (by intro k;rcases k with k|k|k;exact hk0 k;omega;omega),if_pos (by omega)] at hR
   refine xx 2 ?_;refine drw ?_;refine dl [0,1,2] 3 ?_;refine dd [4] ?_;refine Y0 5 call60 (J1 (b:=ga) (o:=0+(n:Int).toNat*5) (todo:=σ.ths[n].todo) (Cl.row (n:=n) (hr _) leA Zd hn rfl 3 _ rfl) ((Sees.todo hn).le leA) (by have:=hT.n;rw [Vc] at this;omega)) ?_ (hL:=(hlA (h:=by repeat first|exact trivial|refine ⟨clA,?_⟩|refine ⟨(Cl.row (n:=n) (hr _) leA Zd hn rfl 1 _ rfl),?_⟩|refine ⟨((hCs.le leA) 23 _ rfl),?_⟩)))
   refine XD.know 39 (.pointer (some ⟨yb,yo,none⟩)) rfl (by rw [hy1];rfl) ?_
   refine dd [6,7] ?_;refine ldD 8 ?_ (hc:=((hCs.le leA) 23 _ rfl))
   refine Un 9 call56 (S5 (m:=ot) hys (by omega)) ?_
   rintro _ _ ⟨rfl,rfl⟩ _ e_;simp only [ca,na] at e_;subst e_
   refine ⟨trivial,?_⟩
   refine dd [10,11,12,13,14] ?_;refine XD.nil ?_;refine xx 6 ?_;refine Zq (stP p pp σ::(Zr σ++q)) func59 (Zm results59 rfl) ⟨_,rfl,congrArg Value.bool (by rw [hR];unfold Hv;rw [if_pos ⟨(hq8o hkd).1,by have:=(hq8o hkd).2;omega⟩];dsimp only;have ho:=hys.o _ (Y1 (d:=0) (i:=ot.toNat) (l:=σ.sy.owners) (by have:=(hq8o hkd);omega));show _=(σ.sy.owners.getD ot.toNat 0== -1);generalize σ.sy.owners.getD ot.toNat 0=ow at*;rw [Bool.eq_iff_iff];simp only [decide_eq_true_eq,beq_iff_eq];omega),rfl⟩
 replace h3:=sp h3
 refine xx 7 ?_;refine Zq (stP p pp σ::(Zr σ++q)) func59 (Zm results59 rfl) ⟨_,rfl,congrArg Value.bool (by rw [hR,if_pos];have:=hT.s;rw [hts] at*;omega),rfl⟩
theorem Fo:CallF prog G 41 [.pointer (some ⟨p,0,none⟩)] (stP p pp σ::(Zr σ++q)) (Ret fun v q'=>v= .int .i64 (σ.ths.length:Int)∧q'=stP p pp σ::(Zr σ++q)):=by
 refine CallF.of func41 ntmps41 rfl (fun F cs=> ?_)
 change X _ _ _ _ _ _ _ _ (pto p (.cells (Yu pp σ).toArray 98 (0,0))::lsH I64 2 σ.ca σ.cc σ.cells::yH σ.sp σ.sy::rsH trC 5 116 σ.ha σ.hc σ.ths::stars (σ.ths.map trH)::(q++F))
 refine xo 8 ?_;refine XO.cR call49 (Vt (pp:=pp) clA) ?_
 refine XO.pu (Pu.not rfl) ?_;refine ox 1 ?_;refine Wp 5 ?_;refine xj 7 ?_;refine ox 3 ?_;refine Zq (stP p pp σ::(Zr σ++q)) func41 (Zm results41 rfl) ⟨_,rfl,rfl,rfl⟩
theorem G3 {p:PPr}{s:SS}{i:Nat}:((List.range (i+1)).filter fun n=>s.can p n).map (fun (n:Nat)=>(n:Int))=((List.range i).filter fun n=>s.can p n).map (fun (n:Nat)=>(n:Int))++(if s.can p i=true then [(i:Int)] else []):=by
 rw [List.range_succ,List.filter_append,List.map_append]
 by_cases h:s.can p i=true<;>simp [h]
def SS.allU (p:PPr)(s:SS)(i:Nat):List Int:=((List.range i).filter fun n=>s.can p n).map fun (n:Nat)=>(n:Int)
theorem G4 (p:PPr)(s:SS)(i:Nat):(s.allU p i).length≤i:=by
 unfold SS.allU;rw [List.length_map];exact Nat.le_trans (List.length_filter_le _ _) (by simp)
set_option maxHeartbeats 2000000 in
theorem Lp (hok:SS.ok g.er N σ.er)(hN:N≤900)(hTd:Kn q fun M=>TodoAt M σ.ths):CallF prog G 40 [.pointer (some ⟨p,0,none⟩)] (stP p pp σ::(Zr σ++q)) (Ret fun v q'=> ∃ a' c',v= .slice a' (σ.er.all g.er.pr).length c'∧q'=lsH I64 3 a' c' (σ.er.all g.er.pr)::stP p pp σ::(Zr σ++q)):=by
 refine CallF.of func40 ntmps40 rfl (fun F cs=> ?_)
 have h8:σ.ths.length≤8:=by have:=hok.t.2;rwa [StC.nth] at this
 refine xo 12 ?_;refine Zb call41 leA (Fo (p:=p) (pp:=pp) (σ:=σ) (q:=q++F)) ?_
 rintro _ _ ⟨rfl,rfl⟩
 refine ox 3 ?_;refine X.at (X.loop (fun (s:Nat×Option Addr×Nat)=>s.1≤σ.ths.length) (fun s=> [(0,.pointer (some ⟨p,0,none⟩)),(3,.slice s.2.1 (σ.er.allU g.er.pr s.1).length s.2.2),(6,.int .i64 (σ.ths.length:Int)),(7,.int .i64 (s.1:Int))]) (fun s=>lsH I64 3 s.2.1 s.2.2 (σ.er.allU g.er.pr s.1)::stP p pp σ::(Zr σ++(q++F))) (fun s=>σ.ths.length - s.1) (fun s hi_ ih=> ?_) (0,none,0) (Nat.zero_le _)) Zu (Le.trans (Za I64 3 _) leA)
 try dsimp only at hi_ ih⊢
 obtain hi:=hi_
 obtain ⟨s,a1,c1⟩:=s;dsimp only at*
 refine xx 5 ?_;refine X.part 8 rfl (fun h0=> ?_) (fun h0=> ?_)
 · replace h0:=sp h0;have hlt:s<σ.ths.length:=(by omega)
   refine xo 13 ?_;refine Zb call59 leA (Sl (p:=p) (pp:=pp) (σ:=σ) (n:=s) (q:=lsH I64 3 a1 c1 (σ.er.allU g.er.pr s)::(q++F)) hok hN hlt (hTd.le leA)) ?_
   rintro _ _ ⟨rfl,rfl⟩
   refine ox 1 ?_;refine X.part 12 rfl (fun h1=> ?_) (fun h1=> ?_)
   · replace h1:=sp h1
     refine xo 4 ?_;refine XO.ef (U9 (u:=(s:Int)) I64 underlying22 Rj rfl rfl) ?_
     rintro _ _ ⟨g2,rfl,rfl⟩
     refine XO.ef (Yw (f:=I64) (l:=σ.er.allU g.er.pr s) (m:= [(s:Int)]) underlying22 Rj rfl rfl rfl Zk ((Sees.lsH _).le leA) (fun _=>rfl) (by have:=G4 g.er.pr σ.er s;simp;omega) (by have:=G4 g.er.pr σ.er s;simp;omega)) ?_
     rintro _ _ ⟨a2,c2,rfl,rfl⟩
     refine ox 7 ?_
     rw [show σ.er.allU g.er.pr s++ [(s:Int)]=σ.er.allU g.er.pr (s+1) by unfold SS.allU;rw [G3,if_pos h1]]
     refine X.at (ih (s+1,a2,c2) (by dsimp only;omega) (by dsimp only;omega)) Zu leA
   replace h1:=sp h1
   refine xx 7 ?_
   rw [show σ.er.allU g.er.pr s=σ.er.allU g.er.pr (s+1) by unfold SS.allU;rw [G3,if_neg (by rw [h1];decide),List.append_nil]]
   refine X.at (ih (s+1,a1,c1) (by dsimp only;omega) (by dsimp only;omega)) Zu leA
 replace h0:=sp h0;obtain rfl:s=σ.ths.length:=(by omega);rw [show σ.er.allU g.er.pr σ.ths.length=σ.er.all g.er.pr by unfold SS.all SS.allU;rw [StC.nth]]
 refine xx 7 ?_;refine Zq (lsH I64 3 a1 c1 (σ.er.all g.er.pr)::stP p pp σ::(Zr σ++q)) func40 (Zm results40 rfl) ⟨_,rfl,a1,c1,rfl,rfl⟩
end
theorem Qs (b:Bool):val (Qg b):=by cases b<;>decide
theorem twoS_v (op a b:Int):val (Wh op a b).1:=by
 unfold Wh
 split;exact Qs _
 split;exact Qs _
 split;exact Qs _
 split;exact Qs _
 split;decide
 have key: ∀ n:Int,val (if val n then (n,(0:Int)) else (0,2)).1:=fun n=>by
  split
  · assumption
  decide
 exact key _
theorem D5 {c:Cn}{lo k n slot op d:Int}{nm:ByteArray}{loc:Bool}{args:List PEx}(h:(PEx.mk k n nm slot loc op args).ask c lo d=true):
 1≤d∧(args.length:Int)=V2 c lo k n slot loc op∧(∀ e∈args,e.ask c lo (d - 1)=true)∧(1≤k∧k≤6)∧(k=1→val n∧args.length=0)∧(k=2→inV c lo slot loc∧args.length=0)∧(k=3→(0≤slot∧slot<c.a)∧args.length=1)∧(k=4∨k=5→args.length=1)∧(k=6→(1≤op∧op≤11)∧args.length=2):=by
 simp only [PEx.ask,Bool.and_eq_true,decide_eq_true_eq] at h
 obtain ⟨⟨h1,h2⟩,h3⟩:=h
 have h4:=Nd.1 h3
 refine ⟨h1,h2,h4,?_⟩
 unfold V2 at h2
 split at h2
 · split at h2
   · rename_i a b;refine ⟨by omega,fun _=>⟨b,by omega⟩,fun _=>by omega,fun _=>by omega,fun _=>by omega,fun _=>by omega⟩
   omega
 split at h2
 · split at h2
   · rename_i a b;unfold V1 inB at b;simp only [decide_eq_true_eq] at b;exact ⟨by omega,fun _=>by omega,fun _=>⟨b,by omega⟩,fun _=>by omega,fun _=>by omega,fun _=>by omega⟩
   omega
 split at h2
 · split at h2
   · rename_i a b;unfold inB at b;simp only [decide_eq_true_eq] at b;exact ⟨by omega,fun _=>by omega,fun _=>by omega,fun _=>⟨b,by omega⟩,fun _=>by omega,fun _=>by omega⟩
   omega
 split at h2
 · exact ⟨by omega,fun _=>by omega,fun _=>by omega,fun _=>by omega,fun _=>by omega,fun _=>by omega⟩
 split at h2
 · split at h2
   · exact ⟨by omega,fun _=>by omega,fun _=>by omega,fun _=>by omega,fun _=>by omega,fun _=>by omega⟩
   omega
 omega
theorem Ql {p:PPr}{cells loc:List Int}: ∀ {l:List PEx} {i:Nat} (h:i<l.length),(Yt p cells loc l).getD i (0,0, [])=(l[i]).made p cells loc
 |e::r,0,_=>by simp [Yt]
 |e::r,i+1,h=>by
  have h2:i<r.length:=by simpa using h
  have:=Ql (p:=p) (cells:=cells) (loc:=loc) h2
  simpa [Yt] using this
theorem Bx {l:List Int}(h: ∀ x∈l,val x)(i:Nat):val (l.getD i 0):=by
 by_cases hi:i<l.length
 · exact h _ (Y1 hi)
 have e:l.getD i 0=0:=by simp [List.getD,List.getElem?_eq_none (show l.length≤i by omega)]
 rw [e];decide
theorem Gq (n:Nat):1≤2 ^ n:=Nat.one_le_two_pow
mutual
theorem Yh {p:PPr}{cells loc:List Int}{c:Cn}{lo:Int}(hc: ∀ x∈cells,val x)(hl: ∀ x∈loc,val x): ∀ {e:PEx} {d:Int},e.ask c lo d=true→val (e.made p cells loc).1∧(e.made p cells loc).2.2.length≤2 ^ d.toNat
 | .mk k n nm slot lc op args,d,h=>by
  obtain ⟨h1,_,h3,hk,k1,k2,k3,k4,k6⟩:=D5 h
  have hm:=Nl hc hl (p:=p) h3
  obtain ⟨D,hD⟩:=Int.eq_ofNat_of_zero_le (show 0≤d - 1 by omega)
  have hd:d.toNat=D+1:=by omega
  have hp:=Gq D
  rw [hd,Nat.pow_succ]
  rw [show (d - 1).toNat=D by omega] at hm
  generalize hms:Yt p cells loc args=ms at hm
  simp only [PEx.made,hms]
  split
  · exact ⟨(k1 (by assumption)).1,by simp⟩
  split
  · split
    · exact ⟨Bx hl _,by simp⟩
    exact ⟨Bx hc _,by simp only [List.length_singleton];omega⟩
  have ha:=hm 0
  have hb:=hm 1
  generalize ms.getD 0 (0,0, [])=a at ha
  generalize ms.getD 1 (0,0, [])=b at hb
  split
  · exact ⟨ha.1,by omega⟩
  split
  · split
    · exact ⟨(by decide:val 0),by dsimp only;omega⟩
    exact ⟨Bx hc _,by dsimp only;rw [List.length_append];simp only [List.length_singleton];omega⟩
  split
  · exact ⟨twoS_v _ _ _,by dsimp only;omega⟩
  split
  · exact ⟨Qs _,by dsimp only;omega⟩
  split
  · exact ⟨Qs _,by dsimp only;omega⟩
  split
  · exact ⟨hb.1,by dsimp only;rw [List.length_append];omega⟩
  split
  · exact ⟨Qs _,by dsimp only;rw [List.length_append];omega⟩
  exact ⟨twoS_v _ _ _,by dsimp only;rw [List.length_append];omega⟩
theorem Nl {p:PPr}{cells loc:List Int}{c:Cn}{lo:Int}(hc: ∀ x∈cells,val x)(hl: ∀ x∈loc,val x): ∀ {l:List PEx} {d:Int},(∀ e∈l,e.ask c lo d=true)→ ∀ i,val ((Yt p cells loc l).getD i (0,0, [])).1∧((Yt p cells loc l).getD i (0,0, [])).2.2.length≤2 ^ d.toNat
 | [],d,_,i=>by simp [Yt];decide
 |e::r,d,h,i=>by
  cases i with
  |zero=>simpa [Yt] using Yh hc hl (h e (List.mem_cons_self ..))
  |succ i=>simpa [Yt] using Nl hc hl (fun x hx=>h x (List.mem_cons_of_mem _ hx)) i
end
theorem N3 {l:List Int}(h: ∀ x∈l,1≤x∧x≤256): ∀ {n:Nat} (_:n<l.length),Y8 (l.take n)+l.getD n 0≤Y8 l∧0≤Y8 (l.take n)
 |n,hn=>by
  have e:l=l.take n++(l[n]::l.drop (n+1)):=by rw [←List.drop_eq_getElem_cons hn,List.take_append_drop]
  have e2:Y8 l=Y8 (l.take n)+(l[n]+Y8 (l.drop (n+1))):=by
   conv=>lhs;rw [e]
   rw [M0];rfl
  have h1:=(U7 (l:=l.take n) (k:=256) (fun y hy=>by have:=h y (List.mem_of_mem_take hy);omega) (by decide)).1
  have h2:=(U7 (l:=l.drop (n+1)) (k:=256) (fun y hy=>by have:=h y (List.mem_of_mem_drop hy);omega) (by decide)).1
  rw [Wc hn]
  omega
theorem D2:(prog.info? 140).map (fun i=>(i.zero,i.size,i.bytes))=some (some (.agg #[.int .i64 0,.bool false,.int .i64 0]),3,24):=by kernel_rfl
theorem Ga:(prog.info? 50).map (fun i=>(i.zero,i.size,i.bytes))=some (some (.agg #[.int .i64 0,.int .i64 0,.int .i64 0]),3,24):=by kernel_rfl
def Zx (p pp who:Nat)(σ:StC)(e:EvC):List HP:=spP p pp who σ e::(Zr σ++evL e)
theorem Nc (x:Ac):(acC x).length=3:=rfl
theorem M9 (x:Sn):(snC x).length=3:=rfl
theorem acC_one (x:Ac):(acC x).all (·.oneCell')=true:=rfl
theorem snC_one (x:Sn):(snC x).all (·.oneCell')=true:=rfl
def PEv.ac (e:PEv)(l:List Ac):PEv:= { e with acc:=e.acc++l }
def PEv.sn (e:PEv)(l:List Sn):PEv:= { e with syn:=e.syn++l }
theorem H2 (e:PEv)(a b:List Ac):(e.ac a).ac b=e.ac (a++b):=by unfold PEv.ac;simp
theorem Mc (e:PEv):e.ac []=e:=by unfold PEv.ac;simp
section
variable {G:World}{q:List HP}{p pp who n N:Nat}{g:FC}{σ:StC}{ev:EvC}{k sl ot u:Int}{bb:Bool}
set_option maxHeartbeats 1000000 in
theorem V0 (hl:ev.e.syn.length≤1000000000):CallF prog G 98 [.pointer (some ⟨p,0,none⟩),.int .i64 k,.int .i64 sl,.int .i64 ot] (Zx p pp who σ ev++q) (Ret fun v q'=> ∃ ev':EvC,ev'.e=ev.e.sn [(k,sl,ot)]∧q'=Zx p pp who σ ev'++q):=by
 refine CallF.of func98 ntmps98 rfl (fun F cs=> ?_)
 change X _ _ _ _ _ _ _ _ (pto p (.cells (Yu pp σ++(.int .i64 (who:Int)::evC ev)).toArray 145 (0,0))::lsH I64 2 σ.ca σ.cc σ.cells::yH σ.sp σ.sy::rsH trC 5 116 σ.ha σ.hc σ.ths::stars (σ.ths.map trH)::rsH acC 3 140 ev.aa ev.ac ev.e.acc::rsH snC 3 50 ev.na ev.nc ev.e.syn::(q++F))
 refine xj 6 ?_;refine oo 4 ?_;refine XO.ef (Z9 (u:=(k,sl,ot)) snC underlying45 Ga rfl rfl M9 rfl) ?_
 rintro _ _ ⟨g1,rfl,rfl⟩
 refine XO.ef (Z8 (f:=snC) (l:=ev.e.syn) (m:= [(k,sl,ot)]) underlying45 Ga rfl rfl M9 rfl rfl Zk ((Sees.rsH _).le leA) snC_one (by simp;omega) (by simp;omega)) ?_
 rintro _ _ ⟨a2,c2,rfl,rfl⟩
 refine oo 3 ?_;refine st ?_;refine ox 1 ?_;refine Z7 (Zx p pp who σ ({ ev with e:=ev.e.sn [(k,sl,ot)],na:=a2,nc:=c2 } :EvC)++q) func98 (Vx results98) ⟨_,rfl,({ ev with e:=ev.e.sn [(k,sl,ot)],na:=a2,nc:=c2 } :EvC),rfl,rfl⟩
set_option maxHeartbeats 1000000 in
theorem D6 (hl:ev.e.acc.length≤1000000000):CallF prog G 192 [.pointer (some ⟨p,0,none⟩),.int .i64 sl,.bool bb,.int .i64 u] (Zx p pp who σ ev++q) (Ret fun v q'=> ∃ ev':EvC,ev'.e=ev.e.ac [(sl,bb,u)]∧q'=Zx p pp who σ ev'++q):=by
 refine CallF.of func192 ntmps192 rfl (fun F cs=> ?_)
 change X _ _ _ _ _ _ _ _ (pto p (.cells (Yu pp σ++(.int .i64 (who:Int)::evC ev)).toArray 145 (0,0))::lsH I64 2 σ.ca σ.cc σ.cells::yH σ.sp σ.sy::rsH trC 5 116 σ.ha σ.hc σ.ths::stars (σ.ths.map trH)::rsH acC 3 140 ev.aa ev.ac ev.e.acc::rsH snC 3 50 ev.na ev.nc ev.e.syn::(q++F))
 refine xj 6 ?_;refine oo 4 ?_;refine XO.ef (Z9 (u:=(sl,bb,u)) acC underlying44 D2 rfl rfl Nc rfl) ?_
 rintro _ _ ⟨g1,rfl,rfl⟩
 refine XO.ef (Z8 (f:=acC) (l:=ev.e.acc) (m:= [(sl,bb,u)]) underlying44 D2 rfl rfl Nc rfl rfl Zk ((Sees.rsH _).le leA) acC_one (by simp;omega) (by simp;omega)) ?_
 rintro _ _ ⟨a2,c2,rfl,rfl⟩
 refine oo 3 ?_;refine st ?_;refine ox 1 ?_;refine Z7 (Zx p pp who σ ({ ev with e:=ev.e.ac [(sl,bb,u)],aa:=a2,ac:=c2 } :EvC)++q) func192 (Vx results192) ⟨_,rfl,({ ev with e:=ev.e.ac [(sl,bb,u)],aa:=a2,ac:=c2 } :EvC),rfl,rfl⟩
theorem Q1 {ga m c:Nat}(h3:Cl q ⟨p,0+3,none⟩ (.slice (some ⟨ga,0,none⟩) m c))(h8:Cl q ⟨p,8,none⟩ (.int .i64 (who:Int)))(hn:who<m):CallF prog G 95 [.pointer (some ⟨p,0,none⟩)] (q) (Ret fun v q'=>v= .pointer (some ⟨ga,0+(who:Int).toNat*5,none⟩)∧q'=q):=by
 refine CallF.of func95 ntmps95 rfl (fun F cs=> ?_)
 refine xx 5 ?_;refine drw ?_;refine dd [0,1,2,3] ?_;refine ldD 4 ?_ (hc:=(h3.le leA))
 refine dd [5,6,7] ?_;refine ldD 8 ?_ (hc:=(h8.le leA))
 refine dd [9,10] ?_;refine XD.nil ?_;refine Zq (q) func95 (Zm results95 rfl) ⟨_,rfl,rfl,rfl⟩
set_option maxHeartbeats 1000000 in
theorem L6 (hn:n<σ.cells.length)(hl:ev.e.acc.length≤1000000000):CallF prog G 188 [.pointer (some ⟨p,0,none⟩),.int .i64 (n:Int)] (Zx p pp who σ ev++q) (Ret fun v q'=>v= .int .i64 (σ.cells.getD n 0)∧ ∃ ev':EvC,ev'.e=ev.e.ac [((n:Int),false,σ.cells.getD n 0)]∧q'=Zx p pp who σ ev'++q):=by
 refine CallF.of func188 ntmps188 rfl (fun F cs=> ?_)
 change X _ _ _ _ _ _ _ _ (pto p (.cells (Yu pp σ++(.int .i64 (who:Int)::evC ev)).toArray 145 (0,0))::lsH I64 2 σ.ca σ.cc σ.cells::yH σ.sp σ.sy::rsH trC 5 116 σ.ha σ.hc σ.ths::stars (σ.ths.map trH)::rsH acC 3 140 ev.aa ev.ac ev.e.acc::rsH snC 3 50 ev.na ev.nc ev.e.syn::(q++F))
 rw [Wc hn]
 refine V8 (l:=σ.cells) (by omega) (fun gc e_=> ?_)
 have hr: ∀ r,Sees (lsH I64 2 σ.ca σ.cc σ.cells::r) (some ⟨gc,0,none⟩) (σ.cells.map I64):=fun r=>by rw [←e_];exact Sees.lsH r
 refine xj 12 ?_;refine oo 1 ?_;refine XO.know 11 (.slice (some ⟨gc,0,none⟩) σ.cells.length σ.cc) rfl (by rw [←e_]) ?_
 refine oo 1 ?_;refine ld ?_ (hc:=(((hr _).le leA).at (by omega) hn))
 refine Zb call192 leA (D6 (p:=p) (pp:=pp) (who:=who) (σ:=σ) (ev:=ev) (q:=q++F) hl) ?_
 rintro _ _ ⟨ev2,he2,rfl⟩
 change XO _ _ _ _ _ _ _ _ _ _ (pto p (.cells (Yu pp σ++(.int .i64 (who:Int)::evC ev2)).toArray 145 (0,0))::lsH I64 2 σ.ca σ.cc σ.cells::yH σ.sp σ.sy::rsH trC 5 116 σ.ha σ.hc σ.ths::stars (σ.ths.map trH)::rsH acC 3 140 ev2.aa ev2.ac ev2.e.acc::rsH snC 3 50 ev2.na ev2.nc ev2.e.syn::(q++F))
 refine ol 7 ?_;refine oo 1 ?_;refine XO.know 20 (.slice (some ⟨gc,0,none⟩) σ.cells.length σ.cc) rfl (by rw [←e_]) ?_
 refine oo 1 ?_;refine ld ?_ (hc:=(((hr _).le leA).at (by omega) hn))
 refine ox 2 ?_;refine Zq (Zx p pp who σ ev2++q) func188 (Zm results188 rfl) ⟨_,rfl,rfl,ev2,he2,rfl⟩
set_option maxHeartbeats 1000000 in
theorem Fr (hn:n<σ.cells.length)(hl:ev.e.acc.length≤1000000000):CallF prog G 167 [.pointer (some ⟨p,0,none⟩),.int .i64 (n:Int),.int .i64 u] (Zx p pp who σ ev++q) (Ret fun v q'=> ∃ ev':EvC,ev'.e=ev.e.ac [((n:Int),true,u)]∧q'=Zx p pp who ({ σ with cells:=σ.cells.set n u } :StC) ev'++q):=by
 refine CallF.of func167 ntmps167 rfl (fun F cs=> ?_)
 change X _ _ _ _ _ _ _ _ (pto p (.cells (Yu pp σ++(.int .i64 (who:Int)::evC ev)).toArray 145 (0,0))::lsH I64 2 σ.ca σ.cc σ.cells::yH σ.sp σ.sy::rsH trC 5 116 σ.ha σ.hc σ.ths::stars (σ.ths.map trH)::rsH acC 3 140 ev.aa ev.ac ev.e.acc::rsH snC 3 50 ev.na ev.nc ev.e.syn::(q++F))
 refine V8 (l:=σ.cells) (by omega) (fun gc e_=> ?_)
 refine xo 5 ?_;refine Zb call192 leA (D6 (p:=p) (pp:=pp) (who:=who) (σ:=σ) (ev:=ev) (q:=q++F) hl) ?_
 rintro _ _ ⟨ev2,he2,rfl⟩
 change XO _ _ _ _ _ _ _ _ _ _ (pto p (.cells (Yu pp σ++(.int .i64 (who:Int)::evC ev2)).toArray 145 (0,0))::lsH I64 2 σ.ca σ.cc σ.cells::yH σ.sp σ.sy::rsH trC 5 116 σ.ha σ.hc σ.ths::stars (σ.ths.map trH)::rsH acC 3 140 ev2.aa ev2.ac ev2.e.acc::rsH snC 3 50 ev2.na ev2.nc ev2.e.syn::(q++F))
 refine ol 6 ?_;refine oo 2 ?_;refine XO.know 14 (.slice (some ⟨gc,0,none⟩) σ.cells.length σ.cc) rfl (by rw [←e_]) ?_
 refine oo 1 ?_;refine XO.le (q':=lsH I64 2 (some ⟨gc,0,none⟩) σ.cc σ.cells::_) (by rw [←e_];exact Zk) ?_
 refine XO.ef0 (Rf (f:=I64) (l:=σ.cells) (n:=n) (u:=u) rfl rfl sizeOf2 rfl hn rfl rfl Zk) ?_
 rintro _ _ ⟨rfl,rfl⟩
 refine ox 1 ?_
 rw [←e_]
 refine X.le (q':=Zx p pp who ({ σ with cells:=σ.cells.set n u } :StC) ev2++(q++F)) (by unfold Zx spP Yu Zr;simp only [List.length_set];exact leA) ?_
 refine Z7 (Zx p pp who ({ σ with cells:=σ.cells.set n u } :StC) ev2++q) func167 (Vx results167) ⟨_,rfl,ev2,he2,rfl⟩ (by rw [List.append_assoc];exact Le.refl _)
end
theorem Sv.cap {α:Type}{q:List HP}{f:α→List Value}{x:Sv α}{G w:World}(h:Kn q fun M=>x.At M f)(s:St G w q):x.l.length≤x.c:=h.fact (fun M h=>h.1) s
section
variable {G:World}{q:List HP}{p pp who n N:Nat}{g:FC}{σ:StC}{ev:EvC}{k sl ot u:Int}{bb:Bool}
set_option maxHeartbeats 2000000 in
theorem Gz (hP:Prg q pp g)(hM:MayP g.er)(hn:n<g.arrs.l.length)(hu:val u):CallF prog G 168 [.pointer (some ⟨p,0,none⟩),.int .i64 (n:Int),.int .i64 u] (Zx p pp who σ ev++q) (RP (fun v q'=>(0≤g.er.pr.cell n u∧v= .int .i64 (g.er.pr.cell n u))∧q'=Zx p pp who σ ev++q) (fun ch q'=>(g.er.pr.cell n u<0∧ch= [Vh 3])∧q'=Zx p pp who σ ev++q)):=by
 refine CallF.of func168 ntmps168 rfl (fun F cs=> ?_)
 change X _ _ _ _ _ _ _ _ (pto p (.cells (Yu pp σ++(.int .i64 (who:Int)::evC ev)).toArray 145 (0,0))::lsH I64 2 σ.ca σ.cc σ.cells::yH σ.sp σ.sy::rsH trC 5 116 σ.ha σ.hc σ.ths::stars (σ.ths.map trH)::rsH acC 3 140 ev.aa ev.ac ev.e.acc::rsH snC 3 50 ev.na ev.nc ev.e.syn::(q++F))
 have hp2:CellsAt q pp 0 [.slice g.vars.a g.vars.l.length g.vars.c,.slice g.arrs.a g.arrs.l.length g.arrs.c,.int .i64 g.mu,.int .i64 g.co,.slice g.chs.a g.chs.l.length g.chs.c,.slice g.ths.a g.ths.l.length g.ths.c,.int .i64 g.main,.int .i64 g.stm]:=fun k v hk=>hP.hp k v (by revert hk;match k with|0|1|2|3|4|5|6|7=>exact fun h=>h|(k+8)=>intro h;cases h)
 have hA:=Sv.sees (hP.hK.imp fun M h=>h.arrs);rw [U1] at hA;have hal:g.arrs.l.length≤64:=hM.l.2.1;have hvl:g.vars.l.length≤64:=hM.l.1;have hu2:=hu;unfold val at hu2
 have ha: ∀ n∈g.arrs.l,1≤n∧n≤256:=hM.a;have hss:Y8 g.arrs.l≤256:=hM.s;have han:=ha _ (List.getElem_mem hn);have hst:=N3 ha hn;rw [Wc hn] at hst
 obtain ⟨R,hR⟩: ∃ R,R=g.er.pr.cell n u:=⟨_,rfl⟩;rw [←hR];unfold PPr.cell at hR;rw [show ((n:Int)).toNat=n from rfl,show g.er.pr.arrs=g.arrs.l from rfl,show g.er.pr.vars=g.vars.l from rfl,Wc hn] at hR
 refine X.fact (fun w s=>Sv.cap ((hP.hK.imp fun M h=>h.arrs).le leA) s) (fun hcap=> ?_)
 refine Yb (hA.le leA) (by simp;omega) (fun ab ao e_=> ?_);have hs_:=hA;have hp3:=hp2;rw [e_] at hs_ hp3
 refine xo 10 ?_;refine Zh [12,6,0,1,2] ?_
 apply Zy 14 26 12 rfl
 · intro g10 M10;have c10:=sp g10
   refine ol 5 ?_;refine oo 2 ?_;refine ld ?_ (hc:=((hp3.le leA) 1 _ rfl))
   refine oo 2 ?_;refine ld ?_ (hc:=((hs_.le leA).at rfl hn))
   refine oo 2 ?_;exact Zz M10 ⟨orF g10,Zw⟩
 · intro g10 M10;have c10:=sp g10
   refine oo 14 ?_;exact Zz M10 ⟨orT g10,Zw⟩
 refine ox 1 ?_;refine X.part 26 rfl (fun h1=> ?_) (fun h1=> ?_)
 · replace h1:=sp h1;have hR1:R= -1:=(by rw [hR,if_neg (by first|omega|(simp at h1;omega))])
   refine xo 2 ?_;refine Vb call169 (Le.refl _) (Kb (z:=3)) ?_ ?_
   · rintro _ _ ⟨rfl,rfl⟩
     exact FQ.panic func168 (RP.thr ⟨⟨by omega,rfl⟩,rfl⟩)
   rintro _ _ ⟨⟩
 replace h1:=sp h1;have hin:0≤u∧u<g.arrs.l[n]:=(by first|omega|(simp at h1;omega));rw [if_pos hin] at hR
 refine xj 8 ?_;refine oo 2 ?_;refine ld ?_ (hc:=((hp3.le leA) 0 _ rfl))
 refine ol 12 ?_;refine oo 2 ?_;refine ld ?_ (hc:=((hp3.le leA) 1 _ rfl))
 refine ox 6 ?_;refine X.know 7 (.int .i64 (g.vars.l.length+u+Y8 (g.arrs.l.take 0))) rfl (by simp [Y8]) ?_
 refine X.at (X.loop (fun (s:Nat)=>s≤n) (fun s=> [(7,.int .i64 (g.vars.l.length+u+Y8 (g.arrs.l.take s))),(48,.slice (some ⟨ab,ao,none⟩) (n:Int).toNat g.arrs.c),(49,.int .i64 (n:Int)),(50,.int .i64 (s:Int))]) (fun s=>pto p (.cells (Yu pp σ++(.int .i64 (who:Int)::evC ev)).toArray 145 (0,0))::lsH I64 2 σ.ca σ.cc σ.cells::yH σ.sp σ.sy::rsH trC 5 116 σ.ha σ.hc σ.ths::stars (σ.ths.map trH)::rsH acC 3 140 ev.aa ev.ac ev.e.acc::rsH snC 3 50 ev.na ev.nc ev.e.syn::(q++F)) (fun s=>n - s) (fun s hi_ ih=> ?_) 0 (Nat.zero_le _)) Zu leA
 try dsimp only at hi_ ih⊢
 obtain hi:=hi_
 refine xx 5 ?_;refine X.part 51 rfl (fun h0=> ?_) (fun h0=> ?_)
 · replace h0:=sp h0;have hlt:s<g.arrs.l.length:=(by omega)
   refine xo 7 ?_;refine ld ?_ (hc:=((hs_.le leA).at rfl hlt))
   have hx:=ha _ (List.getElem_mem hlt);have hsn:Y8 (g.arrs.l.take (s+1))=Y8 (g.arrs.l.take s)+g.arrs.l[s]:=by rw [List.take_succ_eq_append_getElem hlt,M0];simp [Y8]
   have hsl:=U7 (l:=g.arrs.l.take s) (k:=256) (fun y hy=>by have:=ha y (List.mem_of_mem_take hy);omega) (by decide);rw [List.length_take] at hsl;have hmn:((min s g.arrs.l.length:Nat):Int)=s:=(by omega);rw [hmn] at hsl
   refine ox 13 ?_
   rw [show (g.vars.l.length:Int)+u+Y8 (g.arrs.l.take s)+g.arrs.l[s]=g.vars.l.length+u+Y8 (g.arrs.l.take (s+1)) by rw [hsn];omega]
   refine X.at (ih (s+1) (by omega) (by omega)) Zu leA
 replace h0:=sp h0;obtain rfl:s=n:=(by omega)
 refine xx 7 ?_;refine Zq (Zx p pp who σ ev++q) func168 (Zm results168 rfl) (RP.ret ⟨⟨by omega,by rw [hR];congr 1;omega⟩,rfl⟩)
variable {hwho:who<σ.ths.length}
set_option maxHeartbeats 8000000 in
theorem Qa: ∀ (N:Nat) {e:Ex} {b o:Nat} {d:Int} {ev:EvC} {q:List HP},e.sz≤N→True→d≤24→e.er.ask g.er.cn σ.ths[who].loc.length d=true→ev.e.acc.length+2 ^ d.toNat≤100000000→(Kn q fun M=>ExAt M ⟨b,o,none⟩ e)→Prg q pp g→MayP g.er→(σ.cells.length:Int)=g.vars.l.length+Y8 g.arrs.l→(∀ x∈σ.cells,val x)→(∀ x∈σ.ths[who].loc,val x)→CallF prog G 166 [.pointer (some ⟨p,0,none⟩),.pointer (some ⟨b,o,none⟩)] (Zx p pp who σ ev++q) (RP (fun v q'=>((e.er).made g.er.pr σ.cells σ.ths[who].loc).2.1=0∧v= .int .i64 ((e.er).made g.er.pr σ.cells σ.ths[who].loc).1∧ ∃ ev':EvC,ev'.e=ev.e.ac ((e.er).made g.er.pr σ.cells σ.ths[who].loc).2.2∧q'=Zx p pp who σ ev'++q) (fun ch q'=>((e.er).made g.er.pr σ.cells σ.ths[who].loc).2.1≠0∧ch= [Vh ((e.er).made g.er.pr σ.cells σ.ths[who].loc).2.1]∧ ∃ ev':EvC,ev'.e=ev.e.ac ((e.er).made g.er.pr σ.cells σ.ths[who].loc).2.2∧q'=Zx p pp who σ ev'++q)):=fun N=>by
 induction N with
 |zero=>intro e b o d ev q hs;exact absurd hs (by cases e;simp only [Ex.sz];omega)
 |succ N IH=> 
 intro e b o d ev q hs hN hd ha hbd hK hP hM hcl hcv hlv
 obtain ⟨ek,en,enm,esl,elo,eop,el,ea,ec⟩:=e
 refine CallF.of func166 ntmps166 rfl (fun F cs=> ?_)
 have hCe:=Kn.exC hK;have hA:Kn q fun M=>SlAt M ea ec el.length (el.flatMap exC)∧Ex.Ats M el:=hK.imp fun M h=>h.2;have hS:=Kn.sees (hA.imp fun M h=>h.1.2.2);have hlen:=Zv Z4 el
 simp only [Ex.er] at ha;obtain ⟨h1,_,h3,hk,k1,k2,k3,k4,k6⟩:=D5 ha;rw [W4] at k1 k2 k3 k4 k6;rw [Yy] at h3
 obtain ⟨M,hMM⟩: ∃ M,M=(Ex.er (Ex.mk ek en enm esl elo eop el ea ec)).made g.er.pr σ.cells σ.ths[who].loc:=⟨_,rfl⟩;rw [←hMM];simp only [Ex.er,PEx.made] at hMM
 obtain ⟨D,hD⟩:=Int.eq_ofNat_of_zero_le (show 0≤d - 1 by omega);have hdt:d.toNat=D+1:=(by omega);have hdt2:(d - 1).toNat=D:=(by omega);have hp2_:=Gq D;rw [hdt,Nat.pow_succ] at hbd
 change X _ _ _ _ _ _ _ _ (pto p (.cells (Yu pp σ++(.int .i64 (who:Int)::evC ev)).toArray 145 (0,0))::lsH I64 2 σ.ca σ.cc σ.cells::yH σ.sp σ.sy::rsH trC 5 116 σ.ha σ.hc σ.ths::stars (σ.ths.map trH)::rsH acC 3 140 ev.aa ev.ac ev.e.acc::rsH snC 3 50 ev.na ev.nc ev.e.syn::(q++F))
 have hcase:ek=1∨ek=2∨ek=3∨ek=4∨ek=5∨ek=6:=(by omega)
 rcases hcase with rfl|rfl|rfl|rfl|rfl|rfl
 · rw [if_pos rfl] at hMM
   refine xo 10 ?_;refine ld ?_ (hc:=((hCe.le leA) 0 _ rfl))
   refine ox 7 ?_;refine X.kt 10 ?_;refine xo 6 ?_;refine ld ?_ (hc:=((hCe.le leA) 1 _ rfl))
   refine ox 2 ?_;refine Zq (Zx p pp who σ ev++q) func166 (Zm results166 rfl) (RP.ret (by rw [hMM];exact ⟨rfl,rfl,ev,(Mc _).symm,rfl⟩))
 · rw [if_neg (by decide),if_pos rfl] at hMM
   refine Yk (l:=σ.ths) (by omega) (fun ga e_=> ?_)
   have hr: ∀ r,Sees (rsH trC 5 116 σ.ha σ.hc σ.ths::r) (some ⟨ga,0,none⟩) (σ.ths.flatMap trC):=fun r=>by rw [←e_];exact Sees.rsH r
   have hin:=(k2 rfl).1;unfold inV at hin
   refine xo 10 ?_;refine ld ?_ (hc:=((hCe.le leA) 0 _ rfl))
   refine ox 7 ?_;refine kx 10 6 ?_;refine X.kt 16 ?_;refine xo 7 ?_;refine ld ?_ (hc:=((hCe.le leA) 4 _ rfl))
   refine ox 1 ?_;refine X.part 21 rfl (fun h5=> ?_) (fun h5=> ?_)
   · replace h5:=sp h5;rw [if_pos h5] at hMM;rw [if_pos h5] at hin;obtain ⟨Sn_,hSn⟩:=Int.eq_ofNat_of_zero_le hin.1;have hslt:Sn_<σ.ths[who].loc.length:=(by omega)
     rw [hSn,show ((Sn_:Int)).toNat=Sn_ from rfl,Wc hslt] at hMM;have hsl0:=fun q:List HP=>Tj (q:=q) hwho;refine Yb ((hsl0 _).le leA) (by simp;omega) (fun lb lo_ e2_=> ?_);have hsl_:=fun q:List HP=>(Tj (q:=q) hwho);rw [e2_] at hsl_
     refine xx 2 ?_;refine drw ?_;refine dd [0,5,6,7] ?_;refine ldD 8 ?_ (hc:=((hCe.le leA) 3 _ rfl))
     refine Y0 1 call95 (Q1 (p:=p) (who:=who) (ga:=ga) (m:=σ.ths.length) (c:=σ.hc) (by rw [←e_];exact clA) clA hwho) ?_ (hL:=(hlA (h:=by repeat first|exact trivial|refine ⟨clA,?_⟩|refine ⟨((hCe.le leA) 3 _ rfl),?_⟩|refine ⟨((hCe.le leA) 5 _ rfl),?_⟩|refine ⟨((hCe.le leA) 6 _ rfl),?_⟩|refine ⟨(Cl.row (n:=who) (hr _) leA Zd hwho rfl 2 _ rfl),?_⟩)))
     refine dd [2,3] ?_;refine ldD 4 ?_ (hc:=(Cl.row (n:=who) (hr _) leA Zd hwho rfl 2 _ rfl))
     refine XD.know 26 (.slice (some ⟨lb,lo_,none⟩) σ.ths[who].loc.length σ.ths[who].lc) rfl (by rw [←e2_]) ?_
     refine XD.know 30 (.int .i64 (Sn_:Int)) rfl (by rw [←hSn]) ?_
     refine dd [9] ?_;refine ldD 10 ?_ (hc:=(((hsl_ _).le leA).at rfl hslt))
     refine dd [11] ?_;refine XD.nil ?_;refine Zq (Zx p pp who σ ev++q) func166 (Zm results166 rfl) (RP.ret (by rw [hMM];exact ⟨rfl,rfl,ev,(Mc _).symm,rfl⟩))
   replace h5:=sp h5;rw [if_neg (by rw [h5];decide)] at hMM;rw [if_neg (by rw [h5];decide)] at hin;obtain ⟨Cn_,hSn⟩:=Int.eq_ofNat_of_zero_le hin.1;have hcn:Cn_<σ.cells.length:=(by have:=U7 (l:=g.arrs.l) (k:=256) (fun y hy=>by have:=hM.a y hy;omega) (by decide);have:=hin.2;rw [Np] at this;omega)
   rw [hSn,show ((Cn_:Int)).toNat=Cn_ from rfl] at hMM
   refine xo 8 ?_;refine ld ?_ (hc:=((hCe.le leA) 3 _ rfl))
   refine XO.know 37 (.int .i64 (Cn_:Int)) rfl (by rw [←hSn]) ?_
   refine Zb call188 leA (L6 (p:=p) (pp:=pp) (who:=who) (σ:=σ) (ev:=ev) (n:=Cn_) (q:=q++F) hcn (by omega)) ?_
   rintro _ _ ⟨rfl,ev2,he2,eq_⟩;simp only [Zx,spP,Zr,evL,ca,na] at eq_;subst eq_
   change XO _ _ _ _ _ _ _ _ _ _ (pto p (.cells (Yu pp σ++(.int .i64 (who:Int)::evC ev2)).toArray 145 (0,0))::lsH I64 2 σ.ca σ.cc σ.cells::yH σ.sp σ.sy::rsH trC 5 116 σ.ha σ.hc σ.ths::stars (σ.ths.map trH)::rsH acC 3 140 ev2.aa ev2.ac ev2.e.acc::rsH snC 3 50 ev2.na ev2.nc ev2.e.syn::(q++F))
   refine ox 2 ?_;refine Zq (Zx p pp who σ ev2++q) func166 (Zm results166 rfl) (RP.ret (by rw [hMM];exact ⟨rfl,rfl,ev2,he2,rfl⟩))
 · have hl1:=(k3 rfl).2
   refine Yb (hS.le leA) (by rw [hlen];omega) (fun ab ao e_=> ?_);subst e_
   have hKa0:Kn q fun M=>ExAt M ⟨ab,ao+(0:Int).toNat*7,none⟩ el[0]:=hK.imp fun M h=>by
    obtain ⟨b',o',e1,e2⟩:=SeesZ.row (i:=0) Z4 (by decide) h.2.1.2.2 (by omega)
    cases e1
    exact ⟨e2,Yo.1 h.2.2 _ (List.getElem_mem _)⟩
   have haa0:(el[0]).er.ask g.er.cn σ.ths[who].loc.length (d - 1)=true:=h3 _ (List.mem_map_of_mem (List.getElem_mem _));have hz0:(el[0]).sz≤N:=by have:=W8 (List.getElem_mem (show 0<el.length by omega));simp only [Ex.sz] at hs;omega
   obtain ⟨A0,hA0⟩: ∃ A,A=((el[0]).er).made g.er.pr σ.cells σ.ths[who].loc:=⟨_,rfl⟩;have hg0:(Yt g.er.pr σ.cells σ.ths[who].loc (Z2 el)).getD 0 (0,0, [])=A0:=by rw [hA0,Ql (by rw [W4];omega)];simp only [Yy,List.getElem_map]
   have hok0:=Yh (p:=g.er.pr) hcv hlv haa0;rw [←hA0,hdt2] at hok0;have hv0: -2147483648≤A0.1∧A0.1≤2147483647:=hok0.1
   rw [if_neg (by decide),if_neg (by decide),hg0] at hMM
   skip
   refine xo 10 ?_;refine ld ?_ (hc:=((hCe.le leA) 0 _ rfl))
   refine ox 7 ?_;refine kx 10 6 ?_;refine kx 16 6 ?_;refine X.kt 39 ?_;refine xx 2 ?_;refine drw ?_;refine dd [0,1,2,3,4] ?_;refine ldD 5 ?_ (hc:=((hCe.le leA) 3 _ rfl))
   refine dd [6,7,8,9] ?_;refine ldD 10 ?_ (hc:=((hCe.le leA) 6 _ rfl))
   refine dd [11] ?_;refine D7 12 call166 leA (IH (e:=el[0]) (d:=d - 1) (b:=ab) (o:=ao+(0:Int).toNat*7) (ev:=ev) (q:=q++F) hz0 trivial (by omega) haa0 (by rw [hdt2];omega) (hKa0.le leA) (hP.le leA) hM hcl hcv hlv) ?_ ?_ trivial
   · rintro _ _ ⟨ht,rfl,ev9,he_,rfl⟩
     exact FQ.panic func166 (RP.thr (by rw [←hA0] at ht he_⊢;rw [if_pos ht] at hMM;rw [hMM];exact ⟨ht,rfl,ev9,he_,rfl⟩)) (by rw [List.append_assoc];exact Le.refl _)
   rintro _ _ ⟨ht0,rfl,ev2,he2,eq_⟩;simp only [Zx,spP,Zr,evL,ca,na] at eq_;subst eq_
   refine ⟨(hlA (h:=by repeat first|exact trivial|refine ⟨clA,?_⟩|refine ⟨((hCe.le leA) 3 _ rfl),?_⟩|refine ⟨((hCe.le leA) 5 _ rfl),?_⟩|refine ⟨((hCe.le leA) 6 _ rfl),?_⟩)),?_⟩
   rw [←hA0] at ht0 he2⊢
   rw [if_neg (fun k=>k ht0),if_pos rfl] at hMM
   obtain ⟨An,hAn⟩:=Int.eq_ofNat_of_zero_le (k3 rfl).1.1;have hAl:An<g.arrs.l.length:=by have:=(k3 rfl).1.2;rw [Nu] at this;omega
   refine XD.know 46 (.int .i64 (An:Int)) rfl (by rw [hAn]) ?_
   rw [hAn] at hMM
   refine D7 13 call168 leA (Gz (p:=p) (pp:=pp) (who:=who) (σ:=σ) (ev:=ev2) (n:=An) (u:=A0.1) (q:=q++F) (hP.le leA) hM hAl hok0.1) ?_ ?_ trivial
   · rintro _ _ ⟨⟨hneg,rfl⟩,rfl⟩
     exact FQ.panic func166 (RP.thr (by rw [if_pos hneg] at hMM;rw [hMM];exact ⟨(show (3:Int)≠0 by decide),rfl,ev2,he2,rfl⟩)) (by rw [List.append_assoc];exact Le.refl _)
   rintro _ _ ⟨⟨hpos,rfl⟩,eq_⟩;simp only [Zx,spP,Zr,evL,ca,na] at eq_;subst eq_
   refine ⟨(hlA (h:=by repeat first|exact trivial|refine ⟨clA,?_⟩|refine ⟨((hCe.le leA) 3 _ rfl),?_⟩|refine ⟨((hCe.le leA) 5 _ rfl),?_⟩|refine ⟨((hCe.le leA) 6 _ rfl),?_⟩)),?_⟩
   rw [if_neg (by omega)] at hMM;obtain ⟨Cn_,hCn⟩:=Int.eq_ofNat_of_zero_le hpos
   refine XD.know 54 (.int .i64 (Cn_:Int)) rfl (by rw [hCn]) ?_
   have hcn:Cn_<σ.cells.length:=by
    have hx:=hCn;unfold PPr.cell at hx;rw [show g.er.pr.arrs=g.arrs.l from rfl,show g.er.pr.vars=g.vars.l from rfl,show ((An:Int)).toNat=An from rfl] at hx
    have hst:=N3 (l:=g.arrs.l) hM.a hAl
    split at hx<;>omega
   rw [hCn,show ((Cn_:Int)).toNat=Cn_ from rfl] at hMM
   refine Ww 14 call188 leA (L6 (p:=p) (pp:=pp) (who:=who) (σ:=σ) (ev:=ev2) (n:=Cn_) (q:=q++F) hcn (by rw [he2];unfold PEv.ac;simp only [List.length_append];omega)) ?_
   rintro _ _ ⟨rfl,ev3,he3,eq_⟩;simp only [Zx,spP,Zr,evL,ca,na] at eq_;subst eq_
   refine ⟨(hlA (h:=by repeat first|exact trivial|refine ⟨clA,?_⟩|refine ⟨((hCe.le leA) 3 _ rfl),?_⟩|refine ⟨((hCe.le leA) 5 _ rfl),?_⟩|refine ⟨((hCe.le leA) 6 _ rfl),?_⟩)),?_⟩
   refine dd [15] ?_;refine XD.nil ?_;refine Zq (Zx p pp who σ ev3++q) func166 (Zm results166 rfl) (RP.ret (by rw [hMM];exact ⟨rfl,rfl,ev3,by rw [he3,he2,H2],rfl⟩))
 · have hl1:=k4 (.inl rfl)
   refine Yb (hS.le leA) (by rw [hlen];omega) (fun ab ao e_=> ?_);subst e_
   have hKa0:Kn q fun M=>ExAt M ⟨ab,ao+(0:Int).toNat*7,none⟩ el[0]:=hK.imp fun M h=>by
    obtain ⟨b',o',e1,e2⟩:=SeesZ.row (i:=0) Z4 (by decide) h.2.1.2.2 (by omega)
    cases e1
    exact ⟨e2,Yo.1 h.2.2 _ (List.getElem_mem _)⟩
   have haa0:(el[0]).er.ask g.er.cn σ.ths[who].loc.length (d - 1)=true:=h3 _ (List.mem_map_of_mem (List.getElem_mem _));have hz0:(el[0]).sz≤N:=by have:=W8 (List.getElem_mem (show 0<el.length by omega));simp only [Ex.sz] at hs;omega
   obtain ⟨A0,hA0⟩: ∃ A,A=((el[0]).er).made g.er.pr σ.cells σ.ths[who].loc:=⟨_,rfl⟩;have hg0:(Yt g.er.pr σ.cells σ.ths[who].loc (Z2 el)).getD 0 (0,0, [])=A0:=by rw [hA0,Ql (by rw [W4];omega)];simp only [Yy,List.getElem_map]
   have hok0:=Yh (p:=g.er.pr) hcv hlv haa0;rw [←hA0,hdt2] at hok0;have hv0: -2147483648≤A0.1∧A0.1≤2147483647:=hok0.1
   rw [if_neg (by decide),if_neg (by decide),hg0] at hMM
   have htw:Wh 8 0 A0.1=if val (-A0.1) then (-A0.1,0) else (0,2):=by unfold Wh;rw [if_neg (by decide),if_neg (by decide),if_neg (by decide),if_neg (by decide),if_neg (by rintro ⟨h|h,_⟩<;>exact absurd h (by decide))];dsimp only;rw [if_neg (show ¬ (8:Int)=7 by decide),if_pos rfl,Int.zero_sub]
   refine xo 10 ?_;refine ld ?_ (hc:=((hCe.le leA) 0 _ rfl))
   refine ox 7 ?_;refine kx 10 6 ?_;refine kx 16 6 ?_;refine kx 39 6 ?_;refine X.kt 56 ?_;refine xo 7 ?_;refine ld ?_ (hc:=((hCe.le leA) 6 _ rfl))
   refine oo 1 ?_;refine Vb call166 leA (IH (e:=el[0]) (d:=d - 1) (b:=ab) (o:=ao+(0:Int).toNat*7) (ev:=ev) (q:=q++F) hz0 trivial (by omega) haa0 (by rw [hdt2];omega) (hKa0.le leA) (hP.le leA) hM hcl hcv hlv) ?_ ?_
   · rintro _ _ ⟨ht,rfl,ev9,he_,rfl⟩
     exact FQ.panic func166 (RP.thr (by rw [←hA0] at ht he_⊢;rw [if_pos ht] at hMM;rw [hMM];exact ⟨ht,rfl,ev9,he_,rfl⟩)) (by rw [List.append_assoc];exact Le.refl _)
   rintro _ _ ⟨ht0,rfl,ev2,he2,eq_⟩;simp only [Zx,spP,Zr,evL,ca,na] at eq_;subst eq_
   rw [←hA0] at ht0 he2⊢
   change XO _ _ _ _ _ _ _ _ _ _ (pto p (.cells (Yu pp σ++(.int .i64 (who:Int)::evC ev2)).toArray 145 (0,0))::lsH I64 2 σ.ca σ.cc σ.cells::yH σ.sp σ.sy::rsH trC 5 116 σ.ha σ.hc σ.ths::stars (σ.ths.map trH)::rsH acC 3 140 ev2.aa ev2.ac ev2.e.acc::rsH snC 3 50 ev2.na ev2.nc ev2.e.syn::(q++F))
   rw [if_neg (fun k=>k ht0),if_neg (by decide),if_pos rfl] at hMM
   refine oo 1 ?_;refine XO.know 65 (.int .i64 (-A0.1)) rfl (congrArg (Value.int .i64) (show IntKind.i64.wrap (0 - A0.1)= -A0.1 by rw [Int.zero_sub];exact Uz (by omega) (by omega))) ?_
   refine Vb call189 (Le.refl _) (Ja (z:= -A0.1) (q:=pto p (.cells (Yu pp σ++(.int .i64 (who:Int)::evC ev2)).toArray 145 (0,0))::lsH I64 2 σ.ca σ.cc σ.cells::yH σ.sp σ.sy::rsH trC 5 116 σ.ha σ.hc σ.ths::stars (σ.ths.map trH)::rsH acC 3 140 ev2.aa ev2.ac ev2.e.acc::rsH snC 3 50 ev2.na ev2.nc ev2.e.syn::(q++F))) ?_ ?_
   · rintro _ _ ⟨⟨hn_,rfl⟩,rfl⟩
     exact FQ.panic func166 (RP.thr (by rw [htw,if_neg hn_] at hMM;rw [hMM];exact ⟨(show (2:Int)≠0 by decide),rfl,ev2,he2,rfl⟩)) leA
   rintro _ _ ⟨⟨hw_,rfl⟩,rfl⟩
   refine ox 2 ?_;refine Zq (Zx p pp who σ ev2++q) func166 (Zm results166 rfl) (RP.ret (by rw [htw,if_pos hw_] at hMM;rw [hMM];exact ⟨rfl,rfl,ev2,he2,rfl⟩))
 · have hl1:=k4 (.inr rfl)
   refine Yb (hS.le leA) (by rw [hlen];omega) (fun ab ao e_=> ?_);subst e_
   have hKa0:Kn q fun M=>ExAt M ⟨ab,ao+(0:Int).toNat*7,none⟩ el[0]:=hK.imp fun M h=>by
    obtain ⟨b',o',e1,e2⟩:=SeesZ.row (i:=0) Z4 (by decide) h.2.1.2.2 (by omega)
    cases e1
    exact ⟨e2,Yo.1 h.2.2 _ (List.getElem_mem _)⟩
   have haa0:(el[0]).er.ask g.er.cn σ.ths[who].loc.length (d - 1)=true:=h3 _ (List.mem_map_of_mem (List.getElem_mem _));have hz0:(el[0]).sz≤N:=by have:=W8 (List.getElem_mem (show 0<el.length by omega));simp only [Ex.sz] at hs;omega
   obtain ⟨A0,hA0⟩: ∃ A,A=((el[0]).er).made g.er.pr σ.cells σ.ths[who].loc:=⟨_,rfl⟩;have hg0:(Yt g.er.pr σ.cells σ.ths[who].loc (Z2 el)).getD 0 (0,0, [])=A0:=by rw [hA0,Ql (by rw [W4];omega)];simp only [Yy,List.getElem_map]
   have hok0:=Yh (p:=g.er.pr) hcv hlv haa0;rw [←hA0,hdt2] at hok0;have hv0: -2147483648≤A0.1∧A0.1≤2147483647:=hok0.1
   rw [if_neg (by decide),if_neg (by decide),hg0] at hMM
   refine xo 10 ?_;refine ld ?_ (hc:=((hCe.le leA) 0 _ rfl))
   refine ox 7 ?_;refine kx 10 6 ?_;refine kx 16 6 ?_;refine kx 39 6 ?_;refine kx 56 6 ?_;refine X.kt 67 ?_;refine xo 7 ?_;refine ld ?_ (hc:=((hCe.le leA) 6 _ rfl))
   refine oo 1 ?_;refine Vb call166 leA (IH (e:=el[0]) (d:=d - 1) (b:=ab) (o:=ao+(0:Int).toNat*7) (ev:=ev) (q:=q++F) hz0 trivial (by omega) haa0 (by rw [hdt2];omega) (hKa0.le leA) (hP.le leA) hM hcl hcv hlv) ?_ ?_
   · rintro _ _ ⟨ht,rfl,ev9,he_,rfl⟩
     exact FQ.panic func166 (RP.thr (by rw [←hA0] at ht he_⊢;rw [if_pos ht] at hMM;rw [hMM];exact ⟨ht,rfl,ev9,he_,rfl⟩)) (by rw [List.append_assoc];exact Le.refl _)
   rintro _ _ ⟨ht0,rfl,ev2,he2,eq_⟩;simp only [Zx,spP,Zr,evL,ca,na] at eq_;subst eq_
   rw [←hA0] at ht0 he2⊢
   change XO _ _ _ _ _ _ _ _ _ _ (pto p (.cells (Yu pp σ++(.int .i64 (who:Int)::evC ev2)).toArray 145 (0,0))::lsH I64 2 σ.ca σ.cc σ.cells::yH σ.sp σ.sy::rsH trC 5 116 σ.ha σ.hc σ.ths::stars (σ.ths.map trH)::rsH acC 3 140 ev2.aa ev2.ac ev2.e.acc::rsH snC 3 50 ev2.na ev2.nc ev2.e.syn::(q++F))
   rw [if_neg (fun k=>k ht0),if_neg (by decide),if_neg (by decide),if_pos rfl] at hMM
   refine oo 1 ?_;refine XO.cR call190 (Ua) ?_;refine ox 2 ?_;refine Zq (Zx p pp who σ ev2++q) func166 (Zm results166 rfl) (RP.ret (by rw [hMM];exact ⟨rfl,by first|rfl|(congr 2;done)|(congr 2;rw [Bool.eq_iff_iff];simp),ev2,he2,rfl⟩))
 have hl1:=(k6 rfl).2
 refine Yb (hS.le leA) (by rw [hlen];omega) (fun ab ao e_=> ?_);subst e_
 have hKa0:Kn q fun M=>ExAt M ⟨ab,ao+(0:Int).toNat*7,none⟩ el[0]:=hK.imp fun M h=>by
  obtain ⟨b',o',e1,e2⟩:=SeesZ.row (i:=0) Z4 (by decide) h.2.1.2.2 (by omega)
  cases e1
  exact ⟨e2,Yo.1 h.2.2 _ (List.getElem_mem _)⟩
 have haa0:(el[0]).er.ask g.er.cn σ.ths[who].loc.length (d - 1)=true:=h3 _ (List.mem_map_of_mem (List.getElem_mem _));have hz0:(el[0]).sz≤N:=by have:=W8 (List.getElem_mem (show 0<el.length by omega));simp only [Ex.sz] at hs;omega
 obtain ⟨A0,hA0⟩: ∃ A,A=((el[0]).er).made g.er.pr σ.cells σ.ths[who].loc:=⟨_,rfl⟩;have hg0:(Yt g.er.pr σ.cells σ.ths[who].loc (Z2 el)).getD 0 (0,0, [])=A0:=by rw [hA0,Ql (by rw [W4];omega)];simp only [Yy,List.getElem_map]
 have hok0:=Yh (p:=g.er.pr) hcv hlv haa0;rw [←hA0,hdt2] at hok0;have hv0: -2147483648≤A0.1∧A0.1≤2147483647:=hok0.1
 have hKa1:Kn q fun M=>ExAt M ⟨ab,ao+(1:Int).toNat*7,none⟩ el[1]:=hK.imp fun M h=>by
  obtain ⟨b',o',e1,e2⟩:=SeesZ.row (i:=1) Z4 (by decide) h.2.1.2.2 (by omega)
  cases e1
  exact ⟨e2,Yo.1 h.2.2 _ (List.getElem_mem _)⟩
 have haa1:(el[1]).er.ask g.er.cn σ.ths[who].loc.length (d - 1)=true:=h3 _ (List.mem_map_of_mem (List.getElem_mem _));have hz1:(el[1]).sz≤N:=by have:=W8 (List.getElem_mem (show 1<el.length by omega));simp only [Ex.sz] at hs;omega
 obtain ⟨A1,hA1⟩: ∃ A,A=((el[1]).er).made g.er.pr σ.cells σ.ths[who].loc:=⟨_,rfl⟩;have hg1:(Yt g.er.pr σ.cells σ.ths[who].loc (Z2 el)).getD 1 (0,0, [])=A1:=by rw [hA1,Ql (by rw [W4];omega)];simp only [Yy,List.getElem_map]
 have hok1:=Yh (p:=g.er.pr) hcv hlv haa1;rw [←hA1,hdt2] at hok1;have hv1: -2147483648≤A1.1∧A1.1≤2147483647:=hok1.1
 rw [if_neg (by decide),if_neg (by decide),hg0,hg1] at hMM
 have hop12:eop=1∨eop=2∨3≤eop:=(by have:=(k6 rfl).1;omega)
 refine xo 10 ?_;refine ld ?_ (hc:=((hCe.le leA) 0 _ rfl))
 refine ox 7 ?_;refine kx 10 6 ?_;refine kx 16 6 ?_;refine kx 39 6 ?_;refine kx 56 6 ?_;refine Wp 67 ?_;refine xo 9 ?_;refine ld ?_ (hc:=((hCe.le leA) 6 _ rfl))
 refine oo 1 ?_;refine Vb call166 leA (IH (e:=el[0]) (d:=d - 1) (b:=ab) (o:=ao+(0:Int).toNat*7) (ev:=ev) (q:=q++F) hz0 trivial (by omega) haa0 (by rw [hdt2];omega) (hKa0.le leA) (hP.le leA) hM hcl hcv hlv) ?_ ?_
 · rintro _ _ ⟨ht,rfl,ev9,he_,rfl⟩
   exact FQ.panic func166 (RP.thr (by rw [←hA0] at ht he_⊢;rw [if_pos ht] at hMM;rw [hMM];exact ⟨ht,rfl,ev9,he_,rfl⟩)) (by rw [List.append_assoc];exact Le.refl _)
 rintro _ _ ⟨ht0,rfl,ev2,he2,eq_⟩;simp only [Zx,spP,Zr,evL,ca,na] at eq_;subst eq_
 rw [←hA0] at ht0 he2⊢
 change XO _ _ _ _ _ _ _ _ _ _ (pto p (.cells (Yu pp σ++(.int .i64 (who:Int)::evC ev2)).toArray 145 (0,0))::lsH I64 2 σ.ca σ.cc σ.cells::yH σ.sp σ.sy::rsH trC 5 116 σ.ha σ.hc σ.ths::stars (σ.ths.map trH)::rsH acC 3 140 ev2.aa ev2.ac ev2.e.acc::rsH snC 3 50 ev2.na ev2.nc ev2.e.syn::(q++F))
 rw [if_neg (fun k=>k ht0)] at hMM
 refine oo 8 ?_;refine ld ?_ (hc:=((hCe.le leA) 5 _ rfl))
 refine oo 2 ?_;refine Zh [90,5,4,0,1] ?_
 apply Zp 3 93 90 rfl
 · intro g11 M11;have c11:=sp g11
   refine oo 3 ?_;exact Zz M11 ⟨Wj g11,Zw⟩
 · intro g11 M11;have c11:=sp g11
   refine oo 3 ?_;exact Zz M11 ⟨Wk g11,Zw⟩
 refine ox 1 ?_;refine X.part 93 rfl (fun g1=> ?_) (fun g1=> ?_)
 · replace g1:=sp g1
   have hop:eop=1:=g1.1;rw [if_neg (by decide),if_neg (by decide),if_neg (by decide),if_pos (by exact .inl ⟨hop,g1.2⟩),hop] at hMM
   refine xx 5 ?_;refine Zq (Zx p pp who σ ev2++q) func166 (Zm results166 rfl) (RP.ret (by rw [hMM];exact ⟨rfl,by first|rfl|(simp only [hop];rfl),ev2,he2,rfl⟩))
 replace g1:=sp g1
 refine xo 8 ?_;refine ld ?_ (hc:=((hCe.le leA) 5 _ rfl))
 refine oo 2 ?_;refine Zh [99,5,4,0,1] ?_
 apply Zp 3 102 99 rfl
 · intro g12 M12;have c12:=sp g12
   refine oo 3 ?_;exact Zz M12 ⟨Wj g12,Zw⟩
 · intro g12 M12;have c12:=sp g12
   refine oo 3 ?_;exact Zz M12 ⟨Wk g12,Zw⟩
 refine ox 1 ?_;refine X.part 102 rfl (fun g2=> ?_) (fun g2=> ?_)
 · replace g2:=sp g2
   have hop:eop=2:=g2.1;rw [if_neg (by decide),if_neg (by decide),if_neg (by decide),if_pos (by exact .inr ⟨hop,g2.2⟩),hop] at hMM
   refine xx 5 ?_;refine Zq (Zx p pp who σ ev2++q) func166 (Zm results166 rfl) (RP.ret (by rw [hMM];exact ⟨rfl,by first|rfl|(simp only [hop];rfl),ev2,he2,rfl⟩))
 replace g2:=sp g2
 rw [if_neg (by decide),if_neg (by decide),if_neg (by decide),if_neg (by rintro (⟨z1,z2⟩|⟨z1,z2⟩)<;>simp_all)] at hMM
 have hbt:(if eop≤2 then (Qg (A1.1 !=0),(0:Int),A0.2.2++A1.2.2) else ((Wh eop A0.1 A1.1).1,(Wh eop A0.1 A1.1).2,A0.2.2++A1.2.2))=((Wl eop A0.1 A1.1).1,(Wl eop A0.1 A1.1).2,A0.2.2++A1.2.2):=by unfold Wl;split<;>rfl
 refine xx 3 ?_;refine drw ?_;refine dd [0,1,2] ?_;refine ldD 3 ?_ (hc:=((hCe.le leA) 5 _ rfl))
 refine dd [4,5,6,7,8] ?_;refine ldD 9 ?_ (hc:=((hCe.le leA) 6 _ rfl))
 refine dd [10] ?_;refine D7 11 call166 leA (IH (e:=el[1]) (d:=d - 1) (b:=ab) (o:=ao+(1:Int).toNat*7) (ev:=ev2) (q:=q++F) hz1 trivial (by omega) haa1 (by rw [hdt2,he2];unfold PEv.ac;simp only [List.length_append];omega) (hKa1.le leA) (hP.le leA) hM hcl hcv hlv) ?_ ?_ trivial
 · rintro _ _ ⟨ht,rfl,ev9,he_,rfl⟩
   exact FQ.panic func166 (RP.thr (by rw [←hA1] at ht he_⊢;rw [if_pos ht] at hMM;rw [hMM];exact ⟨ht,rfl,ev9,by rw [he_,he2,H2],rfl⟩)) (by rw [List.append_assoc];exact Le.refl _)
 rintro _ _ ⟨ht1,rfl,ev3,he3,eq_⟩;simp only [Zx,spP,Zr,evL,ca,na] at eq_;subst eq_
 refine ⟨(hlA (h:=by repeat first|exact trivial|refine ⟨clA,?_⟩|refine ⟨((hCe.le leA) 3 _ rfl),?_⟩|refine ⟨((hCe.le leA) 5 _ rfl),?_⟩|refine ⟨((hCe.le leA) 6 _ rfl),?_⟩)),?_⟩
 rw [←hA1] at ht1 he3⊢
 rw [if_neg (fun k=>k ht1)] at hMM
 refine D7 12 call191 (Le.refl _) (both_ok (op:=eop) (u:=A0.1) (z:=A1.1) (q:=pto p (.cells (Yu pp σ++(.int .i64 (who:Int)::evC ev3)).toArray 145 (0,0))::lsH I64 2 σ.ca σ.cc σ.cells::yH σ.sp σ.sy::rsH trC 5 116 σ.ha σ.hc σ.ths::stars (σ.ths.map trH)::rsH acC 3 140 ev3.aa ev3.ac ev3.e.acc::rsH snC 3 50 ev3.na ev3.nc ev3.e.syn::(q++F)) (k6 rfl).1 hok0.1 hok1.1) ?_ ?_ trivial
 · rintro _ _ ⟨⟨hn_,rfl⟩,rfl⟩
   exact FQ.panic func166 (RP.thr (by rw [hbt] at hMM;rw [hMM];exact ⟨hn_,rfl,ev3,by rw [he3,he2,H2],rfl⟩)) leA
 rintro _ _ ⟨⟨hw_,rfl⟩,rfl⟩
 refine ⟨(hlA (h:=by repeat first|exact trivial|refine ⟨clA,?_⟩|refine ⟨((hCe.le leA) 3 _ rfl),?_⟩|refine ⟨((hCe.le leA) 5 _ rfl),?_⟩|refine ⟨((hCe.le leA) 6 _ rfl),?_⟩)),?_⟩
 refine dd [13] ?_;refine XD.nil ?_;refine Zq (Zx p pp who σ ev3++q) func166 (Zm results166 rfl) (RP.ret (by rw [hbt] at hMM;rw [hMM];exact ⟨hw_,rfl,ev3,by rw [he3,he2,H2],rfl⟩))
end
section
variable {G:World}{q:List HP}{a:Option Addr}{c:Nat}
theorem O1 {l:List PS}(hs:Sees q a (l.map PS.v))(hL:l.length≤1000000000):CallF prog G 69 [.slice a l.length c] (q) (Ret fun v q'=> ∃ a' c',v= .slice a' l.length c'∧q'=lsH PS.v 146 a' c' l::q):=by
 refine CallF.of func69 ntmps69 rfl (fun F cs=> ?_)
 rcases Nat.eq_zero_or_pos l.length with hl0|hl0
 · obtain rfl:=List.eq_nil_of_length_eq_zero hl0
   refine xx 10 ?_;refine X.part 4 rfl (fun h1=> ?_) (fun h1=> ?_)
   · refine xx 5 ?_;refine Zq (lsH PS.v 146 none 0 []::q) func69 (Zm results69 rfl) ⟨_,rfl,none,0,rfl,rfl⟩ ((leA).trans (Za _ _ _))
   refine xo 4 ?_;refine XO.ef (Jp PS.v underlying114 Wa) ?_;rintro _ _ ⟨g,rfl,rfl⟩
   refine oo 1 ?_;refine XO.ef (Yw (f:=PS.v) (l:= []) (m:= []) underlying114 Wa rfl rfl rfl Zk (hs.le leA) (fun _=>rfl) (by simp;try omega) (by simp;try omega)) ?_
   rintro _ _ ⟨a2,c2,rfl,rfl⟩
   refine ox 2 ?_;refine Zq (lsH PS.v 146 a2 c2 []::q) func69 (Zm results69 rfl) ⟨_,rfl,a2,c2,by simp,rfl⟩
 refine Yb hs (by rw [List.length_map];omega) (fun b1 o1 e_=> ?_);subst e_
 refine xx 10 ?_;refine Wp 4 ?_;refine xo 4 ?_;refine XO.ef (Jp PS.v underlying114 Wa) ?_;rintro _ _ ⟨g,rfl,rfl⟩
 refine oo 1 ?_;refine XO.ef (Yw (f:=PS.v) (l:= []) (m:=l) underlying114 Wa rfl rfl rfl Zk (hs.le leA) (fun _=>rfl) (by simp;try omega) (by simp;try omega)) ?_
 rintro _ _ ⟨a2,c2,rfl,rfl⟩
 refine ox 2 ?_;refine Zq (lsH PS.v 146 a2 c2 l::q) func69 (Zm results69 rfl) ⟨_,rfl,a2,c2,by simp,rfl⟩
theorem O0 {l:List TC}(hs:Sees q a (l.flatMap trC))(hL:l.length≤1000000000):CallF prog G 68 [.slice a l.length c] (q) (Ret fun v q'=> ∃ a' c',v= .slice a' l.length c'∧q'=rsH trC 5 116 a' c' l::q):=by
 refine CallF.of func68 ntmps68 rfl (fun F cs=> ?_)
 rcases Nat.eq_zero_or_pos l.length with hl0|hl0
 · obtain rfl:=List.eq_nil_of_length_eq_zero hl0
   refine xx 10 ?_;refine X.part 4 rfl (fun h1=> ?_) (fun h1=> ?_)
   · refine xx 5 ?_;refine Zq (rsH trC 5 116 none 0 []::q) func68 (Zm results68 rfl) ⟨_,rfl,none,0,rfl,rfl⟩ ((leA).trans (Zi _ _ _ _))
   refine xo 4 ?_;refine XO.ef (Qf trC underlying96 U0) ?_;rintro _ _ ⟨g,rfl,rfl⟩
   refine oo 1 ?_;refine XO.ef (Z8 (f:=trC) (l:= []) (m:= []) underlying96 U0 rfl rfl Zd rfl rfl Zk (hs.le leA) Eg (by simp;try omega) (by simp;try omega)) ?_
   rintro _ _ ⟨a2,c2,rfl,rfl⟩
   refine ox 2 ?_;refine Zq (rsH trC 5 116 a2 c2 []::q) func68 (Zm results68 rfl) ⟨_,rfl,a2,c2,by simp,rfl⟩
 refine Yb hs (by rw [Zv Zd];omega) (fun b1 o1 e_=> ?_);subst e_
 refine xx 10 ?_;refine Wp 4 ?_;refine xo 4 ?_;refine XO.ef (Qf trC underlying96 U0) ?_;rintro _ _ ⟨g,rfl,rfl⟩
 refine oo 1 ?_;refine XO.ef (Z8 (f:=trC) (l:= []) (m:=l) underlying96 U0 rfl rfl Zd rfl rfl Zk (hs.le leA) Eg (by simp;try omega) (by simp;try omega)) ?_
 rintro _ _ ⟨a2,c2,rfl,rfl⟩
 refine ox 2 ?_;refine Zq (rsH trC 5 116 a2 c2 l::q) func68 (Zm results68 rfl) ⟨_,rfl,a2,c2,by simp,rfl⟩
end
section
variable {G:World}{q:List HP}{p pp n N:Nat}{g:FC}{σ:StC}
set_option maxHeartbeats 8000000 in
theorem SCopy_ok (hok:SS.ok g.er N σ.er)(hN:N≤900)(hC:σ.cells.length≤1000000):CallF prog G 37 [.pointer (some ⟨p,0,none⟩)] (stP p pp σ::(Zr σ++q)) (Ret fun v q'=> ∃ (p2:Nat) (σ2:StC),σ2.er=σ.er∧σ2.ths.map TC.todo=σ.ths.map TC.todo∧v= .pointer (some ⟨p2,0,none⟩)∧q'=stP p2 pp σ2::(Zr σ2++(stP p pp σ::(Zr σ++q)))):=by
 refine CallF.of func37 ntmps37 rfl (fun F cs=> ?_)
 change X _ _ _ _ _ _ _ _ (pto p (.cells (Yu pp σ).toArray 98 (0,0))::lsH I64 2 σ.ca σ.cc σ.cells::yH σ.sp σ.sy::rsH trC 5 116 σ.ha σ.hc σ.ths::stars (σ.ths.map trH)::(q++F))
 have hlen:=Zv Zd σ.ths;have h8:σ.ths.length≤8:=by have:=hok.t.2;rwa [StC.nth] at this
 have h1_:1≤σ.ths.length:=by have:=hok.t.1;rwa [StC.nth] at this
 have hys:σ.sy.ok N:=hok.y;have hcl:σ.cells.length≤1000000:=hC
 refine xo 8 ?_;refine XO.cR call49 (Vt (p:=p) (pp:=pp) clA) ?_
 refine XO.pu (Pu.not rfl) ?_;refine ox 1 ?_;refine Wp 8 ?_;refine xo 6 ?_;refine ldA ?_;refine XO.al zeroValue98 fun n1=> ?_
 refine stA ?_;refine ox 2 ?_;refine drw ?_;refine dl [0,1,2] 3 ?_;refine dl [5,6,7] 8 ?_;refine dl [10,11,12] 13 ?_;refine Ww 4 call50 (Le.refl _) (U5 (l:=σ.cells) ((Sees.lsH _).le leA) (by omega)) ?_
 rintro _ _ ⟨ac,cc,rfl,rfl⟩
 refine ⟨hlA,?_⟩
 refine Un 9 call67 (Copy_Y hys (by omega)) ?_
 rintro _ _ ⟨py,rfl,rfl⟩ _ e_;simp only [ca,na] at e_;subst e_
 refine ⟨hlA,?_⟩
 refine Ww 14 call68 (Le.refl _) (O0 (l:=σ.ths) ((Sees.rsH _).le leA) (by omega)) ?_
 rintro _ _ ⟨at_,ct,rfl,rfl⟩
 refine ⟨trivial,?_⟩
 refine dd [15] ?_;refine stD 16 ?_;refine dd [17] ?_;refine stD 18 ?_;refine dd [19] ?_;refine stD 20 ?_;refine XD.nil ?_;refine xj 4 ?_;refine ox 4 ?_;refine Yk (a:=at_) (l:=σ.ths) (by omega) (fun gt et_=> ?_);subst et_
 refine X.at (X.loop (fun (s:Nat×List TC)=>s.1≤σ.ths.length∧s.2.length=s.1∧s.2.map TC.er=(σ.ths.take s.1).map TC.er∧s.2.map TC.todo=(σ.ths.take s.1).map TC.todo) (fun s=> [(3,.pointer (some ⟨n1,0,none⟩)),(32,.int .i64 (σ.ths.length:Int)),(33,.int .i64 (s.1:Int))]) (fun s=>pto n1 (.cells [.pointer (some ⟨pp,0,none⟩),.slice ac σ.cells.length cc,.pointer (some ⟨py,0,none⟩),.slice (some ⟨gt,0,none⟩) σ.ths.length ct,.int .i64 σ.out.kind,.int .i64 σ.out.trap,.int .i64 σ.out.th,.int .i64 σ.out.stmt].toArray 98 (0,0))::lsH I64 2 ac cc σ.cells::yH py σ.sy::rsH trC 5 116 (some ⟨gt,0,none⟩) ct (s.2++σ.ths.drop s.1)::stars (s.2.map trH)::pto p (.cells (Yu pp σ).toArray 98 (0,0))::lsH I64 2 σ.ca σ.cc σ.cells::yH σ.sp σ.sy::rsH trC 5 116 σ.ha σ.hc σ.ths::stars (σ.ths.map trH)::(q++F)) (fun s=>σ.ths.length - s.1) (fun s hi_ ih=> ?_) (0, []) ⟨Nat.zero_le _,rfl,rfl,rfl⟩) Zu (Le.trans (W1 _) leA)
 try dsimp only at hi_ ih⊢
 obtain ⟨hi1,hi2,hi3,hi4⟩:=hi_
 obtain ⟨i,T1⟩:=s;dsimp only at*
 refine xx 5 ?_;refine X.part 34 rfl (fun h0=> ?_) (fun h0=> ?_)
 · replace h0:=sp h0;have hlt:i<σ.ths.length:=(by omega)
   obtain ⟨x,hx⟩: ∃ x,x=σ.ths[i]:=⟨_,rfl⟩;have hT:=hok.at hlt;rw [←hx] at hT;have hTn:=hT.n;rw [Vc] at hTn;have hTl:x.loc.length≤32:=hT.l;have hTp:x.sp.length≤8:=hT.p.1
   have hSl:=fun q:List HP=>Tj (q:=q) hlt;have hSt:=fun q:List HP=>Sees.todo (q:=q) hlt;have hSs:=fun q:List HP=>Bo (q:=q) hlt;rw [←hx] at hSl hSt hSs
   have hil:i<(T1++σ.ths.drop i).length:=by rw [List.length_append,List.length_drop];omega
   have hix:(T1++σ.ths.drop i)[i]=x:=by rw [List.getElem_append_right (by omega)];simp [hi2,hx]
   refine xj 12 ?_;refine ox 4 ?_;refine drw ?_;refine dd [0,1,2,3,4,5] ?_;refine ldD 6 ?_ (hc:=(Cl.row (n:=i) (l:=(T1++σ.ths.drop i)) (Sees.rsH _) leA Zd hil rfl 2 _ (by rw [hix];rfl)))
   refine dd [8,9,10] ?_;refine ldD 11 ?_ (hc:=(Cl.row (n:=i) (l:=(T1++σ.ths.drop i)) (Sees.rsH _) leA Zd hil rfl 3 _ (by rw [hix];rfl)))
   refine dd [13,14,15] ?_;refine ldD 16 ?_ (hc:=(Cl.row (n:=i) (l:=(T1++σ.ths.drop i)) (Sees.rsH _) leA Zd hil rfl 4 _ (by rw [hix];rfl)))
   refine Ww 7 call50 (Le.refl _) (U5 (l:=x.loc) ((hSl _).le leA) (by omega)) ?_
   rintro _ _ ⟨al,cl,rfl,rfl⟩
   refine ⟨(hlA (h:=by repeat first|exact trivial|refine ⟨clA,?_⟩|refine ⟨(Cl.row (n:=i) (l:=(T1++σ.ths.drop i)) (Sees.rsH _) leA Zd hil rfl 2 _ (by rw [hix];rfl)),?_⟩|refine ⟨(Cl.row (n:=i) (l:=(T1++σ.ths.drop i)) (Sees.rsH _) leA Zd hil rfl 3 _ (by rw [hix];rfl)),?_⟩|refine ⟨(Cl.row (n:=i) (l:=(T1++σ.ths.drop i)) (Sees.rsH _) leA Zd hil rfl 4 _ (by rw [hix];rfl)),?_⟩)),?_⟩
   refine Ww 12 call69 (Le.refl _) (O1 (l:=x.todo) ((hSt _).le leA) (by omega)) ?_
   rintro _ _ ⟨a3,c3,rfl,rfl⟩
   refine ⟨(hlA (h:=by repeat first|exact trivial|refine ⟨clA,?_⟩|refine ⟨(Cl.row (n:=i) (l:=(T1++σ.ths.drop i)) (Sees.rsH _) leA Zd hil rfl 2 _ (by rw [hix];rfl)),?_⟩|refine ⟨(Cl.row (n:=i) (l:=(T1++σ.ths.drop i)) (Sees.rsH _) leA Zd hil rfl 3 _ (by rw [hix];rfl)),?_⟩|refine ⟨(Cl.row (n:=i) (l:=(T1++σ.ths.drop i)) (Sees.rsH _) leA Zd hil rfl 4 _ (by rw [hix];rfl)),?_⟩)),?_⟩
   refine Ww 17 call70 (Le.refl _) (J9 (l:=x.sp) ((hSs _).le leA) (by omega)) ?_
   rintro _ _ ⟨a4,c4,rfl,rfl⟩
   refine ⟨trivial,?_⟩
   refine dd [18,19] ?_;refine XD.ef0 20 rfl (Yi (g:=gt) (f:=trC) (l:=(T1++σ.ths.drop i)) (u:= { x with la:=al,lc:=cl }) (n:=i) (k:=2) (j:=(i:Int)) rfl rfl sizeOf23 Zd rfl (by exact hil) rfl (by rw [hix];rfl) rfl rfl Zk) ?_
   rintro _ _ ⟨rfl,rfl⟩
   refine ⟨trivial,?_⟩
   refine dd [21,22] ?_;refine XD.ef0 23 rfl (Yi (g:=gt) (f:=trC) (l:=((T1++σ.ths.drop i).set i { x with la:=al,lc:=cl })) (u:= { x with la:=al,lc:=cl,ta:=a3,tc:=c3 }) (n:=i) (k:=3) (j:=(i:Int)) rfl rfl sizeOf114 Zd rfl (by rw [List.length_set];exact hil) rfl (by rw [List.getElem_set_self];rfl) rfl rfl Zk) ?_
   rintro _ _ ⟨rfl,rfl⟩
   refine ⟨trivial,?_⟩
   rw [List.set_set]
   refine dd [24,25] ?_;refine XD.ef0 26 rfl (Yi (g:=gt) (f:=trC) (l:=((T1++σ.ths.drop i).set i { x with la:=al,lc:=cl,ta:=a3,tc:=c3 })) (u:= { x with la:=al,lc:=cl,ta:=a3,tc:=c3,sa:=a4,sc:=c4 }) (n:=i) (k:=4) (j:=(i:Int)) rfl rfl sizeOf22 Zd rfl (by rw [List.length_set];exact hil) rfl (by rw [List.getElem_set_self];rfl) rfl rfl Zk) ?_
   rintro _ _ ⟨rfl,rfl⟩
   refine ⟨trivial,?_⟩
   rw [List.set_set]
   refine XD.nil ?_;refine xx 5 ?_
   rw [T9 T1 (σ.ths.drop i) i _ hi2 (by rw [List.length_drop];omega),List.drop_drop]
   refine X.le (q':=stars ((T1++ [({ x with la:=al,lc:=cl,ta:=a3,tc:=c3,sa:=a4,sc:=c4 } :TC)]).map trH)::_) (Le.trans (b:=stars (T1.map trH)::lsH I64 2 al cl x.loc::lsH PS.v 146 a3 c3 x.todo::lsH I64 3 a4 c4 x.sp::_) (Le.pick Zk (Le.pick Zk (Le.pick Zk Zk))) (Le.trans (Le.cons _ (Z5 (trL ({ x with la:=al,lc:=cl,ta:=a3,tc:=c3,sa:=a4,sc:=c4 } :TC)) _)) (Le.stars_snoc trH T1 ({ x with la:=al,lc:=cl,ta:=a3,tc:=c3,sa:=a4,sc:=c4 } :TC) _))) ?_
   refine X.at (ih (i+1,T1++ [({ x with la:=al,lc:=cl,ta:=a3,tc:=c3,sa:=a4,sc:=c4 } :TC)]) ⟨by dsimp only;omega,by dsimp only;rw [List.length_append];simp [hi2],by dsimp only;rw [List.take_succ_eq_append_getElem hlt,List.map_append,List.map_append,hi3,←hx];rfl,by dsimp only;rw [List.take_succ_eq_append_getElem hlt,List.map_append,List.map_append,hi4,←hx];rfl⟩ (by dsimp only;omega)) Zu leA
 replace h0:=sp h0;obtain rfl:i=σ.ths.length:=(by omega);rw [List.take_length] at hi3 hi4;rw [List.drop_length,List.append_nil];clear ih
 refine xx 6 ?_;refine X.le (q':=stP n1 pp (⟨ac,cc,σ.cells,py,σ.sy,some ⟨gt,0,none⟩,ct,T1,σ.out⟩:StC)::(Zr (⟨ac,cc,σ.cells,py,σ.sy,some ⟨gt,0,none⟩,ct,T1,σ.out⟩:StC)++(stP p pp σ::(Zr σ++(q++F))))) (by unfold stP Yu;dsimp only;rw [hi2];exact leA) ?_
 refine Zq (stP n1 pp (⟨ac,cc,σ.cells,py,σ.sy,some ⟨gt,0,none⟩,ct,T1,σ.out⟩:StC)::(Zr (⟨ac,cc,σ.cells,py,σ.sy,some ⟨gt,0,none⟩,ct,T1,σ.out⟩:StC)++(stP p pp σ::(Zr σ++q)))) func37 (Zm results37 rfl) ⟨_,rfl,n1,(⟨ac,cc,σ.cells,py,σ.sy,some ⟨gt,0,none⟩,ct,T1,σ.out⟩:StC),by simp only [StC.er,hi3],hi4,rfl,rfl⟩
end
end Go.Proofs.YtflkjkhijcdbaaaGreat
