/- Contracts of functions, proved by walking their code. -/
import Derived.Test.YtflkjkhijcdbaaaGreatBj
import Derived.KernelRfl
set_option maxRecDepth 100000
set_option linter.unusedVariables false
set_option linter.unusedSimpArgs false
namespace Go.Proofs.YtflkjkhijcdbaaaGreat
open Go Go.RowKit Wx Go.Proofs.Tryz
attribute [local irreducible] Wx.lsH Wx.rsH Wx.stars
def yH (p:Nat)(s:Sy):HP:=ex fun σ:SyC=>stars (pure (Real σ s)::syL p σ)
theorem Fs {p:Nat}{s:Sy}{σ:SyC}(h:Real σ s)(q:List HP):Le (syL p σ++q) (yH p s::q):=
 Df σ ((Qb h _).trans (Z5 (pure (Real σ s)::syL p σ) q))
theorem Uh {P:Program}{G:World}{fn:FuncId}{vs:List Value}{p:Nat}{s:Sy}{R:Wx.Ug}(h: ∀ σ,Real σ s→CallF P G fn vs (syL p σ) R):CallF P G fn vs [yH p s] R:=by
 intro F w st cs
 obtain ⟨σ,s1⟩:=St.get_ex st
 have s2:=s1.le (Zs (pure (Real σ s)::syL p σ) F)
 exact h σ s2.get_pure F w (s2.le (Le.drop _ _)) cs
theorem Uq {p:Nat}{s:Sy}{σ:SyC}(h:Real σ s):Le (syL p σ) [yH p s]:=by have:=Fs (p:=p) h [];rwa [List.append_nil] at this
structure PS where
 b:Nat
 o:Nat
 s:Stm
def PS.v (x:PS):Value:= .pointer (some ⟨x.b,x.o,none⟩)
def PS.At (M:Hp)(x:PS):Prop:=StAt M ⟨x.b,x.o,none⟩ x.s
def psL (b o:Nat)(l:List Stm):List PS:=(List.range l.length).map fun i=>⟨b,o+i*25,l.getD i zSm⟩
theorem Hs (b o:Nat)(l:List Stm):(psL b o l).length=l.length:=by simp [psL]
theorem E2 (b o:Nat)(l:List Stm):(psL b o l).map (fun y=>y.s.er)=Zj l:=by
 apply List.ext_getElem
 · simp [psL,Zn]
 intro i h1 h2
 have hi:i<l.length:=by simpa [psL] using h1
 simp [psL,Yn,hi]
theorem E3 {M:Hp}{b o c:Nat}{l:List Stm}(h:BlkAt M (some ⟨b,o,none⟩) c l): ∀ y∈psL b o l,y.At M:=by
 intro y hy
 obtain ⟨i,hi,rfl⟩:=List.mem_map.1 hy
 have hi:=List.mem_range.1 hi
 obtain ⟨b',o',e1,e2⟩:=SeesZ.row Z9 (by decide) h.1.2.2 hi
 cases e1
 have e:l.getD i zSm=l[i]:=by simp [List.getD,hi]
 unfold PS.At
 dsimp only
 rw [e]
 exact ⟨e2,Vb.1 h.2 _ (List.getElem_mem hi)⟩
structure TC where
 decl:Int
 st:Int
 la:Option Addr
 lc:Nat
 loc:List Int
 ta:Option Addr
 tc:Nat
 todo:List PS
 sa:Option Addr
 sc:Nat
 sp:List Int
def trC (x:TC):List Value:= [.int .i64 x.decl,.int .i64 x.st,.slice x.la x.loc.length x.lc,.slice x.ta x.todo.length x.tc,.slice x.sa x.sp.length x.sc]
theorem Zy (x:TC):(trC x).length=5:=rfl
theorem Er (x:TC):(trC x).all (·.oneCell')=true:=rfl
def TC.er (x:TC):PTr:=⟨x.decl,x.st,x.loc,(x.todo.map fun y=>y.s.er).reverse,x.sp⟩
def trL (x:TC):List HP:= [lsH I64 2 x.la x.lc x.loc,lsH PS.v 146 x.ta x.tc x.todo,lsH I64 3 x.sa x.sc x.sp]
def trH (x:TC):HP:=stars (trL x)
def TodoAt (M:Hp)(l:List TC):Prop:= ∀ t∈l,∀ y∈t.todo,y.At M
structure StC where
 ca:Option Addr
 cc:Nat
 cells:List Int
 sp:Nat
 sy:Sy
 ha:Option Addr
 hc:Nat
 ths:List TC
 out:POut
def Yt (pp:Nat)(σ:StC):List Value:= [.pointer (some ⟨pp,0,none⟩),.slice σ.ca σ.cells.length σ.cc,.pointer (some ⟨σ.sp,0,none⟩),.slice σ.ha σ.ths.length σ.hc,.int .i64 σ.out.kind,.int .i64 σ.out.trap,.int .i64 σ.out.th,.int .i64 σ.out.stmt]
def StC.er (σ:StC):SS:=⟨σ.cells,σ.sy,σ.ths.map TC.er,σ.out⟩
def Zc (σ:StC):List HP:= [lsH I64 2 σ.ca σ.cc σ.cells,yH σ.sp σ.sy,rsH trC 5 116 σ.ha σ.hc σ.ths,stars (σ.ths.map trH)]
def stP (p pp:Nat)(σ:StC):HP:=pto p (.cells (Yt pp σ).toArray 98 (0,0))
def acC (x:Ac):List Value:= [.int .i64 x.1,.bool x.2.1,.int .i64 x.2.2]
def snC (x:Sn):List Value:= [.int .i64 x.1,.int .i64 x.2.1,.int .i64 x.2.2]
structure EvC where
 e:PEv
 aa:Option Addr
 ac:Nat
 na:Option Addr
 nc:Nat
def evC (x:EvC):List Value:= [.int .i64 x.e.th,.int .i64 x.e.stmt,.bool x.e.woke,.int .i64 x.e.trap,.slice x.aa x.e.acc.length x.ac,.bool x.e.told,.int .i64 x.e.outv,.int .i64 x.e.value,.slice x.na x.e.syn.length x.nc]
def evL (x:EvC):List HP:= [rsH acC 3 140 x.aa x.ac x.e.acc,rsH snC 3 50 x.na x.nc x.e.syn]
def spP (p pp who:Nat)(σ:StC)(e:EvC):HP:=pto p (.cells (Yt pp σ++(.int .i64 (who:Int)::evC e)).toArray 145 (0,0))
structure Prg (q:List HP) (pp:Nat) (g:FC):Prop where
 hp:CellsAt q pp 0 (pgC g)
 hK:Kn q fun M=>g.At M
theorem Prg.le {q q':List HP}{pp:Nat}{g:FC}(h:Prg q' pp g)(l:Le q q'):Prg q pp g:=⟨h.hp.le l,h.hK.le l⟩
def Fnd.pr (f:Fnd):PPr:=⟨f.vars,f.arrs,f.chs,f.mu,f.co,f.main,f.ths.map fun t=>(t.loc,t.body)⟩
theorem Gt (n:Nat)(a:Option Addr)(c ty:Nat)(q:List HP):Le (slH a c ty 1 n ((List.replicate n (Value.int .i64 0).cells.toList).flatten)::q) (lsH I64 ty a c (List.replicate n 0)::q):=by
 unfold lsH
 rw [List.length_replicate,show (List.replicate n (0:Int)).map I64=(List.replicate n (Value.int .i64 0).cells.toList).flatten by simp [Value.cells]]
 exact Le.refl _
theorem We:(prog.info? 146).map (fun i=>(i.zero,i.size,i.bytes))=some (some (.pointer none),1,8):=by kernel_rfl
section
variable {G:World}{q:List HP}{p pp b o c n:Nat}{s:Sy}{k t v m:Int}{g:FC}{a ta:Option Addr}{tc:Nat}{todo:List PS}{x0 x1 x2 x4:Value}{l:List Stm}
theorem Iw {N:Nat}(hs:s.ok N)(hN:N≤1000):CallF prog G 56 [.pointer (some ⟨p,0,none⟩),.int .i64 m] [yH p s] (Ret fun v q'=>v= .tuple [.int .i64 (Hx s m).1,.int .i64 (Hx s m).2].toArray∧q'= [yH p s]):=
 Uh fun σ hR=>CallF.conv (Le.refl _) (Owner_ok hR hs hN) (by rintro _ _ ⟨_,rfl,rfl,rfl⟩;exact ⟨_,⟨_,rfl,rfl,rfl⟩,(Uq hR)⟩)
theorem Lock_Y {N:Nat}(hs:s.ok N)(hN:N≤1000):CallF prog G 128 [.pointer (some ⟨p,0,none⟩),.int .i64 m,.int .i64 t] [yH p s] (Ret fun v q'=>v= .tuple [.bool (Ws s m t).2.1,.int .i64 (Ws s m t).2.2].toArray∧q'= [yH p (Ws s m t).1]):=
 Uh fun σ hR=>CallF.conv (Le.refl _) (Lock_ok hR hs hN) (by rintro _ _ ⟨_,rfl,σ',h1,rfl,rfl⟩;exact ⟨_,⟨_,rfl,rfl,rfl⟩,(Uq h1)⟩)
theorem Unlock_Y {N:Nat}(hs:s.ok N)(hN:N≤1000):CallF prog G 193 [.pointer (some ⟨p,0,none⟩),.int .i64 m,.int .i64 t] [yH p s] (Ret fun v q'=>v= .int .i64 (Z6 s m t).2∧q'= [yH p (Z6 s m t).1]):=
 Uh fun σ hR=>CallF.conv (Le.refl _) (Oi hR hs hN) (by rintro _ _ ⟨_,rfl,σ',h1,rfl,rfl⟩;exact ⟨_,⟨_,rfl,rfl,rfl⟩,(Uq h1)⟩)
theorem Wait_Y {N:Nat}(hs:s.ok N)(hN:N≤1000):CallF prog G 171 [.pointer (some ⟨p,0,none⟩),.int .i64 k,.int .i64 t] [yH p s] (Ret fun v q'=>v= .int .i64 (Us s k t).2∧q'= [yH p (Us s k t).1]):=
 Uh fun σ hR=>CallF.conv (Le.refl _) (Wait_ok hR hs hN) (by rintro _ _ ⟨_,rfl,σ',h1,rfl,rfl⟩;exact ⟨_,⟨_,rfl,rfl,rfl⟩,(Uq h1)⟩)
theorem Cr {N:Nat}(hs:s.ok N)(hN:N≤1000):CallF prog G 172 [.pointer (some ⟨p,0,none⟩),.int .i64 k] [yH p s] (Ret fun v q'=>v= .tuple [.int .i64 (max (Yo s k).2.1 0),.bool (decide (0≤(Yo s k).2.1)),.int .i64 (Yo s k).2.2].toArray∧q'= [yH p (Yo s k).1]):=
 Uh fun σ hR=>CallF.conv (Le.refl _) (Oe hR hs hN) (by rintro _ _ ⟨_,rfl,σ',h1,rfl,rfl⟩;exact ⟨_,⟨_,rfl,rfl,rfl⟩,(Uq h1)⟩)
theorem All_Y {N:Nat}(hs:s.ok N)(hN:N≤1000):CallF prog G 173 [.pointer (some ⟨p,0,none⟩),.int .i64 k] [yH p s] (Ret fun v q'=> ∃ a' c',v= .tuple [.slice a' (J6 s k).2.1.length c',.int .i64 (J6 s k).2.2].toArray∧q'= [lsH I64 3 a' c' (J6 s k).2.1,yH p (J6 s k).1]):=
 Uh fun σ hR=>CallF.conv (Le.refl _) (All_ok hR hs hN) (by rintro _ _ ⟨_,rfl,σ',a',c',h1,rfl,rfl⟩;exact ⟨_,⟨_,rfl,a',c',rfl,rfl⟩,(Le.cons _ (Uq h1))⟩)
theorem Send_Y {N:Nat}(hs:s.ok N)(hN:N≤1000):CallF prog G 174 [.pointer (some ⟨p,0,none⟩),.int .i64 k,.int .i64 t] [yH p s] (Ret fun v q'=>v= .tuple [.int .i64 (max (Vx s k t).2.1 0),.bool (decide (0≤(Vx s k t).2.1)),.int .i64 (Vx s k t).2.2].toArray∧q'= [yH p (Vx s k t).1]):=
 Uh fun σ hR=>CallF.conv (Le.refl _) (Send_ok hR hs hN) (by rintro _ _ ⟨_,rfl,σ',h1,rfl,rfl⟩;exact ⟨_,⟨_,rfl,rfl,rfl⟩,(Uq h1)⟩)
theorem Recv_Y {N:Nat}(hs:s.ok N)(hN:N≤1000):CallF prog G 175 [.pointer (some ⟨p,0,none⟩),.int .i64 k] [yH p s] (Ret fun v q'=>v= .tuple [.int .i64 (W9 s k).2.1,.int .i64 (max (W9 s k).2.2.1 0),.bool (decide (0≤(W9 s k).2.2.1)),.int .i64 (W9 s k).2.2.2].toArray∧q'= [yH p (W9 s k).1]):=
 Uh fun σ hR=>CallF.conv (Le.refl _) (Recv_ok hR hs hN) (by rintro _ _ ⟨_,rfl,σ',h1,rfl,rfl⟩;exact ⟨_,⟨_,rfl,rfl,rfl⟩,(Uq h1)⟩)
theorem Cu {N:Nat}(hs:s.ok N)(hN:N≤1000):CallF prog G 58 [.pointer (some ⟨p,0,none⟩),.int .i64 k] [yH p s] (Ret fun v q'=> ∃ a' c',v= .tuple [.slice a' (U7 s k).1.length c',.int .i64 (U7 s k).2].toArray∧q'= [lsH I64 2 a' c' (U7 s k).1,yH p s]):=
 Uh fun σ hR=>CallF.conv (Le.refl _) (Or hR hs hN) (by rintro _ _ ⟨_,rfl,a',c',rfl,rfl⟩;exact ⟨_,⟨_,rfl,a',c',rfl,rfl⟩,(Le.cons _ (Uq hR))⟩)
theorem Room_Y {N:Nat}(hs:s.ok N)(hN:N≤1000):CallF prog G 125 [.pointer (some ⟨p,0,none⟩),.int .i64 k] [yH p s] (Ret fun v q'=>v= .tuple [.int .i64 (R0 s k).1,.int .i64 (R0 s k).2].toArray∧q'= [yH p s]):=
 Uh fun σ hR=>CallF.conv (Le.refl _) (Room_ok hR hs hN) (by rintro _ _ ⟨_,rfl,rfl,rfl⟩;exact ⟨_,⟨_,rfl,rfl,rfl⟩,(Uq hR)⟩)
theorem Copy_Y {N:Nat}(hs:s.ok N)(hN:N≤1000):CallF prog G 67 [.pointer (some ⟨p,0,none⟩)] [yH p s] (Ret fun v q'=> ∃ p2,v= .pointer (some ⟨p2,0,none⟩)∧q'= [yH p2 s,yH p s]):=
 Uh fun σ hR=>CallF.conv (Le.refl _) (Copy_ok hR hs hN) (by rintro _ _ ⟨_,rfl,p2,σ2,h2,rfl,rfl⟩;exact ⟨_,⟨_,rfl,p2,rfl,rfl⟩,(Fs h2 _).trans (Le.cons _ (Uq hR))⟩)
theorem New_Y {a:Option Addr}{c:Nat}{mm cc:Int}{rooms:List Int}(hs:Sees q a (rooms.map I64))(ok:Mn mm cc rooms):CallF prog G 46 [.int .i64 mm,.int .i64 cc,.slice a rooms.length c] q (Ret fun v q'=> ∃ p,v= .tuple [.pointer (some ⟨p,0,none⟩),.int .i64 0].toArray∧q'=yH p (Bv mm.toNat cc.toNat rooms)::q):=
 CallF.conv (Le.refl _) (New_ok hs ok) (by rintro _ _ ⟨_,rfl,p,σ,h,rfl,rfl⟩;exact ⟨_,⟨_,rfl,p,rfl,rfl⟩,Fs h _⟩)
theorem Q1 (hc:Cl q ⟨b,o+3,none⟩ (.slice ta todo.length tc))(hs:Sees q ta (todo.map PS.v))(hl:todo.length≤1000000):CallF prog G 60 [.pointer (some ⟨b,o,none⟩)] (q) (Ret fun v q'=>v=(match todo.getLast? with|none=>Value.pointer none|some y=>y.v)∧q'=q):=by
 refine CallF.of func60 ntmps60 rfl (fun F cs=> ?_)
 refine xo 10 ?_;refine ld ?_ (hc:=(hc.le leA))
 refine ox 3 ?_;refine X.part 8 rfl (fun h1=> ?_) (fun h1=> ?_)
 · replace h1:=sp h1;obtain rfl:todo= []:=List.eq_nil_of_length_eq_zero (by omega)
   refine xx 5 ?_;refine Zq (q) func60 (Zg results60 rfl) ⟨_,rfl,rfl,rfl⟩
 replace h1:=sp h1;have hl0:0<todo.length:=(by omega);refine Yx (hs.le leA) (by simp;omega) (fun b1 o1 e_=> ?_);subst e_
 have hgl:todo.getLast? =some todo[todo.length - 1]:=by rw [List.getLast?_eq_getElem?,List.getElem?_eq_getElem (by omega)]
 refine xx 3 ?_;refine drw ?_;refine dd [0,1,2] ?_;refine ldD 3 ?_ (hc:=(hc.le leA))
 refine dd [4,5,6] ?_;refine ldD 7 ?_ (hc:=(hc.le leA))
 refine dd [8,9,10] ?_;refine ldD 11 ?_ (hc:=((hs.le leA).at (n:=todo.length - 1) (by omega) (by omega)))
 refine dd [12] ?_;refine XD.nil ?_;refine Zq (q) func60 (Zg results60 rfl) ⟨_,rfl,by rw [hgl],rfl⟩
variable {ths:List TC}{hc gh:Nat}{d:Int}
set_option maxHeartbeats 2000000 in
theorem push_box (hK:Kn q fun M=>BlkAt M a c l)(hl:l.length≤1000000∧todo.length≤1000000):CallF prog G 84 [.pointer (some ⟨b,0,none⟩),.slice a l.length c] (pto b (.cells [x0,x1,x2,.slice ta todo.length tc,x4].toArray 116 (0,0))::lsH PS.v 146 ta tc todo::q) (Ret fun v q'=> ∃ a' c' b' o',(0<l.length→a=some ⟨b',o',none⟩)∧q'=pto b (.cells [x0,x1,x2,.slice a' (todo++(psL b' o' l).reverse).length c',x4].toArray 116 (0,0))::lsH PS.v 146 a' c' (todo++(psL b' o' l).reverse)::q):=by
 refine CallF.of func84 ntmps84 rfl (fun F cs=> ?_)
 have hS:=Kn.sees (hK.imp fun M h=>h.1.2.2);have hlen:=Zv Z9 l
 rcases Nat.eq_zero_or_pos l.length with hl0|hl0
 · obtain rfl:=List.eq_nil_of_length_eq_zero hl0
   refine xx 7 ?_;refine X.at (X.loop (fun (uu:Unit)=>True) (fun uu=> [(0,.pointer (some ⟨b,0,none⟩)),(1,.slice a 0 c),(6,.int .i64 0),(7,.int .i64 0)]) (fun uu=>pto b (.cells [x0,x1,x2,.slice ta todo.length tc,x4].toArray 116 (0,0))::lsH PS.v 146 ta tc todo::(q++F)) (fun uu=>0) (fun uu hi_ ih=> ?_) () trivial) Zd leA
   try dsimp only at hi_ ih⊢
   obtain _:=hi_
   refine xx 5 ?_;refine X.part 8 rfl (fun h0=> ?_) (fun h0=> ?_)
   · exact absurd (sp h0) (by decide)
   refine xx 2 ?_;refine Z7 (pto b (.cells [x0,x1,x2,.slice ta todo.length tc,x4].toArray 116 (0,0))::lsH PS.v 146 ta tc todo::q) func84 (Vg results84) ⟨_,rfl,ta,tc,0,0,(fun k=>absurd k (by decide)),by simp [psL]⟩
 refine Yx (hS.le leA) (by rw [hlen];omega) (fun ab ao e_=> ?_);subst e_
 obtain ⟨ps,hps⟩: ∃ ps,ps=(psL ab ao l).reverse:=⟨_,rfl⟩;have hpl:ps.length=l.length:=by rw [hps,List.length_reverse,Hs]
 refine xx 7 ?_;refine X.at (X.loop (fun (s:Nat×Option Addr×Nat)=>s.1≤l.length) (fun s=> [(0,.pointer (some ⟨b,0,none⟩)),(1,.slice (some ⟨ab,ao,none⟩) l.length c),(6,.int .i64 (l.length:Int)),(7,.int .i64 (s.1:Int))]) (fun s=>pto b (.cells [x0,x1,x2,.slice s.2.1 (todo++ps.take s.1).length s.2.2,x4].toArray 116 (0,0))::lsH PS.v 146 s.2.1 s.2.2 (todo++ps.take s.1)::(q++F)) (fun s=>l.length - s.1) (fun s hi_ ih=> ?_) (0,ta,tc) (Nat.zero_le _)) Zd (by simp only [List.take_zero,List.append_nil];exact leA)
 try dsimp only at hi_ ih⊢
 obtain hi:=hi_
 obtain ⟨i,a1,c1⟩:=s;dsimp only at*
 refine xx 5 ?_;refine X.part 8 rfl (fun h0=> ?_) (fun h0=> ?_)
 · replace h0:=sp h0;have hlt:i<l.length:=(by omega);have hip:i<ps.length:=(by omega)
   have hx:ps[i]=⟨ab,ao+(l.length - 1 - i)*25,l.getD (l.length - 1 - i) zSm⟩:=by simp [hps,psL]
   have htl:(todo++ps.take i).length≤2000000:=by rw [List.length_append,List.length_take];omega
   refine xx 9 ?_;refine drw ?_;refine dl [0,1,2,3] 4 ?_;refine dd [5,6,7,8,9,10,11] ?_;refine XD.ef 12 rfl (Qq (u:=ps[i]) PS.v underlying114 We (by rw [hx];exact congrArg some (congrArg (fun z=>Value.pointer (some ⟨ab,ao+z*25,none⟩)) (by omega))) rfl) ?_
   rintro _ _ ⟨g2,rfl,rfl⟩
   refine ⟨hlA,?_⟩
   refine XD.ef 13 rfl (Yb (f:=PS.v) (l:=todo++ps.take i) (m:= [ps[i]]) underlying114 We rfl rfl rfl Zk ((Sees.lsH _).le leA) (fun _=>rfl) (by simp only [List.length_singleton];omega) (by simp only [List.length_singleton];omega)) ?_
   rintro _ _ ⟨a2,c2,rfl,rfl⟩
   refine ⟨trivial,?_⟩
   rw [show todo++ps.take i++ [ps[i]]=todo++ps.take (i+1) by rw [List.take_succ_eq_append_getElem hip,List.append_assoc]]
   refine dd [14,15] ?_;refine stD 16 ?_;refine XD.nil ?_;refine xx 5 ?_;refine X.at (ih (i+1,a2,c2) (by dsimp only;omega) (by dsimp only;omega)) Zd leA
 replace h0:=sp h0;obtain rfl:i=l.length:=(by omega);rw [←hpl,List.take_length,hps]
 refine xx 2 ?_;refine Z7 (pto b (.cells [x0,x1,x2,.slice a1 (todo++(psL ab ao l).reverse).length c1,x4].toArray 116 (0,0))::lsH PS.v 146 a1 c1 (todo++(psL ab ao l).reverse)::q) func84 (Vg results84) ⟨_,rfl,a1,c1,ab,ao,fun _=>rfl,rfl⟩
abbrev zTC:TC:=⟨0,0,none,0, [],none,0, [],none,0, []⟩
set_option maxHeartbeats 2000000 in
theorem R7 (hn:n<ths.length)(hK:Kn q fun M=>BlkAt M a c l)(hl:l.length≤1000000∧ths[n].todo.length≤1000000):CallF prog G 84 [.pointer (some ⟨gh,0+(n:Int).toNat*5,none⟩),.slice a l.length c] (rsH trC 5 116 (some ⟨gh,0,none⟩) hc ths::lsH PS.v 146 ths[n].ta ths[n].tc ths[n].todo::q) (Ret fun v q'=> ∃ a' c' b' o',(0<l.length→a=some ⟨b',o',none⟩)∧q'=rsH trC 5 116 (some ⟨gh,0,none⟩) hc (ths.set n { ths.getD n zTC with ta:=a',tc:=c',todo:=(ths[n].todo++(psL b' o' l).reverse) })::lsH PS.v 146 a' c' (ths[n].todo++(psL b' o' l).reverse)::q):=by
 refine CallF.of func84 ntmps84 rfl (fun F cs=> ?_)
 have hS:=Kn.sees (hK.imp fun M h=>h.1.2.2);have hlen:=Zv Z9 l
 obtain ⟨t,ht⟩: ∃ t,t=ths[n]:=⟨_,rfl⟩;have hgd:ths.getD n zTC=t:=by rw [ht];simp [List.getD,hn]
 have hset:ths.set n t=ths:=by rw [ht];exact List.set_getElem_self hn
 rw [←ht] at hl⊢;simp only [hgd]
 refine X.le (q':=rsH trC 5 116 (some ⟨gh,0,none⟩) hc (ths.set n { t with ta:=t.ta,tc:=t.tc,todo:=t.todo })::lsH PS.v 146 t.ta t.tc t.todo::(q++F)) (by rw [show ths.set n { t with ta:=t.ta,tc:=t.tc,todo:=t.todo } =ths from hset];exact leA) ?_
 rcases Nat.eq_zero_or_pos l.length with hl0|hl0
 · obtain rfl:=List.eq_nil_of_length_eq_zero hl0
   refine xx 7 ?_;refine X.at (X.loop (fun (uu:Unit)=>True) (fun uu=> [(0,.pointer (some ⟨gh,0+(n:Int).toNat*5,none⟩)),(1,.slice a 0 c),(6,.int .i64 0),(7,.int .i64 0)]) (fun uu=>rsH trC 5 116 (some ⟨gh,0,none⟩) hc (ths.set n { t with ta:=t.ta,tc:=t.tc,todo:=t.todo })::lsH PS.v 146 t.ta t.tc t.todo::(q++F)) (fun uu=>0) (fun uu hi_ ih=> ?_) () trivial) Zd leA
   try dsimp only at hi_ ih⊢
   obtain _:=hi_
   refine xx 5 ?_;refine X.part 8 rfl (fun h0=> ?_) (fun h0=> ?_)
   · exact absurd (sp h0) (by decide)
   refine xx 2 ?_;refine Z7 (rsH trC 5 116 (some ⟨gh,0,none⟩) hc (ths.set n { t with ta:=t.ta,tc:=t.tc,todo:=t.todo })::lsH PS.v 146 t.ta t.tc t.todo::q) func84 (Vg results84) ⟨_,rfl,t.ta,t.tc,0,0,(fun k=>absurd k (by decide)),by simp [psL]⟩
 refine Yx (hS.le leA) (by rw [hlen];omega) (fun ab ao e_=> ?_);subst e_
 obtain ⟨ps,hps⟩: ∃ ps,ps=(psL ab ao l).reverse:=⟨_,rfl⟩;have hpl:ps.length=l.length:=by rw [hps,List.length_reverse,Hs]
 refine xx 7 ?_;refine X.at (X.loop (fun (s:Nat×Option Addr×Nat)=>s.1≤l.length) (fun s=> [(0,.pointer (some ⟨gh,0+(n:Int).toNat*5,none⟩)),(1,.slice (some ⟨ab,ao,none⟩) l.length c),(6,.int .i64 (l.length:Int)),(7,.int .i64 (s.1:Int))]) (fun s=>rsH trC 5 116 (some ⟨gh,0,none⟩) hc (ths.set n { t with ta:=s.2.1,tc:=s.2.2,todo:=(t.todo++ps.take s.1) })::lsH PS.v 146 s.2.1 s.2.2 (t.todo++ps.take s.1)::(q++F)) (fun s=>l.length - s.1) (fun s hi_ ih=> ?_) (0,t.ta,t.tc) (Nat.zero_le _)) Zd (by simp only [List.take_zero,List.append_nil];exact leA)
 try dsimp only at hi_ ih⊢
 obtain hi:=hi_
 obtain ⟨i,a1,c1⟩:=s;dsimp only at*
 refine xx 5 ?_;refine X.part 8 rfl (fun h0=> ?_) (fun h0=> ?_)
 · replace h0:=sp h0;have hlt:i<l.length:=(by omega);have hip:i<ps.length:=(by omega)
   have hx:ps[i]=⟨ab,ao+(l.length - 1 - i)*25,l.getD (l.length - 1 - i) zSm⟩:=by simp [hps,psL]
   have htl:(t.todo++ps.take i).length≤2000000:=by rw [List.length_append,List.length_take];omega
   refine xx 9 ?_;refine drw ?_;refine dd [0,1,2,3] ?_;refine ldD 4 ?_ (hc:=(Cl.row (n:=n) (Sees.rsH _) leA Zy (by rw [List.length_set];exact hn) rfl 3 _ (by rw [List.getElem_set_self];rfl)))
   refine dd [5,6,7,8,9,10,11] ?_;refine XD.ef 12 rfl (Qq (u:=ps[i]) PS.v underlying114 We (by rw [hx];exact congrArg some (congrArg (fun z=>Value.pointer (some ⟨ab,ao+z*25,none⟩)) (by omega))) rfl) ?_
   rintro _ _ ⟨g2,rfl,rfl⟩
   refine ⟨(hlA (h:=by repeat first|exact trivial|refine ⟨clA,?_⟩|refine ⟨(Cl.row (n:=n) (Sees.rsH _) leA Zy (by rw [List.length_set];exact hn) rfl 3 _ (by rw [List.getElem_set_self];rfl)),?_⟩)),?_⟩
   refine XD.ef 13 rfl (Yb (f:=PS.v) (l:=t.todo++ps.take i) (m:= [ps[i]]) underlying114 We rfl rfl rfl Zk ((Sees.lsH _).le leA) (fun _=>rfl) (by simp only [List.length_singleton];omega) (by simp only [List.length_singleton];omega)) ?_
   rintro _ _ ⟨a2,c2,rfl,rfl⟩
   refine ⟨trivial,?_⟩
   rw [show t.todo++ps.take i++ [ps[i]]=t.todo++ps.take (i+1) by rw [List.take_succ_eq_append_getElem hip,List.append_assoc]]
   refine dd [14,15] ?_;refine XD.ef0 16 rfl (Ye (g:=gh) (f:=trC) (l:=ths.set n { t with ta:=a1,tc:=c1,todo:=t.todo++ps.take i }) (u:= { t with ta:=a2,tc:=c2,todo:=t.todo++ps.take (i+1) }) (n:=n) (k:=3) (j:=(n:Int)) rfl rfl sizeOf114 Zy rfl (by rw [List.length_set];exact hn) rfl (by rw [List.getElem_set_self];rfl) rfl rfl Zk) ?_
   rintro _ _ ⟨rfl,rfl⟩
   refine ⟨trivial,?_⟩
   rw [List.set_set]
   refine XD.nil ?_;refine xx 5 ?_;refine X.at (ih (i+1,a2,c2) (by dsimp only;omega) (by dsimp only;omega)) Zd leA
 replace h0:=sp h0;obtain rfl:i=l.length:=(by omega);rw [←hpl,List.take_length,hps]
 refine xx 2 ?_;refine Z7 (rsH trC 5 116 (some ⟨gh,0,none⟩) hc (ths.set n { t with ta:=a1,tc:=c1,todo:=(t.todo++(psL ab ao l).reverse) })::lsH PS.v 146 a1 c1 (t.todo++(psL ab ao l).reverse)::q) func84 (Vg results84) ⟨_,rfl,a1,c1,ab,ao,fun _=>rfl,rfl⟩
end
theorem E9:(prog.info? 2).map (fun i=>(i.zero,i.size,i.bytes))=some (some (.int .i64 0),1,8):=by kernel_rfl
theorem Rh:(prog.info? 3).map (fun i=>(i.zero,i.size,i.bytes))=some (some (.int .i64 0),1,8):=by kernel_rfl
theorem U2:(prog.info? 116).map (fun i=>(i.zero,i.size,i.bytes))=some (some (.agg #[.int .i64 0,.int .i64 0,.slice none 0 0,.slice none 0 0,.slice none 0 0]),5,88):=by kernel_rfl
theorem getD_pr {g:FC}{n:Nat}(h:n<g.ths.l.length):g.er.pr.ths.getD n (0, [])=(g.ths.l[n].loc,Zj g.ths.l[n].body):=by
 have h2:n<g.er.pr.ths.length:=by simp [FC.er,Fnd.pr];exact h
 rw [List.getD_eq_getElem?_getD,List.getElem?_eq_getElem h2]
 simp [FC.er,Fnd.pr,Th.er]
section
variable {G:World}{q:List HP}{pp n:Nat}{g:FC}
set_option maxHeartbeats 4000000 in
theorem Cw (hP:Prg q pp g)(hn:n<g.ths.l.length)(hl:0≤g.ths.l[n].loc∧g.ths.l[n].loc≤32)(hb:g.ths.l[n].body.length≤1000000):CallF prog G 47 [.pointer (some ⟨pp,0,none⟩),.int .i64 (n:Int)] (q) (Ret fun v q'=> ∃ T:TC,T.er=Vf g.er.pr n∧v= .agg (trC T).toArray∧(Kn q fun M=> ∀ y∈T.todo,y.At M)∧q'=trH T::q):=by
 refine CallF.of func47 ntmps47 rfl (fun F cs=> ?_)
 obtain ⟨hp,hK⟩:=hP
 have hp2:CellsAt q pp 0 [.slice g.vars.a g.vars.l.length g.vars.c,.slice g.arrs.a g.arrs.l.length g.arrs.c,.int .i64 g.mu,.int .i64 g.co,.slice g.chs.a g.chs.l.length g.chs.c,.slice g.ths.a g.ths.l.length g.ths.c,.int .i64 g.main,.int .i64 g.stm]:=fun k v hk=>hp k v (by revert hk;match k with|0|1|2|3|4|5|6|7=>exact fun h=>h|(k+8)=>intro h;cases h)
 have hT:=Sv.sees (hK.imp fun M h=>h.ths);have hlen:=Zv Qc g.ths.l
 obtain ⟨x,hx⟩: ∃ x,x=g.ths.l[n]:=⟨_,rfl⟩;rw [←hx] at hl hb;have hpr:=getD_pr hn;rw [←hx] at hpr
 refine Yx (hT.le leA) (by rw [hlen];omega) (fun ab ao e_=> ?_);rw [e_] at hT hp2
 have hCt:CellsAt q ab (ao+(n:Int).toNat*3) (thC x):=by rw [hx];exact CellsAt.row hT (Le.refl _) Qc hn rfl
 have hKb:Kn q fun M=>BlkAt M x.a x.c x.body:=hK.imp fun M h=>h.bod x (hx ▸ List.getElem_mem hn)
 obtain ⟨L,hL⟩:=Int.eq_ofNat_of_zero_le hl.1
 refine xo 2 ?_;refine XO.al zeroValue116 fun n1=> ?_
 refine oo 7 ?_;refine ld ?_ (hc:=((hp2.le leA) 5 _ rfl))
 refine oo 3 ?_;refine ld ?_ (hc:=((hCt.le leA) 1 _ rfl))
 refine XO.know 14 (.int .i64 (L:Int)) rfl (by rw [hL]) ?_
 refine XO.ef (Rr (n:=L) rfl rfl underlying23 E9 rfl rfl (by omega) (by omega)) ?_
 rintro _ _ ⟨gl,rfl,rfl⟩
 refine XO.le (q':=lsH I64 2 (some ⟨gl,0,none⟩) L (List.replicate L 0)::_) (Le.trans Zk (Gt _ _ _ _ _)) ?_
 refine oo 1 ?_;refine XO.al zeroValue116 fun n2=> ?_
 refine stA ?_;refine oo 6 ?_;refine ld ?_ (hc:=((hp2.le leA) 5 _ rfl))
 refine oo 3 ?_;refine ld ?_ (hc:=((hCt.le leA) 2 _ rfl))
 refine XO.le (Ze PS.v 146 _) ?_;refine Zf call84 (Le.pick Zk Zk) (push_box (b:=n2) (todo:= []) (l:=x.body) (a:=x.a) (c:=x.c) (hKb.le leA) ⟨hb,by decide⟩) ?_
 rintro _ _ ⟨a1,c1,b1,o1,hbo,rfl⟩
 refine oo 4 ?_;obtain ⟨TD,hTD⟩: ∃ TD,TD=(psL b1 o1 x.body).reverse:=⟨_,rfl⟩;rw [List.nil_append,←hTD];have hTl:TD.length=x.body.length:=by rw [hTD,List.length_reverse,Hs]
 refine XO.cR call60 (Q1 (todo:=TD) (b:=n2) (o:=0) clA ((Sees.lsH _).le leA) (by omega)) ?_
 have hAt:Kn q fun M=> ∀ y∈TD,y.At M:=by
  rcases Nat.eq_zero_or_pos x.body.length with h0|h0
  · obtain rfl:TD= []:=List.eq_nil_of_length_eq_zero (by omega)
    exact fun _ _ _ y hy=>by cases hy
  refine hKb.imp fun M h y hy=> ?_
  rw [hbo h0] at h
  rw [hTD] at hy
  exact E3 h y (List.mem_reverse.1 hy)
 rcases Nat.eq_zero_or_pos x.body.length with h0|h0
 · obtain rfl:TD= []:=List.eq_nil_of_length_eq_zero (by omega)
   refine XO.know 26 (.pointer none) rfl (rfl) ?_;refine ox 2 ?_;refine X.kt 27 ?_;refine xo 3 ?_;refine st ?_;refine oo 3 ?_;refine ldA ?_;refine stA ?_;refine ox 1 ?_;refine X.le (Ze I64 3 _) ?_;refine X.le (q':=trH (⟨(n:Int),4,some ⟨gl,0,none⟩,L,List.replicate L 0,a1,c1, [],none,0, []⟩:TC)::_) (Le.trans (b:=lsH I64 2 (some ⟨gl,0,none⟩) L (List.replicate L 0)::lsH PS.v 146 a1 c1 []::lsH I64 3 none 0 []::_) (Le.pick Zk (Le.pick Zk Zk)) (Z5 (trL (⟨(n:Int),4,some ⟨gl,0,none⟩,L,List.replicate L 0,a1,c1, [],none,0, []⟩:TC)) _)) ?_
   refine Zq (trH (⟨(n:Int),4,some ⟨gl,0,none⟩,L,List.replicate L 0,a1,c1, [],none,0, []⟩:TC)::q) func47 (rA_ results47) ⟨_,rfl,(⟨(n:Int),4,some ⟨gl,0,none⟩,L,List.replicate L 0,a1,c1, [],none,0, []⟩:TC),by simp only [TC.er,Vf];rw [show ((n:Int)).toNat=n from rfl,hpr];simp [hL,List.eq_nil_of_length_eq_zero h0,Zj],by rw [trC];simp only [List.length_replicate];rfl,hAt,rfl⟩
 have hgl:TD.getLast? =some (TD[TD.length - 1]'(by omega)):=by rw [List.getLast?_eq_getElem?,List.getElem?_eq_getElem (by omega)]
 obtain ⟨yy,hyy⟩: ∃ yy,yy=TD[TD.length - 1]'(by omega):=⟨_,rfl⟩;rw [←hyy] at hgl
 refine XO.know 26 (.pointer (some ⟨yy.b,yy.o,none⟩)) rfl (by rw [hgl];rfl) ?_
 refine ox 2 ?_;refine Wy 27 ?_;refine xo 4 ?_;refine ldA ?_;refine stA ?_;refine ox 1 ?_;refine X.le (Ze I64 3 _) ?_;refine X.le (q':=trH (⟨(n:Int),1,some ⟨gl,0,none⟩,L,List.replicate L 0,a1,c1,TD,none,0, []⟩:TC)::_) (Le.trans (b:=lsH I64 2 (some ⟨gl,0,none⟩) L (List.replicate L 0)::lsH PS.v 146 a1 c1 TD::lsH I64 3 none 0 []::_) (Le.pick Zk (Le.pick Zk Zk)) (Z5 (trL (⟨(n:Int),1,some ⟨gl,0,none⟩,L,List.replicate L 0,a1,c1,TD,none,0, []⟩:TC)) _)) ?_
 refine Zq (trH (⟨(n:Int),1,some ⟨gl,0,none⟩,L,List.replicate L 0,a1,c1,TD,none,0, []⟩:TC)::q) func47 (rA_ results47) ⟨_,rfl,(⟨(n:Int),1,some ⟨gl,0,none⟩,L,List.replicate L 0,a1,c1,TD,none,0, []⟩:TC),by simp only [TC.er,Vf];rw [show ((n:Int)).toNat=n from rfl,hpr];rw [if_neg (by intro k_;have:=congrArg List.length k_;rw [Zn] at this;exact absurd this (by simp only [List.length_nil];omega)),hTD];simp [hL,←E2 b1 o1 x.body,List.map_reverse],by rw [trC];simp only [List.length_replicate];rfl,hAt,rfl⟩
end
mutual
/-- A statement whose parts and slots are there. -/
def PStm.good (c:Cn)(lo:Int):PStm→Prop
 | .mk k _ _ _ _ e ix body els _ slot other loc=>Nh c lo k e ix body.length els.length=true∧Nx c lo k slot other loc=true∧(body.length≤512∧els.length≤512)∧Wp c lo body∧Wp c lo els
def Wp (c:Cn)(lo:Int):List PStm→Prop
 | []=>True
 |s::r=>s.good c lo∧Wp c lo r
end
theorem Wb {c:Cn}{lo:Int}: ∀ {l:List PStm},Wp c lo l↔ ∀ s∈l,s.good c lo
 | []=>by simp [Wp]
 |s::r=>by simp [Wp,Wb (l:=r)]
mutual
theorem De {c:Cn}{lo:Int}: ∀ {s:PStm} {d n m:Int},0≤n→n≤512→s.ask c lo d n=some m→s.good c lo∧n+1≤m∧m≤512
 | .mk ..,d,n,m,hz,hn,h=>by
  simp only [PStm.ask] at h
  split at h
  · cases h
  rename_i h0
  split at h
  · rename_i h1
    rw [Bool.and_eq_true] at h1
    split at h
    · cases h
    rename_i k hk
    have g1:=Ui (by omega) (by omega) hk
    have g2:=Ui (by omega) (by omega) h
    exact ⟨⟨h1.1,h1.2,⟨by omega,by omega⟩,g1.1,g2.1⟩,by omega,by omega⟩
  cases h
theorem Ui {c:Cn}{lo:Int}: ∀ {l:List PStm} {d n m:Int},0≤n→n≤512→Z2 c lo l d n=some m→Wp c lo l∧n+l.length≤m∧m≤512
 | [],d,n,m,hz,hn,h=>by simp only [Z2] at h;cases h;exact ⟨trivial,by simp,hn⟩
 |s::r,d,n,m,hz,hn,h=>by
  simp only [Z2] at h
  split at h
  · cases h
  rename_i k hk
  have h1:=De hz hn hk
  have h2:=Ui (by omega) h1.2.2 h
  exact ⟨⟨h1.1,h2.1⟩,by rw [List.length_cons];omega,h2.2.2⟩
end
structure MayP (F:Fnd):Prop where
 f:Mn F.mu F.co F.chs
 m:0≤F.main∧F.main<F.ths.length
 v: ∀ v∈F.vars,val v
 a: ∀ n∈F.arrs,1≤n∧n≤256
 s:Wv F.arrs≤256
 l:F.vars.length≤64∧F.arrs.length≤64∧F.chs.length≤64∧F.ths.length≤64
 t: ∀ t∈F.ths,(0≤t.loc∧t.loc≤32)∧t.body.length≤512∧Wp F.cn t.loc t.body
theorem My {c:Cn}: ∀ {l:List PTh} {n m:Int},0≤n→n≤512→W3 c l n=some m→ ∀ t∈l,(0≤t.loc∧t.loc≤32)∧t.body.length≤512∧Wp c t.loc t.body
 | [],n,m,_,_,_,t,ht=>by cases ht
 |x::r,n,m,h0,hn,h,t,ht=>by
  simp only [W3] at h
  split at h
  · cases h
  rename_i h1
  split at h
  · cases h
  rename_i k hk
  have g:=Ui h0 hn hk
  rcases List.mem_cons.1 ht with rfl|ht
  · exact ⟨by omega,by omega,g.1⟩
  exact My (by omega) g.2.2 h t ht
theorem Sl {F:Fnd}(h:Bb F=true):MayP F:=by
 unfold Bb E8 inB at h
 simp only [Bool.and_eq_true,decide_eq_true_eq,beq_iff_eq] at h
 obtain ⟨⟨⟨h1,h2,h3,h4,h5,h6,h7⟩,h8⟩,h9⟩:=h
 exact ⟨⟨h1,h2,by omega,h6⟩,h8,h4,h5,h7,by omega,My (by decide) (by decide) h9⟩
section
variable {G:World}{q:List HP}{pp n:Nat}{g:FC}
set_option maxHeartbeats 2000000 in
theorem Ok (hK:Kn q fun M=>g.At M)(hM:MayP g.er):CallF prog G 25 [.agg (pgC g).toArray] (q) (Ret fun v q'=>v= .int .i64 (g.vars.l.length+Wv g.arrs.l)∧q'=q):=by
 refine CallF.of func25 ntmps25 rfl (fun F cs=> ?_)
 have hv:g.vars.l.length≤64:=hM.l.1;have hal:g.arrs.l.length≤64:=hM.l.2.1;have ha: ∀ n∈g.arrs.l,1≤n∧n≤256:=hM.a;have hA:=(Sv.sees (hK.imp fun M h=>h.arrs));rw [U3] at hA
 refine xo 2 ?_;refine Y8 fun n1=> ?_
 refine ol 5 ?_;refine XO.know 7 (.slice g.vars.a g.vars.l.length g.vars.c) rfl (rfl) ?_;refine ol 7 ?_;refine XO.know 10 (.slice g.arrs.a g.arrs.l.length g.arrs.c) rfl (rfl) ?_;refine ox 4 ?_;refine X.at (X.loop (fun (s:Nat)=>s≤g.arrs.l.length) (fun s=> [(3,.int .i64 (g.vars.l.length+Wv (g.arrs.l.take s))),(10,.slice g.arrs.a g.arrs.l.length g.arrs.c),(11,.int .i64 (g.arrs.l.length:Int)),(12,.int .i64 (s:Int))]) (fun s=>(q++F)) (fun s=>g.arrs.l.length - s) (fun s hi_ ih=> ?_) 0 (Nat.zero_le _)) Zd leA
 try dsimp only at hi_ ih⊢
 obtain hi:=hi_
 refine xx 5 ?_;refine X.part 13 rfl (fun h0=> ?_) (fun h0=> ?_)
 · replace h0:=sp h0;have hlt:s<g.arrs.l.length:=(by omega)
   refine Yx (hA.le leA) (by simp;omega) (fun ab ao e_=> ?_);have hs_:=hA;rw [e_] at hs_⊢
   refine xo 7 ?_;refine ld ?_ (hc:=((hs_.le leA).at rfl hlt))
   have hx:=ha _ (List.getElem_mem hlt);have hsn:Wv (g.arrs.l.take (s+1))=Wv (g.arrs.l.take s)+g.arrs.l[s]:=by rw [List.take_succ_eq_append_getElem hlt,Nw];simp [Wv]
   have hsl:=U8 (l:=g.arrs.l.take s) (k:=256) (fun y hy=>by have:=ha y (List.mem_of_mem_take hy);omega) (by decide);rw [List.length_take] at hsl;have hmn:((min s g.arrs.l.length:Nat):Int)=s:=(by omega);rw [hmn] at hsl
   refine ox 13 ?_
   rw [←e_,show (g.vars.l.length:Int)+Wv (g.arrs.l.take s)+g.arrs.l[s]=g.vars.l.length+Wv (g.arrs.l.take (s+1)) by rw [hsn];omega]
   refine X.at (ih (s+1) (by omega) (by omega)) Zd leA
 replace h0:=sp h0;obtain rfl:s=g.arrs.l.length:=(by omega);rw [List.take_length]
 refine xx 7 ?_;refine Zq (q) func25 (Zg results25 rfl) ⟨_,rfl,rfl,rfl⟩
end
theorem SeesZ.block {M:Hp}{b ty:Nat}{l:List Value}(h:M b=some (.cells l.toArray ty (0,0))):SeesZ M (some ⟨b,0,none⟩) l:=fun i u hu=>⟨b,0,l.toArray,ty,rfl,h,by rw [Nat.zero_add];simpa using hu⟩
def PrgM (M:Hp)(pp:Nat)(g:FC):Prop:=SeesZ M (some ⟨pp,0,none⟩) (pgC g)∧g.At M
theorem PrgM.mono {pp:Nat}{g:FC}{M M':Hp}(e:Hle M M')(h:PrgM M pp g):PrgM M' pp g:=⟨h.1.mono e,h.2.mono e⟩
def prM (pp:Nat)(g:FC):HP:=lst (fun M=>PrgM M pp g) fun e h=>PrgM.mono e h
theorem Kn.prM {pp:Nat}{g:FC}{q:List HP}:Kn (prM pp g::q) fun M=>PrgM M pp g:=Kn.here
theorem Prg.of {q:List HP}{pp:Nat}{g:FC}(h:Kn q fun M=>PrgM M pp g):Prg q pp g:=⟨fun k v hk=>by have:=(Kn.sees (h.imp fun M h=>h.1)).cl hk;exact this,h.imp fun M h=>h.2⟩
theorem PS.At.mono {x:PS}{M M':Hp}(e:Hle M M')(h:x.At M):x.At M':=⟨h.1.mono e,h.2.mono e⟩
theorem TodoAt.mono {l:List TC}{M M':Hp}(e:Hle M M')(h:TodoAt M l):TodoAt M' l:=fun t ht y hy=>(h t ht y hy).mono e
def tdM (l:List TC):HP:=lst (fun M=>TodoAt M l) fun e h=>TodoAt.mono e h
theorem Kn.tdM {l:List TC}{q:List HP}:Kn (tdM l::q) fun M=>TodoAt M l:=Kn.here
def Ax:POut:=⟨0,0,0,0⟩
def SS.pg (s:SS):SS:= { s with out:=if s.out.kind=4 then s.out else Ax }
def Yl (p:PPr):SS:=⟨p.vars++List.replicate (Wv p.arrs).toNat 0,Bv p.mu.toNat p.co.toNat p.room, [Vf p p.main],Ax⟩
theorem Gj (p:PPr)(s:SS):(s.stands p).out.kind≠4:=by
 unfold SS.stands
 dsimp only
 split
 · exact (by decide:(1:Int)≠4)
 dsimp only;split<;>decide
theorem Il (p:PPr)(s:SS):(s.stands p).pg= { s with out:=Ax } :=by
 unfold SS.pg
 rw [if_neg (Gj p s)]
 unfold SS.stands
 dsimp only
 split<;>rfl
section
variable {G:World}{q:List HP}{pp n:Nat}{g:FC}
set_option maxHeartbeats 8000000 in
theorem pnew_ok {B:Nat}(hK:Kn q fun M=>g.At M)(hB:CpOk B g):CallF prog G 15 [.agg (pgC g).toArray] (q) (Ret fun v q'=>(Bb g.er=true∧ ∃ (p pp:Nat) (g':FC) (σ:StC),g'.er=g.er∧σ.er=Yl g.er.pr∧v= .tuple [.pointer (some ⟨p,0,none⟩),.int .i64 0].toArray∧q'=stP p pp σ::(Zc σ++(prM pp g'::tdM σ.ths::q)))∨(Bb g.er=false∧v= .tuple [.pointer none,.int .i64 2].toArray∧q'=q)):=by
 refine CallF.of func15 ntmps15 rfl (fun F cs=> ?_)
 refine xo 2 ?_;refine Y8 fun n1=> ?_
 refine oo 6 ?_;refine XO.cR call44 (pmay_ok (B:=B) (CellsAt.of Qt) (hK.le leA) hB) ?_
 refine Zt (Pu.not rfl) ?_;refine ox 1 ?_;refine X.part 9 rfl (fun h1=> ?_) (fun h1=> ?_)
 · replace h1:=sp h1;have hm:Bb g.er=false:=(by simpa using h1)
   refine xx 6 ?_;refine Zq (q) func15 (Wc results15 rfl rfl) ⟨_,rfl,.inr ⟨hm,rfl,rfl⟩⟩
 replace h1:=sp h1;have hm:Bb g.er=true:=(by simpa using h1);have hM0:=Sl hm
 refine xo 4 ?_;refine ldA ?_;refine Zf call45 (Le.refl _) (pcopy_ok (B:=B) (hK.le leA) hB) ?_
 rintro _ _ ⟨g2,he,rfl,rfl⟩
 have hM:MayP g2.er:=he ▸ hM0;have hpr:g2.er.pr=g.er.pr:=by rw [he]
 have hmt:0≤g2.main∧g2.main<g2.ths.l.length:=⟨hM.m.1,by have:=hM.m.2;rw [g_th] at this;exact this⟩;obtain ⟨mn,hmn⟩:=Int.eq_ofNat_of_zero_le hmt.1;have hlt:mn<g2.ths.l.length:=(by omega)
 have htx:=hM.t _ (List.mem_map_of_mem (f:=Th.er) (List.getElem_mem hlt))
 have hsa:=U8 (l:=g2.arrs.l) (k:=256) (fun y hy=>by have:=hM.a y hy;omega) (by decide);have hvl:g2.vars.l.length≤64:=hM.l.1;have hss:Wv g2.arrs.l≤256:=hM.s;obtain ⟨N,hN⟩:=Int.eq_ofNat_of_zero_le hsa.1
 refine XO.al zeroValue29 fun n2=> ?_
 refine stA ?_;refine ol 4 ?_;refine ol 1 ?_;refine ol 1 ?_;refine XO.know 18 (.slice g2.chs.a g2.chs.l.length g2.chs.c) rfl (rfl) ?_;refine Zf call46 (Le.refl _) (New_Y (a:=g2.chs.a) (c:=g2.chs.c) (by rw [←U3];exact Sv.sees (Kn.le (Kn.imp (Kn.fc (q:= []) (f:=g2)) fun M h=>h.chs) leA)) hM.f) ?_
 rintro _ _ ⟨py,rfl,rfl⟩
 refine ox 12 ?_;refine Wy 23 ?_;refine xo 5 ?_;refine ldA ?_;refine XO.cR call25 (Ok (g:=g2) (Kn.le (Kn.fc (q:= []) (f:=g2)) leA) hM) ?_
 refine XO.know 26 (.int .i64 ((g2.vars.l.length+N:Nat):Int)) rfl (by rw [hN];rfl) ?_
 refine XO.ef (Rr (n:=g2.vars.l.length+N) rfl rfl underlying23 E9 rfl rfl (by omega) (by omega)) ?_
 rintro _ _ ⟨gl,rfl,rfl⟩
 refine XO.le (q':=lsH I64 2 (some ⟨gl,0,none⟩) (g2.vars.l.length+N) (List.replicate (g2.vars.l.length+N) 0)::_) (Le.trans Zk (Gt _ _ _ _ _)) ?_
 refine oo 1 ?_;refine Y8 fun n3=> ?_
 refine ox 3 ?_;refine drw ?_;refine dl [0,1,2] 3 ?_;refine dl [4] 5 ?_;refine XD.know 35 (.slice g2.vars.a g2.vars.l.length g2.vars.c) rfl (rfl) ?_;refine XD.know 33 (.slice (some ⟨gl,0,none⟩) (List.replicate (g2.vars.l.length+N) (0:Int)).length (g2.vars.l.length+N)) rfl (by rw [List.length_replicate]) ?_
 refine XD.ef 6 rfl (Ef.copyL (f:=I64) (l:=List.replicate (g2.vars.l.length+N) 0) (m:=g2.vars.l) underlying23 E9 rfl rfl Zk (by rw [←U3];exact Sv.sees (Kn.le (Kn.imp (Kn.fc (q:= []) (f:=g2)) fun M h=>h.vars) leA)) (fun _=>rfl) (by rw [List.length_replicate];omega)) ?_
 rintro _ _ ⟨rfl,rfl⟩
 refine ⟨trivial,?_⟩
 rw [show g2.vars.l++(List.replicate (g2.vars.l.length+N) (0:Int)).drop g2.vars.l.length=g2.vars.l++List.replicate N 0 by rw [List.drop_replicate];congr 2;omega]
 refine XD.nil ?_;refine xj 4 ?_;refine XO.know 39 (.int .i64 (mn:Int)) rfl (by rw [hmn]) ?_
 refine XO.le (q':=pto n2 (.cells (pgC g2).toArray 29 (0,0))::_) Zk (XO.freeze ?_)
 refine XO.le (q':=prM n2 g2::_) (Kn.add (φ:=fun M=>PrgM M n2 g2) (mn:=fun e h=>PrgM.mono e h) (((Kn.im).and (Kn.le (Kn.fc (q:= []) (f:=g2)) leA)).imp fun M h=>⟨SeesZ.block h.1,h.2⟩)) ?_
 refine Vz call47 (Cw (q:= [prM n2 g2]) (pp:=n2) (g:=g2) (n:=mn) (Prg.of Kn.prM) hlt htx.1 (by have:=htx.2.1;rw [show (Th.er g2.ths.l[mn]).body=Zj g2.ths.l[mn].body from rfl,Zn] at this;omega)) ?_
 rintro _ _ ⟨T1,hT1,rfl,hTk,rfl⟩ _ e_;simp only [ca,na] at e_;subst e_
 refine XO.ef (Yj (u:=T1) trC underlying96 U2 rfl rfl Zy rfl) ?_
 rintro _ _ ⟨gt,rfl,rfl⟩
 refine oo 2 ?_;refine st ?_;refine ox 7 ?_;obtain ⟨σ,hσ⟩: ∃ σ:StC,σ=(⟨some ⟨gl,0,none⟩,g2.vars.l.length+N,g2.vars.l++List.replicate N 0,py,Bv g2.mu.toNat g2.co.toNat g2.chs.l,some ⟨gt,0,none⟩,1, [T1],Ax⟩:StC):=⟨_,rfl⟩
 refine X.le (q':=tdM σ.ths::_) (Kn.add (φ:=fun M=>TodoAt M σ.ths) (mn:=fun e h=>TodoAt.mono e h) ((Kn.le hTk leA).imp fun M h t ht y hy=>by rw [hσ] at ht;rw [List.mem_singleton.1 ht] at hy;exact h y hy)) ?_
 refine X.le (q':=stars (σ.ths.map trH)::_) (Le.trans (b:=trH T1::_) Zk (by rw [hσ];exact Le.trans (Le.cons _ (W5 _)) (V5 _ _ _))) ?_
 refine Zq (stP n3 n2 σ::(Zc σ++(prM n2 g2::tdM σ.ths::q))) func15 (Wc results15 rfl rfl) ⟨_,rfl,.inl ⟨hm,n3,n2,g2,σ,he,by rw [hσ];simp only [StC.er,List.map_cons,List.map_nil,hT1];rw [←hmn,←hpr];simp [Yl,FC.er,Fnd.pr,hN],rfl,rfl⟩⟩ (by rw [hσ];simp only [stP,Yt,Zc,List.length_append,List.length_replicate,List.cons_append,List.nil_append,List.append_assoc];exact leA)
end
mutual
def PEx.sz:PEx→Nat
 | .mk _ _ _ _ _ _ args=>U9 args+1
def U9:List PEx→Nat
 | []=>0
 |e::r=>e.sz+U9 r
end
mutual
theorem Ak: ∀ (e:Ex),e.er.sz=e.sz
 | .mk _ _ _ _ _ _ args _ _=>by simp only [Ex.er,PEx.sz,Ex.sz,Dn args]
theorem Dn: ∀ (l:List Ex),U9 (Z3 l)=Qn l
 | []=>rfl
 |e::r=>by simp only [Z3,U9,Qn,Ak e,Dn r]
end
mutual
/-- What an expression that may be is like. -/
def PEx.fit:PEx→Prop
 | .mk k n _ _ _ op args=>(1≤k∧k≤6)∧args.length=Sa k∧(k=1→0≤n∧n≤2147483647)∧(k=6→1≤op∧op≤11)∧PEx.fits args
def PEx.fits:List PEx→Prop
 | []=>True
 |e::r=>e.fit∧PEx.fits r
end
mutual
theorem Ja: ∀ {e:PEx} {d:Nat},e.right d=true→e.fit
 | .mk k n nm _ _ op args,d,h=>by
  simp only [PEx.right] at h
  split at h
  · cases h
  split at h
  · rename_i hk
    rw [Bool.and_eq_true,Bool.and_eq_true,decide_eq_true_eq] at h
    obtain ⟨⟨h1,h2⟩,h3⟩:=h
    refine ⟨hk,h2,fun h=> ?_,fun h=> ?_,Hu h3⟩
    · subst h;unfold Su at h1;rw [if_pos rfl,Bool.and_eq_true] at h1;simpa using h1
    subst h;unfold Su at h1;rw [if_neg (by decide),if_neg (by decide),if_pos rfl,Bool.and_eq_true] at h1;simpa using h1
  cases h
theorem Hu: ∀ {l:List PEx} {d:Nat},Y9 l d=true→PEx.fits l
 | [],_,_=>trivial
 |e::r,d,h=>by
  simp only [Y9,Bool.and_eq_true] at h
  exact ⟨Ja h.1,Hu h.2⟩
end
mutual
/-- How much code a statement makes at most. -/
def PStm.wt:PStm→Nat
 | .mk _ _ _ _ _ e ix body els _ _ _ _=>4*e.sz+4*ix.sz+6+W4 body+W4 els
def W4:List PStm→Nat
 | []=>0
 |s::r=>s.wt+W4 r
end
theorem Wq {f:Fnd}{w:Int}(hw:w≠0):(f.fl w).flaw≠0:=by
 unfold Fnd.fl
 split
 · exact hw
 rename_i h;exact h
theorem M9 {g:Fnd}{nm:ByteArray}(h:((g.loc1 nm).loc2).flaw=0):(g.loc1 nm).loc2=g∧g.locals<32∧g.flaw=0:=by
 have e:(g.loc1 nm)=g:=by
  by_cases hk:g.at nm≠0
  · exfalso
    have h1:(g.loc1 nm).flaw≠0:=by unfold Fnd.loc1;rw [if_pos hk];exact Wq (by decide)
    unfold Fnd.loc2 at h
    split at h
    · exact Wq (by decide) h
    exact h1 h
  unfold Fnd.loc1;rw [if_neg hk]
 rw [e] at h⊢
 unfold Fnd.loc2 at h⊢
 by_cases h5:32≤g.locals
 · rw [if_pos h5] at h;exact absurd h (Wq (by decide))
 rw [if_neg h5] at h⊢;exact ⟨rfl,by omega,h⟩
structure Cn.le (c d:Cn):Prop where
 v:c.v≤d.v
 a:c.a≤d.a
 mu:c.mu≤d.mu
 co:c.co≤d.co
 ch:c.ch≤d.ch
 th:c.th≤d.th
structure NmOk (c:Cn) (lo:Int) (x:Nm):Prop where
 z:0≤x.s
 v:x.k=1→x.s<c.v
 a:x.k=2→x.s<c.a
 mu:x.k=3→x.s<c.mu
 co:x.k=4→x.s<c.co
 ch:x.k=5→x.s<c.ch
 th:x.k=6→x.s<c.th
 lo:x.k=100→x.s<lo
theorem NmOk.up {c d:Cn}{lo hi:Int}{x:Nm}(h:NmOk c lo x)(hc:c.le d)(hl:lo≤hi):NmOk d hi x:=by
 obtain ⟨h0,h1,h2,h3,h4,h5,h6,h7⟩:=h
 obtain ⟨k1,k2,k3,k4,k5,k6⟩:=hc
 exact ⟨h0,fun e=>by have:=h1 e;omega,fun e=>by have:=h2 e;omega,fun e=>by have:=h3 e;omega,fun e=>by have:=h4 e;omega,fun e=>by have:=h5 e;omega,fun e=>by have:=h6 e;omega,fun e=>by have:=h7 e;omega⟩
theorem Cn.le_refl (c:Cn):c.le c:=⟨Int.le_refl _,Int.le_refl _,Int.le_refl _,Int.le_refl _,Int.le_refl _,Int.le_refl _⟩
def vaOk (c:Cn)(lo:Int)(s:Int)(l:Bool):Prop:=0≤s∧(if l=true then s<lo else s<c.v)
mutual
def PEx.wl (c:Cn)(lo:Int):PEx→Prop
 | .mk k _ _ slot loc _ args=>(k=2→vaOk c lo slot loc)∧(k=3→0≤slot∧slot<c.a)∧H4 c lo args
def H4 (c:Cn)(lo:Int):List PEx→Prop
 | []=>True
 |e::r=>e.wl c lo∧H4 c lo r
end
theorem vaOk.up {c:Cn}{lo hi:Int}{s:Int}{l:Bool}(h:vaOk c lo s l)(hl:lo≤hi):vaOk c hi s l:=by
 unfold vaOk at*
 refine ⟨h.1,?_⟩
 have:=h.2
 split<;>rename_i k
 · rw [if_pos k] at this;omega
 rw [if_neg k] at this;omega
mutual
theorem J9 {c:Cn}{lo hi:Int}(hl:lo≤hi): ∀ {e:PEx},e.wl c lo→e.wl c hi
 | .mk ..,⟨h1,h2,h3⟩=>⟨fun k=>(h1 k).up hl,h2,Dw hl h3⟩
theorem Dw {c:Cn}{lo hi:Int}(hl:lo≤hi): ∀ {l:List PEx},H4 c lo l→H4 c hi l
 | [],_=>trivial
 |_::_,⟨h1,h2⟩=>⟨J9 hl h1,Dw hl h2⟩
end
theorem Fnd.wants_ok {f:Fnd}{s:ByteArray}{a b:Int}(h:(f.wants s a b).1.flaw=0):(f.wants s a b).1=f∧ ∃ x∈f.names,(x.k=a∨x.k=b)∧(f.wants s a b).2=(x.k,x.s):=by
 unfold Fnd.wants at h⊢
 have hle:f.at s≤f.names.length:=J5
 split at h
 · exact absurd h (Wq (by decide))
 rename_i i hi
 have hlt:i<f.names.length:=by omega
 have hx:(f.names.map fun x=>(x.k,x.s)).getD i (0,0)=(f.names[i].k,f.names[i].s):=by
  rw [List.getD_eq_getElem?_getD,List.getElem?_map,List.getElem?_eq_getElem hlt];rfl
 dsimp only at h⊢
 rw [hx] at h⊢
 split at h
 · exact absurd h (Wq (by decide))
 rename_i hk
 rw [if_neg hk]
 refine ⟨rfl,_,List.getElem_mem hlt,?_,rfl⟩
 simp only [Bool.and_eq_true,bne_iff_ne,ne_eq,not_and,Decidable.not_not] at hk
 by_cases e:f.names[i].k=a
 · exact .inl e
 exact .inr (hk e)
mutual
theorem V6: ∀ (e:PEx) (f:Fnd),(f.expr e).2.sz=e.sz∧(f.expr e).2.dep=e.dep∧(e.fit→(f.expr e).2.fit)
 | .mk k n nm slot loc op args,f=>by
  simp only [Fnd.expr]
  split
  · obtain ⟨h1,h2,h3,h4⟩:=Ua args (f.wants nm 1 100).1
    exact ⟨by simp only [PEx.sz,h1],by simp only [PEx.dep,h2],fun ⟨a,b,c,d,e⟩=>⟨a,h3.trans b,c,d,h4 e⟩⟩
  split
  · obtain ⟨h1,h2,h3,h4⟩:=Ua args (f.wants nm 2 2).1
    exact ⟨by simp only [PEx.sz,h1],by simp only [PEx.dep,h2],fun ⟨a,b,c,d,e⟩=>⟨a,h3.trans b,c,d,h4 e⟩⟩
  obtain ⟨h1,h2,h3,h4⟩:=Ua args f
  exact ⟨by simp only [PEx.sz,h1],by simp only [PEx.dep,h2],fun ⟨a,b,c,d,e⟩=>⟨a,h3.trans b,c,d,h4 e⟩⟩
theorem Ua: ∀ (l:List PEx) (f:Fnd),U9 (f.exprs l).2=U9 l∧Yh (f.exprs l).2=Yh l∧(f.exprs l).2.length=l.length∧(PEx.fits l→PEx.fits (f.exprs l).2)
 | [],f=>⟨rfl,rfl,rfl,fun _=>trivial⟩
 |e::r,f=>by
  obtain ⟨a1,a2,a3⟩:=V6 e f
  obtain ⟨h1,h2,h3,h4⟩:=Ua r (f.expr e).1
  simp only [Fnd.exprs]
  exact ⟨by simp only [U9,a1,h1],by simp only [Yh,a2,h2],by simp only [List.length_cons,h3],fun ⟨k1,k2⟩=>⟨a3 k1,h4 k2⟩⟩
end
mutual
theorem Qf {c:Cn}{lo:Int}: ∀ (e:PEx) (f:Fnd),(f.expr e).1.flaw=0→(f.expr e).1=f∧((∀ x∈f.names,NmOk c lo x)→(f.expr e).2.wl c lo)
 | .mk k n nm slot loc op args,f,h=>by
  simp only [Fnd.expr] at h⊢
  split at h
  · rename_i hk
    rw [if_pos hk]
    obtain ⟨h1,h2⟩:=Ql (c:=c) (lo:=lo) args _ h
    dsimp only at h h1⊢
    rw [h1] at h
    obtain ⟨e1,x,hx,hk2,e2⟩:=Fnd.wants_ok h
    refine ⟨h1.trans e1,fun hn=>⟨fun _=> ?_,fun e=>absurd (hk.symm.trans e) (by decide),h2 (by rw [e1];exact hn)⟩⟩
    have hx2:=hn x hx
    rw [e2]
    refine ⟨hx2.z,?_⟩
    dsimp only
    rcases hk2 with hk2|hk2
    · rw [if_neg (by rw [hk2];decide)];exact hx2.v hk2
    rw [if_pos (by rw [hk2];decide)];exact hx2.lo hk2
  rename_i hk0
  rw [if_neg hk0]
  split at h
  · rename_i hk
    rw [if_pos hk]
    obtain ⟨h1,h2⟩:=Ql (c:=c) (lo:=lo) args _ h
    dsimp only at h h1⊢
    rw [h1] at h
    obtain ⟨e1,x,hx,hk2,e2⟩:=Fnd.wants_ok h
    refine ⟨h1.trans e1,fun hn=>⟨fun e=>absurd (hk.symm.trans e) (by decide),fun _=> ?_,h2 (by rw [e1];exact hn)⟩⟩
    have hx2:=hn x hx
    rw [e2]
    exact ⟨hx2.z,hx2.a (by rcases hk2 with e|e<;>exact e)⟩
  rename_i hk1
  rw [if_neg hk1]
  obtain ⟨h1,h2⟩:=Ql (c:=c) (lo:=lo) args _ h
  exact ⟨h1,fun hn=>⟨fun e=>absurd e hk0,fun e=>absurd e hk1,h2 hn⟩⟩
theorem Ql {c:Cn}{lo:Int}: ∀ (l:List PEx) (f:Fnd),(f.exprs l).1.flaw=0→(f.exprs l).1=f∧((∀ x∈f.names,NmOk c lo x)→H4 c lo (f.exprs l).2)
 | [],f,_=>⟨rfl,fun _=>trivial⟩
 |e::r,f,h=>by
  simp only [Fnd.exprs] at h⊢
  obtain ⟨h1,h2⟩:=Ql (c:=c) (lo:=lo) r _ h
  rw [h1] at h
  obtain ⟨k1,k2⟩:=Qf (c:=c) (lo:=lo) e f h
  exact ⟨h1.trans k1,fun hn=>⟨k2 hn,h2 (by rw [k1];exact hn)⟩⟩
end
def ownOk (c:Cn)(lo k slot other:Int)(loc:Bool):Prop:=
 (k=1∨k=2→vaOk c lo slot loc)∧(k=3→0≤slot∧slot<c.a)∧(k=6∨k=7→0≤slot∧slot<c.mu)∧(k=8∨k=9∨k=10→0≤slot∧slot<c.co)∧(k=8→0≤other∧other<c.mu)∧(k=11∨k=12→0≤slot∧slot<c.ch)∧(k=12→vaOk c lo other loc)∧(k=13→0≤slot∧slot<c.th)
theorem ownOk.up {c:Cn}{lo hi k s o:Int}{l:Bool}(h:ownOk c lo k s o l)(hl:lo≤hi):ownOk c hi k s o l:=by
 obtain ⟨h1,h2,h3,h4,h5,h6,h7,h8⟩:=h
 exact ⟨fun e=>(h1 e).up hl,h2,h3,h4,h5,h6,fun e=>(h7 e).up hl,h8⟩
mutual
def PStm.wl (c:Cn)(lo:Int):PStm→Prop
 | .mk k _ _ _ _ e ix body els id slot other loc=>(1≤k∧k≤15)∧(k≤5∨k=11∨k=15→e.fit∧e.dep≤24∧e.wl c lo)∧(k=3→ix.fit∧ix.dep≤24∧ix.wl c lo)∧(0≤id∧id<512)∧ownOk c lo k slot other loc∧Qy c lo body∧Qy c lo els
def Qy (c:Cn)(lo:Int):List PStm→Prop
 | []=>True
 |s::r=>s.wl c lo∧Qy c lo r
end
mutual
theorem Dk {c:Cn}{lo hi:Int}(hl:lo≤hi): ∀ {s:PStm},s.wl c lo→s.wl c hi
 | .mk ..,⟨h1,h2,h3,h4,h5,h6,h7⟩=>⟨h1,fun k=>⟨(h2 k).1,(h2 k).2.1,J9 hl (h2 k).2.2⟩,fun k=>⟨(h3 k).1,(h3 k).2.1,J9 hl (h3 k).2.2⟩,h4,h5.up hl,Ju hl h6,Ju hl h7⟩
theorem Ju {c:Cn}{lo hi:Int}(hl:lo≤hi): ∀ {l:List PStm},Qy c lo l→Qy c hi l
 | [],_=>trivial
 |_::_,⟨h1,h2⟩=>⟨Dk hl h1,Ju hl h2⟩
end
structure Ctx (c:Cn) (f:Fnd):Prop where
 n: ∀ x∈f.names,NmOk c f.locals x
 l:0≤f.locals∧f.locals≤f.most∧f.most≤32
 s:0≤f.stm
theorem Ls {c:Cn}{f:Fnd}{k sl ot:Int}{nm wt:ByteArray}{lo:Bool}(h:(f.own k nm wt sl ot lo).1.flaw=0)(hx:Ctx c f):
 f.flaw=0∧Ctx c (f.own k nm wt sl ot lo).1∧f.most≤(f.own k nm wt sl ot lo).1.most∧(f.own k nm wt sl ot lo).1.stm=f.stm∧ownOk c (f.own k nm wt sl ot lo).1.most k (f.own k nm wt sl ot lo).2.1 (f.own k nm wt sl ot lo).2.2.1 (f.own k nm wt sl ot lo).2.2.2:=by
 obtain ⟨g,hg⟩: ∃ g,f.own1 k nm sl lo=g:=⟨_,rfl⟩
 unfold Fnd.own at h⊢
 rw [hg] at h⊢
 -- behind own1 nothing is flawed
 have h1:g.1.flaw=0:=by
  unfold Fnd.own2 at h
  split at h
  · exact (M9 (show ((g.1.loc1 nm).loc2).flaw=0 from h)).2.2
  split at h
  · dsimp only at h;rw [←(Fnd.wants_ok h).1];exact h
  split at h
  · dsimp only at h;rw [←(Fnd.wants_ok h).1];exact h
  exact h
 have hw:g.1=f∧(k=2→vaOk c f.locals g.2.1 g.2.2)∧(k=3→0≤g.2.1∧g.2.1<c.a)∧(k=6∨k=7→0≤g.2.1∧g.2.1<c.mu)∧(k=8∨k=9∨k=10→0≤g.2.1∧g.2.1<c.co)∧(k=11∨k=12→0≤g.2.1∧g.2.1<c.ch)∧(k=13→0≤g.2.1∧g.2.1<c.th):=by
  rw [←hg] at h1⊢
  unfold Fnd.own1 at h1⊢
  by_cases hz:(Jy k).1≠0
  · rw [if_pos hz] at h1⊢
    obtain ⟨e1,x,hx1,hk,e2⟩:=Fnd.wants_ok h1
    have ho:=hx.n x hx1
    rw [e2]
    refine ⟨e1,fun e=> ?_,fun e=> ?_,fun e=> ?_,fun e=> ?_,fun e=> ?_,fun e=> ?_⟩
    · subst e
      refine ⟨ho.z,?_⟩
      dsimp only
      rcases hk with hk|hk
      · rw [if_neg (by rw [hk];decide)];exact ho.v hk
      rw [if_pos (by rw [hk];decide)];exact ho.lo hk
    · subst e;exact ⟨ho.z,ho.a (by rcases hk with e|e<;>exact e)⟩
    · refine ⟨ho.z,ho.mu ?_⟩;rcases e with e|e<;>subst e<;>rcases hk with e|e<;>exact e
    · refine ⟨ho.z,ho.co ?_⟩;rcases e with e|e|e<;>subst e<;>rcases hk with e|e<;>exact e
    · refine ⟨ho.z,ho.ch ?_⟩;rcases e with e|e<;>subst e<;>rcases hk with e|e<;>exact e
    subst e;exact ⟨ho.z,ho.th (by rcases hk with e|e<;>exact e)⟩
  rw [if_neg hz] at h1⊢
  have hz2:(Jy k).1=0:=Decidable.not_not.1 hz
  refine ⟨rfl,fun e=> ?_,fun e=> ?_,fun e=> ?_,fun e=> ?_,fun e=> ?_,fun e=> ?_⟩<;>exfalso<;>revert hz2
  · subst e;decide
  · subst e;decide
  · rcases e with e|e<;>subst e<;>decide
  · rcases e with e|e|e<;>subst e<;>decide
  · rcases e with e|e<;>subst e<;>decide
  subst e;decide
 obtain ⟨e1,w2,w3,w4,w5,w6,w7⟩:=hw
 obtain ⟨g1,gs,gl⟩:=g
 dsimp only at*
 subst e1
 obtain ⟨l1,l2,l3⟩:=hx.l
 refine ⟨h1,?_⟩
 unfold Fnd.own2 at h⊢
 split at h
 · rename_i hk
   rw [if_pos hk]
   obtain ⟨e3,e4,_⟩:=M9 (show ((g1.loc1 nm).loc2).flaw=0 from h)
   dsimp only
   rw [e3]
   have hm:(g1.loc3 nm).most=max g1.most (g1.locals+1):=rfl
   have hlo:(g1.loc3 nm).locals=g1.locals+1:=rfl
   refine ⟨⟨fun x hx1=> ?_,⟨by omega,by omega,by omega⟩,hx.s⟩,by omega,rfl,?_⟩
   · rcases List.mem_append.1 (show x∈g1.names++ [⟨nm,100,g1.locals⟩] from hx1) with hx1|hx1
     · exact (hx.n x hx1).up (Cn.le_refl c) (by omega)
     rw [List.mem_singleton.1 hx1]
     exact ⟨l1,fun e=>absurd (show (100:Int)=1 from e) (by decide),fun e=>absurd (show (100:Int)=2 from e) (by decide),fun e=>absurd (show (100:Int)=3 from e) (by decide),fun e=>absurd (show (100:Int)=4 from e) (by decide),fun e=>absurd (show (100:Int)=5 from e) (by decide),fun e=>absurd (show (100:Int)=6 from e) (by decide),fun _=>by dsimp only;omega⟩
   exact ⟨fun _=>⟨l1,by rw [if_pos rfl];omega⟩,fun e=>by omega,fun e=>by omega,fun e=>by omega,fun e=>by omega,fun e=>by omega,fun e=>by omega,fun e=>by omega⟩
 rename_i hk1
 rw [if_neg hk1]
 split at h
 · rename_i hk
   rw [if_pos hk]
   dsimp only at h⊢
   obtain ⟨e1,x,hx1,hk3,e2⟩:=Fnd.wants_ok h
   rw [e1,e2]
   have ho:=hx.n x hx1
   exact ⟨hx,Int.le_refl _,rfl,fun e=>by omega,fun e=>by omega,fun e=>by omega,fun e=>w5 (by omega),fun _=>⟨ho.z,ho.mu (by rcases hk3 with e|e<;>exact e)⟩,fun e=>by omega,fun e=>by omega,fun e=>by omega⟩
 rename_i hk2
 rw [if_neg hk2]
 split at h
 · rename_i hk
   rw [if_pos hk]
   dsimp only at h⊢
   obtain ⟨e1,x,hx1,hk3,e2⟩:=Fnd.wants_ok h
   rw [e1,e2]
   have ho:=hx.n x hx1
   refine ⟨hx,Int.le_refl _,rfl,fun e=>by omega,fun e=>by omega,fun e=>by omega,fun e=>by omega,fun e=>by omega,fun e=>w6 (by omega),fun _=>⟨ho.z,?_⟩,fun e=>by omega⟩
   dsimp only
   rcases hk3 with hk3|hk3
   · rw [if_neg (by rw [hk3];decide)];exact ho.v hk3
   rw [if_pos (by rw [hk3];decide)];have:=ho.lo hk3;omega
 rename_i hk3
 rw [if_neg hk3]
 dsimp only
 exact ⟨hx,Int.le_refl _,rfl,fun e=>(w2 (by omega)).up l2,w3,w4,fun e=>w5 (by omega),fun e=>by omega,fun e=>w6 (by omega),fun e=>by omega,w7⟩
theorem Dh {f:Fnd}{k sl ot:Int}{nm wt:ByteArray}{lo:Bool}(h:(f.own k nm wt sl ot lo).1.flaw=0):f.flaw=0:=by
 have h1:(f.own1 k nm sl lo).1.flaw=0:=by
  unfold Fnd.own Fnd.own2 at h
  split at h
  · exact (M9 (show (((f.own1 k nm sl lo).1.loc1 nm).loc2).flaw=0 from h)).2.2
  split at h
  · dsimp only at h;rw [←(Fnd.wants_ok h).1];exact h
  split at h
  · dsimp only at h;rw [←(Fnd.wants_ok h).1];exact h
  exact h
 unfold Fnd.own1 at h1
 split at h1
 · dsimp only at h1;rw [←(Fnd.wants_ok h1).1];exact h1
 exact h1
theorem U6 (l:List PStm)(f:Fnd)(h:(f.blk l).1.flaw=0):f.flaw=0:=by
 cases l with
 |nil=>exact h
 |cons s r=>
  simp only [Fnd.blk] at h
  split at h
  · rename_i k;exact k
  exact h
mutual
/-- A statement that Check lets pass. -/
def PStm.raw:PStm→Prop
 | .mk k _ _ _ _ e ix body els _ _ _ _=>(1≤k∧k≤15)∧(k≤5∨k=11∨k=15→e.fit∧e.dep≤24)∧(k=3→ix.fit∧ix.dep≤24)∧(e.sz≤e.nd+1∧ix.sz≤ix.nd+1)∧Vn body∧Vn els
def Vn:List PStm→Prop
 | []=>True
 |s::r=>s.raw∧Vn r
end
mutual
theorem C9 {c:Cn}: ∀ (s:PStm) (f:Fnd),s.raw→(f.stmt s).1.flaw=0→Ctx c f→f.flaw=0∧Ctx c (f.stmt s).1∧f.most≤(f.stmt s).1.most∧(f.stmt s).2.wl c (f.stmt s).1.most
 | .mk k ln cl nm wt e ix body els id slot other loc,f,hr,h,hx=>by
  obtain ⟨r1,r2,r3,r4,r5,r6⟩:=hr
  simp only [Fnd.stmt] at h⊢
  split at h
  · exact absurd h (Wq (by decide))
  rename_i h5
  rw [if_neg h5]
  dsimp only at h⊢
  obtain ⟨g0,hg0⟩: ∃ g:Fnd,g= { f with stm:=f.stm+1 } :=⟨_,rfl⟩
  rw [←hg0] at h⊢
  obtain ⟨f1,hf1⟩: ∃ g,g=g0.expr ix:=⟨_,rfl⟩
  rw [←hf1] at h⊢
  obtain ⟨f2,hf2⟩: ∃ g,g=f1.1.expr e:=⟨_,rfl⟩
  rw [←hf2] at h⊢
  obtain ⟨f3,hf3⟩: ∃ g,g=f2.1.own k nm wt slot other loc:=⟨_,rfl⟩
  rw [←hf3] at h⊢
  obtain ⟨f4,hf4⟩: ∃ g,g=f3.1.blk body:=⟨_,rfl⟩
  rw [←hf4] at h⊢
  obtain ⟨g4,hg4⟩: ∃ g:Fnd,g= { f4.1 with names:=f3.1.names,locals:=f3.1.locals } :=⟨_,rfl⟩
  rw [←hg4] at h⊢
  obtain ⟨f5,hf5⟩: ∃ g,g=g4.blk els:=⟨_,rfl⟩
  rw [←hf5] at h⊢
  have q5:=U6 els g4 (by rw [←hf5];exact h)
  have q4:f4.1.flaw=0:=by rw [hg4] at q5;exact q5
  have q3:f3.1.flaw=0:=U6 body f3.1 (by rw [←hf4];exact q4)
  have q2:f2.1.flaw=0:=Dh (by rw [←hf3];exact q3)
  have p2:=Qf (c:=c) (lo:=f.locals) e f1.1 (by rw [←hf2];exact q2)
  rw [←hf2] at p2
  have q1:f1.1.flaw=0:=by rw [←p2.1];exact q2
  have p1:=Qf (c:=c) (lo:=f.locals) ix g0 (by rw [←hf1];exact q1)
  rw [←hf1] at p1
  have x0:Ctx c g0:=by rw [hg0];exact ⟨hx.n,hx.l,by have:=hx.s;dsimp only;omega⟩
  have e2:f2.1=g0:=p2.1.trans p1.1
  have nok: ∀ x∈g0.names,NmOk c f.locals x:=by rw [hg0];exact hx.n
  have w1:=p1.2 nok
  have w2:=p2.2 (by rw [p1.1];exact nok)
  have own:=Ls (c:=c) (f:=f2.1) (k:=k) (sl:=slot) (ot:=other) (nm:=nm) (wt:=wt) (lo:=loc) (by rw [←hf3];exact q3) (by rw [e2];exact x0)
  rw [←hf3] at own
  obtain ⟨o1,o2,o3,o4,o5⟩:=own
  have b4:=Jv (c:=c) body f3.1 r5 (by rw [←hf4];exact q4) o2
  rw [←hf4] at b4
  obtain ⟨b41,b42,b43⟩:=b4
  have x4:Ctx c g4:=by rw [hg4];exact ⟨o2.n,⟨o2.l.1,by have:=o2.l.2.1;dsimp only;omega,b41.l.2.2⟩,b41.s⟩
  have b5:=Jv (c:=c) els g4 r6 (by rw [←hf5];exact h) x4
  rw [←hf5] at b5
  obtain ⟨b51,b52,b53⟩:=b5
  have m4:g4.most=f4.1.most:=by rw [hg4]
  have m2:f2.1.most=f.most:=by rw [e2,hg0]
  have s2:f2.1.stm=f.stm+1:=by rw [e2,hg0]
  have k1:=V6 ix g0
  have k2:=V6 e f1.1
  rw [←hf1] at k1;rw [←hf2] at k2
  have hl:=hx.l
  have hlm:f.locals≤f5.1.most:=by omega
  refine ⟨by rw [e2,hg0] at o1;exact o1,⟨o2.n,⟨o2.l.1,by have:=o2.l.2.1;dsimp only;omega,b51.l.2.2⟩,b51.s⟩,by (try dsimp only);omega,r1,fun hk=>⟨k2.2.2 (r2 hk).1,by rw [k2.2.1];exact (r2 hk).2,J9 hlm w2⟩,fun hk=>⟨k1.2.2 (r3 hk).1,by rw [k1.2.1];exact (r3 hk).2,J9 hlm w1⟩,⟨hx.s,by omega⟩,o5.up (by (try dsimp only);omega),Ju (by (try dsimp only);omega) b43,b53⟩
theorem Jv {c:Cn}: ∀ (l:List PStm) (f:Fnd),Vn l→(f.blk l).1.flaw=0→Ctx c f→Ctx c (f.blk l).1∧f.most≤(f.blk l).1.most∧Qy c (f.blk l).1.most (f.blk l).2
 | [],f,_,_,hx=>⟨hx,Int.le_refl _,trivial⟩
 |s::r,f,hr,h,hx=>by
  simp only [Fnd.blk] at h⊢
  split at h
  · rename_i h5
    rw [if_pos h5]
    have q:=U6 r (f.stmt s).1 h
    obtain ⟨_,a2,a3,a4⟩:=C9 (c:=c) s f hr.1 q hx
    obtain ⟨b1,b2,b3⟩:=Jv (c:=c) r (f.stmt s).1 hr.2 h a2
    exact ⟨b1,by (try dsimp only);omega,Dk b2 a4,b3⟩
  rename_i h5;exact absurd h h5
end
mutual
theorem C8: ∀ (s:PStm) (f:Fnd),s.raw→(f.stmt s).2.wt≤14*s.nd
 | .mk k ln cl nm wt e ix body els id slot other loc,f,hr=>by
  obtain ⟨_,_,_,⟨r1,r2⟩,r5,r6⟩:=hr
  simp only [Fnd.stmt]
  split
  · have h1:=Ut body r5;have h2:=Ut els r6
    simp only [PStm.wt,Hv];omega
  dsimp only
  have k1:=V6 ix { f with stm:=f.stm+1 }
  have k2:=V6 e (Fnd.expr { f with stm:=f.stm+1 } ix).1
  simp only [PStm.wt,Hv,k1.1,k2.1]
  refine Nat.le_trans (Nat.add_le_add_left (Ke els _ r6) _) (Nat.le_trans (Nat.add_le_add_right (Nat.add_le_add_left (Ke body _ r5) _) _) ?_)
  omega
theorem Ke: ∀ (l:List PStm) (f:Fnd),Vn l→W4 (f.blk l).2≤14*Z1 l
 | [],f,_=>Nat.zero_le _
 |s::r,f,hr=>by
  simp only [Fnd.blk]
  split
  · have h1:=C8 s f hr.1;have h2:=Ke r (f.stmt s).1 hr.2
    simp only [W4,Z1];omega
  simp [W4]
theorem C1: ∀ (s:PStm),s.raw→s.wt≤14*s.nd
 | .mk k ln cl nm wt e ix body els id slot other loc,hr=>by
  obtain ⟨_,_,_,⟨r1,r2⟩,r5,r6⟩:=hr
  have h1:=Ut body r5;have h2:=Ut els r6
  simp only [PStm.wt,Hv];omega
theorem Ut: ∀ (l:List PStm),Vn l→W4 l≤14*Z1 l
 | [],_=>Nat.zero_le _
 |s::r,hr=>by
  have h1:=C1 s hr.1;have h2:=Ut r hr.2
  simp only [W4,Z1];omega
end
mutual
theorem Ul: ∀ {e:PEx} {d:Nat},e.right d=true→e.sz=e.nd∧e.dep≤d
 | .mk k n nm _ _ op args,d,h=>by
  simp only [PEx.right] at h
  split at h
  · cases h
  rename_i h0
  split at h
  · rename_i hk
    rw [Bool.and_eq_true] at h
    have hd:1≤d:=by
     unfold Tt at h0
     simp only [Bool.or_eq_true,not_or,decide_eq_true_eq] at h0
     omega
    obtain ⟨a,b⟩:=Mg h.2
    simp only [PEx.sz,PEx.nd,PEx.dep]
    rw [if_neg (by omega)]
    omega
  cases h
theorem Mg: ∀ {l:List PEx} {d:Nat},Y9 l d=true→U9 l=Rc l∧Yh l≤d
 | [],_,_=>⟨rfl,Nat.zero_le _⟩
 |e::r,d,h=>by
  simp only [Y9,Bool.and_eq_true] at h
  have h1:=Ul h.1;have h2:=Mg h.2
  simp only [U9,Rc,Yh];omega
end
theorem Dx {e:PEx}(h:e.nil=true):e.sz≤e.nd+1:=by
 cases e with
 |mk k n nm s l op args=>
  simp only [PEx.nil,Bool.and_eq_true,decide_eq_true_eq] at h
  have:args= []:=List.eq_nil_of_length_eq_zero h.2
  subst this
  simp only [PEx.sz,U9];omega
mutual
theorem Fl: ∀ {s:PStm} {n:Nat},s.may n=true→s.raw
 | .mk k _ _ nm wt e ix body els _ _ _ _,n,h=>by
  simp only [PStm.may] at h
  split at h;cases h
  rename_i h1
  split at h;cases h
  split at h;cases h
  rename_i h3
  split at h;cases h
  rw [Bool.and_eq_true] at h
  unfold A7 at h1
  simp only [Bool.or_eq_true,not_or,decide_eq_true_eq] at h1
  unfold Gi at h3
  have hE:Ds k=true→e.right 24=true:=fun hE=>by cases hr:e.right 24 with|true=>rfl|false=>simp [hE,hr] at h3
  have hN:Ds k=false→e.nil=true:=fun hE=>by cases hr:e.nil with|true=>rfl|false=>simp [hE,hr] at h3
  have hI:k=3→ix.right 24=true:=fun hk=>by cases hr:ix.right 24 with|true=>rfl|false=>simp [hk,hr] at h3
  have hJ: ¬k=3→ix.nil=true:=fun hk=>by cases hr:ix.nil with|true=>rfl|false=>simp [hk,hr] at h3
  refine ⟨by omega,fun hk=> ?_,fun hk=>⟨Ja (hI hk),(Ul (hI hk)).2⟩,⟨?_,?_⟩,W7 h.1,W7 h.2⟩
  · have:Ds k=true:=by unfold Ds;simp only [Bool.or_eq_true,decide_eq_true_eq,beq_iff_eq];omega
    exact ⟨Ja (hE this),(Ul (hE this)).2⟩
  · cases hk:Ds k with
    |true=>have:=(Ul (hE hk)).1;omega
    |false=>exact Dx (hN hk)
  by_cases hk:k=3
  · have:=(Ul (hI hk)).1;omega
  exact Dx (hJ hk)
theorem W7: ∀ {l:List PStm} {n:Nat},Yy l n=true→Vn l
 | [],_,_=>trivial
 |s::r,n,h=>by
  simp only [Yy,Bool.and_eq_true] at h
  exact ⟨Fl h.1,W7 h.2⟩
end
structure DInv (f:Fnd):Prop where
 n: ∀ x∈f.names,NmOk f.cn 0 x
 l:f.locals=0∧f.stm=0
 k:f.names.length≤64∧f.vars.length≤f.names.length∧f.arrs.length≤f.names.length∧f.chs.length≤f.names.length∧f.ths.length≤f.names.length∧(0≤f.mu∧f.mu≤f.names.length)∧(0≤f.co∧f.co≤f.names.length)
 v: ∀ n∈f.vars, -2147483648≤n∧n≤2147483647
 a: ∀ n∈f.arrs,1≤n∧n≤256
 c: ∀ n∈f.chs,1≤n∧n≤16
 t: ∀ t∈f.ths,(1≤t.nm.size∧t.nm.size≤16)∧t.loc=0∧t.body= []
theorem Hy {α:Type}{φ:α→Prop}{l:List α}{x:α}(h: ∀ y∈l,φ y)(hx:φ x): ∀ y∈l++ [x],φ y:=by
 intro y hy
 rcases List.mem_append.1 hy with hy|hy
 · exact h y hy
 rw [List.mem_singleton.1 hy];exact hx
theorem DInv.z:DInv Fnd.z:=⟨fun x hx=>(by cases hx),⟨rfl,rfl⟩,by decide,fun x hx=>(by cases hx),fun x hx=>(by cases hx),fun x hx=>(by cases hx),fun x hx=>(by cases hx)⟩
theorem DInv.decl {f:Fnd}{d:PDec}(h:DInv f)(hf:(f.decl d).flaw=0)(h0:f.flaw=0)(hk:1≤d.k∧d.k≤6)(hn:1≤d.nm.size∧d.nm.size≤16):DInv (f.decl d):=by
 have key: ∃ g s,f.decl d= { g with names:=f.names++ [⟨d.nm,d.k,s⟩] } ∧g.names=f.names∧f.names.length<64∧g=(f.decl1 d).1∧s=(f.decl1 d).2.1∧(f.decl1 d).2.2=true:=by
  unfold Fnd.decl at hf⊢
  split at hf
  · exact absurd hf (Wq (by decide))
  rename_i c1
  rw [if_neg c1]
  split at hf
  · rename_i c2;rw [Jo c2] at hf;exact absurd hf (Wq (by decide))
  rename_i c2
  rw [if_neg c2]
  have en:(f.decl1 d).1.names=f.names:=by
   unfold Fnd.decl1
   (repeat' split)<;>first|rfl|exact (f.fl_keep _).2.2.1
  split at hf
  · exact absurd hf (Wq (by decide))
  rename_i c3
  rw [if_neg c3]
  rw [en] at c3
  exact ⟨_,_,by rw [en],en,by omega,rfl,rfl,by revert c2;cases (f.decl1 d).2.2<;>simp⟩
 obtain ⟨g,s,e1,e2,e3,e4,e5,e6⟩:=key
 rw [e1]
 obtain ⟨i1,i2,i3,i4,i5,i6,i7⟩:=h
 have hc:d.k=1∨d.k=2∨d.k=3∨d.k=4∨d.k=5∨d.k=6:=by omega
 have nms: ∀ {c:Cn},f.cn.le c→NmOk c 0 ⟨d.nm,d.k,s⟩→ ∀ x∈f.names++ [⟨d.nm,d.k,s⟩],NmOk c 0 x:=fun hle ho=>Hy (fun y hy=>(i1 y hy).up hle (Int.le_refl _)) ho
 unfold Fnd.decl1 at e4 e5 e6
 rcases hc with hc|hc|hc|hc|hc|hc 
 · rw [if_pos hc] at e4 e5 e6
   split at e6
   · cases e6
   rename_i c2
   rw [if_neg c2] at e4 e5
   subst e4;subst e5
   refine ⟨nms ⟨by simp [Fnd.cn]<;>omega,Int.le_refl _,Int.le_refl _,Int.le_refl _,Int.le_refl _,Int.le_refl _⟩ ⟨by simp,fun _=>by simp [Fnd.cn]<;>omega,?_,?_,?_,?_,?_,?_⟩,i2,by simp;omega,Hy i4 (by omega),i5,i6,i7⟩<;>(intro e;have e:d.k=_:=e;omega)
 · rw [if_neg (by omega),if_pos hc] at e4 e5 e6
   split at e6
   · cases e6
   rename_i c2
   rw [if_neg c2] at e4 e5
   subst e4;subst e5
   refine ⟨nms ⟨Int.le_refl _,by simp [Fnd.cn]<;>omega,Int.le_refl _,Int.le_refl _,Int.le_refl _,Int.le_refl _⟩ ⟨by simp,?_,fun _=>by simp [Fnd.cn]<;>omega,?_,?_,?_,?_,?_⟩,i2,by simp;omega,i4,Hy i5 (by omega),i6,i7⟩<;>(intro e;have e:d.k=_:=e;omega)
 · rw [if_neg (by omega),if_neg (by omega),if_pos hc] at e4 e5 e6
   subst e4;subst e5
   refine ⟨nms ⟨Int.le_refl _,Int.le_refl _,by simp [Fnd.cn]<;>omega,Int.le_refl _,Int.le_refl _,Int.le_refl _⟩ ⟨by dsimp only;omega,?_,?_,fun _=>by simp [Fnd.cn]<;>omega,?_,?_,?_,?_⟩,i2,by simp;omega,i4,i5,i6,i7⟩<;>(intro e;have e:d.k=_:=e;omega)
 · rw [if_neg (by omega),if_neg (by omega),if_neg (by omega),if_pos hc] at e4 e5 e6
   subst e4;subst e5
   refine ⟨nms ⟨Int.le_refl _,Int.le_refl _,Int.le_refl _,by simp [Fnd.cn]<;>omega,Int.le_refl _,Int.le_refl _⟩ ⟨by dsimp only;omega,?_,?_,?_,fun _=>by simp [Fnd.cn]<;>omega,?_,?_,?_⟩,i2,by simp;omega,i4,i5,i6,i7⟩<;>(intro e;have e:d.k=_:=e;omega)
 · rw [if_neg (by omega),if_neg (by omega),if_neg (by omega),if_neg (by omega),if_pos hc] at e4 e5 e6
   split at e6
   · cases e6
   rename_i c2
   rw [if_neg c2] at e4 e5
   subst e4;subst e5
   refine ⟨nms ⟨Int.le_refl _,Int.le_refl _,Int.le_refl _,Int.le_refl _,by simp [Fnd.cn]<;>omega,Int.le_refl _⟩ ⟨by simp,?_,?_,?_,?_,fun _=>by simp [Fnd.cn]<;>omega,?_,?_⟩,i2,by simp;omega,i4,i5,Hy i6 (by omega),i7⟩<;>(intro e;have e:d.k=_:=e;omega)
 rw [if_neg (by omega),if_neg (by omega),if_neg (by omega),if_neg (by omega),if_neg (by omega),if_pos hc] at e4 e5 e6
 subst e4;subst e5
 refine ⟨nms ⟨Int.le_refl _,Int.le_refl _,Int.le_refl _,Int.le_refl _,Int.le_refl _,by simp [Fnd.cn]<;>omega⟩ ⟨by simp,?_,?_,?_,?_,?_,fun _=>by simp [Fnd.cn]<;>omega,?_⟩,i2,by simp;omega,i4,i5,i6,Hy i7 ⟨hn,rfl,rfl⟩⟩<;>(intro e;have e:d.k=_:=e;omega)
theorem DInv.decls: ∀ {ds:List PDec} {f:Fnd},DInv f→(∀ d∈ds,(1≤d.k∧d.k≤6)∧(1≤d.nm.size∧d.nm.size≤16))→(f.decls ds).flaw=0→DInv (f.decls ds)
 | [],_,h,_,_=>h
 |d::r,f,h,hd,hf=>by
  unfold Fnd.decls at hf⊢
  split at hf
  · rename_i h0
    rw [if_pos h0]
    have hz:(f.decl d).flaw=0:=by
     cases r with
     |nil=>exact hf
     |cons x r=>
      unfold Fnd.decls at hf
      split at hf
      · assumption
      exact hf
    exact DInv.decls (h.decl hz h0 (hd d (List.mem_cons_self ..)).1 (hd d (List.mem_cons_self ..)).2) (fun x hx=>hd x (List.mem_cons_of_mem _ hx)) hf
  rename_i h0;exact absurd hf h0
structure ThW (P:List PStm→Prop) (c:Cn) (t:PTh):Prop where
 n:1≤t.nm.size∧t.nm.size≤16
 l:0≤t.loc∧t.loc≤32
 b:Qy c t.loc t.body
 p:P t.body
structure BInv (P:List PStm→Prop) (d f:Fnd):Prop where
 e:f.vars=d.vars∧f.arrs=d.arrs∧f.chs=d.chs∧f.mu=d.mu∧f.co=d.co∧f.ths.length=d.ths.length∧f.names=d.names
 n: ∀ x∈d.names,NmOk d.cn 0 x
 l:f.locals=0∧0≤f.stm
 t: ∀ t∈f.ths,ThW P d.cn t
theorem BInv.bodies {P:List PStm→Prop}{d:Fnd}: ∀ {bs:List (List PStm)} {i:Nat} {f:Fnd},(∀ b∈bs,Vn b∧ ∀ g,P (Fnd.blk g b).2)→BInv P d f→(f.bodies i bs).flaw=0→BInv P d (f.bodies i bs)
 | [],_,_,_,h,_=>h
 |b::r,i,f,hb,h,hf=>by
  unfold Fnd.bodies at hf⊢
  split at hf
  · rename_i h0
    rw [if_pos h0]
    dsimp only at hf⊢
    obtain ⟨g,hg⟩: ∃ g,g=Fnd.block { f with most:=0 } b:=⟨_,rfl⟩
    rw [←hg] at hf⊢
    obtain ⟨q,hq⟩: ∃ q,q=Fnd.blk { f with most:=0 } b:=⟨_,rfl⟩
    have e1:g=({ q.1 with names:=f.names,locals:=f.locals },q.2):=by rw [hg,hq];rfl
    have fl:g.1.flaw=0:=by
     cases r with
     |nil=>exact hf
     |cons x r=>
      unfold Fnd.bodies at hf
      split at hf
      · assumption
      exact hf
    have flq:q.1.flaw=0:=by rw [e1] at fl;exact fl
    have to:=Fnd.To.blk b { f with most:=0 }
    rw [←hq] at to
    obtain ⟨t1,t2,t3,t4,t5,t6,_⟩:=to.e
    dsimp only at t1 t2 t3 t4 t5 t6
    obtain ⟨j1,j2,j3,j4,j5,j6,j7⟩:=h.e
    have cx:Ctx d.cn { f with most:=0 } :=⟨by dsimp only;rw [j7,h.l.1];exact h.n,by dsimp only;rw [h.l.1];decide,h.l.2⟩
    have w:=Jv (c:=d.cn) b { f with most:=0 } (hb b (List.mem_cons_self ..)).1 (by rw [←hq];exact flq) cx
    have hp:=(hb b (List.mem_cons_self ..)).2 { f with most:=0 }
    rw [←hq] at w hp
    obtain ⟨w1,w2,w3⟩:=w
    dsimp only at w2
    refine BInv.bodies (fun x hx=>hb x (List.mem_cons_of_mem _ hx)) ⟨?_,h.n,?_,?_⟩ hf
    · rw [e1];dsimp only;rw [List.length_set,t6];exact ⟨t1.trans j1,t2.trans j2,t5.trans j3,t3.trans j4,t4.trans j5,j6,j7⟩
    · rw [e1];exact ⟨h.l.1,w1.s⟩
    rw [e1]
    dsimp only
    rw [t6]
    intro t ht
    by_cases hi:i<f.ths.length
    · rcases List.mem_or_eq_of_mem_set ht with ht|ht
      · exact h.t t ht
      rw [ht,List.getD_eq_getElem?_getD,List.getElem?_eq_getElem hi]
      exact ⟨(h.t _ (List.getElem_mem hi)).n,⟨w2,w1.l.2.2⟩,w3,hp⟩
    rw [List.set_eq_of_length_le (by omega)] at ht;exact h.t t ht
  rename_i h0;exact absurd hf h0
structure PrgOk (P:List PStm→Prop) (F:Fnd):Prop where
 k:F.vars.length≤64∧F.arrs.length≤64∧F.chs.length≤64∧F.ths.length≤64∧(0≤F.mu∧F.mu≤64)∧(0≤F.co∧F.co≤64)
 v: ∀ n∈F.vars, -2147483648≤n∧n≤2147483647
 a: ∀ n∈F.arrs,1≤n∧n≤256
 c: ∀ n∈F.chs,1≤n∧n≤16
 t: ∀ t∈F.ths,ThW P F.cn t
 m:0≤F.main∧F.main<F.ths.length
theorem bad_nm {d:PDec}(h:d.bad=false):1≤d.nm.size∧d.nm.size≤16:=by
 unfold PDec.bad A8 at h
 simp only [Bool.or_eq_false_iff,decide_eq_false_iff_not,Bool.not_eq_false'] at h
 obtain ⟨⟨⟨⟨⟨⟨⟨⟨_,_⟩,h3⟩,_⟩,_⟩,_⟩,_⟩,_⟩,_⟩:=h
 have h4:nmS (bs d.nm)=true:=by simpa using h3
 unfold nmS at h4
 split at h4
 · cases h4
 rename_i h5
 have e:(bs d.nm).length=d.nm.size:=Kg d.nm
 omega
theorem S7 {d:PDec}(h:d.bad=false):Vn d.body:=by
 unfold PDec.bad A8 at h
 simp only [Bool.or_eq_false_iff,decide_eq_false_iff_not,Bool.not_eq_false'] at h
 exact W7 h.2
theorem G6 {ds:List PDec}{F:Fnd}{P:List PStm→Prop}(h:Tl ds=some F)(h0:P [])(hP: ∀ d∈ds,d.bad=false→ ∀ g,P (Fnd.blk g d.body).2):PrgOk P F:=by
 unfold Tl at h
 split at h
 · cases h
 rename_i hbad
 have hok: ∀ d∈ds,d.bad=false:=fun d hd=>by
  cases hb:d.bad with
  |false=>rfl
  |true=>exact absurd (List.any_eq_true.2 ⟨d,hd,hb⟩) hbad
 dsimp only at h
 obtain ⟨f,hf⟩: ∃ f,f=Fnd.decls .z ds:=⟨_,rfl⟩
 rw [←hf] at h
 obtain ⟨f1,hf1⟩: ∃ f1,f1=(if f.flaw=0∧(f.at Qp=0∨((f.names.map (·.k)).getD (f.at Qp - 1) 0)≠6) then f.fl 133 else f):=⟨_,rfl⟩
 rw [←hf1] at h
 obtain ⟨bs,hbs⟩: ∃ b,b=(ds.filter fun d=>d.k==6).map (·.body):=⟨_,rfl⟩
 rw [←hbs] at h
 by_cases hfl:(f1.bodies 0 bs).flaw≠0
 · rw [if_pos hfl] at h;cases h
 rw [if_neg hfl] at h
 cases h
 have hfl2:=Decidable.not_not.1 hfl
 have z1:f1.flaw=0:=by
  cases bs with
  |nil=>exact hfl2
  |cons x r=>
   unfold Fnd.bodies at hfl2
   split at hfl2
   · assumption
   exact hfl2
 have hm:f1=f∧f.flaw=0∧f.at Qp≠0∧((f.names.map (·.k)).getD (f.at Qp - 1) 0)=6:=by
  split at hf1
  · rw [hf1] at z1;exact absurd z1 (Wq (by decide))
  rename_i hn;rw [hf1] at z1
  refine ⟨hf1,z1,fun k=>hn ⟨z1,.inl k⟩,Decidable.byContradiction fun k=>hn ⟨z1,.inr k⟩⟩
 obtain ⟨e1,z2,m1,m2⟩:=hm
 have D:DInv f:=by
  rw [hf]
  exact DInv.decls .z (fun d hd=>⟨(Fy (hok d hd)).1,bad_nm (hok d hd)⟩) (by rw [←hf];exact z2)
 rw [e1] at hfl2⊢
 have B:=BInv.bodies (P:=P) (d:=f) (bs:=bs) (i:=0) (f:=f) (fun b hb=>by
  rw [hbs] at hb
  obtain ⟨d,hd,rfl⟩:=List.mem_map.1 hb
  have hd2:=(List.mem_filter.1 hd).1
  exact ⟨S7 (hok d hd2),hP d hd2 (hok d hd2)⟩) ⟨⟨rfl,rfl,rfl,rfl,rfl,rfl,rfl⟩,D.n,⟨D.l.1,by rw [D.l.2];decide⟩,fun t ht=>by
   obtain ⟨a,b,c⟩:=D.t t ht
   exact ⟨a,by omega,by rw [c];trivial,by rw [c];exact h0⟩⟩ hfl2
 obtain ⟨g,hg⟩: ∃ g,g=f.bodies 0 bs:=⟨_,rfl⟩
 rw [←hg] at B⊢
 obtain ⟨b1,b2,b3,b4,b5,b6,b7⟩:=B.e
 have cn:Fnd.cn { g with main:=(g.names.map (·.s)).getD (f.at Qp - 1) 0 } =f.cn:=by unfold Fnd.cn;dsimp only;rw [b1,b2,b3,b4,b5,b6]
 obtain ⟨k1,k2,k3,k4,k5,k6,k7⟩:=D.k
 refine ⟨?_,by dsimp only;rw [b1];exact D.v,by dsimp only;rw [b2];exact D.a,by dsimp only;rw [b3];exact D.c,by rw [cn];exact B.t,?_⟩
 · dsimp only;rw [b1,b2,b3,b4,b5,b6];omega
 have hlt:f.at Qp - 1<f.names.length:=by
  have:f.at Qp≤f.names.length:=J5
  omega
 have e6:f.names[f.at Qp - 1].k=6:=by
  rw [List.getD_eq_getElem?_getD,List.getElem?_map,List.getElem?_eq_getElem hlt] at m2;exact m2
 have ho:=D.n _ (List.getElem_mem hlt)
 dsimp only
 rw [b7,List.getD_eq_getElem?_getD,List.getElem?_map,List.getElem?_eq_getElem hlt,b6]
 exact ⟨ho.z,ho.th e6⟩
theorem Ov {l:Bs}{ds:List PDec}(h:Q2 l=some ds):(ds.map fun d=>Z1 d.body+1).sum≤l.length∧l.length≤65536:=by
 unfold Q2 at h
 split at h
 · cases h
 rename_i h0
 split at h
 · cases h
 rename_i ts h1
 split at h
 · cases h
 rename_i us h2
 split at h
 · cases h
 cases h
 have h3:=(Kx h1).1
 have h4:=(Nt (Nat.le_refl _) h2).1
 omega
theorem text_prg {l:Bs}{F:Fnd}(h:J3 l=some F):PrgOk (fun b=>W4 b≤14*l.length) F∧l.length≤65536:=by
 unfold J3 at h
 split at h
 · cases h
 rename_i ds hd
 obtain ⟨h1,h2⟩:=Ov hd
 refine ⟨G6 h (Nat.zero_le _) fun d hm hb g=> ?_,h2⟩
 have h3:=Ke d.body g (S7 hb)
 have h4:=El (f:=fun d:PDec=>Z1 d.body+1) hm
 have h5:Z1 d.body+1≤(ds.map fun d=>Z1 d.body+1).sum:=h4
 show W4 (Fnd.blk g d.body).2≤14*l.length
 omega
theorem Ks (f:Fnd)(w:Int):(f.fl w).stm=f.stm:=by unfold Fnd.fl;split<;>rfl
theorem Js (f:Fnd)(s:ByteArray)(a b:Int):(f.wants s a b).1.stm=f.stm:=by
 unfold Fnd.wants
 split
 · exact Ks _ _
 dsimp only
 split
 · exact Ks _ _
 rfl
theorem Az (f:Fnd)(k sl ot:Int)(nm wt:ByteArray)(lo:Bool):(f.own k nm wt sl ot lo).1.stm=f.stm:=by
 have h1:(f.own1 k nm sl lo).1.stm=f.stm:=by
  unfold Fnd.own1
  split
  · exact Js _ _ _ _
  rfl
 unfold Fnd.own Fnd.own2
 split
 · show (((f.own1 k nm sl lo).1.loc1 nm).loc2).stm=_
   have h2:((f.own1 k nm sl lo).1.loc1 nm).stm=f.stm:=by
    unfold Fnd.loc1
    split
    · rw [Ks,h1]
    exact h1
   unfold Fnd.loc2
   split
   · rw [Ks,h2]
   exact h2
 split
 · exact (Js _ _ _ _).trans h1
 split
 · exact (Js _ _ _ _).trans h1
 exact h1
mutual
theorem Ml {c:Cn}{lo:Int}: ∀ {e:PEx} {d:Nat},e.fit→e.dep≤d→e.wl c lo→e.ask c lo d=true
 | .mk k n nm slot loc op args,d,⟨h1,h2,h3,h4,h5⟩,hd,⟨w1,w2,w3⟩=>by
  simp only [PEx.dep] at hd
  simp only [PEx.ask,Bool.and_eq_true,decide_eq_true_eq]
  refine ⟨⟨by omega,?_⟩,?_⟩
  · rw [h2]
    unfold V4 V3 inB
    have hk:k=1∨k=2∨k=3∨k=4∨k=5∨k=6:=by omega
    rcases hk with rfl|rfl|rfl|rfl|rfl|rfl
    · have:=h3 rfl
      rw [if_pos rfl,if_pos (show val n from ⟨by omega,by omega⟩)];rfl
    · obtain ⟨a,b⟩:=w1 rfl
      rw [if_neg (by decide),if_pos rfl,if_pos]
      · rfl
      rw [decide_eq_true_eq];refine ⟨a,?_⟩
      split
      · rename_i hl;rw [if_pos hl] at b;exact b
      rename_i hl;rw [if_neg hl] at b;exact b
    · have:=w2 rfl
      rw [if_neg (by decide),if_neg (by decide),if_pos rfl,if_pos (by rw [decide_eq_true_eq];exact this)];rfl
    · rfl
    · rfl
    have:=h4 rfl
    rw [if_neg (by decide),if_neg (by decide),if_neg (by decide),if_neg (by decide),if_pos rfl,if_pos (by omega)];rfl
  have:=T8 (c:=c) (lo:=lo) (d:=d - 1) h5 (by omega) w3
  rwa [show ((d - 1:Nat):Int)=(d:Int) - 1 by omega] at this
theorem T8 {c:Cn}{lo:Int}: ∀ {l:List PEx} {d:Nat},PEx.fits l→Yh l≤d→H4 c lo l→Jj c lo l d=true
 | [],_,_,_,_=>rfl
 |e::r,d,⟨h1,h2⟩,hd,⟨w1,w2⟩=>by
  simp only [Yh] at hd
  simp only [Jj,Bool.and_eq_true]
  exact ⟨Ml h1 (by omega) w1,T8 h2 (by omega) w2⟩
end
theorem slotB_of {c:Cn}{lo k slot other:Int}{loc:Bool}(hk:1≤k∧k≤15)(h:ownOk c lo k slot other loc)(hl:k=1→loc=true):Nx c lo k slot other loc=true:=by
 obtain ⟨h1,h2,h3,h4,h5,h6,h7,h8⟩:=h
 have cl: ∀ {s:Int},vaOk c lo s loc→V3 c lo s loc=true:=fun {s} h=>by
  unfold V3 inB vaOk at*
  rw [decide_eq_true_eq]
  refine ⟨h.1,?_⟩
  have:=h.2
  split
  · rename_i hl;rw [if_pos hl] at this;exact this
  rename_i hl;rw [if_neg hl] at this;exact this
 have ib: ∀ {n d:Int},0≤n∧n<d→inB n d=true:=fun h=>by unfold inB;exact decide_eq_true h
 have hk2:k=1∨k=2∨k=3∨k=4∨k=5∨k=6∨k=7∨k=8∨k=9∨k=10∨k=11∨k=12∨k=13∨k=14∨k=15:=by omega
 unfold Nx
 rcases hk2 with rfl|rfl|rfl|rfl|rfl|rfl|rfl|rfl|rfl|rfl|rfl|rfl|rfl|rfl|rfl
 · rw [if_pos rfl,hl rfl,←hl rfl,cl (h1 (.inl rfl)),hl rfl];rfl
 · exact cl (h1 (.inr rfl))
 · exact ib (h2 rfl)
 · rfl
 · rfl
 · exact ib (h3 (.inl rfl))
 · exact ib (h3 (.inr rfl))
 · exact Bool.and_eq_true_iff.2 ⟨ib (h4 (.inl rfl)),ib (h5 rfl)⟩
 · exact ib (h4 (.inr (.inl rfl)))
 · exact ib (h4 (.inr (.inr rfl)))
 · exact ib (h6 (.inl rfl))
 · exact Bool.and_eq_true_iff.2 ⟨ib (h6 (.inr rfl)),cl (h7 rfl)⟩
 · exact ib (h8 rfl)
 · rfl
 rfl
theorem partB_of {c:Cn}{lo k:Int}{e ix:PEx}{nb ne:Nat}(hm:A6 k nb ne=false)(he:k≤5∨k=11∨k=15→e.ask c lo 24=true)(hx:k=3→ix.ask c lo 24=true):Nh c lo k e ix nb ne=true:=by
 unfold A6 at hm
 unfold Nh
 simp only [Bool.or_eq_false_iff,Bool.and_eq_false_iff,bne_eq_false_iff_eq,decide_eq_false_iff_not] at hm
 simp only [Bool.and_eq_true,Bool.or_eq_true,decide_eq_true_eq,Bool.not_eq_true',decide_eq_false_iff_not,beq_iff_eq,bne_iff_ne,ne_eq]
 obtain ⟨h1,h2⟩:=hm
 refine ⟨⟨⟨?_,?_⟩,?_⟩,?_⟩
 · rcases h1 with (h1|h1)|h1
   · exact .inl (.inl h1)
   · exact .inl (.inr h1)
   exact .inr h1
 · rcases h2 with h2|h2
   · exact .inl h2
   exact .inr h2
 · by_cases hk:k=3
   · exact .inr (hx hk)
   exact .inl hk
 by_cases hk:k≤5∨k=11∨k=15
 · exact .inr (he hk)
 exact .inl (by omega)
mutual
theorem F1 {c:Cn}{lo:Int}: ∀ (s:PStm) (f:Fnd) (d:Nat),s.may d=true→(f.stmt s).1.flaw=0→0≤f.stm→(f.stmt s).2.wl c lo→(f.stmt s).2.ask c lo d f.stm=some (f.stmt s).1.stm∧0≤(f.stmt s).1.stm
 | .mk k ln cl nm wt e ix body els id slot other loc,f,d,hm,h,hz,hw=>by
  simp only [PStm.may] at hm
  split at hm;cases hm
  rename_i m1
  split at hm;cases hm
  split at hm;cases hm
  split at hm;cases hm
  rename_i m4
  rw [Bool.and_eq_true] at hm
  unfold A7 at m1
  simp only [Bool.or_eq_true,not_or,decide_eq_true_eq] at m1
  simp only [Fnd.stmt] at h hw⊢
  split at h
  · exact absurd h (Wq (by decide))
  rename_i h5
  rw [if_neg h5] at hw⊢
  dsimp only at h hw⊢
  obtain ⟨g0,hg0⟩: ∃ g:Fnd,g= { f with stm:=f.stm+1 } :=⟨_,rfl⟩
  rw [←hg0] at h hw⊢
  obtain ⟨f1,hf1⟩: ∃ g,g=g0.expr ix:=⟨_,rfl⟩
  rw [←hf1] at h hw⊢
  obtain ⟨f2,hf2⟩: ∃ g,g=f1.1.expr e:=⟨_,rfl⟩
  rw [←hf2] at h hw⊢
  obtain ⟨f3,hf3⟩: ∃ g,g=f2.1.own k nm wt slot other loc:=⟨_,rfl⟩
  rw [←hf3] at h hw⊢
  obtain ⟨f4,hf4⟩: ∃ g,g=f3.1.blk body:=⟨_,rfl⟩
  rw [←hf4] at h hw⊢
  obtain ⟨g4,hg4⟩: ∃ g:Fnd,g= { f4.1 with names:=f3.1.names,locals:=f3.1.locals } :=⟨_,rfl⟩
  rw [←hg4] at h hw⊢
  obtain ⟨f5,hf5⟩: ∃ g,g=g4.blk els:=⟨_,rfl⟩
  rw [←hf5] at h hw⊢
  have q5:=U6 els g4 (by rw [←hf5];exact h)
  have q4:f4.1.flaw=0:=by rw [hg4] at q5;exact q5
  have q3:f3.1.flaw=0:=U6 body f3.1 (by rw [←hf4];exact q4)
  have q2:f2.1.flaw=0:=Dh (by rw [←hf3];exact q3)
  have p2:=(Qf (c:=c) (lo:=lo) e f1.1 (by rw [←hf2];exact q2)).1
  rw [←hf2] at p2
  have q1:f1.1.flaw=0:=by rw [←p2];exact q2
  have p1:=(Qf (c:=c) (lo:=lo) ix g0 (by rw [←hf1];exact q1)).1
  rw [←hf1] at p1
  have s3:f3.1.stm=f.stm+1:=by rw [hf3,Az,p2,p1,hg0]
  obtain ⟨w1,w2,w3,w4,w5,w6,w7⟩:=hw
  have b4:=Jc (c:=c) (lo:=lo) body f3.1 (d+1) hm.1 (by rw [←hf4];exact q4) (by omega) (by rw [←hf4];exact w6)
  rw [←hf4,s3] at b4
  obtain ⟨b41,b42,b43⟩:=b4
  have s4:g4.stm=f4.1.stm:=by rw [hg4]
  have b5:=Jc (c:=c) (lo:=lo) els g4 (d+1) hm.2 (by rw [←hf5];exact h) (by omega) (by rw [←hf5];exact w7)
  rw [←hf5,s4] at b5
  obtain ⟨b51,b52,b53⟩:=b5
  refine ⟨?_,b53⟩
  simp only [PStm.ask]
  rw [if_neg (by omega),if_pos]
  · have e1:((d+1:Nat):Int)=(d:Int)+1:=by omega
    rw [e1] at b41 b51
    rw [b41]
    exact b51
  rw [Bool.and_eq_true]
  refine ⟨partB_of (by rw [b42,b52];simpa using m4) (fun hk=> ?_) (fun hk=> ?_),slotB_of w1 w5 (fun hk=>by subst hk;rw [hf3];rfl)⟩
  · obtain ⟨a,b,z⟩:=w2 hk;exact Ml (d:=24) a b z
  obtain ⟨a,b,z⟩:=w3 hk;exact Ml (d:=24) a b z
theorem Jc {c:Cn}{lo:Int}: ∀ (l:List PStm) (f:Fnd) (d:Nat),Yy l d=true→(f.blk l).1.flaw=0→0≤f.stm→Qy c lo (f.blk l).2→Z2 c lo (f.blk l).2 d f.stm=some (f.blk l).1.stm∧(f.blk l).2.length=l.length∧0≤(f.blk l).1.stm
 | [],f,d,_,_,hz,_=>⟨rfl,rfl,hz⟩
 |s::r,f,d,hm,h,hz,hw=>by
  simp only [Yy,Bool.and_eq_true] at hm
  simp only [Fnd.blk] at h hw⊢
  split at h
  · rename_i h5
    rw [if_pos h5] at hw⊢
    obtain ⟨w1,w2⟩:=hw
    have a:=F1 (c:=c) (lo:=lo) s f d hm.1 (U6 r _ h) hz w1
    have b:=Jc (c:=c) (lo:=lo) r (f.stmt s).1 d hm.2 h a.2 w2
    refine ⟨?_,by simp [b.2.1],b.2.2⟩
    simp only [Z2]
    rw [a.1]
    exact b.1
  rename_i h5;exact absurd h h5
end
theorem Mx {c:Cn}{t:PTh}{m k:Int}: ∀ {l:List PTh} {n:Int},W3 c l n=some m→(0≤t.loc∧t.loc≤32)→Z2 c t.loc t.body 1 m=some k→W3 c (l++ [t]) n=some k
 | [],n,h,ht,hk=>by
  cases h
  simp only [List.nil_append,W3]
  rw [if_neg (by omega),hk]
 |x::r,n,h,ht,hk=>by
  simp only [W3] at h
  simp only [List.cons_append,W3]
  split at h
  · cases h
  rename_i h1
  rw [if_neg h1]
  split at h
  · cases h
  rename_i j hj
  exact Mx h ht hk
theorem BInv.next {d f:Fnd}{b:List PStm}{i:Nat}(hb:Vn b)(h:BInv (fun _=>True) d f)(hf:(f.bodies i [b]).flaw=0):BInv (fun _=>True) d (f.bodies i [b]):=
 BInv.bodies (fun x hx=>by rw [List.mem_singleton.1 hx];exact ⟨hb,fun _=>trivial⟩) h hf
theorem Jk {f:Fnd}{i:Nat}{r:List (List PStm)}(h:(f.bodies i r).flaw=0):f.flaw=0:=by
 cases r with
 |nil=>exact h
 |cons x r=>
  unfold Fnd.bodies at h
  split at h
  · assumption
  exact h
theorem Hr {d:Fnd}: ∀ {bs:List (List PStm)} {i:Nat} {f:Fnd},(∀ b∈bs,Yy b 1=true)→BInv (fun _=>True) d f→f.ths.length=i+bs.length→W3 d.cn (f.ths.take i) 0=some f.stm→(f.bodies i bs).flaw=0→W3 d.cn (f.bodies i bs).ths 0=some (f.bodies i bs).stm
 | [],i,f,_,_,hl,ha,_=>by
  rw [List.length_nil,Nat.add_zero] at hl
  rw [←hl,List.take_length] at ha
  exact ha
 |b::r,i,f,hb,h,hl,ha,hf=>by
  have hfl:=Jk hf
  have e0:f.bodies i (b::r)=(f.bodies i [b]).bodies (i+1) r:=by
   conv=>lhs;unfold Fnd.bodies
   conv=>rhs;arg 1;unfold Fnd.bodies
   rw [if_pos hfl,if_pos hfl]
   dsimp only
   rw [show ∀ (g:Fnd) (j:Nat),g.bodies j []=g from fun _ _=>rfl]
  rw [e0] at hf⊢
  have hf2:=Jk hf
  have hmb:=hb b (List.mem_cons_self ..)
  have hn:=BInv.next (W7 hmb) h hf2
  have e1:f.bodies i [b]= { (Fnd.blk { f with most:=0 } b).1 with names:=f.names,locals:=f.locals,ths:=(Fnd.blk { f with most:=0 } b).1.ths.set i ⟨((Fnd.blk { f with most:=0 } b).1.ths.getD i ⟨em,0, []⟩).nm,(Fnd.blk { f with most:=0 } b).1.most,(Fnd.blk { f with most:=0 } b).2⟩ } :=by
   unfold Fnd.bodies
   rw [if_pos hfl]
   rfl
  obtain ⟨q,hq⟩: ∃ q,q=Fnd.blk { f with most:=0 } b:=⟨_,rfl⟩
  rw [←hq] at e1
  have to:=Fnd.To.blk b { f with most:=0 }
  rw [←hq] at to
  obtain ⟨t1,t2,t3,t4,t5,t6,_⟩:=to.e
  dsimp only at t6
  have flq:q.1.flaw=0:=by rw [e1] at hf2;exact hf2
  obtain ⟨j1,j2,j3,j4,j5,j6,j7⟩:=h.e
  have cx:Ctx d.cn { f with most:=0 } :=⟨by dsimp only;rw [j7,h.l.1];exact h.n,by dsimp only;rw [h.l.1];decide,h.l.2⟩
  have w:=Jv (c:=d.cn) b { f with most:=0 } (W7 hmb) (by rw [←hq];exact flq) cx
  rw [←hq] at w
  obtain ⟨w1,w2,w3⟩:=w
  have a:=Jc (c:=d.cn) (lo:=q.1.most) b { f with most:=0 } 1 hmb (by rw [←hq];exact flq) h.l.2 (by rw [←hq];exact w3)
  rw [←hq] at a
  have hi:i<q.1.ths.length:=by rw [t6,hl];simp
  refine Hr (fun x hx=>hb x (List.mem_cons_of_mem _ hx)) hn ?_ ?_ hf
  · rw [e1];dsimp only;rw [List.length_set,t6,hl];simp;omega
  rw [e1]
  dsimp only
  rw [List.take_succ_eq_append_getElem (by rw [List.length_set];exact hi),List.take_set_of_le (Nat.le_refl i),List.getElem_set_self,t6]
  exact Mx ha ⟨w2,w1.l.2.2⟩ a.1
theorem Ic (l:List Int)(x:Int):Wv (l++ [x])=Wv l+x:=by
 induction l with
 |nil=>simp [Wv]
 |cons y r ih=>simp only [Wv,List.cons_append,List.foldr_cons] at ih⊢;omega
structure DNum (f:Fnd):Prop where
 n:f.vars.length+f.arrs.length+f.mu+f.co+f.chs.length+f.ths.length=f.names.length
 s:Wv f.arrs=f.cells∧f.cells≤256
 k:f.nv.length≤f.names.length∧f.na.length≤f.names.length∧f.nm.length≤f.names.length∧f.nc.length≤f.names.length∧f.nh.length≤f.names.length
theorem DNum.z:DNum Fnd.z:=⟨rfl,⟨rfl,by decide⟩,by decide⟩
theorem DNum.decl {f:Fnd}{d:PDec}(h:DNum f)(hf:(f.decl d).flaw=0)(hk:1≤d.k∧d.k≤6):DNum (f.decl d):=by
 have key: ∃ g s,f.decl d= { g with names:=f.names++ [⟨d.nm,d.k,s⟩] } ∧g=(f.decl1 d).1∧(f.decl1 d).2.2=true:=by
  unfold Fnd.decl at hf⊢
  split at hf
  · exact absurd hf (Wq (by decide))
  rename_i c1
  rw [if_neg c1]
  split at hf
  · rename_i c2;rw [Jo c2] at hf;exact absurd hf (Wq (by decide))
  rename_i c2
  rw [if_neg c2]
  have en:(f.decl1 d).1.names=f.names:=by
   unfold Fnd.decl1
   (repeat' split)<;>first|rfl|exact (f.fl_keep _).2.2.1
  split at hf
  · exact absurd hf (Wq (by decide))
  rename_i c3
  rw [if_neg c3]
  exact ⟨_,_,by rw [en],rfl,by revert c2;cases (f.decl1 d).2.2<;>simp⟩
 obtain ⟨g,s,e1,e4,e6⟩:=key
 rw [e1]
 obtain ⟨i1,⟨i2,i3⟩,i4,i5,i6,i7,i8⟩:=h
 have hc:d.k=1∨d.k=2∨d.k=3∨d.k=4∨d.k=5∨d.k=6:=by omega
 unfold Fnd.decl1 at e4 e6
 rcases hc with hc|hc|hc|hc|hc|hc
 focus
  rw [if_pos hc] at e4 e6
  split at e6
  · cases e6
  rename_i c2
  rw [if_neg c2] at e4
  subst e4
 rotate_left
 · rw [if_neg (by omega),if_pos hc] at e4 e6
   split at e6
   · cases e6
   rename_i c2
   rw [if_neg c2] at e4
   subst e4
   exact ⟨by simp;omega,⟨by dsimp only;rw [Ic,i2],by dsimp only;omega⟩,by simp;omega⟩
 focus
  rw [if_neg (by omega),if_neg (by omega),if_pos hc] at e4 e6
  subst e4
 rotate_left
 focus
  rw [if_neg (by omega),if_neg (by omega),if_neg (by omega),if_pos hc] at e4 e6
  subst e4
 rotate_left
 focus
  rw [if_neg (by omega),if_neg (by omega),if_neg (by omega),if_neg (by omega),if_pos hc] at e4 e6
  split at e6
  · cases e6
  rename_i c2
  rw [if_neg c2] at e4
  subst e4
 rotate_left
 focus
  rw [if_neg (by omega),if_neg (by omega),if_neg (by omega),if_neg (by omega),if_neg (by omega),if_pos hc] at e4 e6
  subst e4
 all_goals
  exact ⟨by simp;omega,⟨i2,i3⟩,by simp;omega⟩
theorem DNum.decls: ∀ {ds:List PDec} {f:Fnd},DNum f→(∀ d∈ds,1≤d.k∧d.k≤6)→(f.decls ds).flaw=0→DNum (f.decls ds)
 | [],_,h,_,_=>h
 |d::r,f,h,hd,hf=>by
  unfold Fnd.decls at hf⊢
  split at hf
  · rename_i h0
    rw [if_pos h0]
    have h1:(f.decl d).flaw=0:=by
     cases r with
     |nil=>exact hf
     |cons x r=>
      unfold Fnd.decls at hf
      split at hf
      · assumption
      exact hf
    exact DNum.decls (h.decl h1 (hd d (List.mem_cons_self ..))) (fun x hx=>hd x (List.mem_cons_of_mem _ hx)) hf
  rename_i h0;exact absurd hf h0
theorem Mh: ∀ {ds:List PDec} {f:Fnd},f.flaw=0→(f.decls ds).flaw=0→(f.decls ds).ths.length=f.ths.length+(ds.filter fun d=>d.k==6).length
 | [],_,_,_=>rfl
 |d::r,f,h0,hf=>by
  unfold Fnd.decls at hf⊢
  rw [if_pos h0] at hf⊢
  have h1:(f.decl d).flaw=0:=by
   cases r with
   |nil=>exact hf
   |cons x r=>
    unfold Fnd.decls at hf
    split at hf
    · assumption
    exact hf
  rw [Mh h1 hf,Ko h0 h1,List.filter_cons]
  by_cases hk:d.k=6
  · rw [if_pos hk,if_pos (by simpa using hk),List.length_cons];omega
  rw [if_neg hk,if_neg (by simpa using hk)];omega
theorem K7: ∀ {bs:List (List PStm)} {i:Nat} {f:Fnd},(f.bodies i bs).nv=f.nv∧(f.bodies i bs).na=f.na∧(f.bodies i bs).nm=f.nm∧(f.bodies i bs).nc=f.nc∧(f.bodies i bs).nh=f.nh
 | [],_,_=>⟨rfl,rfl,rfl,rfl,rfl⟩
 |b::r,i,f=>by
  unfold Fnd.bodies
  split
  · dsimp only
    have to:=(Fnd.To.blk b { f with most:=0 }).e
    obtain ⟨_,_,_,_,_,_,_,t1,t2,t3,t4,t5,_⟩:=to
    obtain ⟨a1,a2,a3,a4,a5⟩:=K7 (bs:=r) (i:=i+1) (f:= { (Fnd.block { f with most:=0 } b).1 with ths:=(Fnd.block { f with most:=0 } b).1.ths.set i ⟨((Fnd.block { f with most:=0 } b).1.ths.getD i ⟨em,0, []⟩).nm,(Fnd.block { f with most:=0 } b).1.most,(Fnd.block { f with most:=0 } b).2⟩ })
    exact ⟨a1.trans t1,a2.trans t2,a3.trans t3,a4.trans t4,a5.trans t5⟩
  exact ⟨rfl,rfl,rfl,rfl,rfl⟩
theorem bad_mays {d:PDec}(h:d.bad=false):Yy d.body 1=true:=by
 unfold PDec.bad A8 at h
 simp only [Bool.or_eq_false_iff,decide_eq_false_iff_not,Bool.not_eq_false'] at h
 exact h.2
structure FndOk (F:Fnd):Prop where
 m:Bb F=true
 k:F.nv.length≤64∧F.na.length≤64∧F.nm.length≤64∧F.nc.length≤64∧F.nh.length≤64
theorem find_may {ds:List PDec}{F:Fnd}(h:Tl ds=some F):FndOk F:=by
 have hp:=G6 (P:=fun _=>True) h trivial (fun _ _ _ _=>trivial)
 unfold Tl at h
 split at h
 · cases h
 rename_i hbad
 have hok: ∀ d∈ds,d.bad=false:=fun d hd=>by
  cases hb:d.bad with
  |false=>rfl
  |true=>exact absurd (List.any_eq_true.2 ⟨d,hd,hb⟩) hbad
 dsimp only at h
 obtain ⟨f,hf⟩: ∃ f,f=Fnd.decls .z ds:=⟨_,rfl⟩
 rw [←hf] at h
 obtain ⟨f1,hf1⟩: ∃ f1,f1=(if f.flaw=0∧(f.at Qp=0∨((f.names.map (·.k)).getD (f.at Qp - 1) 0)≠6) then f.fl 133 else f):=⟨_,rfl⟩
 rw [←hf1] at h
 obtain ⟨bs,hbs⟩: ∃ b,b=(ds.filter fun d=>d.k==6).map (·.body):=⟨_,rfl⟩
 rw [←hbs] at h
 by_cases hfl:(f1.bodies 0 bs).flaw≠0
 · rw [if_pos hfl] at h;cases h
 rw [if_neg hfl] at h
 cases h
 have hfl2:=Decidable.not_not.1 hfl
 have z1:f1.flaw=0:=Jk hfl2
 have hm:f1=f∧f.flaw=0:=by
  split at hf1
  · rw [hf1] at z1;exact absurd z1 (Wq (by decide))
  rw [hf1] at z1
  exact ⟨hf1,z1⟩
 obtain ⟨e1,z2⟩:=hm
 have z3:(Fnd.decls .z ds).flaw=0:=by rw [←hf];exact z2
 have D:DInv f:=by
  rw [hf]
  exact DInv.decls .z (fun d hd=>⟨(Fy (hok d hd)).1,bad_nm (hok d hd)⟩) z3
 have E:DNum f:=by
  rw [hf]
  exact DNum.decls .z (fun d hd=>(Fy (hok d hd)).1) z3
 have hth:f.ths.length=bs.length:=by
  have:=Mh (f:= .z) rfl z3
  rw [hf,this,hbs,List.length_map];show 0+_=_;omega
 rw [e1] at hfl2 hp⊢
 have hraw: ∀ b∈bs,Yy b 1=true:=fun b hb=>by
  rw [hbs] at hb
  obtain ⟨d,hd,rfl⟩:=List.mem_map.1 hb
  exact bad_mays (hok d (List.mem_filter.1 hd).1)
 have B0:BInv (fun _=>True) f f:=⟨⟨rfl,rfl,rfl,rfl,rfl,rfl,rfl⟩,D.n,⟨D.l.1,by rw [D.l.2];decide⟩,fun t ht=>by
  obtain ⟨a,b,c⟩:=D.t t ht
  exact ⟨a,by omega,by rw [c];trivial,trivial⟩⟩
 have B:=BInv.bodies (i:=0) (fun b hb=>⟨W7 (hraw b hb),fun _=>trivial⟩) B0 hfl2
 have A:=Hr (i:=0) hraw B0 (by omega) (by show some (0:Int)=some f.stm;rw [D.l.2]) hfl2
 have K:=K7 (bs:=bs) (i:=0) (f:=f)
 obtain ⟨g,hg⟩: ∃ g,g=f.bodies 0 bs:=⟨_,rfl⟩
 rw [←hg] at B A K hp⊢
 obtain ⟨b1,b2,b3,b4,b5,b6,b7⟩:=B.e
 obtain ⟨mn,hmn⟩: ∃ mn,mn=(g.names.map (·.s)).getD (f.at Qp - 1) 0:=⟨_,rfl⟩
 rw [←hmn] at hp⊢
 have cn:Fnd.cn { g with main:=mn } =f.cn:=by unfold Fnd.cn;dsimp only;rw [b1,b2,b3,b4,b5,b6]
 obtain ⟨k1,k2,k3,k4,k5,k6,k7⟩:=D.k
 have en:=E.n
 refine ⟨?_,?_⟩
 · unfold Bb
   rw [Bool.and_eq_true,Bool.and_eq_true]
   refine ⟨⟨?_,?_⟩,?_⟩
   · unfold E8
     rw [decide_eq_true_eq]
     dsimp only
     rw [b1,b2,b3,b4,b5,b6]
     refine ⟨by omega,by omega,by omega,fun v hv=>D.v v hv,D.a,D.c,by rw [E.s.1];exact E.s.2⟩
   · unfold inB;rw [decide_eq_true_eq];exact hp.m
   rw [cn]
   rw [beq_iff_eq]
   exact A
 obtain ⟨a1,a2,a3,a4,a5⟩:=K
 dsimp only
 rw [a1,a2,a3,a4,a5]
 have:=E.k
 omega
theorem Gq {l:Bs}{F:Fnd}(h:J3 l=some F):FndOk F:=by
 unfold J3 at h
 split at h
 · cases h
 exact find_may h
mutual
theorem Eg {B:Nat}: ∀ {s:Stm},s.er.wt≤B→s.lm B∧s.sz≤B
 | .mk k ln cl nm wt e ix body els ba bc ea ec id sl ot lo,h=>by
  simp only [Stm.er,PStm.wt,Ak] at h
  have h1:=Kc (B:=B) (l:=body) (by omega)
  have h2:=Kc (B:=B) (l:=els) (by omega)
  have h3:=Ku body
  have h4:=Ku els
  exact ⟨⟨by omega,by omega,h1,h2⟩,by simp only [Stm.sz];omega⟩
theorem Kc {B:Nat}: ∀ {l:List Stm},W4 (Zj l)≤B→Wa B l
 | [],_=>trivial
 |s::r,h=>by
  simp only [Zj,W4] at h
  exact ⟨(Eg (by omega)).1,Kc (by omega)⟩
theorem Ku: ∀ (l:List Stm),Zh l≤W4 (Zj l)
 | []=>Nat.zero_le _
 |s::r=>by
  simp only [Zj,W4,Zh]
  have h1:=(Eg (s:=s) (Nat.le_refl _)).2
  have h2:=Ku r
  omega
end
theorem FC.cp {g:FC}{l:Bs}(h:J3 l=some g.er):CpOk (14*65536) g:=by
 obtain ⟨p,hl⟩:=text_prg h
 have m:=Gq h
 obtain ⟨a1,a2,a3,a4,a5⟩:=m.k
 obtain ⟨b1,b2,b3,b4,_,_⟩:=p.k
 have e:g.er.ths.length=g.ths.l.length:=by show (g.ths.l.map Th.er).length=_;rw [List.length_map]
 rw [e] at b4
 have b1:g.vars.l.length≤64:=b1
 have b2:g.arrs.l.length≤64:=b2
 have b3:g.chs.l.length≤64:=b3
 have a1:g.nv.l.length≤64:=a1
 have a2:g.na.l.length≤64:=a2
 have a3:g.nm.l.length≤64:=a3
 have a4:g.nc.l.length≤64:=a4
 have a5:g.nh.l.length≤64:=a5
 refine ⟨by omega,by decide,fun x hx=> ?_⟩
 have:=(p.t _ (List.mem_map_of_mem (f:=Th.er) hx)).p
 have e2:(Th.er x).body=Zj x.body:=rfl
 rw [e2] at this
 have h2:=Ku x.body
 exact ⟨by omega,Kc (by omega)⟩
structure ThOk (F:Fnd) (N nth:Nat) (t:PTr):Prop where
 d:0≤t.decl∧t.decl<F.ths.length
 s:1≤t.st∧t.st≤4
 l:t.loc.length≤32
 v: ∀ x∈t.loc,val x
 g:Wp F.cn t.loc.length t.left
 n:t.left.length≤600*(N+1)
 e:t.left= []↔t.st=4
 w:t.st=2∨t.st=3→t.next.kd=8
 p:t.sp.length≤8∧ ∀ i∈t.sp,0≤i∧i<nth
structure SS.ok (F:Fnd) (N:Nat) (s:SS):Prop where
 c:(s.cells.length:Int)=F.vars.length+Wv F.arrs
 v: ∀ x∈s.cells,val x
 y:s.sy.ok N
 z:(s.sy.owners.length:Int)=F.mu∧(s.sy.conds.length:Int)=F.co∧s.sy.chans.map Ch.room=F.chs
 t:1≤s.ths.length∧s.ths.length≤8
 h: ∀ t∈s.ths,ThOk F N s.ths.length t
 w: ∀ l∈s.sy.conds,∀ t∈l,t.toNat<s.ths.length∧(s.th t.toNat).st=2
theorem Hm {s:SS}{n:Nat}(h:n<s.ths.length):s.th n=s.ths[n]:=by unfold SS.th;simp [List.getD,h]
theorem Wl {α:Type}{l:List α}{n:Nat}{d:α}(h:n<l.length):l.getD n d=l[n]:=by simp [List.getD,h]
theorem Ns {t:TC}(h:t.todo≠ []): ∃ y,t.todo.getLast? =some y∧y∈t.todo∧t.todo=t.todo.dropLast++ [y]∧t.er.left=y.s.er::(t.todo.dropLast.map fun y=>y.s.er).reverse∧t.er.next=y.s.er:=by
 have e:t.todo=t.todo.dropLast++ [t.todo.getLast h]:=(List.dropLast_concat_getLast h).symm
 have e2:t.er.left=(t.todo.getLast h).s.er::(t.todo.dropLast.map fun y=>y.s.er).reverse:=by
  show (t.todo.map fun y=>y.s.er).reverse=_
  conv=>lhs;rw [e]
  simp
 exact ⟨t.todo.getLast h,List.getLast?_eq_some_getLast h,List.getLast_mem h,e,e2,by unfold PTr.next;rw [e2];rfl⟩
theorem Ub {t:TC}:t.er.left= []↔t.todo= []:=by
 show (t.todo.map fun y=>y.s.er).reverse= []↔_
 simp
theorem W2 (t:TC):t.er.left.length=t.todo.length:=by
 show ((t.todo.map fun y=>y.s.er).reverse).length=_
 simp
theorem Zo {σ:StC}{n:Nat}(h:n<σ.ths.length):σ.er.th n=(σ.ths[n]).er:=by
 have h2:n<σ.er.ths.length:=by show n<(σ.ths.map TC.er).length;simpa using h
 rw [Hm h2];exact List.getElem_map TC.er
theorem StC.nth (σ:StC):σ.er.ths.length=σ.ths.length:=by show (σ.ths.map TC.er).length=_;simp
theorem SS.ok.at {F:Fnd}{N:Nat}{σ:StC}(h:SS.ok F N σ.er){n:Nat}(hn:n<σ.ths.length):ThOk F N σ.ths.length (σ.ths[n]).er:=by
 have:=h.h (σ.ths[n]).er (List.mem_map_of_mem (f:=TC.er) (List.getElem_mem hn))
 rwa [StC.nth] at this
section
variable {q:List HP}{ths:List TC}{i:Nat}{x:TC}
theorem Sees.trT:Sees (trH x::q) x.ta (x.todo.map PS.v):=Sees.le (Sees.there (Sees.lsH _)) (Zs (trL x) q)
theorem Sees.trL:Sees (trH x::q) x.la (x.loc.map I64):=Sees.le (Sees.lsH _) (Zs (Go.Proofs.YtflkjkhijcdbaaaGreat.trL x) q)
theorem Sees.trS:Sees (trH x::q) x.sa (x.sp.map I64):=Sees.le (Sees.there (Sees.there (Sees.lsH _))) (Zs (Go.Proofs.YtflkjkhijcdbaaaGreat.trL x) q)
theorem Sees.todo (hi:i<ths.length):Sees (stars (ths.map trH)::q) ths[i].ta (ths[i].todo.map PS.v):=Sees.star hi (fun q=>Sees.trT) q
theorem H3 (hi:i<ths.length):Sees (stars (ths.map trH)::q) ths[i].la (ths[i].loc.map I64):=Sees.star hi (fun q=>Sees.trL) q
theorem N1 (hi:i<ths.length):Sees (stars (ths.map trH)::q) ths[i].sa (ths[i].sp.map I64):=Sees.star hi (fun q=>Sees.trS) q
end
abbrev inV (c:Cn)(lo s:Int)(l:Bool):Prop:=0≤s∧s<if l=true then lo else c.v
theorem Yi {c:Cn}{lo k slot other:Int}{loc:Bool}(h:Nx c lo k slot other loc=true):(1≤k∧k≤15)∧(k=1∨k=2→inV c lo slot loc)∧(k=3→0≤slot∧slot<c.a)∧(k=6∨k=7→0≤slot∧slot<c.mu)∧(k=8∨k=9∨k=10→0≤slot∧slot<c.co)∧(k=8→0≤other∧other<c.mu)∧(k=11∨k=12→0≤slot∧slot<c.ch)∧(k=12→inV c lo other loc)∧(k=13→0≤slot∧slot<c.th):=by
 unfold Nx V3 inB at h
 have hk:k=1∨k=2∨k=3∨k=4∨k=5∨k=6∨k=7∨k=8∨k=9∨k=10∨k=11∨k=12∨k=13∨k=14∨k=15:=by
  (repeat' split at h)<;>first|omega|(simp only [decide_eq_true_eq] at h;omega)
 rcases hk with rfl|rfl|rfl|rfl|rfl|rfl|rfl|rfl|rfl|rfl|rfl|rfl|rfl|rfl|rfl<;>
  (simp only [Int.reduceEq,if_true,if_false,or_self,or_true,true_or,or_false,false_or,Bool.and_eq_true,decide_eq_true_eq,↓reduceIte] at h;refine ⟨by omega,fun e=> ?_,fun e=> ?_,fun e=> ?_,fun e=> ?_,fun e=> ?_,fun e=> ?_,fun e=> ?_,fun e=> ?_⟩<;>first|omega|exact h|exact h.1|exact h.2)
theorem Wd {c:Cn}{lo k:Int}{e ix:PEx}{nb ne:Nat}(h:Nh c lo k e ix nb ne=true):((1≤k∧k≤5)∨k=11∨k=15→e.ask c lo 24=true)∧(k=3→ix.ask c lo 24=true):=by
 unfold Nh at h
 simp only [Bool.and_eq_true,Bool.or_eq_true,Bool.not_eq_true',decide_eq_false_iff_not,bne_iff_ne] at h
 obtain ⟨⟨_,h1⟩,h2⟩:=h
 exact ⟨fun k=>h2.resolve_left (fun z=>z k),fun k=>h1.resolve_left (fun z=>z k)⟩
theorem Sb {l:List Ch}{i:Nat}(h:i<l.length):(l.map Ch.room).getD i 0=(l.getD i ch0).room:=by simp [List.getD,h]
section
variable {G:World}{q:List HP}{a:Option Addr}{c:Nat}{fv:Value}
theorem any_take {l:List Int}{u:Int→Bool}{s:Nat}(h:s<l.length):(l.take (s+1)).any u=((l.take s).any u||u l[s]):=by rw [List.take_succ_eq_append_getElem h,List.any_append];simp
theorem any_at {l:List Int}{u:Int→Bool}{s:Nat}(h:s<l.length)(k:u l[s]=true):l.any u=true:=List.any_eq_true.2 ⟨_,List.getElem_mem h,k⟩
set_option maxHeartbeats 1000000 in
theorem Pj {l:List Int}{u:Int→Bool}(hs:Sees q a (l.map I64))(hn:l.length≤9223372036854775807)(hp:Rdr prog G fv I64 (fun x=> .bool (u x)) q l):CallF prog G 164 [.slice a l.length c,fv] (q) (Ret fun v q'=> ∃ k:Int,v= .int .i64 k∧decide (0≤k)=l.any u∧q'=q):=by
 refine CallF.of func164 ntmps164 rfl (fun F cs=> ?_)
 have hlen:(l.map I64).length=l.length:=by simp
 refine xx 12 ?_;refine X.at (X.loop (fun (s:Nat×Option Addr)=>s.1≤l.length∧s.2=a∧(l.take s.1).any u=false) (fun s=> [(0,.slice s.2 l.length c),(1,fv),(7,.int .i64 (l.length:Int)),(8,.int .i64 (s.1:Int))]) (fun s=>q++F) (fun s=>l.length - s.1) (fun s hi_ ih=> ?_) (0,a) ⟨by dsimp only;omega,rfl,rfl⟩) Zd leA
 try dsimp only at hi_ ih⊢
 obtain ⟨hi1,rfl,hi2⟩:=hi_
 obtain ⟨s,a⟩:=s;dsimp only at*
 refine xx 5 ?_;refine X.part 9 rfl (fun h0=> ?_) (fun h0=> ?_)
 · replace h0:=sp h0
   have hi0:s<l.length:=by omega
   refine Yx hs (by rw [hlen];omega) (fun b1 o1 e_=> ?_);subst e_
   refine xj 15 ?_;refine XO.cRV (hp _ leA _ (List.getElem_mem hi0)) ?_;refine ox 1 ?_;refine X.part 16 rfl (fun h1=> ?_) (fun h1=> ?_)
   · replace h1:=sp h1
     refine xx 6 ?_;refine Zq (q) func164 (Zg results164 rfl) ⟨_,rfl,_,rfl,by rw [any_at hi0 h1];exact decide_eq_true (by omega),rfl⟩
   replace h1:=sp h1
   refine xx 7 ?_;refine X.at (ih (s+1,some ⟨b1,o1,none⟩) ⟨by dsimp only;omega,rfl,by dsimp only;rw [any_take hi0,hi2,h1];rfl⟩ (by dsimp only;omega)) Zd leA
 replace h0:=sp h0
 refine xx 6 ?_
 rw [List.take_of_length_le (show l.length≤s by omega)] at hi2
 refine Zq (q) func164 (Zg results164 rfl) ⟨_,rfl,_,rfl,by rw [hi2];rfl,rfl⟩
theorem Od {l:List Int}{u:Int→Bool}(hs:Sees q a (l.map I64))(hn:l.length≤9223372036854775807)(hp:Rdr prog G fv I64 (fun x=> .bool (u x)) q l):CallF prog G 126 [.slice a l.length c,fv] (q) (Ret fun v q'=>v= .bool (l.any u)∧q'=q):=by
 refine CallF.of func126 ntmps126 rfl (fun F cs=> ?_)
 refine xo 8 ?_;refine Zf call164 (Le.refl _) (Pj (hs.le leA) hn (hp.le leA)) ?_;rintro _ _ ⟨k,rfl,hk,rfl⟩
 refine ox 3 ?_;refine Zq (q) func126 (Zg results126 rfl) ⟨_,rfl,congrArg Value.bool hk,rfl⟩
end
section
variable {G:World}{q:List HP}{p pp n N:Nat}{g:FC}{σ:StC}
structure StSee (q:List HP) (p:Nat) (σ:StC):Prop where
 t:Cl q ⟨p,0+3,none⟩ (.slice σ.ha σ.ths.length σ.hc)
 r:Sees q σ.ha (σ.ths.flatMap trC)
theorem StSee.le {q q':List HP}(h:StSee q' p σ)(l:Le q q'):StSee q p σ:=⟨h.t.le l,h.r.le l⟩
set_option maxHeartbeats 1000000 in
theorem I3 {pb:Nat}(hb:Cl q ⟨pb,0,none⟩ (.pointer (some ⟨p,0,none⟩)))(hS:StSee q p σ)(hn:n<σ.ths.length)(hl:σ.ths.length≤8):CallF prog G 127 [.int .i64 (n:Int),.pointer (some ⟨pb,0,none⟩)] (q) (Ret fun v q'=>v= .bool (decide ((σ.ths.getD n zTC).st≠4))∧q'=q):=by
 refine CallF.of func127 ntmps127 rfl (fun F cs=> ?_)
 have hlen:=Zv Zy σ.ths;have hr:=hS.r;refine Yx (hr.le leA) (by rw [hlen];omega) (fun b1 o1 e_=> ?_)
 have ht:=hS.t;rw [e_] at hr ht;rw [Wl hn]
 refine xo 6 ?_;refine ld ?_ (hc:=(hb.le leA))
 refine oo 2 ?_;refine ld ?_ (hc:=(ht.le leA))
 refine oo 3 ?_;refine ld ?_ (hc:=(Cl.row (n:=n) hr leA Zy hn rfl 1 _ rfl))
 refine ox 3 ?_;refine Zq (q) func127 (Zg results127 rfl) ⟨_,rfl,congrArg Value.bool (by rw [Bool.eq_iff_iff];simp),rfl⟩
set_option maxHeartbeats 8000000 in
theorem ready_ok {y:PS}(hok:SS.ok g.er N σ.er)(hN:N≤900)(hn:n<σ.ths.length)(hTd:Kn q fun M=>TodoAt M σ.ths)(hy:y.s.er=(σ.er.th n).next)(hyA:Kn q fun M=>y.At M)(hg:y.s.er.good g.er.cn (σ.er.th n).loc.length)(hst:(σ.er.th n).st=1)(hk0: ¬σ.er.out.kind=4):CallF prog G 93 [.pointer (some ⟨p,0,none⟩),.int .i64 (n:Int),.pointer (some ⟨y.b,y.o,none⟩)] (stP p pp σ::(Zc σ++q)) (Ret fun v q'=>v= .bool (σ.er.can g.er.pr n)∧q'=stP p pp σ::(Zc σ++q)):=by
 refine CallF.of func93 ntmps93 rfl (fun F cs=> ?_)
 have hCs:=Kn.stC hyA;have hlen:=Zv Zy σ.ths;have h8:σ.ths.length≤8:=by have:=hok.t.2;rwa [StC.nth] at this
 obtain ⟨R,hR⟩: ∃ R,R=σ.er.can g.er.pr n:=⟨_,rfl⟩;rw [←hR];unfold SS.can at hR;dsimp only at hR;rw [←hy] at hR
 obtain ⟨yb,yo,ys⟩:=y;obtain ⟨kk,ln,cl,nm,wt,⟨ek,en,enm,esl,elo,eop,el,ea,ec⟩,⟨xk,xn,xnm,xsl,xlo,xop,xl,xa,xc⟩,bd,es2,ba,bc,ea2,ec2,id,sl,ot,lo_⟩:=ys
 dsimp only at hCs hR hg⊢;simp only [Stm.er] at hR;obtain ⟨hg1,hg2,_⟩:=hg;obtain ⟨hs1,hs2,hs3,hs6,hs8,hs8o,hs11,hs12,hs13⟩:=Yi hg2;obtain ⟨hz1,hz2,hz3⟩:=hok.z;have hz3l:(σ.er.sy.chans.length:Int)=g.er.cn.ch:=by have:=congrArg List.length hz3;rw [List.length_map] at this;show _=((g.chs.l.length:Nat):Int);rw [this];rfl
 rw [if_neg (by intro k;rcases k with k|k|k;exact hk0 k;omega;omega),if_neg (by omega)] at hR
 change X _ _ _ _ _ _ _ _ (pto p (.cells (Yt pp σ).toArray 98 (0,0))::lsH I64 2 σ.ca σ.cc σ.cells::yH σ.sp σ.sy::rsH trC 5 116 σ.ha σ.hc σ.ths::stars (σ.ths.map trH)::(q++F))
 have hys:σ.sy.ok N:=hok.y;rw [show σ.er.sy=σ.sy from rfl] at hR hz1 hz2 hz3 hz3l;replace hz1:(σ.sy.owners.length:Int)=g.er.cn.mu:=hz1;replace hz2:(σ.sy.conds.length:Int)=g.er.cn.co:=hz2
 refine xo 2 ?_;refine Y8 fun n1=> ?_
 refine oo 8 ?_;refine ld ?_ (hc:=((hCs.le leA) 0 _ rfl))
 refine ox 7 ?_;refine X.part 19 rfl (fun g1=> ?_) (fun g1=> ?_)
 · replace g1:=sp g1
   rw [if_pos (show kk=6 from g1)] at hR
   refine xx 2 ?_;refine drw ?_;refine ldD 0 ?_;refine dl [1,2] 3 ?_;refine dd [4,5,6] ?_;refine ldD 7 ?_ (hc:=((hCs.le leA) 22 _ rfl))
   refine Uy 8 call56 (Iw (m:=sl) hys (by omega)) ?_
   rintro _ _ ⟨rfl,rfl⟩ _ e_;simp only [ca,na] at e_;subst e_
   refine ⟨(hlA (h:=by repeat first|exact trivial|refine ⟨clA,?_⟩|refine ⟨(hCs.le leA) 0 _ rfl,?_⟩|refine ⟨(hCs.le leA) 21 _ rfl,?_⟩|refine ⟨(hCs.le leA) 22 _ rfl,?_⟩|refine ⟨(hCs.le leA) 23 _ rfl,?_⟩)),?_⟩
   refine dd [9,10,11,12,13] ?_;refine XD.nil ?_;refine xo 5 ?_;refine Zm [35,7,6,1] ?_
   apply Zb 4 39 35 rfl
   · intro g12 M12;have c12:=sp g12
     refine oo 4 ?_;exact Zz M12 ⟨orF g12,Zw⟩
   · intro g12 M12;have c12:=sp g12
     refine oo 4 ?_;exact Zz M12 ⟨orT g12,Zw⟩
   refine ox 2 ?_;refine Zq (stP p pp σ::(Zc σ++q)) func93 (Zg results93 rfl) ⟨_,rfl,congrArg Value.bool (by rw [hR];unfold Hx;rw [if_pos ⟨(hs6 (.inl g1)).1,by have:=(hs6 (.inl g1)).2;omega⟩];dsimp only;have ho:=hys.o _ (Y7 (d:=0) (i:=sl.toNat) (l:=σ.sy.owners) (by have:=(hs6 (.inl g1));omega));generalize σ.sy.owners.getD sl.toNat 0=ow at*;rw [Bool.eq_iff_iff];simp only [Bool.or_eq_true,decide_eq_true_eq,beq_iff_eq];omega),rfl⟩
 replace g1:=sp g1
 refine xx 6 ?_;refine X.part 40 rfl (fun g2=> ?_) (fun g2=> ?_)
 · replace g2:=sp g2
   rw [if_neg (by omega),if_pos (show kk=11 from g2)] at hR
   refine xx 2 ?_;refine drw ?_;refine ldD 0 ?_;refine dl [1,2] 3 ?_;refine dd [4,5,6] ?_;refine ldD 7 ?_ (hc:=((hCs.le leA) 22 _ rfl))
   refine Uy 8 call58 (Cu (k:=sl) hys (by omega)) ?_
   rintro _ _ ⟨av,cv,rfl,rfl⟩ _ e_;simp only [ca,na] at e_;subst e_
   refine ⟨(hlA (h:=by repeat first|exact trivial|refine ⟨clA,?_⟩|refine ⟨(hCs.le leA) 0 _ rfl,?_⟩|refine ⟨(hCs.le leA) 21 _ rfl,?_⟩|refine ⟨(hCs.le leA) 22 _ rfl,?_⟩|refine ⟨(hCs.le leA) 23 _ rfl,?_⟩)),?_⟩
   refine dd [9,10,11,12,13] ?_;refine XD.nil ?_;refine xx 1 ?_;refine drw ?_;refine ldD 0 ?_;refine dl [1,2] 3 ?_;refine dd [4,5,6] ?_;refine ldD 7 ?_ (hc:=((hCs.le leA) 22 _ rfl))
   refine Uy 8 call125 (Room_Y (k:=sl) hys (by omega)) ?_
   rintro _ _ ⟨rfl,rfl⟩ _ e_;simp only [ca,na] at e_;subst e_
   refine ⟨(hlA (h:=by repeat first|exact trivial|refine ⟨clA,?_⟩|refine ⟨(hCs.le leA) 0 _ rfl,?_⟩|refine ⟨(hCs.le leA) 21 _ rfl,?_⟩|refine ⟨(hCs.le leA) 22 _ rfl,?_⟩|refine ⟨(hCs.le leA) 23 _ rfl,?_⟩)),?_⟩
   refine dd [9,10,11,12,13] ?_;refine XD.nil ?_;refine xx 8 ?_;refine Zq (stP p pp σ::(Zc σ++q)) func93 (Zg results93 rfl) ⟨_,rfl,congrArg Value.bool (by rw [hR];unfold U7 R0;rw [if_pos ⟨(hs11 (.inl g2)).1,by have:=(hs11 (.inl g2)).2;omega⟩,if_pos ⟨(hs11 (.inl g2)).1,by have:=(hs11 (.inl g2)).2;omega⟩];dsimp only;rw [show g.er.pr.room=σ.sy.chans.map Ch.room from hz3.symm];rw [Sb (by have:=hs11 (.inl g2);omega)]),rfl⟩
 replace g2:=sp g2
 refine xx 6 ?_;refine X.part 70 rfl (fun g3=> ?_) (fun g3=> ?_)
 · replace g3:=sp g3
   rw [if_neg (by omega),if_neg (by omega),if_pos (show kk=12 from g3)] at hR
   refine xx 2 ?_;refine drw ?_;refine ldD 0 ?_;refine dl [1,2] 3 ?_;refine dd [4,5,6] ?_;refine ldD 7 ?_ (hc:=((hCs.le leA) 22 _ rfl))
   refine Uy 8 call58 (Cu (k:=sl) hys (by omega)) ?_
   rintro _ _ ⟨av,cv,rfl,rfl⟩ _ e_;simp only [ca,na] at e_;subst e_
   refine ⟨(hlA (h:=by repeat first|exact trivial|refine ⟨clA,?_⟩|refine ⟨(hCs.le leA) 0 _ rfl,?_⟩|refine ⟨(hCs.le leA) 21 _ rfl,?_⟩|refine ⟨(hCs.le leA) 22 _ rfl,?_⟩|refine ⟨(hCs.le leA) 23 _ rfl,?_⟩)),?_⟩
   refine dd [9,10,11,12,13] ?_;refine XD.nil ?_;refine xx 7 ?_;refine Zq (stP p pp σ::(Zc σ++q)) func93 (Zg results93 rfl) ⟨_,rfl,congrArg Value.bool (by rw [hR];unfold U7;rw [if_pos ⟨(hs11 (.inr g3)).1,by have:=(hs11 (.inr g3)).2;omega⟩];dsimp only;rw [Bool.eq_iff_iff];simp),rfl⟩
 replace g3:=sp g3
 refine xx 6 ?_;refine X.part 87 rfl (fun g4=> ?_) (fun g4=> ?_)
 · replace g4:=sp g4
   rw [if_neg (by omega),if_neg (by omega),if_neg (by omega),if_pos (show kk=14 from g4)] at hR
   refine Yz (l:=σ.ths) (by omega) (fun ga e_=> ?_);rw [e_]
   refine xj 3 ?_;refine ol 2 ?_;refine oo 1 ?_;refine XO.know 92 (.slice (some ⟨ga,0,none⟩) σ.ths.length σ.hc) rfl (by rw [←e_]) ?_
   refine oo 2 ?_;refine ld ?_ (hc:=(Cl.row (n:=n) (Sees.rsH _) leA Zy hn rfl 4 _ rfl))
   refine oo 1 ?_
   have hpS:=(hok.at hn).p;rw [←Zo hn] at hpS;have hspe:(σ.er.th n).sp=σ.ths[n].sp:=by rw [Zo hn];rfl
   rw [hspe] at hpS hR
   refine XO.cR call126 (Od (l:=σ.ths[n].sp) (u:=fun i=>decide ((σ.ths.getD i.toNat zTC).st≠4)) ((N1 hn).le leA) (by omega) (fun q1 l1 i hi=>by
    obtain ⟨k,rfl⟩:=Int.eq_ofNat_of_zero_le (hpS.2 i hi).1
    have hk:k<σ.ths.length:=by have:=(hpS.2 _ hi).2;omega
    exact CallV.c11 call127 (I3 (pb:=n1) (p:=p) (Cl.le (by exact clA) l1) (StSee.le ⟨by exact clA,by rw [e_];exact (Sees.rsH _).le leA⟩ l1) hk h8))) ?_
   refine Zt (Pu.not rfl) ?_;refine ox 2 ?_
   rw [←e_]
   refine Zq (stP p pp σ::(Zc σ++q)) func93 (Zg results93 rfl) ⟨_,rfl,congrArg Value.bool (by rw [hR,Bool.eq_iff_iff];simp only [Bool.not_eq_true',List.any_eq_false,List.all_eq_true,decide_eq_true_eq,beq_iff_eq,ne_eq,Decidable.not_not];constructor<;>(intro z i hi;have:=z i hi;have hk:i.toNat<σ.ths.length:=(by have:=hpS.2 i hi;omega);rw [Wl hk] at*;rw [Zo hk] at*;exact this)),rfl⟩
 replace g4:=sp g4
 refine xx 7 ?_;refine Zq (stP p pp σ::(Zc σ++q)) func93 (Zg results93 rfl) ⟨_,rfl,congrArg Value.bool (by rw [hR,if_neg (by omega),if_neg (by omega),if_neg (by omega),if_neg (by omega)]),rfl⟩
end
end Go.Proofs.YtflkjkhijcdbaaaGreat
