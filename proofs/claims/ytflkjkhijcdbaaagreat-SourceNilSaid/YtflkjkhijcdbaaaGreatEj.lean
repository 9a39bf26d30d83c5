/- Contracts of functions, proved by walking their code. -/
import Derived.Test.YtflkjkhijcdbaaaGreatEi
import Derived.KernelRfl
set_option maxRecDepth 100000
set_option linter.unusedVariables false
set_option linter.unusedSimpArgs false
namespace Go.Proofs.YtflkjkhijcdbaaaGreat
open Go Go.RowKit Wx Go.Proofs.Tryz
attribute [local irreducible] Wx.lsH Wx.rsH Wx.stars
theorem thsK {M:Hp}{l:List Th}{x:Th}(h:Ths.At M l)(hx:BlkAt M x.a x.c x.body):Ths.At M (l++ [x]):=fun y hy=>by
 rcases List.mem_append.1 hy with hy|hy
 · exact h y hy
 rw [List.mem_singleton.1 hy];exact hx
theorem Ths.At.mono {l:List Th}{M M':Hp}(e:Hle M M')(h:Ths.At M l):Ths.At M' l:=fun x hx=>(h x hx).mono e
def thsM (l:List Th):HP:=lst (fun M=>Ths.At M l) fun e h=>Ths.At.mono e h
theorem Kn.thsM {q:List HP}{l:List Th}:Kn (thsM l::q) fun M=>Ths.At M l:=Kn.here
structure CpOk (B:Nat) (g:FC):Prop where
 l:g.vars.l.length≤1000000∧g.arrs.l.length≤1000000∧g.chs.l.length≤1000000∧g.ths.l.length≤1000000∧g.nv.l.length≤1000000∧g.na.l.length≤1000000∧g.nm.l.length≤1000000∧g.nc.l.length≤1000000∧g.nh.l.length≤1000000
 b:B≤1000000
 t: ∀ x∈g.ths.l,Zg x.body≤1000000∧Wr B x.body
section
variable {G:World}{q:List HP}{g:FC}
set_option maxHeartbeats 8000000 in
theorem pcopy_ok {B:Nat}(hK:Kn q fun M=>g.At M)(hB:CpOk B g):CallF prog G 45 [.agg (pgC g).toArray] (q) (Ret fun v q'=> ∃ g':FC,g'.er=g.er∧v= .agg (pgC g').toArray∧q'=fcM g'::q):=by
 refine CallF.of func45 ntmps45 rfl (fun F cs=> ?_)
 obtain ⟨b1,b2,b3,b4,b5,b6,b7,b8,b9⟩:=hB.l
 have hV:=(Sv.sees (hK.imp fun M h=>h.vars));have hA:=(Sv.sees (hK.imp fun M h=>h.arrs));have hC:=(Sv.sees (hK.imp fun M h=>h.chs));rw [U1] at hV hA hC
 have hT:=Sv.sees (hK.imp fun M h=>h.ths);have hlen:=Zv Qd g.ths.l
 have h_nv:=Sv.sees (hK.imp fun M h=>h.nv);rw [Vs] at h_nv
 have h_na:=Sv.sees (hK.imp fun M h=>h.na);rw [Vs] at h_na
 have h_nm:=Sv.sees (hK.imp fun M h=>h.nm);rw [Vs] at h_nm
 have h_nc:=Sv.sees (hK.imp fun M h=>h.nc);rw [Vs] at h_nc
 have h_nh:=Sv.sees (hK.imp fun M h=>h.nh);rw [Vs] at h_nh
 refine xo 2 ?_;refine Y2 fun n1=> ?_
 refine XO.al zeroValue29 fun n2=> ?_
 refine oo 3 ?_;refine ldA ?_;refine XO.al zeroValue29 fun n3=> ?_
 refine stA ?_;refine ox 2 ?_;refine drw ?_;refine dl [0] 1 ?_;refine dl [3] 4 ?_;refine dl [6] 7 ?_;refine Ww 2 call50 (Le.refl _) (U5 (l:=g.vars.l) (hV.le leA) (by omega)) ?_
 rintro _ _ ⟨a1,d1,rfl,rfl⟩
 refine ⟨hlA,?_⟩
 refine dd [9] ?_;refine Ww 5 call70 (Le.refl _) (J9 (l:=g.arrs.l) (hA.le leA) (by omega)) ?_
 rintro _ _ ⟨a2,d2,rfl,rfl⟩
 refine ⟨hlA,?_⟩
 refine Ww 8 call70 (Le.refl _) (J9 (l:=g.chs.l) (hC.le leA) (by omega)) ?_
 rintro _ _ ⟨a3,d3,rfl,rfl⟩
 refine ⟨trivial,?_⟩
 refine stD 10 ?_;refine dd [11] ?_;refine stD 12 ?_;refine dd [13] ?_;refine stD 14 ?_;refine XD.nil ?_;refine xj 3 ?_;refine Zb call81 (Le.refl _) (Oe (l:=g.ths.l) (hT.le leA) (by omega)) ?_
 rintro _ _ ⟨a4,d4,rfl,rfl⟩
 refine oo 1 ?_;refine st ?_;refine ol 5 ?_;refine ox 4 ?_;refine X.at (X.loop (fun (s:Nat×List Th)=>s.1≤g.ths.l.length∧s.2.length=s.1∧s.2.map Th.er=(g.ths.l.take s.1).map Th.er) (fun s=> [(2,.pointer (some ⟨n2,0,none⟩)),(3,.pointer (some ⟨n3,0,none⟩)),(1,.pointer (some ⟨n1,0,none⟩)),(25,.slice g.ths.a g.ths.l.length g.ths.c),(26,.int .i64 (g.ths.l.length:Int)),(27,.int .i64 (s.1:Int))]) (fun s=>pto n3 (.cells [.slice a1 g.vars.l.length d1,.slice a2 g.arrs.l.length d2,.int .i64 g.mu,.int .i64 g.co,.slice a3 g.chs.l.length d3,.slice a4 g.ths.l.length d4,.int .i64 g.main,.int .i64 g.stm,g.nv.v,g.na.v,g.nm.v,g.nc.v,g.nh.v].toArray 29 (0,0))::pto n2 (.cells [.slice none 0 0,.slice none 0 0,.int .i64 0,.int .i64 0,.slice none 0 0,.slice none 0 0,.int .i64 0,.int .i64 0,.slice none 0 0,.slice none 0 0,.slice none 0 0,.slice none 0 0,.slice none 0 0].toArray 29 (0,0))::pto n1 (.cells [g.vars.v,g.arrs.v,.int .i64 g.mu,.int .i64 g.co,g.chs.v,g.ths.v,.int .i64 g.main,.int .i64 g.stm,g.nv.v,g.na.v,g.nm.v,g.nc.v,g.nh.v].toArray 29 (0,0))::lsH I64 2 a1 d1 g.vars.l::lsH I64 3 a2 d2 g.arrs.l::lsH I64 3 a3 d3 g.chs.l::rsH thC 3 55 a4 d4 (s.2++g.ths.l.drop s.1)::thsM s.2::(q++F)) (fun s=>g.ths.l.length - s.1) (fun s hi_ ih=> ?_) (0, []) ⟨Nat.zero_le _,rfl,rfl⟩) Zu (Le.trans leA (Le.trans (Kn.add (φ:=fun M=>Ths.At M []) (mn:=fun e h=>Ths.At.mono e h) (fun _ _ _ _ h=>by cases h)) leA))
 try dsimp only at hi_ ih⊢
 obtain ⟨hi1,hi2,hi3⟩:=hi_
 obtain ⟨i,T1⟩:=s;dsimp only at*
 refine xx 5 ?_;refine X.part 28 rfl (fun h0=> ?_) (fun h0=> ?_)
 · replace h0:=sp h0;have hlt:i<g.ths.l.length:=(by omega)
   obtain ⟨y,hy⟩: ∃ y,y=g.ths.l[i]:=⟨_,rfl⟩;have hyb:=hB.t y (hy ▸ List.getElem_mem hlt)
   refine Yb (hT.le leA) (by rw [hlen];omega) (fun ab ao e_=> ?_);rw [e_] at hT;rw [e_]
   refine Yk (l:=T1++g.ths.l.drop i) (by rw [List.length_append,List.length_drop];omega) (fun g4 e4=> ?_);subst e4
   refine xo 8 ?_;refine Mh (n:=i) isAgg55 sizeOf55 hT hlt ?_
   refine XO.al zeroValue55 fun n4=> ?_
   refine oo 1 ?_;refine stA ?_;refine ox 1 ?_;refine drw ?_;refine dl [0] 1 ?_;refine dl [2,3] 4 ?_;refine XD.know 36 (.slice y.a y.body.length y.c) rfl (by rw [hy]) ?_
   refine Ww 5 call82 (Le.refl _) (G0 (l:=y.body) (a:=y.a) (c:=y.c) hB.b hyb.1 hyb.2 ((hK.le leA).imp fun M h=>h.bod y (hy ▸ List.getElem_mem hlt))) ?_
   rintro _ _ ⟨l2,a2_,c2_,hl2,rfl,rfl⟩
   refine ⟨hlA,?_⟩
   refine dd [6,7] ?_;refine XD.ef0 8 rfl (Yi (g:=g4) (f:=thC) (l:=T1++g.ths.l.drop i) (u:= { y with body:=l2,a:=a2_,c:=c2_ }) (n:=i) (k:=2) (j:=(i:Int)) rfl rfl sizeOf53 Qd rfl (by rw [List.length_append,List.length_drop];omega) rfl (by rw [show (T1++g.ths.l.drop i)[i]'(by rw [List.length_append,List.length_drop];omega)=y by rw [List.getElem_append_right (by omega)];simp [hi2,hy]];rfl) rfl rfl Zk) ?_
   rintro _ _ ⟨rfl,rfl⟩
   refine ⟨trivial,?_⟩
   refine XD.nil ?_;refine xx 5 ?_
   rw [T9 T1 (g.ths.l.drop i) i _ hi2 (by rw [List.length_drop];omega),List.drop_drop]
   refine X.le (q':=thsM (T1++ [{ y with body:=l2,a:=a2_,c:=c2_ }])::_) (Le.trans (Le.pick Zk Zk) (Le.trans (Kn.add (φ:=fun M=>Ths.At M (T1++ [{ y with body:=l2,a:=a2_,c:=c2_ }])) (mn:=fun e h=>Ths.At.mono e h) ((Kn.thsM.and Kn.blM.there).imp fun M h=>thsK h.1 h.2)) (Le.cons _ ((Le.drop _ _).trans (Le.drop _ _))))) ?_
   rw [←e_]
   refine X.at (ih (i+1,T1++ [{ y with body:=l2,a:=a2_,c:=c2_ }]) ⟨by dsimp only;omega,by dsimp only;rw [List.length_append];simp [hi2],by dsimp only;rw [List.take_succ_eq_append_getElem hlt,List.map_append,List.map_append,hi3,←hy];simp only [List.map_cons,List.map_nil,Th.er,hl2]⟩ (by dsimp only;omega)) Zu leA
 replace h0:=sp h0;obtain rfl:i=g.ths.l.length:=(by omega);rw [List.take_length] at hi3;rw [List.drop_length,List.append_nil];clear ih
 refine xo 5 ?_;refine ldA ?_;refine XO.al zeroValue27 fun n4=> ?_
 refine stA ?_;refine ox 2 ?_;refine drw ?_;refine dl [0] 1 ?_;refine dl [3] 4 ?_;refine dl [6] 7 ?_;refine dl [9] 10 ?_;refine dl [12] 13 ?_;refine Ww 2 call83 (Le.refl _) (Kq (l:=g.nv.l) (h_nv.le leA) (by omega)) ?_
 rintro _ _ ⟨a_nv,d_nv,rfl,rfl⟩
 refine ⟨hlA,?_⟩
 refine Ww 5 call83 (Le.refl _) (Kq (l:=g.na.l) (h_na.le leA) (by omega)) ?_
 rintro _ _ ⟨a_na,d_na,rfl,rfl⟩
 refine ⟨hlA,?_⟩
 refine Ww 8 call83 (Le.refl _) (Kq (l:=g.nm.l) (h_nm.le leA) (by omega)) ?_
 rintro _ _ ⟨a_nm,d_nm,rfl,rfl⟩
 refine ⟨hlA,?_⟩
 refine Ww 11 call83 (Le.refl _) (Kq (l:=g.nc.l) (h_nc.le leA) (by omega)) ?_
 rintro _ _ ⟨a_nc,d_nc,rfl,rfl⟩
 refine ⟨hlA,?_⟩
 refine Ww 14 call83 (Le.refl _) (Kq (l:=g.nh.l) (h_nh.le leA) (by omega)) ?_
 rintro _ _ ⟨a_nh,d_nh,rfl,rfl⟩
 refine ⟨trivial,?_⟩
 refine dd [15,16] ?_;refine V9 17 ?_;refine XD.nil ?_;refine xo 2 ?_;refine ldA ?_;refine stA ?_;refine ox 1 ?_;refine Qu U1 (f':=iC) (l:=g.vars.l) (a:=a1) (c:=d1) (fe:=I64) (ty:=2) ?_
 refine Qu U1 (f':=iC) (l:=g.arrs.l) (a:=a2) (c:=d2) (fe:=I64) (ty:=3) ?_
 refine Qu U1 (f':=iC) (l:=g.chs.l) (a:=a3) (c:=d3) (fe:=I64) (ty:=3) ?_
 refine Qu Vs (f':=sC) (l:=g.nv.l) (a:=a_nv) (c:=d_nv) (fe:=Value.string) (ty:=9) ?_
 refine Qu Vs (f':=sC) (l:=g.na.l) (a:=a_na) (c:=d_na) (fe:=Value.string) (ty:=9) ?_
 refine Qu Vs (f':=sC) (l:=g.nm.l) (a:=a_nm) (c:=d_nm) (fe:=Value.string) (ty:=9) ?_
 refine Qu Vs (f':=sC) (l:=g.nc.l) (a:=a_nc) (c:=d_nc) (fe:=Value.string) (ty:=9) ?_
 refine Qu Vs (f':=sC) (l:=g.nh.l) (a:=a_nh) (c:=d_nh) (fe:=Value.string) (ty:=9) ?_
 refine Cq (f:=thC) (sz:=3) (ty:=55) (l:=T1) (a:=a4) (c:=d4) ?_
 obtain ⟨g2,hg2⟩: ∃ g2:FC,g2=(⟨⟨g.vars.l,a1,d1⟩,⟨g.arrs.l,a2,d2⟩,g.mu,g.co,⟨g.chs.l,a3,d3⟩,⟨T1,a4,d4⟩,g.main,g.stm,⟨g.nv.l,a_nv,d_nv⟩,⟨g.na.l,a_na,d_na⟩,⟨g.nm.l,a_nm,d_nm⟩,⟨g.nc.l,a_nc,d_nc⟩,⟨g.nh.l,a_nh,d_nh⟩,g.names,g.cells,g.locals,g.most,g.pl,g.pc,g.flaw⟩:FC):=⟨_,rfl⟩
 have hlen1:T1.length=g.ths.l.length:=by have:=congrArg List.length hi3;simpa using this
 refine X.le (q':=fcM g2::_) (Le.trans (b:=svM thC ⟨T1,a4,d4⟩::svM sC ⟨g.nh.l,a_nh,d_nh⟩::svM sC ⟨g.nc.l,a_nc,d_nc⟩::svM sC ⟨g.nm.l,a_nm,d_nm⟩::svM sC ⟨g.na.l,a_na,d_na⟩::svM sC ⟨g.nv.l,a_nv,d_nv⟩::svM iC ⟨g.chs.l,a3,d3⟩::svM iC ⟨g.arrs.l,a2,d2⟩::svM iC ⟨g.vars.l,a1,d1⟩::thsM T1::_) (Le.pick Zk (Le.pick Zk (Le.pick Zk (Le.pick Zk (Le.pick Zk (Le.pick Zk (Le.pick Zk (Le.pick Zk (Le.pick Zk Zk))))))))) (Kn.add (φ:=fun M=>g2.At M) (mn:=fun e h=>FC.At.mono e h) ?hk_)) ?_
 case hk_=>
  exact ((Kn.here.and (Kn.here.there.and (Kn.here.there.there.and (Kn.here.there.there.there.and (Kn.here.there.there.there.there.and (Kn.here.there.there.there.there.there.and (Kn.here.there.there.there.there.there.there.and (Kn.here.there.there.there.there.there.there.there.and (Kn.here.there.there.there.there.there.there.there.there.and (Kn.thsM.there.there.there.there.there.there.there.there.there.and ((hK.le leA)))))))))))).imp fun M ⟨k0,k1,k2,k3,k4,k5,k6,k7,k8,k9,k10⟩=>by
   rw [hg2];exact ⟨k8,k7,k6,k0,k9,k5,k4,k3,k2,k1,k10.names⟩)
 refine Zq (fcM g2::q) func45 (rA_ results45) ⟨_,rfl,g2,by rw [hg2];simp only [FC.er,hi3],by rw [hg2,←hlen1];rfl,rfl⟩
end
structure Cn where
 v:Int
 a:Int
 mu:Int
 co:Int
 ch:Int
 th:Int
def Fnd.cn (f:Fnd):Cn:=⟨f.vars.length,f.arrs.length,f.mu,f.co,f.chs.length,f.ths.length⟩
def inB (n c:Int):Bool:=decide (0≤n∧n<c)
def V1 (c:Cn)(lo slot:Int)(loc:Bool):Bool:=inB slot (if loc=true then lo else c.v)
def V2 (c:Cn)(lo k n slot:Int)(loc:Bool)(op:Int):Int:=
 if k=1 then (if val n then 0 else -1) else if k=2 then (if V1 c lo slot loc=true then 0 else -1) else if k=3 then (if inB slot c.a=true then 1 else -1)
 else if k=4∨k=5 then 1 else if k=6 then (if 1≤op∧op≤11 then 2 else -1) else -1
mutual
def PEx.ask (c:Cn)(lo:Int):PEx→Int→Bool
 | .mk k n _ slot loc op args,d=>decide (1≤d) && decide ((args.length:Int)=V2 c lo k n slot loc op) && Q8 c lo args (d - 1)
def Q8 (c:Cn)(lo:Int):List PEx→Int→Bool
 | [],_=>true
 |e::r,d=>e.ask c lo d && Q8 c lo r d
end
def Nx (c:Cn)(lo k:Int)(e ix:PEx)(nb ne:Nat):Bool:=
 (decide (k=4∨k=5)|| !decide (0<(nb:Int))) && (k==4|| !decide (0<(ne:Int))) && (k !=3||ix.ask c lo 24) && (!decide ((1≤k∧k≤5)∨k=11∨k=15)||e.ask c lo 24)
def Nq (c:Cn)(lo k slot other:Int)(loc:Bool):Bool:=
 if k=1 then loc && V1 c lo slot loc else if k=2 then V1 c lo slot loc else if k=3 then inB slot c.a else if k=6∨k=7 then inB slot c.mu
 else if k=8 then inB slot c.co && inB other c.mu else if k=9∨k=10 then inB slot c.co else if k=11 then inB slot c.ch else if k=12 then inB slot c.ch && V1 c lo other loc
 else if k=13 then inB slot c.th else decide (k=4∨k=5∨k=14∨k=15)
mutual
/-- Statements by their numbers from n on: the number behind them; none: they may not be. -/
def PStm.ask (c:Cn)(lo:Int):PStm→Int→Int→Option Int
 | .mk k _ _ _ _ e ix body els id slot other loc,d,n=>
  if 24<d∨n=512∨id≠n then none
  else if (Nx c lo k e ix body.length els.length && Nq c lo k slot other loc)=true then
   match Z1 c lo body (d+1) (n+1) with
   |none=>none
   |some m=>Z1 c lo els (d+1) m
  else none
def Z1 (c:Cn)(lo:Int):List PStm→Int→Int→Option Int
 | [],_,n=>some n
 |s::r,d,n=>match s.ask c lo d n with
  |none=>none
  |some m=>Z1 c lo r d m
end
def We (c:Cn):List PTh→Int→Option Int
 | [],n=>some n
 |t::r,n=>if t.loc<0∨32<t.loc then none else match Z1 c t.loc t.body 1 n with
  |none=>none
  |some m=>We c r m
def E0 (f:Fnd):Bool:=
 decide ((0≤f.mu∧f.mu≤64)∧(0≤f.co∧f.co≤64)∧f.vars.length+f.arrs.length+f.mu+f.co+f.chs.length+f.ths.length≤64∧(∀ v∈f.vars,val v)∧(∀ n∈f.arrs,1≤n∧n≤256)∧(∀ n∈f.chs,1≤n∧n≤16)∧Y8 f.arrs≤256)
def Bj (f:Fnd):Bool:=E0 f && inB f.main f.ths.length && (We f.cn f.ths 0==some f.stm)
theorem g_th (g:FC):(g.er.ths.length:Int)=g.ths.l.length:=by show ((g.ths.l.map Th.er).length:Int)=_;rw [List.length_map]
theorem Np (g:FC):g.er.cn.v=g.vars.l.length:=rfl
theorem Nu (g:FC):g.er.cn.a=g.arrs.l.length:=rfl
theorem cn_ch (g:FC):g.er.cn.ch=g.chs.l.length:=rfl
theorem cn_mu (g:FC):g.er.cn.mu=g.mu:=rfl
theorem cn_co (g:FC):g.er.cn.co=g.co:=rfl
theorem cn_th (g:FC):g.er.cn.th=g.ths.l.length:=g_th g
theorem Nd {c:Cn}{lo d:Int}: ∀ {l:List PEx},Q8 c lo l d=true↔ ∀ e∈l,e.ask c lo d=true
 | []=>by simp [Q8]
 |e::r=>by simp [Q8,Nd (l:=r)]
section
variable {G:World}{q:List HP}{n c lo d:Int}{bb:Bool}{pa pp b o:Nat}{x1:Value}{g:FC}
set_option maxHeartbeats 2000000 in
theorem Qk: ∀ (N:Nat) {e:Ex} {b o:Nat} {d:Int} {q:List HP},e.sz≤N→N≤1000000→(0≤d∧d≤24)→(Kn q fun M=>ExAt M ⟨b,o,none⟩ e)→CellsAt q pa 0 [.pointer (some ⟨pp,0,none⟩),x1,.int .i64 lo]→CellsAt q pp 0 (pgC g)→CallF prog G 158 [.pointer (some ⟨pa,0,none⟩),.pointer (some ⟨b,o,none⟩),.int .i64 d] (q) (Ret fun v q'=>v= .bool (e.er.ask g.er.cn lo d)∧q'=q):=fun N=>by
 induction N with
 |zero=>intro e b o d q hs;exact absurd hs (by cases e;simp only [Ex.sz];omega)
 |succ N IH=> 
 intro e b o d q hs hN hd hK ha hp
 obtain ⟨ek,en,enm,esl,elo,eop,el,ea,ec⟩:=e
 refine CallF.of func158 ntmps158 rfl (fun F cs=> ?_)
 have hp2:CellsAt q pp 0 [.slice g.vars.a g.vars.l.length g.vars.c,.slice g.arrs.a g.arrs.l.length g.arrs.c,.int .i64 g.mu,.int .i64 g.co,.slice g.chs.a g.chs.l.length g.chs.c,.slice g.ths.a g.ths.l.length g.ths.c,.int .i64 g.main,.int .i64 g.stm]:=fun k v hk=>hp k v (by revert hk;match k with|0|1|2|3|4|5|6|7=>exact fun h=>h|(k+8)=>intro h;cases h)
 have hCe:=Kn.exC hK;have hA:Kn q fun M=>SlAt M ea ec el.length (el.flatMap exC)∧Ex.Ats M el:=hK.imp fun M h=>h.2;have hS:=Kn.sees (hA.imp fun M h=>h.1.2.2)
 have hl:el.length+1≤N+1:=by have:=Ma el;simp only [Ex.sz] at hs;omega
 have hlen:=Zv Z4 el
 obtain ⟨R,hR⟩: ∃ R,R=(Ex.er (Ex.mk ek en enm esl elo eop el ea ec)).ask g.er.cn lo d:=⟨_,rfl⟩;rw [←hR];simp only [Ex.er,PEx.ask,W4] at hR
 refine xx 10 ?_;refine X.part 10 rfl (fun h0=> ?_) (fun h0=> ?_)
 · replace h0:=sp h0
   refine xx 5 ?_;refine Zq (q) func158 (Zm results158 rfl) ⟨_,rfl,congrArg Value.bool (by rw [hR,decide_eq_false (by omega)];rfl),rfl⟩
 replace h0:=sp h0;rw [decide_eq_true (by omega),Bool.true_and] at hR
 refine xo 12 ?_;refine ld ?_ (hc:=((hCe.le leA) 0 _ rfl))
 refine ox 1 ?_;refine X.join (fun (x:Int)=> [(0,.pointer (some ⟨pa,0,none⟩)),(1,.pointer (some ⟨b,o,none⟩)),(2,.int .i64 d),(7,.int .i64 x)]) (fun x=>q++F) (fun x=>V2 g.er.cn lo ek en esl elo eop=x∧(0≤x∧x≤2)) (fun x hx_=> ?_) (fun K=> ?_)
 · obtain ⟨hx1,hx2⟩:=hx_;rw [hx1] at hR
   refine xo 6 ?_;refine ld ?_ (hc:=((hCe.le leA) 6 _ rfl))
   refine ox 4 ?_;refine X.part 81 rfl (fun h1=> ?_) (fun h1=> ?_)
   · replace h1:=sp h1
     refine xx 5 ?_;refine Zq (q) func158 (Zm results158 rfl) ⟨_,rfl,congrArg Value.bool (by rw [hR,decide_eq_false (by omega)];rfl),rfl⟩
   replace h1:=sp h1;rw [decide_eq_true (by omega),Bool.true_and] at hR
   refine xo 8 ?_;refine ld ?_ (hc:=((hCe.le leA) 6 _ rfl))
   refine ox 4 ?_;refine X.at (X.loop (fun (s:Nat)=>s≤el.length∧ ∀ e∈el.take s,e.er.ask g.er.cn lo (d - 1)=true) (fun s=> [(0,.pointer (some ⟨pa,0,none⟩)),(1,.pointer (some ⟨b,o,none⟩)),(2,.int .i64 d),(86,.int .i64 (el.length:Int)),(87,.int .i64 (s:Int))]) (fun s=>q++F) (fun s=>el.length - s) (fun s hi_ ih=> ?_) 0 ⟨Nat.zero_le _,by simp⟩) Zu leA
   try dsimp only at hi_ ih⊢
   obtain ⟨hi1,hi2⟩:=hi_
   refine xx 5 ?_;refine X.part 88 rfl (fun h2=> ?_) (fun h2=> ?_)
   · replace h2:=sp h2;have hlt:s<el.length:=(by omega)
     refine Yb (hS.le leA) (by rw [hlen];omega) (fun ab ao e_=> ?_);subst e_
     have hKx:Kn q fun M=>ExAt M ⟨ab,ao+(s:Int).toNat*7,none⟩ el[s]:=hK.imp fun M h=>by
      obtain ⟨b',o',e1,e2⟩:=SeesZ.row Z4 (by decide) h.2.1.2.2 hlt
      cases e1
      exact ⟨e2,Yo.1 h.2.2 _ (List.getElem_mem hlt)⟩
     have hxs:el[s].sz≤N:=by have:=W8 (List.getElem_mem hlt);simp only [Ex.sz] at hs;omega
     refine xo 15 ?_;refine ld ?_ (hc:=((hCe.le leA) 6 _ rfl))
     refine oo 4 ?_;refine XO.cR call158 (IH (e:=el[s]) (d:=d - 1) hxs (by omega) (by omega) (hKx.le leA) (ha.le leA) (hp.le leA)) ?_
     refine XO.pu (Pu.not rfl) ?_;refine ox 1 ?_;refine X.part 100 rfl (fun h3=> ?_) (fun h3=> ?_)
     · replace h3:=sp h3
       refine xx 5 ?_;refine Zq (q) func158 (Zm results158 rfl) ⟨_,rfl,congrArg Value.bool (by rw [hR];symm;rw [Bool.eq_false_iff];intro k;exact absurd (Nd.1 k _ (by rw [Yy];exact List.mem_map_of_mem (List.getElem_mem hlt))) (by simpa using h3)),rfl⟩
     replace h3:=sp h3
     refine xx 7 ?_
     refine X.at (ih (s+1) ⟨by omega,fun e he=>by
      rw [List.take_succ_eq_append_getElem hlt] at he
      rcases List.mem_append.1 he with he|he
      · exact hi2 e he
      rw [List.mem_singleton.1 he];simpa using h3⟩ (by omega)) Zu leA
   replace h2:=sp h2;obtain rfl:s=el.length:=(by omega);rw [List.take_length] at hi2
   refine xx 6 ?_;refine Zq (q) func158 (Zm results158 rfl) ⟨_,rfl,congrArg Value.bool (by rw [hR];symm;rw [Nd,Yy];intro e he;obtain ⟨z,hz,rfl⟩:=List.mem_map.1 he;exact hi2 z hz),rfl⟩
 skip
 refine xx 6 ?_;refine X.part 15 rfl (fun g1=> ?_) (fun g1=> ?_)
 · replace g1:=sp g1
   refine xo 6 ?_;refine ld ?_ (hc:=((hCe.le leA) 1 _ rfl))
   refine oo 2 ?_;refine Zh [22,7,6,0,1,2] ?_
   apply Zy 6 28 22 rfl
   · intro g12 M12;have h12:=sp g12
     refine oo 3 ?_;refine ld ?_ (hc:=((hCe.le leA) 1 _ rfl))
     refine oo 2 ?_;exact Zz M12 ⟨orF g12,Zw⟩
   · intro g12 M12;have h12:=sp g12
     refine oo 6 ?_;exact Zz M12 ⟨orT g12,Zw⟩
   refine ox 1 ?_;refine X.part 28 rfl (fun g3=> ?_) (fun g3=> ?_)
   · replace g3:=sp g3
     refine xx 5 ?_;refine Zq (q) func158 (Zm results158 rfl) ⟨_,rfl,congrArg Value.bool (by rw [hR];symm;have hz:V2 g.er.cn lo ek en esl elo eop= -1:=(by unfold V2;unfold V1 inB;rw [Np,Nu];unfold val;first|(simp_all;done)|(simp_all;omega)|((repeat' split)<;>first|rfl|omega|(exfalso;simp_all;done)|(exfalso;simp_all;omega)));rw [hz,decide_eq_false (by omega)];rfl),rfl⟩
   replace g3:=sp g3
   refine xx 3 ?_;exact X.at (K 0 ⟨by unfold V2;unfold V1 inB;rw [Np,Nu];unfold val;first|(simp_all;done)|(simp_all;omega)|((repeat' split)<;>first|rfl|omega|(exfalso;simp_all;done)|(exfalso;simp_all;omega)),by omega⟩) Zu leA
 replace g1:=sp g1
 refine xx 6 ?_;refine X.part 29 rfl (fun g2=> ?_) (fun g2=> ?_)
 · replace g2:=sp g2
   refine xx 2 ?_;refine drw ?_;refine dd [0,1,2,3] ?_;refine ldD 4 ?_ (hc:=((hCe.le leA) 3 _ rfl))
   refine dd [5,6,7] ?_;refine ldD 8 ?_ (hc:=((hCe.le leA) 4 _ rfl))
   refine Y0 9 call159 (Rw (ha.le leA) (hp.le leA)) ?_;refine XD.pu 10 rfl (Pu.not rfl) ?_;refine XD.nil ?_;refine X.part 41 rfl (fun g3=> ?_) (fun g3=> ?_)
   · replace g3:=sp g3
     refine xx 5 ?_;refine Zq (q) func158 (Zm results158 rfl) ⟨_,rfl,congrArg Value.bool (by rw [hR];symm;have hz:V2 g.er.cn lo ek en esl elo eop= -1:=(by unfold V2;unfold V1 inB;rw [Np,Nu];unfold val;first|(simp_all;done)|(simp_all;omega)|((repeat' split)<;>first|rfl|omega|(exfalso;simp_all;done)|(exfalso;simp_all;omega)));rw [hz,decide_eq_false (by omega)];rfl),rfl⟩
   replace g3:=sp g3
   refine xx 3 ?_;exact X.at (K 0 ⟨by unfold V2;unfold V1 inB;rw [Np,Nu];unfold val;first|(simp_all;done)|(simp_all;omega)|((repeat' split)<;>first|rfl|omega|(exfalso;simp_all;done)|(exfalso;simp_all;omega)),by omega⟩) Zu leA
 replace g2:=sp g2
 refine xx 6 ?_;refine X.part 42 rfl (fun g3=> ?_) (fun g3=> ?_)
 · replace g3:=sp g3
   refine xx 6 ?_;refine drw ?_;refine dd [0,1,2] ?_;refine ldD 3 ?_ (hc:=((hCe.le leA) 3 _ rfl))
   refine dd [4,5,6] ?_;refine ldD 7 ?_ (hc:=((ha.le leA) 0 _ rfl))
   refine dd [8,9] ?_;refine ldD 10 ?_ (hc:=((hp2.le leA) 1 _ rfl))
   refine dd [11] ?_;refine Y0 12 call79 (Jy) ?_ (hL:=(hlA (h:=by repeat first|exact trivial|refine ⟨clA,?_⟩|refine ⟨(ha.le leA) 0 _ rfl,?_⟩|refine ⟨(ha.le leA) 2 _ rfl,?_⟩|refine ⟨(hp2.le leA) 0 _ rfl,?_⟩|refine ⟨(hp2.le leA) 1 _ rfl,?_⟩|refine ⟨(hp2.le leA) 2 _ rfl,?_⟩|refine ⟨(hp2.le leA) 3 _ rfl,?_⟩|refine ⟨(hp2.le leA) 4 _ rfl,?_⟩|refine ⟨(hp2.le leA) 5 _ rfl,?_⟩|refine ⟨(hCe.le leA) 0 _ rfl,?_⟩|refine ⟨(hCe.le leA) 1 _ rfl,?_⟩|refine ⟨(hCe.le leA) 2 _ rfl,?_⟩|refine ⟨(hCe.le leA) 3 _ rfl,?_⟩|refine ⟨(hCe.le leA) 4 _ rfl,?_⟩|refine ⟨(hCe.le leA) 5 _ rfl,?_⟩|refine ⟨(hCe.le leA) 6 _ rfl,?_⟩)))
   refine XD.pu 13 rfl (Pu.not rfl) ?_;refine XD.nil ?_;refine X.part 57 rfl (fun g4=> ?_) (fun g4=> ?_)
   · replace g4:=sp g4
     refine xx 5 ?_;refine Zq (q) func158 (Zm results158 rfl) ⟨_,rfl,congrArg Value.bool (by rw [hR];symm;have hz:V2 g.er.cn lo ek en esl elo eop= -1:=(by unfold V2;unfold V1 inB;rw [Np,Nu];unfold val;first|(simp_all;done)|(simp_all;omega)|((repeat' split)<;>first|rfl|omega|(exfalso;simp_all;done)|(exfalso;simp_all;omega)));rw [hz,decide_eq_false (by omega)];rfl),rfl⟩
   replace g4:=sp g4
   refine xx 3 ?_;exact X.at (K 1 ⟨by unfold V2;unfold V1 inB;rw [Np,Nu];unfold val;first|(simp_all;done)|(simp_all;omega)|((repeat' split)<;>first|rfl|omega|(exfalso;simp_all;done)|(exfalso;simp_all;omega)),by omega⟩) Zu leA
 replace g3:=sp g3
 refine xx 7 ?_;refine X.part 58 rfl (fun g4=> ?_) (fun g4=> ?_)
 · replace g4:=sp g4
   refine xx 7 ?_;exact X.at (K 1 ⟨by unfold V2;unfold V1 inB;rw [Np,Nu];unfold val;first|(simp_all;done)|(simp_all;omega)|((repeat' split)<;>first|rfl|omega|(exfalso;simp_all;done)|(exfalso;simp_all;omega)),by omega⟩) Zu leA
 replace g4:=sp g4
 refine xx 5 ?_;refine X.part 58 rfl (fun g5=> ?_) (fun g5=> ?_)
 · replace g5:=sp g5
   refine xx 5 ?_;exact X.at (K 1 ⟨by unfold V2;unfold V1 inB;rw [Np,Nu];unfold val;first|(simp_all;done)|(simp_all;omega)|((repeat' split)<;>first|rfl|omega|(exfalso;simp_all;done)|(exfalso;simp_all;omega)),by omega⟩) Zu leA
 replace g5:=sp g5
 refine xx 6 ?_;refine X.part 61 rfl (fun g6=> ?_) (fun g6=> ?_)
 · replace g6:=sp g6
   refine xo 10 ?_;refine ld ?_ (hc:=((hCe.le leA) 5 _ rfl))
   refine oo 2 ?_;refine Zh [68,7,6,0,1,2] ?_
   apply Zy 6 74 68 rfl
   · intro g17 M17;have h17:=sp g17
     refine oo 3 ?_;refine ld ?_ (hc:=((hCe.le leA) 5 _ rfl))
     refine oo 2 ?_;exact Zz M17 ⟨orF g17,Zw⟩
   · intro g17 M17;have h17:=sp g17
     refine oo 6 ?_;exact Zz M17 ⟨orT g17,Zw⟩
   refine ox 1 ?_;refine X.part 74 rfl (fun g8=> ?_) (fun g8=> ?_)
   · replace g8:=sp g8
     refine xx 5 ?_;refine Zq (q) func158 (Zm results158 rfl) ⟨_,rfl,congrArg Value.bool (by rw [hR];symm;have hz:V2 g.er.cn lo ek en esl elo eop= -1:=(by unfold V2;unfold V1 inB;rw [Np,Nu];unfold val;first|(simp_all;done)|(simp_all;omega)|((repeat' split)<;>first|rfl|omega|(exfalso;simp_all;done)|(exfalso;simp_all;omega)));rw [hz,decide_eq_false (by omega)];rfl),rfl⟩
   replace g8:=sp g8
   refine xx 3 ?_;exact X.at (K 2 ⟨by unfold V2;unfold V1 inB;rw [Np,Nu];unfold val;first|(simp_all;done)|(simp_all;omega)|((repeat' split)<;>first|rfl|omega|(exfalso;simp_all;done)|(exfalso;simp_all;omega)),by omega⟩) Zu leA
 replace g6:=sp g6
 refine xx 5 ?_;refine Zq (q) func158 (Zm results158 rfl) ⟨_,rfl,congrArg Value.bool (by rw [hR];symm;have hz:V2 g.er.cn lo ek en esl elo eop= -1:=(by unfold V2;unfold V1 inB;rw [Np,Nu];unfold val;first|(simp_all;done)|(simp_all;omega)|((repeat' split)<;>first|rfl|omega|(exfalso;simp_all;done)|(exfalso;simp_all;omega)));rw [hz,decide_eq_false (by omega)];rfl),rfl⟩
set_option maxHeartbeats 4000000 in
theorem parts_ok {s:Stm}{B:Nat}(hB:B≤1000000)(hb:s.lm B)(hK:Kn q fun M=>StAt M ⟨b,o,none⟩ s)(ha:CellsAt q pa 0 [.pointer (some ⟨pp,0,none⟩),x1,.int .i64 lo])(hp:CellsAt q pp 0 (pgC g)):CallF prog G 122 [.pointer (some ⟨pa,0,none⟩),.pointer (some ⟨b,o,none⟩)] (q) (Ret fun v q'=>v= .bool (match s with| .mk kk _ _ _ _ e ix bd es2 _ _ _ _ _ sl ot lo_=>Nx g.er.cn lo kk e.er ix.er bd.length es2.length)∧q'=q):=by
 refine CallF.of func122 ntmps122 rfl (fun F cs=> ?_)
 have hp2:CellsAt q pp 0 [.slice g.vars.a g.vars.l.length g.vars.c,.slice g.arrs.a g.arrs.l.length g.arrs.c,.int .i64 g.mu,.int .i64 g.co,.slice g.chs.a g.chs.l.length g.chs.c,.slice g.ths.a g.ths.l.length g.ths.c,.int .i64 g.main,.int .i64 g.stm]:=fun k v hk=>hp k v (by revert hk;match k with|0|1|2|3|4|5|6|7=>exact fun h=>h|(k+8)=>intro h;cases h)
 obtain ⟨kk,ln,cl,nm,wt,⟨ek,en,enm,esl,elo,eop,el,ea,ec⟩,⟨xk,xn,xnm,xsl,xlo,xop,xl,xa,xc⟩,bd,es2,ba,bc,ea2,ec2,id,sl,ot,lo_⟩:=s
 obtain ⟨hb1,hb2,hb3,hb4⟩:=hb
 have hCs:=Kn.stC hK;dsimp only
 have hKe:Kn q fun M=>ExAt M ⟨b,o+5,none⟩ (Ex.mk ek en enm esl elo eop el ea ec):=hK.imp fun M h=>Yq (pre:= [.int .i64 kk,.int .i64 ln,.int .i64 cl,.string nm,.string wt]) h.1 rfl h.2.1 rfl
 have hKx:Kn q fun M=>ExAt M ⟨b,o+12,none⟩ (Ex.mk xk xn xnm xsl xlo xop xl xa xc):=hK.imp fun M h=>Yq (pre:= [.int .i64 kk,.int .i64 ln,.int .i64 cl,.string nm,.string wt]++exC (Ex.mk ek en enm esl elo eop el ea ec)) h.1 rfl h.2.2.1 rfl
 obtain ⟨R,hR⟩: ∃ R,R=Nx g.er.cn lo kk (Ex.er (Ex.mk ek en enm esl elo eop el ea ec)) (Ex.er (Ex.mk xk xn xnm xsl xlo xop xl xa xc)) bd.length es2.length:=⟨_,rfl⟩;rw [←hR]
 refine xo 17 ?_;refine ld ?_ (hc:=((hCs.le leA) 0 _ rfl))
 refine ox 8 ?_;refine X.part 13 rfl (fun h1=> ?_) (fun h1=> ?_)
 focus
  replace h1:=sp h1
  refine xo 16 ?_;refine ld ?_ (hc:=((hCs.le leA) 19 _ rfl))
  refine oo 4 ?_;refine Zh [34,6,8,5,4,0,1] ?_
  apply Zy 11 45 34 rfl
  · intro g2 M2;have h2:=sp g2
    refine oo 6 ?_;refine ld ?_ (hc:=((hCs.le leA) 20 _ rfl))
    refine oo 4 ?_;exact Zz M2 ⟨orF g2,Zw⟩
  · intro g2 M2;have h2:=sp g2
    refine oo 11 ?_;exact Zz M2 ⟨orT g2,Zw⟩
  refine ox 1 ?_;refine X.part 45 rfl (fun h2=> ?_) (fun h2=> ?_)
  focus
   replace h2:=sp h2
   refine xx 5 ?_
  rotate_left
  focus
   replace h2:=sp h2
   refine xo 21 ?_;refine XO.cR call158 (Qk B (d:=24) (e:=(Ex.mk ek en enm esl elo eop el ea ec)) hb1 hB (by omega) (hKe.le leA) (ha.le leA) (hp.le leA)) ?_
   refine ox 4 ?_
 rotate_left 2
 focus
  replace h1:=sp h1
  refine xx 6 ?_;refine X.part 13 rfl (fun h2=> ?_) (fun h2=> ?_)
  focus
   replace h2:=sp h2
   refine xo 16 ?_;refine ld ?_ (hc:=((hCs.le leA) 19 _ rfl))
   refine oo 4 ?_;refine Zh [34,6,8,5,4,0,1] ?_
   apply Zy 11 45 34 rfl
   · intro g3 M3;have h3:=sp g3
     refine oo 6 ?_;refine ld ?_ (hc:=((hCs.le leA) 20 _ rfl))
     refine oo 4 ?_;exact Zz M3 ⟨orF g3,Zw⟩
   · intro g3 M3;have h3:=sp g3
     refine oo 11 ?_;exact Zz M3 ⟨orT g3,Zw⟩
   refine ox 1 ?_;refine X.part 45 rfl (fun h3=> ?_) (fun h3=> ?_)
   focus
    replace h3:=sp h3
    refine xx 5 ?_
   rotate_left
   focus
    replace h3:=sp h3
    refine xo 21 ?_;refine XO.cR call158 (Qk B (d:=24) (e:=(Ex.mk ek en enm esl elo eop el ea ec)) hb1 hB (by omega) (hKe.le leA) (ha.le leA) (hp.le leA)) ?_
    refine ox 4 ?_
  rotate_left 2
  focus
   replace h2:=sp h2
   refine xx 6 ?_;refine X.part 13 rfl (fun h3=> ?_) (fun h3=> ?_)
   focus
    replace h3:=sp h3
    refine xo 16 ?_;refine ld ?_ (hc:=((hCs.le leA) 19 _ rfl))
    refine oo 4 ?_;refine Zh [34,6,8,5,4,0,1] ?_
    apply Zy 11 45 34 rfl
    · intro g4 M4;have h4:=sp g4
      refine oo 6 ?_;refine ld ?_ (hc:=((hCs.le leA) 20 _ rfl))
      refine oo 4 ?_;exact Zz M4 ⟨orF g4,Zw⟩
    · intro g4 M4;have h4:=sp g4
      refine oo 11 ?_;exact Zz M4 ⟨orT g4,Zw⟩
    refine ox 1 ?_;refine X.part 45 rfl (fun h4=> ?_) (fun h4=> ?_)
    focus
     replace h4:=sp h4
     refine xx 5 ?_
    rotate_left
    focus
     replace h4:=sp h4
     refine xo 21 ?_;refine XO.cR call158 (Qk B (d:=24) (e:=(Ex.mk ek en enm esl elo eop el ea ec)) hb1 hB (by omega) (hKe.le leA) (ha.le leA) (hp.le leA)) ?_
     refine ox 4 ?_
   rotate_left 2
   focus
    replace h3:=sp h3
    refine xx 5 ?_;refine X.part 13 rfl (fun h4=> ?_) (fun h4=> ?_)
    focus
     replace h4:=sp h4
     refine xo 14 ?_;refine ld ?_ (hc:=((hCs.le leA) 19 _ rfl))
     refine oo 4 ?_;refine Zh [34,6,8,5,4,0,1] ?_
     apply Zy 11 45 34 rfl
     · intro g5 M5;have h5:=sp g5
       refine oo 6 ?_;refine ld ?_ (hc:=((hCs.le leA) 20 _ rfl))
       refine oo 4 ?_;exact Zz M5 ⟨orF g5,Zw⟩
     · intro g5 M5;have h5:=sp g5
       refine oo 11 ?_;exact Zz M5 ⟨orT g5,Zw⟩
     refine ox 1 ?_;refine X.part 45 rfl (fun h5=> ?_) (fun h5=> ?_)
     focus
      replace h5:=sp h5
      refine xx 5 ?_
     rotate_left
     focus
      replace h5:=sp h5
      refine xo 21 ?_;refine XO.cR call158 (Qk B (d:=24) (e:=(Ex.mk ek en enm esl elo eop el ea ec)) hb1 hB (by omega) (hKe.le leA) (ha.le leA) (hp.le leA)) ?_
      refine ox 4 ?_
    rotate_left 2
    focus
     replace h4:=sp h4
     refine xx 6 ?_;refine X.part 18 rfl (fun h5=> ?_) (fun h5=> ?_)
     focus
      replace h5:=sp h5
      refine xo 15 ?_;refine ld ?_ (hc:=((hCs.le leA) 19 _ rfl))
      refine oo 4 ?_;refine Zh [34,6,5,8,4,0,1] ?_
      apply Zy 11 45 34 rfl
      · intro g6 M6;have h6:=sp g6
        refine oo 6 ?_;refine ld ?_ (hc:=((hCs.le leA) 20 _ rfl))
        refine oo 4 ?_;exact Zz M6 ⟨orF g6,Zw⟩
      · intro g6 M6;have h6:=sp g6
        refine oo 11 ?_;exact Zz M6 ⟨orT g6,Zw⟩
      refine ox 1 ?_;refine X.part 45 rfl (fun h6=> ?_) (fun h6=> ?_)
      focus
       replace h6:=sp h6
       refine xx 5 ?_
      rotate_left
      focus
       replace h6:=sp h6
       refine xo 11 ?_;refine XO.cR call158 (Qk B (d:=24) (e:=(Ex.mk xk xn xnm xsl xlo xop xl xa xc)) hb2 hB (by omega) (hKx.le leA) (ha.le leA) (hp.le leA)) ?_
       refine oo 2 ?_;refine Zh [55,6,4,0,1] ?_
       apply Zp 10 65 55 rfl
       · intro g7 M7;have h7:=sp g7
         refine oo 7 ?_;refine XO.cR call158 (Qk B (d:=24) (e:=(Ex.mk ek en enm esl elo eop el ea ec)) hb1 hB (by omega) (hKe.le leA) (ha.le leA) (hp.le leA)) ?_
         refine oo 2 ?_;exact Zz M7 ⟨Wj g7,Zw⟩
       · intro g7 M7;have h7:=sp g7
         refine oo 10 ?_;exact Zz M7 ⟨Wk g7,Zw⟩
       refine ox 2 ?_
     rotate_left 2
     focus
      replace h5:=sp h5
      refine xx 6 ?_;refine X.part 20 rfl (fun h6=> ?_) (fun h6=> ?_)
      focus
       replace h6:=sp h6
       refine xo 54 ?_;refine XO.cR call158 (Qk B (d:=24) (e:=(Ex.mk ek en enm esl elo eop el ea ec)) hb1 hB (by omega) (hKe.le leA) (ha.le leA) (hp.le leA)) ?_
       refine ox 4 ?_
      rotate_left
      focus
       replace h6:=sp h6
       refine xx 6 ?_;refine X.part 22 rfl (fun h7=> ?_) (fun h7=> ?_)
       focus
        replace h7:=sp h7
        refine xo 26 ?_;refine ld ?_ (hc:=((hCs.le leA) 20 _ rfl))
        refine ox 5 ?_;refine X.part 45 rfl (fun h8=> ?_) (fun h8=> ?_)
        focus
         replace h8:=sp h8
         refine xx 5 ?_
        rotate_left
        focus
         replace h8:=sp h8
         refine xo 21 ?_;refine XO.cR call158 (Qk B (d:=24) (e:=(Ex.mk ek en enm esl elo eop el ea ec)) hb1 hB (by omega) (hKe.le leA) (ha.le leA) (hp.le leA)) ?_
         refine ox 4 ?_
       rotate_left 2
       focus
        replace h7:=sp h7
        refine xo 12 ?_;refine ld ?_ (hc:=((hCs.le leA) 19 _ rfl))
        refine oo 4 ?_;refine Zh [34,8,6,5,4,0,1] ?_
        apply Zy 11 45 34 rfl
        · intro g8 M8;have h8:=sp g8
          refine oo 6 ?_;refine ld ?_ (hc:=((hCs.le leA) 20 _ rfl))
          refine oo 4 ?_;exact Zz M8 ⟨orF g8,Zw⟩
        · intro g8 M8;have h8:=sp g8
          refine oo 11 ?_;exact Zz M8 ⟨orT g8,Zw⟩
        refine ox 1 ?_;refine X.part 45 rfl (fun h8=> ?_) (fun h8=> ?_)
        focus
         replace h8:=sp h8
         refine xx 5 ?_
        rotate_left
        focus
         replace h8:=sp h8
         refine xx 26 ?_
 all_goals
  refine Zq (q) func122 (Zm results122 rfl) ⟨_,rfl,congrArg Value.bool (by rw [hR];unfold Nx;first|(simp_all;done)|(rcases Decidable.em (0<(bd.length:Int)) with z1|z1<;>rcases Decidable.em (0<(es2.length:Int)) with z2|z2<;>simp_all;done)|(rcases Decidable.em (0<(bd.length:Int)) with z1|z1<;>rcases Decidable.em (0<(es2.length:Int)) with z2|z2<;>simp_all<;>omega)),rfl⟩
set_option maxHeartbeats 4000000 in
theorem slots_ok {s:Stm}{B:Nat}(hB:B≤1000000)(hb:s.lm B)(hK:Kn q fun M=>StAt M ⟨b,o,none⟩ s)(ha:CellsAt q pa 0 [.pointer (some ⟨pp,0,none⟩),x1,.int .i64 lo])(hp:CellsAt q pp 0 (pgC g)):CallF prog G 123 [.pointer (some ⟨pa,0,none⟩),.pointer (some ⟨b,o,none⟩)] (q) (Ret fun v q'=>v= .bool (match s with| .mk kk _ _ _ _ e ix bd es2 _ _ _ _ _ sl ot lo_=>Nq g.er.cn lo kk sl ot lo_)∧q'=q):=by
 refine CallF.of func123 ntmps123 rfl (fun F cs=> ?_)
 have hp2:CellsAt q pp 0 [.slice g.vars.a g.vars.l.length g.vars.c,.slice g.arrs.a g.arrs.l.length g.arrs.c,.int .i64 g.mu,.int .i64 g.co,.slice g.chs.a g.chs.l.length g.chs.c,.slice g.ths.a g.ths.l.length g.ths.c,.int .i64 g.main,.int .i64 g.stm]:=fun k v hk=>hp k v (by revert hk;match k with|0|1|2|3|4|5|6|7=>exact fun h=>h|(k+8)=>intro h;cases h)
 obtain ⟨kk,ln,cl,nm,wt,⟨ek,en,enm,esl,elo,eop,el,ea,ec⟩,⟨xk,xn,xnm,xsl,xlo,xop,xl,xa,xc⟩,bd,es2,ba,bc,ea2,ec2,id,sl,ot,lo_⟩:=s
 obtain ⟨hb1,hb2,hb3,hb4⟩:=hb
 have hCs:=Kn.stC hK;dsimp only
 have hKe:Kn q fun M=>ExAt M ⟨b,o+5,none⟩ (Ex.mk ek en enm esl elo eop el ea ec):=hK.imp fun M h=>Yq (pre:= [.int .i64 kk,.int .i64 ln,.int .i64 cl,.string nm,.string wt]) h.1 rfl h.2.1 rfl
 have hKx:Kn q fun M=>ExAt M ⟨b,o+12,none⟩ (Ex.mk xk xn xnm xsl xlo xop xl xa xc):=hK.imp fun M h=>Yq (pre:= [.int .i64 kk,.int .i64 ln,.int .i64 cl,.string nm,.string wt]++exC (Ex.mk ek en enm esl elo eop el ea ec)) h.1 rfl h.2.2.1 rfl
 obtain ⟨R,hR⟩: ∃ R,R=Nq g.er.cn lo kk sl ot lo_:=⟨_,rfl⟩;rw [←hR]
 refine xo 9 ?_;refine ld ?_ (hc:=((ha.le leA) 0 _ rfl))
 refine oo 8 ?_;refine ld ?_ (hc:=((hCs.le leA) 0 _ rfl))
 refine ox 7 ?_;refine X.part 14 rfl (fun h1=> ?_) (fun h1=> ?_)
 focus
  replace h1:=sp h1
  refine xx 2 ?_;refine drw ?_;refine dd [0,1,2] ?_;refine ldD 3 ?_ (hc:=((hCs.le leA) 24 _ rfl))
  refine dd [4] ?_;refine Bt [20,4,0,1] ?_
  apply H0 1 [0,1,2,3,4,5,6,7,8,9,10,11,12,13,14,15] 31 20 rfl
  · intro g2 M2;have h2:=sp g2
    refine dd [5,6,7,8] ?_;refine ldD 9 ?_ (hc:=((hCs.le leA) 22 _ rfl))
    refine dd [10,11,12] ?_;refine ldD 13 ?_ (hc:=((hCs.le leA) 24 _ rfl))
    refine Y0 14 call159 (Rw (ha.le leA) (hp.le leA)) ?_ (hL:=(hlA (h:=by repeat first|exact trivial|refine ⟨clA,?_⟩|refine ⟨(ha.le leA) 0 _ rfl,?_⟩|refine ⟨(ha.le leA) 2 _ rfl,?_⟩|refine ⟨(hp2.le leA) 0 _ rfl,?_⟩|refine ⟨(hp2.le leA) 1 _ rfl,?_⟩|refine ⟨(hp2.le leA) 2 _ rfl,?_⟩|refine ⟨(hp2.le leA) 3 _ rfl,?_⟩|refine ⟨(hp2.le leA) 4 _ rfl,?_⟩|refine ⟨(hp2.le leA) 5 _ rfl,?_⟩|refine ⟨(hCs.le leA) 0 _ rfl,?_⟩|refine ⟨(hCs.le leA) 19 _ rfl,?_⟩|refine ⟨(hCs.le leA) 20 _ rfl,?_⟩|refine ⟨(hCs.le leA) 21 _ rfl,?_⟩|refine ⟨(hCs.le leA) 22 _ rfl,?_⟩|refine ⟨(hCs.le leA) 23 _ rfl,?_⟩|refine ⟨(hCs.le leA) 24 _ rfl,?_⟩)))
    refine dd [15] ?_;exact Um M2 ⟨Wj g2,Zw⟩
  · intro g2 M2;have h2:=sp g2
    refine dd [5,6,7,8,9,10,11,12,13,14,15] ?_;exact Um M2 ⟨Wk g2,Zw⟩
  intro L_
  refine dd [16] ?_;refine XD.nil ?_
 rotate_left
 focus
  replace h1:=sp h1
  refine xx 6 ?_;refine X.part 32 rfl (fun h2=> ?_) (fun h2=> ?_)
  focus
   replace h2:=sp h2
   refine xx 2 ?_;refine drw ?_;refine dd [0,1,2,3] ?_;refine ldD 4 ?_ (hc:=((hCs.le leA) 22 _ rfl))
   refine dd [5,6,7] ?_;refine ldD 8 ?_ (hc:=((hCs.le leA) 24 _ rfl))
   refine Y0 9 call159 (Rw (ha.le leA) (hp.le leA)) ?_;refine dd [10] ?_;refine XD.nil ?_
  rotate_left
  focus
   replace h2:=sp h2
   refine xx 6 ?_;refine X.part 44 rfl (fun h3=> ?_) (fun h3=> ?_)
   focus
    replace h3:=sp h3
    refine xx 2 ?_;refine drw ?_;refine dd [0,1,2] ?_;refine ldD 3 ?_ (hc:=((hCs.le leA) 22 _ rfl))
    refine dd [4,5,6] ?_;refine ldD 7 ?_ (hc:=((hp2.le leA) 1 _ rfl))
    refine dd [8] ?_;refine Y0 9 call79 (Jy) ?_ (hL:=(hlA (h:=by repeat first|exact trivial|refine ⟨clA,?_⟩|refine ⟨(ha.le leA) 0 _ rfl,?_⟩|refine ⟨(ha.le leA) 2 _ rfl,?_⟩|refine ⟨(hp2.le leA) 0 _ rfl,?_⟩|refine ⟨(hp2.le leA) 1 _ rfl,?_⟩|refine ⟨(hp2.le leA) 2 _ rfl,?_⟩|refine ⟨(hp2.le leA) 3 _ rfl,?_⟩|refine ⟨(hp2.le leA) 4 _ rfl,?_⟩|refine ⟨(hp2.le leA) 5 _ rfl,?_⟩|refine ⟨(hCs.le leA) 0 _ rfl,?_⟩|refine ⟨(hCs.le leA) 19 _ rfl,?_⟩|refine ⟨(hCs.le leA) 20 _ rfl,?_⟩|refine ⟨(hCs.le leA) 21 _ rfl,?_⟩|refine ⟨(hCs.le leA) 22 _ rfl,?_⟩|refine ⟨(hCs.le leA) 23 _ rfl,?_⟩|refine ⟨(hCs.le leA) 24 _ rfl,?_⟩)))
    refine dd [10] ?_;refine XD.nil ?_
   rotate_left
   focus
    replace h3:=sp h3
    refine xx 7 ?_;refine X.part 56 rfl (fun h4=> ?_) (fun h4=> ?_)
    focus
     replace h4:=sp h4
     refine xx 4 ?_;refine drw ?_;refine dd [0,1,2] ?_;refine ldD 3 ?_ (hc:=((hCs.le leA) 22 _ rfl))
     refine dd [4,5,6] ?_;refine ldD 7 ?_ (hc:=((hp2.le leA) 2 _ rfl))
     refine Y0 8 call79 (Jy) ?_;refine dd [9] ?_;refine XD.nil ?_
    rotate_left
    focus
     replace h4:=sp h4
     refine xx 5 ?_;refine X.part 56 rfl (fun h5=> ?_) (fun h5=> ?_)
     focus
      replace h5:=sp h5
      refine xx 2 ?_;refine drw ?_;refine dd [0,1,2] ?_;refine ldD 3 ?_ (hc:=((hCs.le leA) 22 _ rfl))
      refine dd [4,5,6] ?_;refine ldD 7 ?_ (hc:=((hp2.le leA) 2 _ rfl))
      refine Y0 8 call79 (Jy) ?_;refine dd [9] ?_;refine XD.nil ?_
     rotate_left
     focus
      replace h5:=sp h5
      refine xx 6 ?_;refine X.part 68 rfl (fun h6=> ?_) (fun h6=> ?_)
      focus
       replace h6:=sp h6
       refine xx 2 ?_;refine drw ?_;refine dd [0,1,2] ?_;refine ldD 3 ?_ (hc:=((hCs.le leA) 22 _ rfl))
       refine dd [4,5,6] ?_;refine ldD 7 ?_ (hc:=((hp2.le leA) 3 _ rfl))
       refine Y0 8 call79 (Jy) ?_;refine dd [9] ?_;refine Bt [79,5,4,1] ?_
       apply H0 1 [0,1,2,3,4,5,6,7,8,9,10,11,12,13,14,15,16,17,18,19] 89 79 rfl
       · intro g7 M7;have h7:=sp g7
         refine dd [10,11,12] ?_;refine ldD 13 ?_ (hc:=((hCs.le leA) 23 _ rfl))
         refine dd [14,15,16] ?_;refine ldD 17 ?_ (hc:=((hp2.le leA) 2 _ rfl))
         refine Y0 18 call79 (Jy) ?_;refine dd [19] ?_;exact Um M7 ⟨Wj g7,Zw⟩
       · intro g7 M7;have h7:=sp g7
         refine dd [10,11,12,13,14,15,16,17,18,19] ?_;exact Um M7 ⟨Wk g7,Zw⟩
       intro L_
       refine dd [20] ?_;refine XD.nil ?_
      rotate_left
      focus
       replace h6:=sp h6
       refine xx 7 ?_;refine X.part 90 rfl (fun h7=> ?_) (fun h7=> ?_)
       focus
        replace h7:=sp h7
        refine xx 4 ?_;refine drw ?_;refine dd [0,1,2] ?_;refine ldD 3 ?_ (hc:=((hCs.le leA) 22 _ rfl))
        refine dd [4,5,6] ?_;refine ldD 7 ?_ (hc:=((hp2.le leA) 3 _ rfl))
        refine Y0 8 call79 (Jy) ?_;refine dd [9] ?_;refine XD.nil ?_
       rotate_left
       focus
        replace h7:=sp h7
        refine xx 5 ?_;refine X.part 90 rfl (fun h8=> ?_) (fun h8=> ?_)
        focus
         replace h8:=sp h8
         refine xx 2 ?_;refine drw ?_;refine dd [0,1,2] ?_;refine ldD 3 ?_ (hc:=((hCs.le leA) 22 _ rfl))
         refine dd [4,5,6] ?_;refine ldD 7 ?_ (hc:=((hp2.le leA) 3 _ rfl))
         refine Y0 8 call79 (Jy) ?_;refine dd [9] ?_;refine XD.nil ?_
        rotate_left
        focus
         replace h8:=sp h8
         refine xx 6 ?_;refine X.part 102 rfl (fun h9=> ?_) (fun h9=> ?_)
         focus
          replace h9:=sp h9
          refine xx 2 ?_;refine drw ?_;refine dd [0,1,2] ?_;refine ldD 3 ?_ (hc:=((hCs.le leA) 22 _ rfl))
          refine dd [4,5,6] ?_;refine ldD 7 ?_ (hc:=((hp2.le leA) 4 _ rfl))
          refine dd [8] ?_;refine Y0 9 call79 (Jy) ?_ (hL:=(hlA (h:=by repeat first|exact trivial|refine ⟨clA,?_⟩|refine ⟨(ha.le leA) 0 _ rfl,?_⟩|refine ⟨(ha.le leA) 2 _ rfl,?_⟩|refine ⟨(hp2.le leA) 0 _ rfl,?_⟩|refine ⟨(hp2.le leA) 1 _ rfl,?_⟩|refine ⟨(hp2.le leA) 2 _ rfl,?_⟩|refine ⟨(hp2.le leA) 3 _ rfl,?_⟩|refine ⟨(hp2.le leA) 4 _ rfl,?_⟩|refine ⟨(hp2.le leA) 5 _ rfl,?_⟩|refine ⟨(hCs.le leA) 0 _ rfl,?_⟩|refine ⟨(hCs.le leA) 19 _ rfl,?_⟩|refine ⟨(hCs.le leA) 20 _ rfl,?_⟩|refine ⟨(hCs.le leA) 21 _ rfl,?_⟩|refine ⟨(hCs.le leA) 22 _ rfl,?_⟩|refine ⟨(hCs.le leA) 23 _ rfl,?_⟩|refine ⟨(hCs.le leA) 24 _ rfl,?_⟩)))
          refine dd [10] ?_;refine XD.nil ?_
         rotate_left
         focus
          replace h9:=sp h9
          refine xx 6 ?_;refine X.part 114 rfl (fun h10=> ?_) (fun h10=> ?_)
          focus
           replace h10:=sp h10
           refine xx 2 ?_;refine drw ?_;refine dd [0,1,2] ?_;refine ldD 3 ?_ (hc:=((hCs.le leA) 22 _ rfl))
           refine dd [4,5,6] ?_;refine ldD 7 ?_ (hc:=((hp2.le leA) 4 _ rfl))
           refine dd [8] ?_;refine Y0 9 call79 (Jy) ?_ (hL:=(hlA (h:=by repeat first|exact trivial|refine ⟨clA,?_⟩|refine ⟨(ha.le leA) 0 _ rfl,?_⟩|refine ⟨(ha.le leA) 2 _ rfl,?_⟩|refine ⟨(hp2.le leA) 0 _ rfl,?_⟩|refine ⟨(hp2.le leA) 1 _ rfl,?_⟩|refine ⟨(hp2.le leA) 2 _ rfl,?_⟩|refine ⟨(hp2.le leA) 3 _ rfl,?_⟩|refine ⟨(hp2.le leA) 4 _ rfl,?_⟩|refine ⟨(hp2.le leA) 5 _ rfl,?_⟩|refine ⟨(hCs.le leA) 0 _ rfl,?_⟩|refine ⟨(hCs.le leA) 19 _ rfl,?_⟩|refine ⟨(hCs.le leA) 20 _ rfl,?_⟩|refine ⟨(hCs.le leA) 21 _ rfl,?_⟩|refine ⟨(hCs.le leA) 22 _ rfl,?_⟩|refine ⟨(hCs.le leA) 23 _ rfl,?_⟩|refine ⟨(hCs.le leA) 24 _ rfl,?_⟩)))
           refine dd [10] ?_;refine Bt [126,4,0,1] ?_
           apply H0 1 [0,1,2,3,4,5,6,7,8,9,10,11,12,13,14,15,16,17,18,19,20,21] 137 126 rfl
           · intro g11 M11;have h11:=sp g11
             refine dd [11,12,13,14] ?_;refine ldD 15 ?_ (hc:=((hCs.le leA) 23 _ rfl))
             refine dd [16,17,18] ?_;refine ldD 19 ?_ (hc:=((hCs.le leA) 24 _ rfl))
             refine Y0 20 call159 (Rw (ha.le leA) (hp.le leA)) ?_ (hL:=(hlA (h:=by repeat first|exact trivial|refine ⟨clA,?_⟩|refine ⟨(ha.le leA) 0 _ rfl,?_⟩|refine ⟨(ha.le leA) 2 _ rfl,?_⟩|refine ⟨(hp2.le leA) 0 _ rfl,?_⟩|refine ⟨(hp2.le leA) 1 _ rfl,?_⟩|refine ⟨(hp2.le leA) 2 _ rfl,?_⟩|refine ⟨(hp2.le leA) 3 _ rfl,?_⟩|refine ⟨(hp2.le leA) 4 _ rfl,?_⟩|refine ⟨(hp2.le leA) 5 _ rfl,?_⟩|refine ⟨(hCs.le leA) 0 _ rfl,?_⟩|refine ⟨(hCs.le leA) 19 _ rfl,?_⟩|refine ⟨(hCs.le leA) 20 _ rfl,?_⟩|refine ⟨(hCs.le leA) 21 _ rfl,?_⟩|refine ⟨(hCs.le leA) 22 _ rfl,?_⟩|refine ⟨(hCs.le leA) 23 _ rfl,?_⟩|refine ⟨(hCs.le leA) 24 _ rfl,?_⟩)))
             refine dd [21] ?_;exact Um M11 ⟨Wj g11,Zw⟩
           · intro g11 M11;have h11:=sp g11
             refine dd [11,12,13,14,15,16,17,18,19,20,21] ?_;exact Um M11 ⟨Wk g11,Zw⟩
           intro L_
           refine dd [22] ?_;refine XD.nil ?_
          rotate_left
          focus
           replace h10:=sp h10
           refine xx 6 ?_;refine X.part 138 rfl (fun h11=> ?_) (fun h11=> ?_)
           focus
            replace h11:=sp h11
            refine xx 2 ?_;refine drw ?_;refine dd [0,1,2] ?_;refine ldD 3 ?_ (hc:=((hCs.le leA) 22 _ rfl))
            refine dd [4,5,6] ?_;refine ldD 7 ?_ (hc:=((hp2.le leA) 5 _ rfl))
            refine dd [8] ?_;refine Y0 9 call79 (Jy) ?_ (hL:=(hlA (h:=by repeat first|exact trivial|refine ⟨clA,?_⟩|refine ⟨(ha.le leA) 0 _ rfl,?_⟩|refine ⟨(ha.le leA) 2 _ rfl,?_⟩|refine ⟨(hp2.le leA) 0 _ rfl,?_⟩|refine ⟨(hp2.le leA) 1 _ rfl,?_⟩|refine ⟨(hp2.le leA) 2 _ rfl,?_⟩|refine ⟨(hp2.le leA) 3 _ rfl,?_⟩|refine ⟨(hp2.le leA) 4 _ rfl,?_⟩|refine ⟨(hp2.le leA) 5 _ rfl,?_⟩|refine ⟨(hCs.le leA) 0 _ rfl,?_⟩|refine ⟨(hCs.le leA) 19 _ rfl,?_⟩|refine ⟨(hCs.le leA) 20 _ rfl,?_⟩|refine ⟨(hCs.le leA) 21 _ rfl,?_⟩|refine ⟨(hCs.le leA) 22 _ rfl,?_⟩|refine ⟨(hCs.le leA) 23 _ rfl,?_⟩|refine ⟨(hCs.le leA) 24 _ rfl,?_⟩)))
            refine dd [10] ?_;refine XD.nil ?_
           rotate_left
           focus
            replace h11:=sp h11
            refine xx 7 ?_;refine X.part 150 rfl (fun h12=> ?_) (fun h12=> ?_)
            focus
             replace h12:=sp h12
             refine xx 7 ?_
            rotate_left
            focus
             replace h12:=sp h12
             refine xx 6 ?_;refine X.part 150 rfl (fun h13=> ?_) (fun h13=> ?_)
             focus
              replace h13:=sp h13
              refine xx 7 ?_
             rotate_left
             focus
              replace h13:=sp h13
              refine xx 6 ?_;refine X.part 150 rfl (fun h14=> ?_) (fun h14=> ?_)
              focus
               replace h14:=sp h14
               refine xx 7 ?_
              rotate_left
              focus
               replace h14:=sp h14
               refine xx 5 ?_;refine X.part 150 rfl (fun h15=> ?_) (fun h15=> ?_)
               focus
                replace h15:=sp h15
                refine xx 5 ?_
               rotate_left
               focus
                replace h15:=sp h15
                refine xx 7 ?_
 all_goals
  refine Zq (q) func123 (Zm results123 rfl) ⟨_,rfl,congrArg Value.bool (by rw [hR];unfold Nq;unfold V1 inB;rw [Np,Nu,cn_ch,cn_mu,cn_co,cn_th];first|(simp_all;done)|(simp_all;omega)|(simp_all<;>omega)),rfl⟩
end
mutual
theorem Cu {c:Cn}{lo:Int}: ∀ {s:PStm} {d n m:Int},n≤512→s.ask c lo d n=some m→n≤m∧m≤512
 | .mk ..,d,n,m,hn,h=>by
  simp only [PStm.ask] at h
  split at h
  · cases h
  rename_i h0
  split at h
  · split at h
    · cases h
    rename_i k hk
    have h1:=Va (by omega) hk
    have h2:=Va h1.2 h
    omega
  cases h
theorem Va {c:Cn}{lo:Int}: ∀ {l:List PStm} {d n m:Int},n≤512→Z1 c lo l d n=some m→n≤m∧m≤512
 | [],d,n,m,hn,h=>by simp only [Z1] at h;cases h;omega
 |s::r,d,n,m,hn,h=>by
  simp only [Z1] at h
  split at h
  · cases h
  rename_i k hk
  have h1:=Cu hn hk
  have h2:=Va h1.2 h
  omega
end
theorem B6 {c:Cn}{lo:Int}(s:PStm)(r:List PStm)(d n:Int):Z1 c lo (s::r) d n=match s.ask c lo d n with|none=>none|some m=>Z1 c lo r d m:=by simp only [Z1]<;>rfl
theorem Fq {l:List Stm}{i:Nat}(h:i<l.length):Zj (l.drop i)=l[i].er::Zj (l.drop (i+1)):=by rw [List.drop_eq_getElem_cons h];rfl
section
variable {G:World}{q:List HP}{n lo d:Int}{pa pp b o N B:Nat}{g:FC}{a:Option Addr}{c:Nat}{l:List Stm}
def AskB (G:World)(B pa pp:Nat)(g:FC)(lo:Int)(N:Nat):Prop:= ∀ {l:List Stm} {a:Option Addr} {c:Nat} {d n:Int} {q:List HP},Zg l≤N→Wr B l→(1≤d∧d≤25)→(0≤n∧n≤512)→CellsAt q pp 0 (pgC g)→(Kn q fun M=>BlkAt M a c l)→
 CallF prog G 80 [.pointer (some ⟨pa,0,none⟩),.slice a l.length c,.int .i64 d] (pto pa (.cells [.pointer (some ⟨pp,0,none⟩),.int .i64 n,.int .i64 lo].toArray 168 (0,0))::q) (Ret fun v q'=> ∃ n',v= .bool (Z1 g.er.cn lo (Zj l) d n).isSome∧(∀ m,Z1 g.er.cn lo (Zj l) d n=some m→n'=m)∧q'=pto pa (.cells [.pointer (some ⟨pp,0,none⟩),.int .i64 n',.int .i64 lo].toArray 168 (0,0))::q)
set_option maxHeartbeats 4000000 in
theorem ask_step (IH: ∀ N_,N_<N→AskB G B pa pp g lo N_)(hB:B≤1000000)(hN:N≤1000000)(hs:Zg l≤N)(hb:Wr B l)(hd:1≤d∧d≤25)(hn:0≤n∧n≤512)(hp:CellsAt q pp 0 (pgC g))(hK:Kn q fun M=>BlkAt M a c l):CallF prog G 80 [.pointer (some ⟨pa,0,none⟩),.slice a l.length c,.int .i64 d] (pto pa (.cells [.pointer (some ⟨pp,0,none⟩),.int .i64 n,.int .i64 lo].toArray 168 (0,0))::q) (Ret fun v q'=> ∃ n',v= .bool (Z1 g.er.cn lo (Zj l) d n).isSome∧(∀ m,Z1 g.er.cn lo (Zj l) d n=some m→n'=m)∧q'=pto pa (.cells [.pointer (some ⟨pp,0,none⟩),.int .i64 n',.int .i64 lo].toArray 168 (0,0))::q):=by
 refine CallF.of func80 ntmps80 rfl (fun F cs=> ?_)
 have hS:=Kn.sees (hK.imp fun M h=>h.1.2.2);have hl:l.length≤N:=Nat.le_trans (Jg l) hs;have hlen:=Zv Z3 l
 obtain ⟨R,hR⟩: ∃ R,R=Z1 g.er.cn lo (Zj l) d n:=⟨_,rfl⟩;rw [←hR]
 refine xx 12 ?_;refine X.at (X.loop (fun (s:Nat×Int)=>s.1≤l.length∧R=Z1 g.er.cn lo (Zj (l.drop s.1)) d s.2∧0≤s.2∧s.2≤512) (fun s=> [(0,.pointer (some ⟨pa,0,none⟩)),(1,.slice a l.length c),(2,.int .i64 d),(10,.int .i64 (l.length:Int)),(11,.int .i64 (s.1:Int))]) (fun s=>pto pa (.cells [.pointer (some ⟨pp,0,none⟩),.int .i64 s.2,.int .i64 lo].toArray 168 (0,0))::(q++F)) (fun s=>l.length - s.1) (fun s hi_ ih=> ?_) (0,n) ⟨Nat.zero_le _,by rw [hR,List.drop_zero],hn⟩) Zu leA
 try dsimp only at hi_ ih⊢
 obtain ⟨hi1,hi2,hi3⟩:=hi_
 obtain ⟨i,n1⟩:=s;dsimp only at*
 refine xx 5 ?_;refine X.part 12 rfl (fun h0=> ?_) (fun h0=> ?_)
 · replace h0:=sp h0;have hlt:i<l.length:=(by omega)
   rw [Fq hlt,B6] at hi2
   obtain ⟨x,hx⟩: ∃ x,x=l[i]:=⟨_,rfl⟩;have hxs:x.sz≤Zg l:=hx ▸ Uq (List.getElem_mem hlt);have hxb:x.lm B:=hx ▸ Jb hb (List.getElem_mem hlt);rw [←hx] at hi2
   refine Yb (hS.le leA) (by rw [hlen];omega) (fun ab ao e_=> ?_);rw [e_]
   have hKx:Kn q fun M=>StAt M ⟨ab,ao+(i:Int).toNat*25,none⟩ x:=hK.imp fun M h=>by
    obtain ⟨b',o',e1,e2⟩:=SeesZ.row Z3 (by decide) h.1.2.2 hlt
    rw [e_] at e1;cases e1
    exact ⟨by rw [hx];exact e2,by rw [hx];exact Vk.1 h.2 _ (List.getElem_mem hlt)⟩
   obtain ⟨kk,ln,cl,nm,wt,⟨ek,en,enm,esl,elo,eop,el,ea,ec⟩,⟨xk,xn,xnm,xsl,xlo,xop,xl,xa,xc⟩,bd,es2,ba,bc,ea2,ec2,id,sl,ot,lo_⟩:=x;have hxb0:=hxb;obtain ⟨hb1,hb2,hb3,hb4⟩:=hxb;have hCs:=Kn.stC hKx;have hz:Zg bd+Zg es2+1≤N:=(by simp only [Stm.sz] at hxs;omega)
   simp only [Stm.er,PStm.ask,Zf] at hi2
   refine xx 18 ?_;refine drw ?_;refine dd [0,1,2] ?_;refine Bt [19,8,0,1,2,10,11] ?_
   apply Br 11 [0,1,2,3,4,5,6,7,8] 25 19 rfl
   · intro g11 M11;have h11:=sp g11
     refine dl [3,4,5] 6 ?_;refine dd [7,8] ?_;exact Um M11 ⟨orF g11,Zw⟩
   · intro g11 M11;have h11:=sp g11
     refine dd [3,4,5,6,7,8] ?_;exact Um M11 ⟨orT g11,Zw⟩
   intro L_
   refine dd [9] ?_;refine Bt [26,8,0,1,2,10,11] ?_
   apply Br 0 [0,1,2,3,4,5,6,7,8,9,10,11,12,13,14,15,16,17,18,19] 36 26 rfl
   · intro g12 M12;have h12:=sp g12
     refine dd [10,11,12] ?_;refine ldD 13 ?_ (hc:=((hCs.le leA) 21 _ rfl))
     refine dl [14,15,16] 17 ?_;refine dd [18,19] ?_;exact Um M12 ⟨orF g12,Zw⟩
   · intro g12 M12;have h12:=sp g12
     refine dd [10,11,12,13,14,15,16,17,18,19] ?_;exact Um M12 ⟨orT g12,Zw⟩
   intro L_
   refine XD.nil ?_;refine X.part 36 rfl (fun g3=> ?_) (fun g3=> ?_)
   · replace g3:=sp g3
     have hc0:24<d∨n1=512∨id≠n1:=(by first|omega|(simp at g3;omega))
     rw [if_pos hc0] at hi2;dsimp only at hi2
     refine xx 5 ?_;refine Zq (pto pa (.cells [.pointer (some ⟨pp,0,none⟩),.int .i64 n1,.int .i64 lo].toArray 168 (0,0))::q) func80 (Zm results80 rfl) ⟨_,rfl,_,(by rw [hi2];rfl),(by rw [hi2];intro m h;cases h),rfl⟩
   replace g3:=sp g3
   have hc0: ¬ (24<d∨n1=512∨id≠n1):=(by first|omega|(simp at g3;omega))
   rw [if_neg hc0] at hi2;have hd9: ¬24<d∧ ¬n1=512:=⟨fun k=>hc0 (.inl k),fun k=>hc0 (.inr (.inl k))⟩
   refine xj 7 ?_;refine oo 3 ?_;refine st ?_;refine oo 6 ?_;refine XO.cR call122 (parts_ok hB hxb0 (hKx.le leA) (CellsAt.of Qh) (hp.le leA)) ?_;refine XO.pu (Pu.not rfl) ?_;refine oo 1 ?_;refine Zh [48,8,0,1,2,10,11] ?_
   apply Zy 5 53 48 rfl
   · intro g14 M14;have h14:=sp g14
     refine oo 2 ?_;refine XO.cR call123 (slots_ok hB hxb0 (hKx.le leA) (CellsAt.of Qh) (hp.le leA)) ?_;refine XO.pu (Pu.not rfl) ?_;refine oo 1 ?_;exact Zz M14 ⟨orF g14,Zw⟩
   · intro g14 M14;have h14:=sp g14
     refine oo 5 ?_;exact Zz M14 ⟨orT g14,Zw⟩
   refine ox 1 ?_;refine X.part 53 rfl (fun g5=> ?_) (fun g5=> ?_)
   · replace g5:=sp g5
     rw [if_neg (by intro k;rw [Bool.and_eq_true] at k;revert g5;simp [k.1,k.2])] at hi2;dsimp only at hi2
     refine xx 5 ?_;refine Zq (pto pa (.cells [.pointer (some ⟨pp,0,none⟩),.int .i64 (n1+1),.int .i64 lo].toArray 168 (0,0))::q) func80 (Zm results80 rfl) ⟨_,rfl,_,(by rw [hi2];rfl),(by rw [hi2];intro m h;cases h),rfl⟩
   replace g5:=sp g5
   rw [if_pos (by rw [Bool.and_eq_true];simpa using g5)] at hi2
   refine xo 8 ?_;refine ld ?_ (hc:=((hCs.le leA) 19 _ rfl))
   refine oo 2 ?_;refine Zb call80 Zk (IH (Zg bd) (by omega) (l:=bd) (d:=d+1) (n:=(n1+1)) (Nat.le_refl _) hb3 (by omega) (by omega) (hp.le leA) ((hKx.le leA).imp fun M h=>h.2.2.2.1)) ?_
   rintro _ _ ⟨n2,rfl,hn2,rfl⟩
   rcases hR2:Z1 g.er.cn lo (Zj bd) (d+1) (n1+1) with _|m1
   · refine XO.know 61 (.bool false) rfl (by rfl) ?_
     rw [hR2] at hi2
     dsimp only at hi2
     refine ox 18 ?_;refine Zq (pto pa (.cells [.pointer (some ⟨pp,0,none⟩),.int .i64 n2,.int .i64 lo].toArray 168 (0,0))::q) func80 (Zm results80 rfl) ⟨_,rfl,_,(by rw [hi2];rfl),(by rw [hi2];intro m h;cases h),rfl⟩
   refine XO.know 61 (.bool true) rfl (by rfl) ?_
   obtain rfl:=hn2 _ hR2;rw [hR2] at hi2;have hle2:=Va (by omega) hR2;dsimp only at hi2
   refine oo 6 ?_;refine ld ?_ (hc:=((hCs.le leA) 20 _ rfl))
   refine oo 2 ?_;refine Zb call80 Zk (IH (Zg es2) (by omega) (l:=es2) (d:=d+1) (n:=n2) (Nat.le_refl _) hb4 (by omega) (by omega) (hp.le leA) ((hKx.le leA).imp fun M h=>⟨h.2.2.2.2.1,h.2.2.2.2.2⟩)) ?_
   rintro _ _ ⟨n3,rfl,hn3,rfl⟩
   rcases hR3:Z1 g.er.cn lo (Zj es2) (d+1) n2 with _|m2
   · refine XO.know 71 (.bool false) rfl (by rfl) ?_
     rw [hR3] at hi2
     dsimp only at hi2
     refine ox 8 ?_;refine Zq (pto pa (.cells [.pointer (some ⟨pp,0,none⟩),.int .i64 n3,.int .i64 lo].toArray 168 (0,0))::q) func80 (Zm results80 rfl) ⟨_,rfl,_,(by rw [hi2];rfl),(by rw [hi2];intro m h;cases h),rfl⟩
   refine XO.know 71 (.bool true) rfl (by rfl) ?_
   obtain rfl:=hn3 _ hR3;rw [hR3] at hi2;have hle3:=Va (by omega) hR3;dsimp only at hi2
   refine ox 10 ?_
   rw [←e_]
   refine X.at (ih (i+1,n3) ⟨by dsimp only;omega,hi2,by dsimp only;omega,by dsimp only;omega⟩ (by dsimp only;omega)) Zu leA
 replace h0:=sp h0;obtain rfl:i=l.length:=(by omega);rw [List.drop_length] at hi2;simp only [Zj,Z1] at hi2
 refine xx 6 ?_;refine Zq (pto pa (.cells [.pointer (some ⟨pp,0,none⟩),.int .i64 n1,.int .i64 lo].toArray 168 (0,0))::q) func80 (Zm results80 rfl) ⟨_,rfl,n1,by rw [hi2];rfl,by rw [hi2];intro m h;cases h;rfl,rfl⟩
theorem ask_all (hB:B≤1000000)(N:Nat)(hN:N≤1000000):AskB G B pa pp g lo N:=by
 induction N using Nat.strongRecOn with
 |ind N IH=>exact fun hs hb hd hn hp hK=>ask_step (fun n hn=>IH n hn (by omega)) hB hN hs hb hd hn hp hK
end
theorem M0 (a b:List Int):Y8 (a++b)=Y8 a+Y8 b:=by
 induction a with
 |nil=>simp [Y8]
 |cons x r ih=>simp only [Y8,List.cons_append,List.foldr_cons] at ih⊢;omega
theorem U7 {l:List Int}{k:Int}(h: ∀ x∈l,0≤x∧x≤k)(hk:0≤k):0≤Y8 l∧Y8 l≤k*l.length:=by
 induction l with
 |nil=>simp [Y8]
 |cons x r ih=>
  have h1:=h x (List.mem_cons_self ..)
  have h2:=ih fun y hy=>h y (List.mem_cons_of_mem _ hy)
  have e:Y8 (x::r)=x+Y8 r:=rfl
  rw [e,List.length_cons,Int.natCast_succ,Int.mul_add,Int.mul_one];omega
section
variable {G:World}{q:List HP}{pa pp:Nat}{g:FC}{lo:Int}
set_option maxHeartbeats 4000000 in
theorem Dm (hp:CellsAt q pp 0 (pgC g))(hK:Kn q fun M=>g.At M)(hl:g.vars.l.length≤1000000∧g.arrs.l.length≤1000000∧g.chs.l.length≤1000000∧g.ths.l.length≤1000000):CallF prog G 78 [.pointer (some ⟨pp,0,none⟩)] (q) (Ret fun v q'=>v= .bool (E0 g.er)∧q'=q):=by
 refine CallF.of func78 ntmps78 rfl (fun F cs=> ?_)
 have hp2:CellsAt q pp 0 [.slice g.vars.a g.vars.l.length g.vars.c,.slice g.arrs.a g.arrs.l.length g.arrs.c,.int .i64 g.mu,.int .i64 g.co,.slice g.chs.a g.chs.l.length g.chs.c,.slice g.ths.a g.ths.l.length g.ths.c,.int .i64 g.main,.int .i64 g.stm]:=fun k v hk=>hp k v (by revert hk;match k with|0|1|2|3|4|5|6|7=>exact fun h=>h|(k+8)=>intro h;cases h)
 obtain ⟨R,hR⟩: ∃ R,R=E0 g.er:=⟨_,rfl⟩;rw [←hR];unfold E0 at hR
 simp only [FC.er,List.length_map] at hR
 obtain ⟨l_vars,l_arrs,l_chs,l_ths⟩:=hl
 have hV:=(Sv.sees (hK.imp fun M h=>h.vars));have hA:=(Sv.sees (hK.imp fun M h=>h.arrs));have hC:=(Sv.sees (hK.imp fun M h=>h.chs));rw [U1] at hV hA hC
 refine xo 10 ?_;refine ld ?_ (hc:=((hp2.le leA) 2 _ rfl))
 refine oo 2 ?_;refine Zh [15,2,0] ?_
 apply Zy 6 21 15 rfl
 · intro g10 M10;have c10:=sp g10
   refine oo 3 ?_;refine ld ?_ (hc:=((hp2.le leA) 2 _ rfl))
   refine oo 2 ?_;exact Zz M10 ⟨orF g10,Zw⟩
 · intro g10 M10;have c10:=sp g10
   refine oo 6 ?_;exact Zz M10 ⟨orT g10,Zw⟩
 refine oo 1 ?_;refine Zh [22,2,0] ?_
 apply Zy 6 28 22 rfl
 · intro g10 M10;have c10:=sp g10
   refine oo 3 ?_;refine ld ?_ (hc:=((hp2.le leA) 3 _ rfl))
   refine oo 2 ?_;exact Zz M10 ⟨orF g10,Zw⟩
 · intro g10 M10;have c10:=sp g10
   refine oo 6 ?_;exact Zz M10 ⟨orT g10,Zw⟩
 refine oo 1 ?_;refine Zh [29,2,0] ?_
 apply Zy 6 35 29 rfl
 · intro g10 M10;have c10:=sp g10
   refine oo 3 ?_;refine ld ?_ (hc:=((hp2.le leA) 3 _ rfl))
   refine oo 2 ?_;exact Zz M10 ⟨orF g10,Zw⟩
 · intro g10 M10;have c10:=sp g10
   refine oo 6 ?_;exact Zz M10 ⟨orT g10,Zw⟩
 refine ox 1 ?_;refine X.part 35 rfl (fun h1=> ?_) (fun h1=> ?_)
 · replace h1:=sp h1
   refine xx 5 ?_;refine Zq (q) func78 (Zm results78 rfl) ⟨_,rfl,congrArg Value.bool (by rw [hR];symm;rw [decide_eq_false_iff_not];intro k;have k1:=k.1;have k2:=k.2.1;(first|omega|(simp at h1;omega))),rfl⟩
 replace h1:=sp h1;have hm:(0≤g.mu∧g.mu≤64)∧(0≤g.co∧g.co≤64):=(by first|omega|(simp at h1;omega))
 refine xx 4 ?_;refine drw ?_;refine dd [0,1,2] ?_;refine ldD 3 ?_ (hc:=((hp2.le leA) 0 _ rfl))
 refine dd [4,5,6,7] ?_;refine ldD 8 ?_ (hc:=((hp2.le leA) 1 _ rfl))
 refine dd [9,10,11,12,13] ?_;refine ldD 14 ?_ (hc:=((hp2.le leA) 2 _ rfl))
 refine dd [15,16,17,18] ?_;refine ldD 19 ?_ (hc:=((hp2.le leA) 3 _ rfl))
 refine dd [20,21,22,23] ?_;refine ldD 24 ?_ (hc:=((hp2.le leA) 4 _ rfl))
 refine dd [25,26,27,28,29] ?_;refine ldD 30 ?_ (hc:=((hp2.le leA) 5 _ rfl))
 refine dd [31,32,33] ?_;refine XD.nil ?_;refine X.part 69 rfl (fun h2=> ?_) (fun h2=> ?_)
 · replace h2:=sp h2
   refine xx 5 ?_;refine Zq (q) func78 (Zm results78 rfl) ⟨_,rfl,congrArg Value.bool (by rw [hR];symm;rw [decide_eq_false_iff_not];intro k;have k1:=k.2.2.1;omega),rfl⟩
 replace h2:=sp h2
 refine xo 8 ?_;refine ld ?_ (hc:=((hp2.le leA) 0 _ rfl))
 refine ox 4 ?_;refine X.at (X.loop (fun (s:Nat)=>s≤g.vars.l.length∧(∀ x∈g.vars.l.take s,val x)) (fun s=> [(0,.pointer (some ⟨pp,0,none⟩)),(73,.slice g.vars.a g.vars.l.length g.vars.c),(74,.int .i64 (g.vars.l.length:Int)),(75,.int .i64 (s:Int))]) (fun s=>q++F) (fun s=>g.vars.l.length - s) (fun s hi_ ih=> ?_) 0 ⟨Nat.zero_le _,by simp⟩) Zu leA
 try dsimp only at hi_ ih⊢
 obtain ⟨hi1,hi2⟩:=hi_
 refine xx 5 ?_;refine X.part 76 rfl (fun h0=> ?_) (fun h0=> ?_)
 · replace h0:=sp h0;have hlt:s<g.vars.l.length:=(by omega)
   refine Yb (hV.le leA) (by simp;omega) (fun ab ao e_=> ?_);have hs_:=hV;rw [e_] at hs_⊢
   refine xo 7 ?_;refine ld ?_ (hc:=((hs_.le leA).at rfl hlt))
   obtain ⟨x,hx⟩: ∃ x,x=g.vars.l[s]:=⟨_,rfl⟩
   refine XO.know 78 (.int .i64 x) rfl (by rw [hx]) ?_
   have hsn:g.vars.l.take (s+1)=g.vars.l.take s++ [x]:=by rw [List.take_succ_eq_append_getElem hlt,hx]
   refine oo 7 ?_;refine Zh [81,4,0,73,74,75] ?_
   apply Zy 3 84 81 rfl
   · intro g10 M10;have c10:=sp g10
     refine oo 3 ?_;exact Zz M10 ⟨orF g10,Zw⟩
   · intro g10 M10;have c10:=sp g10
     refine oo 3 ?_;exact Zz M10 ⟨orT g10,Zw⟩
   refine ox 1 ?_;refine X.part 84 rfl (fun h4=> ?_) (fun h4=> ?_)
   · replace h4:=sp h4
     refine xx 5 ?_;refine Zq (q) func78 (Zm results78 rfl) ⟨_,rfl,congrArg Value.bool (by rw [hR];symm;rw [decide_eq_false_iff_not];intro k;have k1:=k.2.2.2.1 x (hx ▸ List.getElem_mem hlt);unfold val at k1;(first|omega|(simp at h4;omega))),rfl⟩
   replace h4:=sp h4;have hv:val x:=(by unfold val;first|omega|(simp at h4;omega))
   refine xx 7 ?_
   rw [←e_]
   refine X.at (ih (s+1) ⟨by (try dsimp only);omega,fun y hy=>by
    (try dsimp only at hy)
    rw [hsn] at hy
    rcases List.mem_append.1 hy with hy|hy
    · exact hi2 y hy
    rw [List.mem_singleton.1 hy];exact hv⟩ (by (try dsimp only);omega)) Zu leA
 replace h0:=sp h0;obtain rfl:s=g.vars.l.length:=(by omega);rw [List.take_length] at hi2;have ok_vars:=hi2;clear ih
 refine xo 12 ?_;refine ld ?_ (hc:=((hp2.le leA) 1 _ rfl))
 refine ox 4 ?_;refine X.at (X.loop (fun (s:Nat×Int)=>s.1≤g.arrs.l.length∧(∀ x∈g.arrs.l.take s.1,1≤x∧x≤256)∧s.2=Y8 (g.arrs.l.take s.1)) (fun s=> [(0,.pointer (some ⟨pp,0,none⟩)),(89,.slice g.arrs.a g.arrs.l.length g.arrs.c),(90,.int .i64 (g.arrs.l.length:Int)),(91,.int .i64 (s.1:Int)),(5,.int .i64 s.2)]) (fun s=>q++F) (fun s=>g.arrs.l.length - s.1) (fun s hi_ ih=> ?_) (0,0) ⟨Nat.zero_le _,by simp,by simp [Y8]⟩) Zu leA
 try dsimp only at hi_ ih⊢
 obtain ⟨hi1,hi2,hi3⟩:=hi_
 obtain ⟨i,z⟩:=s;dsimp only at*
 refine xx 5 ?_;refine X.part 92 rfl (fun h0=> ?_) (fun h0=> ?_)
 · replace h0:=sp h0;have hlt:i<g.arrs.l.length:=(by omega)
   refine Yb (hA.le leA) (by simp;omega) (fun ab ao e_=> ?_);have hs_:=hA;rw [e_] at hs_⊢
   refine xo 7 ?_;refine ld ?_ (hc:=((hs_.le leA).at rfl hlt))
   obtain ⟨x,hx⟩: ∃ x,x=g.arrs.l[i]:=⟨_,rfl⟩
   refine XO.know 94 (.int .i64 x) rfl (by rw [hx]) ?_
   have hsn:g.arrs.l.take (i+1)=g.arrs.l.take i++ [x]:=by rw [List.take_succ_eq_append_getElem hlt,hx]
   have hsl:=U7 (l:=g.arrs.l.take i) (k:=256) (fun y hy=>by have:=hi2 y hy;omega) (by decide);rw [List.length_take] at hsl;have hi64:(i:Int)≤64:=(by omega);have hmn:((min i g.arrs.l.length:Nat):Int)=i:=(by omega);rw [hmn] at hsl
   refine oo 8 ?_;refine Zh [97,7,0,89,90,91,5] ?_
   apply Zy 3 100 97 rfl
   · intro g10 M10;have c10:=sp g10
     refine oo 3 ?_;exact Zz M10 ⟨orF g10,Zw⟩
   · intro g10 M10;have c10:=sp g10
     refine oo 3 ?_;exact Zz M10 ⟨orT g10,Zw⟩
   refine ox 1 ?_;refine X.part 100 rfl (fun h4=> ?_) (fun h4=> ?_)
   · replace h4:=sp h4
     refine xx 5 ?_;refine Zq (q) func78 (Zm results78 rfl) ⟨_,rfl,congrArg Value.bool (by rw [hR];symm;rw [decide_eq_false_iff_not];intro k;have k1:=k.2.2.2.2.1 x (hx ▸ List.getElem_mem hlt);(first|omega|(simp at h4;omega))),rfl⟩
   replace h4:=sp h4;have hv:1≤x∧x≤256:=(by first|omega|(simp at h4;omega))
   refine xx 13 ?_
   rw [←e_]
   refine X.at (ih (i+1,z+x) ⟨by (try dsimp only);omega,fun y hy=>by
    (try dsimp only at hy)
    rw [hsn] at hy
    rcases List.mem_append.1 hy with hy|hy
    · exact hi2 y hy
    rw [List.mem_singleton.1 hy];exact hv,by dsimp only;rw [hsn,M0,hi3];simp [Y8]⟩ (by (try dsimp only);omega)) Zu leA
 replace h0:=sp h0;obtain rfl:i=g.arrs.l.length:=(by omega);rw [List.take_length] at hi2 hi3;have ok_arrs:=hi2;clear ih
 have sm:=hi3;subst hi3;have hsl:=U7 (l:=g.arrs.l) (k:=256) (fun y hy=>by have:=hi2 y hy;omega) (by decide)
 refine xo 8 ?_;refine ld ?_ (hc:=((hp2.le leA) 4 _ rfl))
 refine ox 4 ?_;refine X.at (X.loop (fun (s:Nat)=>s≤g.chs.l.length∧(∀ x∈g.chs.l.take s,1≤x∧x≤16)) (fun s=> [(5,.int .i64 (Y8 g.arrs.l)),(108,.slice g.chs.a g.chs.l.length g.chs.c),(109,.int .i64 (g.chs.l.length:Int)),(110,.int .i64 (s:Int))]) (fun s=>q++F) (fun s=>g.chs.l.length - s) (fun s hi_ ih=> ?_) 0 ⟨Nat.zero_le _,by simp⟩) Zu leA
 try dsimp only at hi_ ih⊢
 obtain ⟨hi1,hi2⟩:=hi_
 refine xx 5 ?_;refine X.part 111 rfl (fun h0=> ?_) (fun h0=> ?_)
 · replace h0:=sp h0;have hlt:s<g.chs.l.length:=(by omega)
   refine Yb (hC.le leA) (by simp;omega) (fun ab ao e_=> ?_);have hs_:=hC;rw [e_] at hs_⊢
   refine xo 7 ?_;refine ld ?_ (hc:=((hs_.le leA).at rfl hlt))
   obtain ⟨x,hx⟩: ∃ x,x=g.chs.l[s]:=⟨_,rfl⟩
   refine XO.know 113 (.int .i64 x) rfl (by rw [hx]) ?_
   have hsn:g.chs.l.take (s+1)=g.chs.l.take s++ [x]:=by rw [List.take_succ_eq_append_getElem hlt,hx]
   refine oo 7 ?_;refine Zh [116,9,5,108,109,110] ?_
   apply Zy 3 119 116 rfl
   · intro g10 M10;have c10:=sp g10
     refine oo 3 ?_;exact Zz M10 ⟨orF g10,Zw⟩
   · intro g10 M10;have c10:=sp g10
     refine oo 3 ?_;exact Zz M10 ⟨orT g10,Zw⟩
   refine ox 1 ?_;refine X.part 119 rfl (fun h4=> ?_) (fun h4=> ?_)
   · replace h4:=sp h4
     refine xx 5 ?_;refine Zq (q) func78 (Zm results78 rfl) ⟨_,rfl,congrArg Value.bool (by rw [hR];symm;rw [decide_eq_false_iff_not];intro k;have k1:=k.2.2.2.2.2.1 x (hx ▸ List.getElem_mem hlt);(first|omega|(simp at h4;omega))),rfl⟩
   replace h4:=sp h4;have hv:1≤x∧x≤16:=(by first|omega|(simp at h4;omega))
   refine xx 7 ?_
   rw [←e_]
   refine X.at (ih (s+1) ⟨by omega,fun y hy=>by
    rw [hsn] at hy
    rcases List.mem_append.1 hy with hy|hy
    · exact hi2 y hy
    rw [List.mem_singleton.1 hy];exact hv⟩ (by omega)) Zu leA
 replace h0:=sp h0;obtain rfl:s=g.chs.l.length:=(by omega);rw [List.take_length] at hi2;clear ih
 refine xx 8 ?_;refine Zq (q) func78 (Zm results78 rfl) ⟨_,rfl,congrArg Value.bool (by rw [hR];rw [Bool.eq_iff_iff];simp only [decide_eq_true_eq];exact ⟨fun k=>⟨hm.1,hm.2,by omega,ok_vars,ok_arrs,hi2,k⟩,fun k=>k.2.2.2.2.2.2⟩),rfl⟩
set_option maxHeartbeats 4000000 in
theorem pmay_ok {B:Nat}(hp:CellsAt q pp 0 (pgC g))(hK:Kn q fun M=>g.At M)(hB:CpOk B g):CallF prog G 44 [.pointer (some ⟨pp,0,none⟩)] (q) (Ret fun v q'=>v= .bool (Bj g.er)∧q'=q):=by
 refine CallF.of func44 ntmps44 rfl (fun F cs=> ?_)
 have hp2:CellsAt q pp 0 [.slice g.vars.a g.vars.l.length g.vars.c,.slice g.arrs.a g.arrs.l.length g.arrs.c,.int .i64 g.mu,.int .i64 g.co,.slice g.chs.a g.chs.l.length g.chs.c,.slice g.ths.a g.ths.l.length g.ths.c,.int .i64 g.main,.int .i64 g.stm]:=fun k v hk=>hp k v (by revert hk;match k with|0|1|2|3|4|5|6|7=>exact fun h=>h|(k+8)=>intro h;cases h)
 obtain ⟨R,hR⟩: ∃ R,R=Bj g.er:=⟨_,rfl⟩;rw [←hR];unfold Bj at hR;rw [g_th,show g.er.main=g.main from rfl] at hR
 obtain ⟨l_vars,l_arrs,l_chs,l_ths,_⟩:=hB.l;have hT:=Sv.sees (hK.imp fun M h=>h.ths);have hlen:=Zv Qd g.ths.l
 refine xx 6 ?_;refine drw ?_;refine dd [0] ?_;refine Y0 1 call78 (Dm (hp.le leA) (hK.le leA) ⟨l_vars,l_arrs,l_chs,l_ths⟩) ?_
 refine XD.pu 2 rfl (Pu.not rfl) ?_;refine dd [3] ?_;refine Bt [9,2,0] ?_
 apply Br 0 [0,1,2,3,4,5,6,7,8,9,10,11,12,13,14,15] 21 9 rfl
 · intro g10 M10;have c10:=sp g10
   refine dd [4,5,6] ?_;refine ldD 7 ?_ (hc:=((hp2.le leA) 6 _ rfl))
   refine dd [8,9,10] ?_;refine ldD 11 ?_ (hc:=((hp2.le leA) 5 _ rfl))
   refine dd [12] ?_;refine Y0 13 call79 (Jy) ?_ (hL:=(hlA (h:=by repeat first|exact trivial|refine ⟨clA,?_⟩|refine ⟨(hp2.le leA) 0 _ rfl,?_⟩|refine ⟨(hp2.le leA) 1 _ rfl,?_⟩|refine ⟨(hp2.le leA) 2 _ rfl,?_⟩|refine ⟨(hp2.le leA) 3 _ rfl,?_⟩|refine ⟨(hp2.le leA) 4 _ rfl,?_⟩|refine ⟨(hp2.le leA) 5 _ rfl,?_⟩|refine ⟨(hp2.le leA) 6 _ rfl,?_⟩|refine ⟨(hp2.le leA) 7 _ rfl,?_⟩)))
   refine XD.pu 14 rfl (Pu.not rfl) ?_;refine dd [15] ?_;exact Um M10 ⟨orF g10,Zw⟩
 · intro g10 M10;have c10:=sp g10
   refine dd [4,5,6,7,8,9,10,11,12,13,14,15] ?_;exact Um M10 ⟨orT g10,Zw⟩
 intro L_
 refine XD.nil ?_;refine X.part 21 rfl (fun h1=> ?_) (fun h1=> ?_)
 · replace h1:=sp h1
   refine xx 5 ?_;refine Zq (q) func44 (Zm results44 rfl) ⟨_,rfl,congrArg Value.bool (by rw [hR];unfold inB;(first|(simp_all;done)|(rcases hz1:E0 g.er<;>rcases Decidable.em (0≤g.main∧g.main<(g.ths.l.length:Int)) with z|z<;>simp_all<;>(intros;omega)))),rfl⟩
 replace h1:=sp h1;obtain ⟨hn1,hn2⟩:E0 g.er=true∧inB g.main g.ths.l.length=true:=(by unfold inB;(first|(simp_all;done)|(rcases hz1:E0 g.er<;>rcases Decidable.em (0≤g.main∧g.main<(g.ths.l.length:Int)) with z|z<;>simp_all<;>(intros;omega))))
 rw [hn1,Bool.true_and,hn2,Bool.true_and] at hR
 refine xo 6 ?_;refine Y2 fun n1=> ?_
 refine oo 8 ?_;refine ld ?_ (hc:=((hp2.le leA) 5 _ rfl))
 refine ox 4 ?_;refine X.at (X.loop (fun (s:Nat×Int×Int)=>s.1≤g.ths.l.length∧R=(We g.er.cn ((g.ths.l.drop s.1).map Th.er) s.2.1==some g.stm)∧0≤s.2.1∧s.2.1≤512) (fun s=> [(0,.pointer (some ⟨pp,0,none⟩)),(3,.pointer (some ⟨n1,0,none⟩)),(29,.int .i64 (g.ths.l.length:Int)),(30,.int .i64 (s.1:Int))]) (fun s=>pto n1 (.cells [.pointer (some ⟨pp,0,none⟩),.int .i64 s.2.1,.int .i64 s.2.2].toArray 168 (0,0))::(q++F)) (fun s=>g.ths.l.length - s.1) (fun s hi_ ih=> ?_) (0,0,0) ⟨Nat.zero_le _,by rw [hR,List.drop_zero];rfl,by decide⟩) Zu leA
 try dsimp only at hi_ ih⊢
 obtain ⟨hi1,hi2,hi3⟩:=hi_
 obtain ⟨i,n,lo⟩:=s;dsimp only at*
 refine xx 5 ?_;refine X.part 31 rfl (fun h0=> ?_) (fun h0=> ?_)
 · replace h0:=sp h0;have hlt:i<g.ths.l.length:=(by omega)
   obtain ⟨x,hx⟩: ∃ x,x=g.ths.l[i]:=⟨_,rfl⟩;have hxt:=hB.t x (hx ▸ List.getElem_mem hlt);rw [List.drop_eq_getElem_cons hlt,←hx,List.map_cons] at hi2;simp only [We] at hi2;rw [show (Th.er x).loc=x.loc from rfl,show (Th.er x).body=Zj x.body from rfl] at hi2
   refine Yb (hT.le leA) (by rw [hlen];omega) (fun ab ao e_=> ?_);have hT2:=hT;have hp3:=hp2;rw [e_] at hT2 hp3
   have hCt:CellsAt q ab (ao+(i:Int).toNat*3) (thC x):=by rw [hx];exact CellsAt.row hT2 (Le.refl _) Qd hlt rfl
   have hKb:Kn q fun M=>BlkAt M x.a x.c x.body:=hK.imp fun M h=>h.bod x (hx ▸ List.getElem_mem hlt)
   refine xo 14 ?_;refine ld ?_ (hc:=((hp3.le leA) 5 _ rfl))
   refine oo 10 ?_;refine ld ?_ (hc:=((hCt.le leA) 1 _ rfl))
   refine oo 2 ?_;refine Zh [44,5,0,3,29,30] ?_
   apply Zy 6 50 44 rfl
   · intro g10 M10;have c10:=sp g10
     refine oo 3 ?_;refine ld ?_ (hc:=((hCt.le leA) 1 _ rfl))
     refine oo 2 ?_;exact Zz M10 ⟨orF g10,Zw⟩
   · intro g10 M10;have c10:=sp g10
     refine oo 6 ?_;exact Zz M10 ⟨orT g10,Zw⟩
   refine ox 1 ?_;refine X.part 50 rfl (fun h2=> ?_) (fun h2=> ?_)
   · replace h2:=sp h2
     refine xx 5 ?_;refine Zq (q) func44 (Zm results44 rfl) ⟨_,rfl,congrArg Value.bool (by rw [hi2];rw [if_pos (by first|omega|(simp at h2;omega))];rfl),rfl⟩
   replace h2:=sp h2;rw [if_neg (by first|omega|(simp at h2;omega))] at hi2
   refine xo 8 ?_;refine ld ?_ (hc:=((hCt.le leA) 1 _ rfl))
   refine oo 2 ?_;refine st ?_;refine oo 7 ?_;refine ld ?_ (hc:=((hCt.le leA) 2 _ rfl))
   refine Zb call80 Zk (ask_all hB.b (Zg x.body) hxt.1 (l:=x.body) (d:=1) (n:=n) (lo:=x.loc) (Nat.le_refl _) hxt.2 (by decide) hi3 (hp.le leA) (hKb.le leA)) ?_
   rintro _ _ ⟨n2,rfl,hn2,rfl⟩
   refine XO.pu (Pu.not rfl) ?_;refine ox 1 ?_
   rcases hR2:Z1 g.er.cn x.loc (Zj x.body) 1 n with _|m1
   · rw [hR2] at hi2;dsimp only at hi2
     refine X.kt 64 ?_;refine xx 5 ?_;refine Zq (q) func44 (Zm results44 rfl) ⟨_,rfl,congrArg Value.bool (by rw [hi2];rfl),rfl⟩
   rw [hR2] at hi2;dsimp only at hi2
   refine Wp 64 ?_;obtain rfl:=hn2 _ hR2;have hle:=Va (by omega) hR2
   refine xx 7 ?_;refine X.at (ih (i+1,n2,x.loc) ⟨by dsimp only;omega,hi2,by dsimp only;omega,by dsimp only;omega⟩ (by dsimp only;omega)) Zu leA
 replace h0:=sp h0;obtain rfl:i=g.ths.l.length:=(by omega);rw [List.drop_length] at hi2;simp only [List.map_nil,We] at hi2
 refine xx 3 ?_;refine drw ?_;refine dl [0,1,2] 3 ?_;refine dd [4,5,6] ?_;refine ldD 7 ?_ (hc:=((hp2.le leA) 7 _ rfl))
 refine dd [8,9] ?_;refine XD.nil ?_;refine Zq (q) func44 (Zm results44 rfl) ⟨_,rfl,congrArg Value.bool (by rw [hi2,Bool.eq_iff_iff];simp),rfl⟩
end
def yH (p:Nat)(s:Sy):HP:=ex fun σ:SyC=>stars (pure (Real σ s)::syL p σ)
theorem P6 {p:Nat}{s:Sy}{σ:SyC}(h:Real σ s)(q:List HP):Le (syL p σ++q) (yH p s::q):=
 Dj σ ((Qy h _).trans (Z5 (pure (Real σ s)::syL p σ) q))
theorem Ux {P:Program}{G:World}{fn:FuncId}{vs:List Value}{p:Nat}{s:Sy}{R:Wx.Ui}(h: ∀ σ,Real σ s→CallF P G fn vs (syL p σ) R):CallF P G fn vs [yH p s] R:=by
 intro F w st cs
 obtain ⟨σ,s1⟩:=St.get_ex st
 have s2:=s1.le (Z0 (pure (Real σ s)::syL p σ) F)
 exact h σ s2.get_pure F w (s2.le (Le.drop _ _)) cs
theorem Ut {p:Nat}{s:Sy}{σ:SyC}(h:Real σ s):Le (syL p σ) [yH p s]:=by have:=P6 (p:=p) h [];rwa [List.append_nil] at this
structure PS where
 b:Nat
 o:Nat
 s:Stm
def PS.v (x:PS):Value:= .pointer (some ⟨x.b,x.o,none⟩)
def PS.At (M:Hp)(x:PS):Prop:=StAt M ⟨x.b,x.o,none⟩ x.s
def psL (b o:Nat)(l:List Stm):List PS:=(List.range l.length).map fun i=>⟨b,o+i*25,l.getD i zSm⟩
theorem Hl (b o:Nat)(l:List Stm):(psL b o l).length=l.length:=by simp [psL]
theorem Ei (b o:Nat)(l:List Stm):(psL b o l).map (fun y=>y.s.er)=Zj l:=by
 apply List.ext_getElem
 · simp [psL,Zf]
 intro i h1 h2
 have hi:i<l.length:=by simpa [psL] using h1
 simp [psL,Yg,hi]
theorem El {M:Hp}{b o c:Nat}{l:List Stm}(h:BlkAt M (some ⟨b,o,none⟩) c l): ∀ y∈psL b o l,y.At M:=by
 intro y hy
 obtain ⟨i,hi,rfl⟩:=List.mem_map.1 hy
 have hi:=List.mem_range.1 hi
 obtain ⟨b',o',e1,e2⟩:=SeesZ.row Z3 (by decide) h.1.2.2 hi
 cases e1
 have e:l.getD i zSm=l[i]:=by simp [List.getD,hi]
 unfold PS.At
 dsimp only
 rw [e]
 exact ⟨e2,Vk.1 h.2 _ (List.getElem_mem hi)⟩
structure TC where
 decl:Int
 st:Int
 la:Option Addr
 lc:Nat
 loc:List Int
 ta:Option Addr
 tc:Nat
 todo:List PS
 sa:Option Addr
 sc:Nat
 sp:List Int
def trC (x:TC):List Value:= [.int .i64 x.decl,.int .i64 x.st,.slice x.la x.loc.length x.lc,.slice x.ta x.todo.length x.tc,.slice x.sa x.sp.length x.sc]
theorem Zd (x:TC):(trC x).length=5:=rfl
theorem Eg (x:TC):(trC x).all (·.oneCell')=true:=rfl
def TC.er (x:TC):PTr:=⟨x.decl,x.st,x.loc,(x.todo.map fun y=>y.s.er).reverse,x.sp⟩
def trL (x:TC):List HP:= [lsH I64 2 x.la x.lc x.loc,lsH PS.v 146 x.ta x.tc x.todo,lsH I64 3 x.sa x.sc x.sp]
def trH (x:TC):HP:=stars (trL x)
def TodoAt (M:Hp)(l:List TC):Prop:= ∀ t∈l,∀ y∈t.todo,y.At M
structure StC where
 ca:Option Addr
 cc:Nat
 cells:List Int
 sp:Nat
 sy:Sy
 ha:Option Addr
 hc:Nat
 ths:List TC
 out:POut
def Yu (pp:Nat)(σ:StC):List Value:= [.pointer (some ⟨pp,0,none⟩),.slice σ.ca σ.cells.length σ.cc,.pointer (some ⟨σ.sp,0,none⟩),.slice σ.ha σ.ths.length σ.hc,.int .i64 σ.out.kind,.int .i64 σ.out.trap,.int .i64 σ.out.th,.int .i64 σ.out.stmt]
def StC.er (σ:StC):SS:=⟨σ.cells,σ.sy,σ.ths.map TC.er,σ.out⟩
def Zr (σ:StC):List HP:= [lsH I64 2 σ.ca σ.cc σ.cells,yH σ.sp σ.sy,rsH trC 5 116 σ.ha σ.hc σ.ths,stars (σ.ths.map trH)]
def stP (p pp:Nat)(σ:StC):HP:=pto p (.cells (Yu pp σ).toArray 98 (0,0))
def acC (x:Ac):List Value:= [.int .i64 x.1,.bool x.2.1,.int .i64 x.2.2]
def snC (x:Sn):List Value:= [.int .i64 x.1,.int .i64 x.2.1,.int .i64 x.2.2]
structure EvC where
 e:PEv
 aa:Option Addr
 ac:Nat
 na:Option Addr
 nc:Nat
def evC (x:EvC):List Value:= [.int .i64 x.e.th,.int .i64 x.e.stmt,.bool x.e.woke,.int .i64 x.e.trap,.slice x.aa x.e.acc.length x.ac,.bool x.e.told,.int .i64 x.e.outv,.int .i64 x.e.value,.slice x.na x.e.syn.length x.nc]
def evL (x:EvC):List HP:= [rsH acC 3 140 x.aa x.ac x.e.acc,rsH snC 3 50 x.na x.nc x.e.syn]
def spP (p pp who:Nat)(σ:StC)(e:EvC):HP:=pto p (.cells (Yu pp σ++(.int .i64 (who:Int)::evC e)).toArray 145 (0,0))
structure Prg (q:List HP) (pp:Nat) (g:FC):Prop where
 hp:CellsAt q pp 0 (pgC g)
 hK:Kn q fun M=>g.At M
theorem Prg.le {q q':List HP}{pp:Nat}{g:FC}(h:Prg q' pp g)(l:Le q q'):Prg q pp g:=⟨h.hp.le l,h.hK.le l⟩
def Fnd.pr (f:Fnd):PPr:=⟨f.vars,f.arrs,f.chs,f.mu,f.co,f.main,f.ths.map fun t=>(t.loc,t.body)⟩
theorem Gb (n:Nat)(a:Option Addr)(c ty:Nat)(q:List HP):Le (slH a c ty 1 n ((List.replicate n (Value.int .i64 0).cells.toList).flatten)::q) (lsH I64 ty a c (List.replicate n 0)::q):=by
 unfold lsH
 rw [List.length_replicate,show (List.replicate n (0:Int)).map I64=(List.replicate n (Value.int .i64 0).cells.toList).flatten by simp [Value.cells]]
 exact Le.refl _
theorem Wa:(prog.info? 146).map (fun i=>(i.zero,i.size,i.bytes))=some (some (.pointer none),1,8):=by kernel_rfl
section
variable {G:World}{q:List HP}{p pp b o c n:Nat}{s:Sy}{k t v m:Int}{g:FC}{a ta:Option Addr}{tc:Nat}{todo:List PS}{x0 x1 x2 x4:Value}{l:List Stm}
theorem S5 {N:Nat}(hs:s.ok N)(hN:N≤1000):CallF prog G 56 [.pointer (some ⟨p,0,none⟩),.int .i64 m] [yH p s] (Ret fun v q'=>v= .tuple [.int .i64 (Hv s m).1,.int .i64 (Hv s m).2].toArray∧q'= [yH p s]):=
 Ux fun σ hR=>CallF.conv (Le.refl _) (Owner_ok hR hs hN) (by rintro _ _ ⟨_,rfl,rfl,rfl⟩;exact ⟨_,⟨_,rfl,rfl,rfl⟩,(Ut hR)⟩)
theorem Lock_Y {N:Nat}(hs:s.ok N)(hN:N≤1000):CallF prog G 128 [.pointer (some ⟨p,0,none⟩),.int .i64 m,.int .i64 t] [yH p s] (Ret fun v q'=>v= .tuple [.bool (Wi s m t).2.1,.int .i64 (Wi s m t).2.2].toArray∧q'= [yH p (Wi s m t).1]):=
 Ux fun σ hR=>CallF.conv (Le.refl _) (Lock_ok hR hs hN) (by rintro _ _ ⟨_,rfl,σ',h1,rfl,rfl⟩;exact ⟨_,⟨_,rfl,rfl,rfl⟩,(Ut h1)⟩)
theorem Unlock_Y {N:Nat}(hs:s.ok N)(hN:N≤1000):CallF prog G 193 [.pointer (some ⟨p,0,none⟩),.int .i64 m,.int .i64 t] [yH p s] (Ret fun v q'=>v= .int .i64 (Z6 s m t).2∧q'= [yH p (Z6 s m t).1]):=
 Ux fun σ hR=>CallF.conv (Le.refl _) (Oy hR hs hN) (by rintro _ _ ⟨_,rfl,σ',h1,rfl,rfl⟩;exact ⟨_,⟨_,rfl,rfl,rfl⟩,(Ut h1)⟩)
theorem Wait_Y {N:Nat}(hs:s.ok N)(hN:N≤1000):CallF prog G 171 [.pointer (some ⟨p,0,none⟩),.int .i64 k,.int .i64 t] [yH p s] (Ret fun v q'=>v= .int .i64 (Ul s k t).2∧q'= [yH p (Ul s k t).1]):=
 Ux fun σ hR=>CallF.conv (Le.refl _) (Wait_ok hR hs hN) (by rintro _ _ ⟨_,rfl,σ',h1,rfl,rfl⟩;exact ⟨_,⟨_,rfl,rfl,rfl⟩,(Ut h1)⟩)
theorem Cw {N:Nat}(hs:s.ok N)(hN:N≤1000):CallF prog G 172 [.pointer (some ⟨p,0,none⟩),.int .i64 k] [yH p s] (Ret fun v q'=>v= .tuple [.int .i64 (max (Yr s k).2.1 0),.bool (decide (0≤(Yr s k).2.1)),.int .i64 (Yr s k).2.2].toArray∧q'= [yH p (Yr s k).1]):=
 Ux fun σ hR=>CallF.conv (Le.refl _) (Om hR hs hN) (by rintro _ _ ⟨_,rfl,σ',h1,rfl,rfl⟩;exact ⟨_,⟨_,rfl,rfl,rfl⟩,(Ut h1)⟩)
theorem All_Y {N:Nat}(hs:s.ok N)(hN:N≤1000):CallF prog G 173 [.pointer (some ⟨p,0,none⟩),.int .i64 k] [yH p s] (Ret fun v q'=> ∃ a' c',v= .tuple [.slice a' (J4 s k).2.1.length c',.int .i64 (J4 s k).2.2].toArray∧q'= [lsH I64 3 a' c' (J4 s k).2.1,yH p (J4 s k).1]):=
 Ux fun σ hR=>CallF.conv (Le.refl _) (All_ok hR hs hN) (by rintro _ _ ⟨_,rfl,σ',a',c',h1,rfl,rfl⟩;exact ⟨_,⟨_,rfl,a',c',rfl,rfl⟩,(Le.cons _ (Ut h1))⟩)
theorem Send_Y {N:Nat}(hs:s.ok N)(hN:N≤1000):CallF prog G 174 [.pointer (some ⟨p,0,none⟩),.int .i64 k,.int .i64 t] [yH p s] (Ret fun v q'=>v= .tuple [.int .i64 (max (Vz s k t).2.1 0),.bool (decide (0≤(Vz s k t).2.1)),.int .i64 (Vz s k t).2.2].toArray∧q'= [yH p (Vz s k t).1]):=
 Ux fun σ hR=>CallF.conv (Le.refl _) (Send_ok hR hs hN) (by rintro _ _ ⟨_,rfl,σ',h1,rfl,rfl⟩;exact ⟨_,⟨_,rfl,rfl,rfl⟩,(Ut h1)⟩)
theorem Recv_Y {N:Nat}(hs:s.ok N)(hN:N≤1000):CallF prog G 175 [.pointer (some ⟨p,0,none⟩),.int .i64 k] [yH p s] (Ret fun v q'=>v= .tuple [.int .i64 (W5 s k).2.1,.int .i64 (max (W5 s k).2.2.1 0),.bool (decide (0≤(W5 s k).2.2.1)),.int .i64 (W5 s k).2.2.2].toArray∧q'= [yH p (W5 s k).1]):=
 Ux fun σ hR=>CallF.conv (Le.refl _) (Recv_ok hR hs hN) (by rintro _ _ ⟨_,rfl,σ',h1,rfl,rfl⟩;exact ⟨_,⟨_,rfl,rfl,rfl⟩,(Ut h1)⟩)
theorem Cz {N:Nat}(hs:s.ok N)(hN:N≤1000):CallF prog G 58 [.pointer (some ⟨p,0,none⟩),.int .i64 k] [yH p s] (Ret fun v q'=> ∃ a' c',v= .tuple [.slice a' (U6 s k).1.length c',.int .i64 (U6 s k).2].toArray∧q'= [lsH I64 2 a' c' (U6 s k).1,yH p s]):=
 Ux fun σ hR=>CallF.conv (Le.refl _) (Ox hR hs hN) (by rintro _ _ ⟨_,rfl,a',c',rfl,rfl⟩;exact ⟨_,⟨_,rfl,a',c',rfl,rfl⟩,(Le.cons _ (Ut hR))⟩)
theorem Room_Y {N:Nat}(hs:s.ok N)(hN:N≤1000):CallF prog G 125 [.pointer (some ⟨p,0,none⟩),.int .i64 k] [yH p s] (Ret fun v q'=>v= .tuple [.int .i64 (Rr s k).1,.int .i64 (Rr s k).2].toArray∧q'= [yH p s]):=
 Ux fun σ hR=>CallF.conv (Le.refl _) (Room_ok hR hs hN) (by rintro _ _ ⟨_,rfl,rfl,rfl⟩;exact ⟨_,⟨_,rfl,rfl,rfl⟩,(Ut hR)⟩)
theorem Copy_Y {N:Nat}(hs:s.ok N)(hN:N≤1000):CallF prog G 67 [.pointer (some ⟨p,0,none⟩)] [yH p s] (Ret fun v q'=> ∃ p2,v= .pointer (some ⟨p2,0,none⟩)∧q'= [yH p2 s,yH p s]):=
 Ux fun σ hR=>CallF.conv (Le.refl _) (Copy_ok hR hs hN) (by rintro _ _ ⟨_,rfl,p2,σ2,h2,rfl,rfl⟩;exact ⟨_,⟨_,rfl,p2,rfl,rfl⟩,(P6 h2 _).trans (Le.cons _ (Ut hR))⟩)
theorem New_Y {a:Option Addr}{c:Nat}{mm cc:Int}{rooms:List Int}(hs:Sees q a (rooms.map I64))(ok:My mm cc rooms):CallF prog G 46 [.int .i64 mm,.int .i64 cc,.slice a rooms.length c] q (Ret fun v q'=> ∃ p,v= .tuple [.pointer (some ⟨p,0,none⟩),.int .i64 0].toArray∧q'=yH p (R8 mm.toNat cc.toNat rooms)::q):=
 CallF.conv (Le.refl _) (New_ok hs ok) (by rintro _ _ ⟨_,rfl,p,σ,h,rfl,rfl⟩;exact ⟨_,⟨_,rfl,p,rfl,rfl⟩,P6 h _⟩)
theorem J1 (hc:Cl q ⟨b,o+3,none⟩ (.slice ta todo.length tc))(hs:Sees q ta (todo.map PS.v))(hl:todo.length≤1000000):CallF prog G 60 [.pointer (some ⟨b,o,none⟩)] (q) (Ret fun v q'=>v=(match todo.getLast? with|none=>Value.pointer none|some y=>y.v)∧q'=q):=by
 refine CallF.of func60 ntmps60 rfl (fun F cs=> ?_)
 refine xo 10 ?_;refine ld ?_ (hc:=(hc.le leA))
 refine ox 3 ?_;refine X.part 8 rfl (fun h1=> ?_) (fun h1=> ?_)
 · replace h1:=sp h1;obtain rfl:todo= []:=List.eq_nil_of_length_eq_zero (by omega)
   refine xx 5 ?_;refine Zq (q) func60 (Zm results60 rfl) ⟨_,rfl,rfl,rfl⟩
 replace h1:=sp h1;have hl0:0<todo.length:=(by omega);refine Yb (hs.le leA) (by simp;omega) (fun b1 o1 e_=> ?_);subst e_
 have hgl:todo.getLast? =some todo[todo.length - 1]:=by rw [List.getLast?_eq_getElem?,List.getElem?_eq_getElem (by omega)]
 refine xx 3 ?_;refine drw ?_;refine dd [0,1,2] ?_;refine ldD 3 ?_ (hc:=(hc.le leA))
 refine dd [4,5,6] ?_;refine ldD 7 ?_ (hc:=(hc.le leA))
 refine dd [8,9,10] ?_;refine ldD 11 ?_ (hc:=((hs.le leA).at (n:=todo.length - 1) (by omega) (by omega)))
 refine dd [12] ?_;refine XD.nil ?_;refine Zq (q) func60 (Zm results60 rfl) ⟨_,rfl,by rw [hgl],rfl⟩
variable {ths:List TC}{hc gh:Nat}{d:Int}
set_option maxHeartbeats 2000000 in
theorem push_box (hK:Kn q fun M=>BlkAt M a c l)(hl:l.length≤1000000∧todo.length≤1000000):CallF prog G 84 [.pointer (some ⟨b,0,none⟩),.slice a l.length c] (pto b (.cells [x0,x1,x2,.slice ta todo.length tc,x4].toArray 116 (0,0))::lsH PS.v 146 ta tc todo::q) (Ret fun v q'=> ∃ a' c' b' o',(0<l.length→a=some ⟨b',o',none⟩)∧q'=pto b (.cells [x0,x1,x2,.slice a' (todo++(psL b' o' l).reverse).length c',x4].toArray 116 (0,0))::lsH PS.v 146 a' c' (todo++(psL b' o' l).reverse)::q):=by
 refine CallF.of func84 ntmps84 rfl (fun F cs=> ?_)
 have hS:=Kn.sees (hK.imp fun M h=>h.1.2.2);have hlen:=Zv Z3 l
 rcases Nat.eq_zero_or_pos l.length with hl0|hl0
 · obtain rfl:=List.eq_nil_of_length_eq_zero hl0
   refine xx 7 ?_;refine X.at (X.loop (fun (uu:Unit)=>True) (fun uu=> [(0,.pointer (some ⟨b,0,none⟩)),(1,.slice a 0 c),(6,.int .i64 0),(7,.int .i64 0)]) (fun uu=>pto b (.cells [x0,x1,x2,.slice ta todo.length tc,x4].toArray 116 (0,0))::lsH PS.v 146 ta tc todo::(q++F)) (fun uu=>0) (fun uu hi_ ih=> ?_) () trivial) Zu leA
   try dsimp only at hi_ ih⊢
   obtain _:=hi_
   refine xx 5 ?_;refine X.part 8 rfl (fun h0=> ?_) (fun h0=> ?_)
   · exact absurd (sp h0) (by decide)
   refine xx 2 ?_;refine Z7 (pto b (.cells [x0,x1,x2,.slice ta todo.length tc,x4].toArray 116 (0,0))::lsH PS.v 146 ta tc todo::q) func84 (Vx results84) ⟨_,rfl,ta,tc,0,0,(fun k=>absurd k (by decide)),by simp [psL]⟩
 refine Yb (hS.le leA) (by rw [hlen];omega) (fun ab ao e_=> ?_);subst e_
 obtain ⟨ps,hps⟩: ∃ ps,ps=(psL ab ao l).reverse:=⟨_,rfl⟩;have hpl:ps.length=l.length:=by rw [hps,List.length_reverse,Hl]
 refine xx 7 ?_;refine X.at (X.loop (fun (s:Nat×Option Addr×Nat)=>s.1≤l.length) (fun s=> [(0,.pointer (some ⟨b,0,none⟩)),(1,.slice (some ⟨ab,ao,none⟩) l.length c),(6,.int .i64 (l.length:Int)),(7,.int .i64 (s.1:Int))]) (fun s=>pto b (.cells [x0,x1,x2,.slice s.2.1 (todo++ps.take s.1).length s.2.2,x4].toArray 116 (0,0))::lsH PS.v 146 s.2.1 s.2.2 (todo++ps.take s.1)::(q++F)) (fun s=>l.length - s.1) (fun s hi_ ih=> ?_) (0,ta,tc) (Nat.zero_le _)) Zu (by simp only [List.take_zero,List.append_nil];exact leA)
 try dsimp only at hi_ ih⊢
 obtain hi:=hi_
 obtain ⟨i,a1,c1⟩:=s;dsimp only at*
 refine xx 5 ?_;refine X.part 8 rfl (fun h0=> ?_) (fun h0=> ?_)
 · replace h0:=sp h0;have hlt:i<l.length:=(by omega);have hip:i<ps.length:=(by omega)
   have hx:ps[i]=⟨ab,ao+(l.length - 1 - i)*25,l.getD (l.length - 1 - i) zSm⟩:=by simp [hps,psL]
   have htl:(todo++ps.take i).length≤2000000:=by rw [List.length_append,List.length_take];omega
   refine xx 9 ?_;refine drw ?_;refine dl [0,1,2,3] 4 ?_;refine dd [5,6,7,8,9,10,11] ?_;refine XD.ef 12 rfl (U9 (u:=ps[i]) PS.v underlying114 Wa (by rw [hx];exact congrArg some (congrArg (fun z=>Value.pointer (some ⟨ab,ao+z*25,none⟩)) (by omega))) rfl) ?_
   rintro _ _ ⟨g2,rfl,rfl⟩
   refine ⟨hlA,?_⟩
   refine XD.ef 13 rfl (Yw (f:=PS.v) (l:=todo++ps.take i) (m:= [ps[i]]) underlying114 Wa rfl rfl rfl Zk ((Sees.lsH _).le leA) (fun _=>rfl) (by simp only [List.length_singleton];omega) (by simp only [List.length_singleton];omega)) ?_
   rintro _ _ ⟨a2,c2,rfl,rfl⟩
   refine ⟨trivial,?_⟩
   rw [show todo++ps.take i++ [ps[i]]=todo++ps.take (i+1) by rw [List.take_succ_eq_append_getElem hip,List.append_assoc]]
   refine dd [14,15] ?_;refine stD 16 ?_;refine XD.nil ?_;refine xx 5 ?_;refine X.at (ih (i+1,a2,c2) (by dsimp only;omega) (by dsimp only;omega)) Zu leA
 replace h0:=sp h0;obtain rfl:i=l.length:=(by omega);rw [←hpl,List.take_length,hps]
 refine xx 2 ?_;refine Z7 (pto b (.cells [x0,x1,x2,.slice a1 (todo++(psL ab ao l).reverse).length c1,x4].toArray 116 (0,0))::lsH PS.v 146 a1 c1 (todo++(psL ab ao l).reverse)::q) func84 (Vx results84) ⟨_,rfl,a1,c1,ab,ao,fun _=>rfl,rfl⟩
abbrev zTC:TC:=⟨0,0,none,0, [],none,0, [],none,0, []⟩
set_option maxHeartbeats 2000000 in
theorem R1 (hn:n<ths.length)(hK:Kn q fun M=>BlkAt M a c l)(hl:l.length≤1000000∧ths[n].todo.length≤1000000):CallF prog G 84 [.pointer (some ⟨gh,0+(n:Int).toNat*5,none⟩),.slice a l.length c] (rsH trC 5 116 (some ⟨gh,0,none⟩) hc ths::lsH PS.v 146 ths[n].ta ths[n].tc ths[n].todo::q) (Ret fun v q'=> ∃ a' c' b' o',(0<l.length→a=some ⟨b',o',none⟩)∧q'=rsH trC 5 116 (some ⟨gh,0,none⟩) hc (ths.set n { ths.getD n zTC with ta:=a',tc:=c',todo:=(ths[n].todo++(psL b' o' l).reverse) })::lsH PS.v 146 a' c' (ths[n].todo++(psL b' o' l).reverse)::q):=by
 refine CallF.of func84 ntmps84 rfl (fun F cs=> ?_)
 have hS:=Kn.sees (hK.imp fun M h=>h.1.2.2);have hlen:=Zv Z3 l
 obtain ⟨t,ht⟩: ∃ t,t=ths[n]:=⟨_,rfl⟩;have hgd:ths.getD n zTC=t:=by rw [ht];simp [List.getD,hn]
 have hset:ths.set n t=ths:=by rw [ht];exact List.set_getElem_self hn
 rw [←ht] at hl⊢;simp only [hgd]
 refine X.le (q':=rsH trC 5 116 (some ⟨gh,0,none⟩) hc (ths.set n { t with ta:=t.ta,tc:=t.tc,todo:=t.todo })::lsH PS.v 146 t.ta t.tc t.todo::(q++F)) (by rw [show ths.set n { t with ta:=t.ta,tc:=t.tc,todo:=t.todo } =ths from hset];exact leA) ?_
 rcases Nat.eq_zero_or_pos l.length with hl0|hl0
 · obtain rfl:=List.eq_nil_of_length_eq_zero hl0
   refine xx 7 ?_;refine X.at (X.loop (fun (uu:Unit)=>True) (fun uu=> [(0,.pointer (some ⟨gh,0+(n:Int).toNat*5,none⟩)),(1,.slice a 0 c),(6,.int .i64 0),(7,.int .i64 0)]) (fun uu=>rsH trC 5 116 (some ⟨gh,0,none⟩) hc (ths.set n { t with ta:=t.ta,tc:=t.tc,todo:=t.todo })::lsH PS.v 146 t.ta t.tc t.todo::(q++F)) (fun uu=>0) (fun uu hi_ ih=> ?_) () trivial) Zu leA
   try dsimp only at hi_ ih⊢
   obtain _:=hi_
   refine xx 5 ?_;refine X.part 8 rfl (fun h0=> ?_) (fun h0=> ?_)
   · exact absurd (sp h0) (by decide)
   refine xx 2 ?_;refine Z7 (rsH trC 5 116 (some ⟨gh,0,none⟩) hc (ths.set n { t with ta:=t.ta,tc:=t.tc,todo:=t.todo })::lsH PS.v 146 t.ta t.tc t.todo::q) func84 (Vx results84) ⟨_,rfl,t.ta,t.tc,0,0,(fun k=>absurd k (by decide)),by simp [psL]⟩
 refine Yb (hS.le leA) (by rw [hlen];omega) (fun ab ao e_=> ?_);subst e_
 obtain ⟨ps,hps⟩: ∃ ps,ps=(psL ab ao l).reverse:=⟨_,rfl⟩;have hpl:ps.length=l.length:=by rw [hps,List.length_reverse,Hl]
 refine xx 7 ?_;refine X.at (X.loop (fun (s:Nat×Option Addr×Nat)=>s.1≤l.length) (fun s=> [(0,.pointer (some ⟨gh,0+(n:Int).toNat*5,none⟩)),(1,.slice (some ⟨ab,ao,none⟩) l.length c),(6,.int .i64 (l.length:Int)),(7,.int .i64 (s.1:Int))]) (fun s=>rsH trC 5 116 (some ⟨gh,0,none⟩) hc (ths.set n { t with ta:=s.2.1,tc:=s.2.2,todo:=(t.todo++ps.take s.1) })::lsH PS.v 146 s.2.1 s.2.2 (t.todo++ps.take s.1)::(q++F)) (fun s=>l.length - s.1) (fun s hi_ ih=> ?_) (0,t.ta,t.tc) (Nat.zero_le _)) Zu (by simp only [List.take_zero,List.append_nil];exact leA)
 try dsimp only at hi_ ih⊢
 obtain hi:=hi_
 obtain ⟨i,a1,c1⟩:=s;dsimp only at*
 refine xx 5 ?_;refine X.part 8 rfl (fun h0=> ?_) (fun h0=> ?_)
 · replace h0:=sp h0;have hlt:i<l.length:=(by omega);have hip:i<ps.length:=(by omega)
   have hx:ps[i]=⟨ab,ao+(l.length - 1 - i)*25,l.getD (l.length - 1 - i) zSm⟩:=by simp [hps,psL]
   have htl:(t.todo++ps.take i).length≤2000000:=by rw [List.length_append,List.length_take];omega
   refine xx 9 ?_;refine drw ?_;refine dd [0,1,2,3] ?_;refine ldD 4 ?_ (hc:=(Cl.row (n:=n) (Sees.rsH _) leA Zd (by rw [List.length_set];exact hn) rfl 3 _ (by rw [List.getElem_set_self];rfl)))
   refine dd [5,6,7,8,9,10,11] ?_;refine XD.ef 12 rfl (U9 (u:=ps[i]) PS.v underlying114 Wa (by rw [hx];exact congrArg some (congrArg (fun z=>Value.pointer (some ⟨ab,ao+z*25,none⟩)) (by omega))) rfl) ?_
   rintro _ _ ⟨g2,rfl,rfl⟩
   refine ⟨(hlA (h:=by repeat first|exact trivial|refine ⟨clA,?_⟩|refine ⟨(Cl.row (n:=n) (Sees.rsH _) leA Zd (by rw [List.length_set];exact hn) rfl 3 _ (by rw [List.getElem_set_self];rfl)),?_⟩)),?_⟩
   refine XD.ef 13 rfl (Yw (f:=PS.v) (l:=t.todo++ps.take i) (m:= [ps[i]]) underlying114 Wa rfl rfl rfl Zk ((Sees.lsH _).le leA) (fun _=>rfl) (by simp only [List.length_singleton];omega) (by simp only [List.length_singleton];omega)) ?_
   rintro _ _ ⟨a2,c2,rfl,rfl⟩
   refine ⟨trivial,?_⟩
   rw [show t.todo++ps.take i++ [ps[i]]=t.todo++ps.take (i+1) by rw [List.take_succ_eq_append_getElem hip,List.append_assoc]]
   refine dd [14,15] ?_;refine XD.ef0 16 rfl (Yi (g:=gh) (f:=trC) (l:=ths.set n { t with ta:=a1,tc:=c1,todo:=t.todo++ps.take i }) (u:= { t with ta:=a2,tc:=c2,todo:=t.todo++ps.take (i+1) }) (n:=n) (k:=3) (j:=(n:Int)) rfl rfl sizeOf114 Zd rfl (by rw [List.length_set];exact hn) rfl (by rw [List.getElem_set_self];rfl) rfl rfl Zk) ?_
   rintro _ _ ⟨rfl,rfl⟩
   refine ⟨trivial,?_⟩
   rw [List.set_set]
   refine XD.nil ?_;refine xx 5 ?_;refine X.at (ih (i+1,a2,c2) (by dsimp only;omega) (by dsimp only;omega)) Zu leA
 replace h0:=sp h0;obtain rfl:i=l.length:=(by omega);rw [←hpl,List.take_length,hps]
 refine xx 2 ?_;refine Z7 (rsH trC 5 116 (some ⟨gh,0,none⟩) hc (ths.set n { t with ta:=a1,tc:=c1,todo:=(t.todo++(psL ab ao l).reverse) })::lsH PS.v 146 a1 c1 (t.todo++(psL ab ao l).reverse)::q) func84 (Vx results84) ⟨_,rfl,a1,c1,ab,ao,fun _=>rfl,rfl⟩
end
theorem E1:(prog.info? 2).map (fun i=>(i.zero,i.size,i.bytes))=some (some (.int .i64 0),1,8):=by kernel_rfl
theorem Rj:(prog.info? 3).map (fun i=>(i.zero,i.size,i.bytes))=some (some (.int .i64 0),1,8):=by kernel_rfl
theorem U0:(prog.info? 116).map (fun i=>(i.zero,i.size,i.bytes))=some (some (.agg #[.int .i64 0,.int .i64 0,.slice none 0 0,.slice none 0 0,.slice none 0 0]),5,88):=by kernel_rfl
theorem getD_pr {g:FC}{n:Nat}(h:n<g.ths.l.length):g.er.pr.ths.getD n (0, [])=(g.ths.l[n].loc,Zj g.ths.l[n].body):=by
 have h2:n<g.er.pr.ths.length:=by simp [FC.er,Fnd.pr];exact h
 rw [List.getD_eq_getElem?_getD,List.getElem?_eq_getElem h2]
 simp [FC.er,Fnd.pr,Th.er]
section
variable {G:World}{q:List HP}{pp n:Nat}{g:FC}
set_option maxHeartbeats 4000000 in
theorem G2 (hP:Prg q pp g)(hn:n<g.ths.l.length)(hl:0≤g.ths.l[n].loc∧g.ths.l[n].loc≤32)(hb:g.ths.l[n].body.length≤1000000):CallF prog G 47 [.pointer (some ⟨pp,0,none⟩),.int .i64 (n:Int)] (q) (Ret fun v q'=> ∃ T:TC,T.er=Vv g.er.pr n∧v= .agg (trC T).toArray∧(Kn q fun M=> ∀ y∈T.todo,y.At M)∧q'=trH T::q):=by
 refine CallF.of func47 ntmps47 rfl (fun F cs=> ?_)
 obtain ⟨hp,hK⟩:=hP
 have hp2:CellsAt q pp 0 [.slice g.vars.a g.vars.l.length g.vars.c,.slice g.arrs.a g.arrs.l.length g.arrs.c,.int .i64 g.mu,.int .i64 g.co,.slice g.chs.a g.chs.l.length g.chs.c,.slice g.ths.a g.ths.l.length g.ths.c,.int .i64 g.main,.int .i64 g.stm]:=fun k v hk=>hp k v (by revert hk;match k with|0|1|2|3|4|5|6|7=>exact fun h=>h|(k+8)=>intro h;cases h)
 have hT:=Sv.sees (hK.imp fun M h=>h.ths);have hlen:=Zv Qd g.ths.l
 obtain ⟨x,hx⟩: ∃ x,x=g.ths.l[n]:=⟨_,rfl⟩;rw [←hx] at hl hb;have hpr:=getD_pr hn;rw [←hx] at hpr
 refine Yb (hT.le leA) (by rw [hlen];omega) (fun ab ao e_=> ?_);rw [e_] at hT hp2
 have hCt:CellsAt q ab (ao+(n:Int).toNat*3) (thC x):=by rw [hx];exact CellsAt.row hT (Le.refl _) Qd hn rfl
 have hKb:Kn q fun M=>BlkAt M x.a x.c x.body:=hK.imp fun M h=>h.bod x (hx ▸ List.getElem_mem hn)
 obtain ⟨L,hL⟩:=Int.eq_ofNat_of_zero_le hl.1
 refine xo 2 ?_;refine XO.al zeroValue116 fun n1=> ?_
 refine oo 7 ?_;refine ld ?_ (hc:=((hp2.le leA) 5 _ rfl))
 refine oo 3 ?_;refine ld ?_ (hc:=((hCt.le leA) 1 _ rfl))
 refine XO.know 14 (.int .i64 (L:Int)) rfl (by rw [hL]) ?_
 refine XO.ef (Rg (n:=L) rfl rfl underlying23 E1 rfl rfl (by omega) (by omega)) ?_
 rintro _ _ ⟨gl,rfl,rfl⟩
 refine XO.le (q':=lsH I64 2 (some ⟨gl,0,none⟩) L (List.replicate L 0)::_) (Le.trans Zk (Gb _ _ _ _ _)) ?_
 refine oo 1 ?_;refine XO.al zeroValue116 fun n2=> ?_
 refine stA ?_;refine oo 6 ?_;refine ld ?_ (hc:=((hp2.le leA) 5 _ rfl))
 refine oo 3 ?_;refine ld ?_ (hc:=((hCt.le leA) 2 _ rfl))
 refine XO.le (Za PS.v 146 _) ?_;refine Zb call84 (Le.pick Zk Zk) (push_box (b:=n2) (todo:= []) (l:=x.body) (a:=x.a) (c:=x.c) (hKb.le leA) ⟨hb,by decide⟩) ?_
 rintro _ _ ⟨a1,c1,b1,o1,hbo,rfl⟩
 refine oo 4 ?_;obtain ⟨TD,hTD⟩: ∃ TD,TD=(psL b1 o1 x.body).reverse:=⟨_,rfl⟩;rw [List.nil_append,←hTD];have hTl:TD.length=x.body.length:=by rw [hTD,List.length_reverse,Hl]
 refine XO.cR call60 (J1 (todo:=TD) (b:=n2) (o:=0) clA ((Sees.lsH _).le leA) (by omega)) ?_
 have hAt:Kn q fun M=> ∀ y∈TD,y.At M:=by
  rcases Nat.eq_zero_or_pos x.body.length with h0|h0
  · obtain rfl:TD= []:=List.eq_nil_of_length_eq_zero (by omega)
    exact fun _ _ _ y hy=>by cases hy
  refine hKb.imp fun M h y hy=> ?_
  rw [hbo h0] at h
  rw [hTD] at hy
  exact El h y (List.mem_reverse.1 hy)
 rcases Nat.eq_zero_or_pos x.body.length with h0|h0
 · obtain rfl:TD= []:=List.eq_nil_of_length_eq_zero (by omega)
   refine XO.know 26 (.pointer none) rfl (rfl) ?_;refine ox 2 ?_;refine X.kt 27 ?_;refine xo 3 ?_;refine st ?_;refine oo 3 ?_;refine ldA ?_;refine stA ?_;refine ox 1 ?_;refine X.le (Za I64 3 _) ?_;refine X.le (q':=trH (⟨(n:Int),4,some ⟨gl,0,none⟩,L,List.replicate L 0,a1,c1, [],none,0, []⟩:TC)::_) (Le.trans (b:=lsH I64 2 (some ⟨gl,0,none⟩) L (List.replicate L 0)::lsH PS.v 146 a1 c1 []::lsH I64 3 none 0 []::_) (Le.pick Zk (Le.pick Zk Zk)) (Z5 (trL (⟨(n:Int),4,some ⟨gl,0,none⟩,L,List.replicate L 0,a1,c1, [],none,0, []⟩:TC)) _)) ?_
   refine Zq (trH (⟨(n:Int),4,some ⟨gl,0,none⟩,L,List.replicate L 0,a1,c1, [],none,0, []⟩:TC)::q) func47 (rA_ results47) ⟨_,rfl,(⟨(n:Int),4,some ⟨gl,0,none⟩,L,List.replicate L 0,a1,c1, [],none,0, []⟩:TC),by simp only [TC.er,Vv];rw [show ((n:Int)).toNat=n from rfl,hpr];simp [hL,List.eq_nil_of_length_eq_zero h0,Zj],by rw [trC];simp only [List.length_replicate];rfl,hAt,rfl⟩
 have hgl:TD.getLast? =some (TD[TD.length - 1]'(by omega)):=by rw [List.getLast?_eq_getElem?,List.getElem?_eq_getElem (by omega)]
 obtain ⟨yy,hyy⟩: ∃ yy,yy=TD[TD.length - 1]'(by omega):=⟨_,rfl⟩;rw [←hyy] at hgl
 refine XO.know 26 (.pointer (some ⟨yy.b,yy.o,none⟩)) rfl (by rw [hgl];rfl) ?_
 refine ox 2 ?_;refine Wp 27 ?_;refine xo 4 ?_;refine ldA ?_;refine stA ?_;refine ox 1 ?_;refine X.le (Za I64 3 _) ?_;refine X.le (q':=trH (⟨(n:Int),1,some ⟨gl,0,none⟩,L,List.replicate L 0,a1,c1,TD,none,0, []⟩:TC)::_) (Le.trans (b:=lsH I64 2 (some ⟨gl,0,none⟩) L (List.replicate L 0)::lsH PS.v 146 a1 c1 TD::lsH I64 3 none 0 []::_) (Le.pick Zk (Le.pick Zk Zk)) (Z5 (trL (⟨(n:Int),1,some ⟨gl,0,none⟩,L,List.replicate L 0,a1,c1,TD,none,0, []⟩:TC)) _)) ?_
 refine Zq (trH (⟨(n:Int),1,some ⟨gl,0,none⟩,L,List.replicate L 0,a1,c1,TD,none,0, []⟩:TC)::q) func47 (rA_ results47) ⟨_,rfl,(⟨(n:Int),1,some ⟨gl,0,none⟩,L,List.replicate L 0,a1,c1,TD,none,0, []⟩:TC),by simp only [TC.er,Vv];rw [show ((n:Int)).toNat=n from rfl,hpr];rw [if_neg (by intro k_;have:=congrArg List.length k_;rw [Zf] at this;exact absurd this (by simp only [List.length_nil];omega)),hTD];simp [hL,←Ei b1 o1 x.body,List.map_reverse],by rw [trC];simp only [List.length_replicate];rfl,hAt,rfl⟩
end
mutual
/-- A statement whose parts and slots are there. -/
def PStm.good (c:Cn)(lo:Int):PStm→Prop
 | .mk k _ _ _ _ e ix body els _ slot other loc=>Nx c lo k e ix body.length els.length=true∧Nq c lo k slot other loc=true∧(body.length≤512∧els.length≤512)∧Wg c lo body∧Wg c lo els
def Wg (c:Cn)(lo:Int):List PStm→Prop
 | []=>True
 |s::r=>s.good c lo∧Wg c lo r
end
theorem Wq {c:Cn}{lo:Int}: ∀ {l:List PStm},Wg c lo l↔ ∀ s∈l,s.good c lo
 | []=>by simp [Wg]
 |s::r=>by simp [Wg,Wq (l:=r)]
mutual
theorem Dc {c:Cn}{lo:Int}: ∀ {s:PStm} {d n m:Int},0≤n→n≤512→s.ask c lo d n=some m→s.good c lo∧n+1≤m∧m≤512
 | .mk ..,d,n,m,hz,hn,h=>by
  simp only [PStm.ask] at h
  split at h
  · cases h
  rename_i h0
  split at h
  · rename_i h1
    rw [Bool.and_eq_true] at h1
    split at h
    · cases h
    rename_i k hk
    have g1:=Ud (by omega) (by omega) hk
    have g2:=Ud (by omega) (by omega) h
    exact ⟨⟨h1.1,h1.2,⟨by omega,by omega⟩,g1.1,g2.1⟩,by omega,by omega⟩
  cases h
theorem Ud {c:Cn}{lo:Int}: ∀ {l:List PStm} {d n m:Int},0≤n→n≤512→Z1 c lo l d n=some m→Wg c lo l∧n+l.length≤m∧m≤512
 | [],d,n,m,hz,hn,h=>by simp only [Z1] at h;cases h;exact ⟨trivial,by simp,hn⟩
 |s::r,d,n,m,hz,hn,h=>by
  simp only [Z1] at h
  split at h
  · cases h
  rename_i k hk
  have h1:=Dc hz hn hk
  have h2:=Ud (by omega) h1.2.2 h
  exact ⟨⟨h1.1,h2.1⟩,by rw [List.length_cons];omega,h2.2.2⟩
end
structure MayP (F:Fnd):Prop where
 f:My F.mu F.co F.chs
 m:0≤F.main∧F.main<F.ths.length
 v: ∀ v∈F.vars,val v
 a: ∀ n∈F.arrs,1≤n∧n≤256
 s:Y8 F.arrs≤256
 l:F.vars.length≤64∧F.arrs.length≤64∧F.chs.length≤64∧F.ths.length≤64
 t: ∀ t∈F.ths,(0≤t.loc∧t.loc≤32)∧t.body.length≤512∧Wg F.cn t.loc t.body
theorem Mz {c:Cn}: ∀ {l:List PTh} {n m:Int},0≤n→n≤512→We c l n=some m→ ∀ t∈l,(0≤t.loc∧t.loc≤32)∧t.body.length≤512∧Wg c t.loc t.body
 | [],n,m,_,_,_,t,ht=>by cases ht
 |x::r,n,m,h0,hn,h,t,ht=>by
  simp only [We] at h
  split at h
  · cases h
  rename_i h1
  split at h
  · cases h
  rename_i k hk
  have g:=Ud h0 hn hk
  rcases List.mem_cons.1 ht with rfl|ht
  · exact ⟨by omega,by omega,g.1⟩
  exact Mz (by omega) g.2.2 h t ht
theorem Sw {F:Fnd}(h:Bj F=true):MayP F:=by
 unfold Bj E0 inB at h
 simp only [Bool.and_eq_true,decide_eq_true_eq,beq_iff_eq] at h
 obtain ⟨⟨⟨h1,h2,h3,h4,h5,h6,h7⟩,h8⟩,h9⟩:=h
 exact ⟨⟨h1,h2,by omega,h6⟩,h8,h4,h5,h7,by omega,Mz (by decide) (by decide) h9⟩
section
variable {G:World}{q:List HP}{pp n:Nat}{g:FC}
set_option maxHeartbeats 2000000 in
theorem I1 (hK:Kn q fun M=>g.At M)(hM:MayP g.er):CallF prog G 25 [.agg (pgC g).toArray] (q) (Ret fun v q'=>v= .int .i64 (g.vars.l.length+Y8 g.arrs.l)∧q'=q):=by
 refine CallF.of func25 ntmps25 rfl (fun F cs=> ?_)
 have hv:g.vars.l.length≤64:=hM.l.1;have hal:g.arrs.l.length≤64:=hM.l.2.1;have ha: ∀ n∈g.arrs.l,1≤n∧n≤256:=hM.a;have hA:=(Sv.sees (hK.imp fun M h=>h.arrs));rw [U1] at hA
 refine xo 2 ?_;refine Y2 fun n1=> ?_
 refine ol 5 ?_;refine XO.know 7 (.slice g.vars.a g.vars.l.length g.vars.c) rfl (rfl) ?_;refine ol 7 ?_;refine XO.know 10 (.slice g.arrs.a g.arrs.l.length g.arrs.c) rfl (rfl) ?_;refine ox 4 ?_;refine X.at (X.loop (fun (s:Nat)=>s≤g.arrs.l.length) (fun s=> [(3,.int .i64 (g.vars.l.length+Y8 (g.arrs.l.take s))),(10,.slice g.arrs.a g.arrs.l.length g.arrs.c),(11,.int .i64 (g.arrs.l.length:Int)),(12,.int .i64 (s:Int))]) (fun s=>(q++F)) (fun s=>g.arrs.l.length - s) (fun s hi_ ih=> ?_) 0 (Nat.zero_le _)) Zu leA
 try dsimp only at hi_ ih⊢
 obtain hi:=hi_
 refine xx 5 ?_;refine X.part 13 rfl (fun h0=> ?_) (fun h0=> ?_)
 · replace h0:=sp h0;have hlt:s<g.arrs.l.length:=(by omega)
   refine Yb (hA.le leA) (by simp;omega) (fun ab ao e_=> ?_);have hs_:=hA;rw [e_] at hs_⊢
   refine xo 7 ?_;refine ld ?_ (hc:=((hs_.le leA).at rfl hlt))
   have hx:=ha _ (List.getElem_mem hlt);have hsn:Y8 (g.arrs.l.take (s+1))=Y8 (g.arrs.l.take s)+g.arrs.l[s]:=by rw [List.take_succ_eq_append_getElem hlt,M0];simp [Y8]
   have hsl:=U7 (l:=g.arrs.l.take s) (k:=256) (fun y hy=>by have:=ha y (List.mem_of_mem_take hy);omega) (by decide);rw [List.length_take] at hsl;have hmn:((min s g.arrs.l.length:Nat):Int)=s:=(by omega);rw [hmn] at hsl
   refine ox 13 ?_
   rw [←e_,show (g.vars.l.length:Int)+Y8 (g.arrs.l.take s)+g.arrs.l[s]=g.vars.l.length+Y8 (g.arrs.l.take (s+1)) by rw [hsn];omega]
   refine X.at (ih (s+1) (by omega) (by omega)) Zu leA
 replace h0:=sp h0;obtain rfl:s=g.arrs.l.length:=(by omega);rw [List.take_length]
 refine xx 7 ?_;refine Zq (q) func25 (Zm results25 rfl) ⟨_,rfl,rfl,rfl⟩
end
theorem SeesZ.block {M:Hp}{b ty:Nat}{l:List Value}(h:M b=some (.cells l.toArray ty (0,0))):SeesZ M (some ⟨b,0,none⟩) l:=fun i u hu=>⟨b,0,l.toArray,ty,rfl,h,by rw [Nat.zero_add];simpa using hu⟩
def PrgM (M:Hp)(pp:Nat)(g:FC):Prop:=SeesZ M (some ⟨pp,0,none⟩) (pgC g)∧g.At M
theorem PrgM.mono {pp:Nat}{g:FC}{M M':Hp}(e:Hle M M')(h:PrgM M pp g):PrgM M' pp g:=⟨h.1.mono e,h.2.mono e⟩
def prM (pp:Nat)(g:FC):HP:=lst (fun M=>PrgM M pp g) fun e h=>PrgM.mono e h
theorem Kn.prM {pp:Nat}{g:FC}{q:List HP}:Kn (prM pp g::q) fun M=>PrgM M pp g:=Kn.here
theorem Prg.of {q:List HP}{pp:Nat}{g:FC}(h:Kn q fun M=>PrgM M pp g):Prg q pp g:=⟨fun k v hk=>by have:=(Kn.sees (h.imp fun M h=>h.1)).cl hk;exact this,h.imp fun M h=>h.2⟩
theorem PS.At.mono {x:PS}{M M':Hp}(e:Hle M M')(h:x.At M):x.At M':=⟨h.1.mono e,h.2.mono e⟩
theorem TodoAt.mono {l:List TC}{M M':Hp}(e:Hle M M')(h:TodoAt M l):TodoAt M' l:=fun t ht y hy=>(h t ht y hy).mono e
def tdM (l:List TC):HP:=lst (fun M=>TodoAt M l) fun e h=>TodoAt.mono e h
theorem Kn.tdM {l:List TC}{q:List HP}:Kn (tdM l::q) fun M=>TodoAt M l:=Kn.here
def C3:POut:=⟨0,0,0,0⟩
def SS.pg (s:SS):SS:= { s with out:=if s.out.kind=4 then s.out else C3 }
def V3 (p:PPr):SS:=⟨p.vars++List.replicate (Y8 p.arrs).toNat 0,R8 p.mu.toNat p.co.toNat p.room, [Vv p p.main],C3⟩
theorem F2 (p:PPr)(s:SS):(s.stands p).out.kind≠4:=by
 unfold SS.stands
 dsimp only
 split
 · exact (by decide:(1:Int)≠4)
 dsimp only;split<;>decide
theorem Ih (p:PPr)(s:SS):(s.stands p).pg= { s with out:=C3 } :=by
 unfold SS.pg
 rw [if_neg (F2 p s)]
 unfold SS.stands
 dsimp only
 split<;>rfl
section
variable {G:World}{q:List HP}{pp n:Nat}{g:FC}
set_option maxHeartbeats 8000000 in
theorem pnew_ok {B:Nat}(hK:Kn q fun M=>g.At M)(hB:CpOk B g):CallF prog G 15 [.agg (pgC g).toArray] (q) (Ret fun v q'=>(Bj g.er=true∧ ∃ (p pp:Nat) (g':FC) (σ:StC),g'.er=g.er∧σ.er=V3 g.er.pr∧v= .tuple [.pointer (some ⟨p,0,none⟩),.int .i64 0].toArray∧q'=stP p pp σ::(Zr σ++(prM pp g'::tdM σ.ths::q)))∨(Bj g.er=false∧v= .tuple [.pointer none,.int .i64 2].toArray∧q'=q)):=by
 refine CallF.of func15 ntmps15 rfl (fun F cs=> ?_)
 refine xo 2 ?_;refine Y2 fun n1=> ?_
 refine oo 6 ?_;refine XO.cR call44 (pmay_ok (B:=B) (CellsAt.of Qh) (hK.le leA) hB) ?_
 refine XO.pu (Pu.not rfl) ?_;refine ox 1 ?_;refine X.part 9 rfl (fun h1=> ?_) (fun h1=> ?_)
 · replace h1:=sp h1;have hm:Bj g.er=false:=(by simpa using h1)
   refine xx 6 ?_;refine Zq (q) func15 (Wn results15 rfl rfl) ⟨_,rfl,.inr ⟨hm,rfl,rfl⟩⟩
 replace h1:=sp h1;have hm:Bj g.er=true:=(by simpa using h1);have hM0:=Sw hm
 refine xo 4 ?_;refine ldA ?_;refine Zb call45 (Le.refl _) (pcopy_ok (B:=B) (hK.le leA) hB) ?_
 rintro _ _ ⟨g2,he,rfl,rfl⟩
 have hM:MayP g2.er:=he ▸ hM0;have hpr:g2.er.pr=g.er.pr:=by rw [he]
 have hmt:0≤g2.main∧g2.main<g2.ths.l.length:=⟨hM.m.1,by have:=hM.m.2;rw [g_th] at this;exact this⟩;obtain ⟨mn,hmn⟩:=Int.eq_ofNat_of_zero_le hmt.1;have hlt:mn<g2.ths.l.length:=(by omega)
 have htx:=hM.t _ (List.mem_map_of_mem (f:=Th.er) (List.getElem_mem hlt))
 have hsa:=U7 (l:=g2.arrs.l) (k:=256) (fun y hy=>by have:=hM.a y hy;omega) (by decide);have hvl:g2.vars.l.length≤64:=hM.l.1;have hss:Y8 g2.arrs.l≤256:=hM.s;obtain ⟨N,hN⟩:=Int.eq_ofNat_of_zero_le hsa.1
 refine XO.al zeroValue29 fun n2=> ?_
 refine stA ?_;refine ol 4 ?_;refine ol 1 ?_;refine ol 1 ?_;refine XO.know 18 (.slice g2.chs.a g2.chs.l.length g2.chs.c) rfl (rfl) ?_;refine Zb call46 (Le.refl _) (New_Y (a:=g2.chs.a) (c:=g2.chs.c) (by rw [←U1];exact Sv.sees (Kn.le (Kn.imp (Kn.fc (q:= []) (f:=g2)) fun M h=>h.chs) leA)) hM.f) ?_
 rintro _ _ ⟨py,rfl,rfl⟩
 refine ox 12 ?_;refine Wp 23 ?_;refine xo 5 ?_;refine ldA ?_;refine XO.cR call25 (I1 (g:=g2) (Kn.le (Kn.fc (q:= []) (f:=g2)) leA) hM) ?_
 refine XO.know 26 (.int .i64 ((g2.vars.l.length+N:Nat):Int)) rfl (by rw [hN];rfl) ?_
 refine XO.ef (Rg (n:=g2.vars.l.length+N) rfl rfl underlying23 E1 rfl rfl (by omega) (by omega)) ?_
 rintro _ _ ⟨gl,rfl,rfl⟩
 refine XO.le (q':=lsH I64 2 (some ⟨gl,0,none⟩) (g2.vars.l.length+N) (List.replicate (g2.vars.l.length+N) 0)::_) (Le.trans Zk (Gb _ _ _ _ _)) ?_
 refine oo 1 ?_;refine Y2 fun n3=> ?_
 refine ox 3 ?_;refine drw ?_;refine dl [0,1,2] 3 ?_;refine dl [4] 5 ?_;refine XD.know 35 (.slice g2.vars.a g2.vars.l.length g2.vars.c) rfl (rfl) ?_;refine XD.know 33 (.slice (some ⟨gl,0,none⟩) (List.replicate (g2.vars.l.length+N) (0:Int)).length (g2.vars.l.length+N)) rfl (by rw [List.length_replicate]) ?_
 refine XD.ef 6 rfl (Ef.copyL (f:=I64) (l:=List.replicate (g2.vars.l.length+N) 0) (m:=g2.vars.l) underlying23 E1 rfl rfl Zk (by rw [←U1];exact Sv.sees (Kn.le (Kn.imp (Kn.fc (q:= []) (f:=g2)) fun M h=>h.vars) leA)) (fun _=>rfl) (by rw [List.length_replicate];omega)) ?_
 rintro _ _ ⟨rfl,rfl⟩
 refine ⟨trivial,?_⟩
 rw [show g2.vars.l++(List.replicate (g2.vars.l.length+N) (0:Int)).drop g2.vars.l.length=g2.vars.l++List.replicate N 0 by rw [List.drop_replicate];congr 2;omega]
 refine XD.nil ?_;refine xj 4 ?_;refine XO.know 39 (.int .i64 (mn:Int)) rfl (by rw [hmn]) ?_
 refine XO.le (q':=pto n2 (.cells (pgC g2).toArray 29 (0,0))::_) Zk (XO.freeze ?_)
 refine XO.le (q':=prM n2 g2::_) (Kn.add (φ:=fun M=>PrgM M n2 g2) (mn:=fun e h=>PrgM.mono e h) (((Kn.im).and (Kn.le (Kn.fc (q:= []) (f:=g2)) leA)).imp fun M h=>⟨SeesZ.block h.1,h.2⟩)) ?_
 refine Vd call47 (G2 (q:= [prM n2 g2]) (pp:=n2) (g:=g2) (n:=mn) (Prg.of Kn.prM) hlt htx.1 (by have:=htx.2.1;rw [show (Th.er g2.ths.l[mn]).body=Zj g2.ths.l[mn].body from rfl,Zf] at this;omega)) ?_
 rintro _ _ ⟨T1,hT1,rfl,hTk,rfl⟩ _ e_;simp only [ca,na] at e_;subst e_
 refine XO.ef (Z9 (u:=T1) trC underlying96 U0 rfl rfl Zd rfl) ?_
 rintro _ _ ⟨gt,rfl,rfl⟩
 refine oo 2 ?_;refine st ?_;refine ox 7 ?_;obtain ⟨σ,hσ⟩: ∃ σ:StC,σ=(⟨some ⟨gl,0,none⟩,g2.vars.l.length+N,g2.vars.l++List.replicate N 0,py,R8 g2.mu.toNat g2.co.toNat g2.chs.l,some ⟨gt,0,none⟩,1, [T1],C3⟩:StC):=⟨_,rfl⟩
 refine X.le (q':=tdM σ.ths::_) (Kn.add (φ:=fun M=>TodoAt M σ.ths) (mn:=fun e h=>TodoAt.mono e h) ((Kn.le hTk leA).imp fun M h t ht y hy=>by rw [hσ] at ht;rw [List.mem_singleton.1 ht] at hy;exact h y hy)) ?_
 refine X.le (q':=stars (σ.ths.map trH)::_) (Le.trans (b:=trH T1::_) Zk (by rw [hσ];exact Le.trans (Le.cons _ (W1 _)) (V4 _ _ _))) ?_
 refine Zq (stP n3 n2 σ::(Zr σ++(prM n2 g2::tdM σ.ths::q))) func15 (Wn results15 rfl rfl) ⟨_,rfl,.inl ⟨hm,n3,n2,g2,σ,he,by rw [hσ];simp only [StC.er,List.map_cons,List.map_nil,hT1];rw [←hmn,←hpr];simp [V3,FC.er,Fnd.pr,hN],rfl,rfl⟩⟩ (by rw [hσ];simp only [stP,Yu,Zr,List.length_append,List.length_replicate,List.cons_append,List.nil_append,List.append_assoc];exact leA)
end
end Go.Proofs.YtflkjkhijcdbaaaGreat
