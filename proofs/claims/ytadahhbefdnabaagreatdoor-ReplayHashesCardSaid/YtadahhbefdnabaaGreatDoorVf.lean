/- Contracts. -/
import Derived.Test.YtadahhbefdnabaaGreatDoorVe
set_option maxHeartbeats 16000000
set_option maxRecDepth 100000
set_option linter.all false
namespace Go.Proofs.YtadahhbefdnabaaGreatDoor
open Go Go.RowKit Wx Go.Proofs.Tryz
attribute [local irreducible] lsH rsH stars
variable {p o c pp n k N d C p0 p1 p2 i j pm om pth ot nb:Nat}{s:Sy}{U:SyC}{P:List PStm->Prop}{G:World}{M M':Hp}{b a A:Option Addr}{l D l' xs:List Int}{q q' pre:List HP}{g:FC}{m:Mdl}{fv:Value}{lo hi cd dep at_ sl:Int}{F f:Fnd}{x y:Ins}{u:Int->Bool}{dn:List Bool}{e:Int×Value×Nat}{ds:List PDec}{nm:ByteArray}
def yH (p:Nat)(s:Sy):HP:=ex fun U:SyC=>stars (pure (Real U s)::syL p U)
theorem Zj4 (h:Real U s)(q:List HP):Le (syL p U++q) (yH p s::q):=
 Wa U ((Yc h _).trans (Zm (pure (Real U s)::syL p U) q))
theorem yH_call {P:Program}{fn:FuncId}{vs:List Value}{R:Wx.Ub}(h: ∀ U,Real U s->CallF P G fn vs (syL p U) R):CallF P G fn vs [yH p s] R:=by
 intro F w st c;obtain ⟨U,b⟩:=St.get_ex st;have a:=b.le (Zy (pure (Real U s)::syL p U) F);exact h U a.get_pure F w (a.le (dX _ _)) c
theorem Le.yInN (h:Real U s):Le (syL p U) [yH p s]:=by have:=Zj4 (p:=p) h [];rwa [bR] at this
structure PS where
 b:Nat
 o:Nat
 s:Stm
def PS.v (x:PS):Value:= .pointer (some ⟨x.b,x.o,none⟩)
def PS.At (M:Hp)(x:PS):Prop:=StAt M ⟨x.b,x.o,none⟩ x.s
def psL (b o:Nat)(l:List Stm):List PS:=(List.range l.length).map fun i=>⟨b,o+i*25,l.getD i zSm⟩
theorem Zk6 (b o:Nat)(l:List Stm):(psL b o l).length=l.length:=by simp [psL]
theorem psL_er (b o:Nat)(l:List Stm):(psL b o l).map (fun y=>y.s.er)=Zk l:=by
 apply List.ext_getElem
 . simp [psL,Y9]
 intro i a c;have hi:i<l.length:=by simpa [psL] using a
 simp [psL,Yh,hi]
theorem psL_at {b:Nat}{l:List Stm}(h:BlkAt M (some ⟨b,o,none⟩) c l): ∀ y∈psL b o l,y.At M:=by
 intro y a;obtain ⟨i,hi,rfl⟩:=bS.1 a;have hi:=List.mem_range.1 hi;obtain ⟨j,g,f,d⟩:=iZ Z2 (by decide) h.1.2.2 hi
 cases f
 have e:l.getD i zSm=l[i]:=by simp [List.getD,hi]
 unfold PS.At;dsimp only;rw [e];exact ⟨d,Vd.1 h.2 _ (aC hi)⟩
structure TC where
 decl:Int
 st:Int
 la:Option Addr
 lc:Nat
 loc:List Int
 ta:Option Addr
 tc:Nat
 todo:List PS
 sa:Option Addr
 sc:Nat
 sp:List Int
def trC (x:TC):List Value:= [I64 x.decl,I64 x.st,.slice x.la x.loc.length x.lc,.slice x.ta x.todo.length x.tc,.slice x.sa x.sp.length x.sc]
theorem trC_len (x:TC):(trC x).length=5:=rfl
def TC.er (x:TC):PTr:=⟨x.decl,x.st,x.loc,(x.todo.map fun y=>y.s.er).reverse,x.sp⟩
def trL (x:TC):List HP:= [lsH I64 2 x.la x.lc x.loc,lsH PS.v 130 x.ta x.tc x.todo,lsH I64 3 x.sa x.sc x.sp]
def trH (x:TC):HP:=stars (trL x)
def TodoAt (M:Hp)(l:List TC):Prop:= ∀ t∈l,∀ y∈t.todo,y.At M
structure StC where
 ca:Option Addr
 cc:Nat
 cells:List Int
 sp:Nat
 sy:Sy
 ha:Option Addr
 hc:Nat
 ths:List TC
 out:POut
def staC (pp:Nat)(U:StC):List Value:= [.pointer (some ⟨pp,0,none⟩),.slice U.ca U.cells.length U.cc,.pointer (some ⟨U.sp,0,none⟩),.slice U.ha U.ths.length U.hc,I64 U.out.kind,I64 U.out.trap,I64 U.out.th,I64 U.out.stmt]
def StC.er (U:StC):SS:=⟨U.cells,U.sy,U.ths.map TC.er,U.out⟩
def staL (U:StC):List HP:= [lsH I64 2 U.ca U.cc U.cells,yH U.sp U.sy,rsH trC 5 332 U.ha U.hc U.ths,stars (U.ths.map trH)]
def stP (p pp:Nat)(U:StC):HP:=pto p (.cells (staC pp U).toArray 329 (0,0))
def acC (x:Ac):List Value:= [I64 x.1,.bool x.2.1,I64 x.2.2]
def snC (x:Sn):List Value:= [I64 x.1,I64 x.2.1,I64 x.2.2]
structure EvC where
 e:PEv
 aa:Option Addr
 ac:Nat
 na:Option Addr
 nc:Nat
def evC (x:EvC):List Value:= [I64 x.e.th,I64 x.e.stmt,.bool x.e.woke,I64 x.e.trap,.slice x.aa x.e.acc.length x.ac,.bool x.e.told,I64 x.e.outv,I64 x.e.value,.slice x.na x.e.syn.length x.nc]
def evL (x:EvC):List HP:= [rsH acC 3 158 x.aa x.ac x.e.acc,rsH snC 3 161 x.na x.nc x.e.syn]
structure Prg (q:List HP) (pp:Nat) (g:FC):Prop where
 hp:CellsAt q pp 0 (pgC g)
 hK:Kn q fun M=>g.At M
theorem Prg.le (h:Prg q' pp g)(l:Le q q'):Prg q pp g:=⟨h.hp.le l,h.hK.le l⟩
def Fnd.pr (f:Fnd):PPr:=⟨f.vars,f.arrs,f.chs,f.mu,f.co,f.main,f.ths.map fun t=>(t.loc,t.body)⟩
theorem Dv (n:Nat)(a:Option Addr)(c ty:Nat)(q:List HP):Le (slH a c ty 1 n ((List.replicate n (Value.int .i64 0).cells.toList).flatten)::q) (lsH I64 ty a c (List.replicate n 0)::q):=by
 unfold lsH;rw [cO,show (List.replicate n (0:Int)).map I64=(List.replicate n (Value.int .i64 0).cells.toList).flatten by simp [Value.cells]];exact aH _
theorem Lp:(prog.info? 130).map (fun i=>(i.zero,i.size,i.bytes))=some (some (.pointer none),1,8):=by kernel_rfl
section
variable {b:Nat}{k t v m:Int}{ta:Option Addr}{tc:Nat}{todo:List PS}{x0 x1 x2 x4:Value}{l:List Stm}
theorem Copy_Y (hs:s.ok N)(hN:N<=1000000000):CallF prog G 122 (A3 p) [yH p s] (Ret fun v q'=> ∃ p2,v= .pointer (some ⟨p2,0,none⟩)/\q'= [yH p2 s,yH p s]):=
 yH_call fun U a=>gF (aH _) (Copy_ok a hs hN) (by rintro _ _ ⟨_,rfl,p2,b,c,rfl,rfl⟩;exact ⟨_,⟨_,rfl,p2,rfl,rfl⟩,(Zj4 c _).trans (cG _ (Le.yInN a))⟩)
theorem New_Y {mm cc:Int}{rooms:List Int}(hs:Sees q a (rooms.map I64))(ok:Bk mm cc rooms):CallF prog G 53 [I64 mm,I64 cc,.slice a rooms.length c] q (Ret fun v q'=> ∃ p,v= .tuple [.pointer (some ⟨p,0,none⟩),I64 0].toArray/\q'=yH p (P1 mm.toNat cc.toNat rooms)::q):=
 gF (aH _) (New_ok hs ok) (by rintro _ _ ⟨_,rfl,p,U,h,rfl,rfl⟩;exact ⟨_,⟨_,rfl,p,rfl,rfl⟩,Zj4 h _⟩)
abbrev AA (v0:Nat)(v1:Nat):=([.pointer (some ⟨v0,v1,none⟩)]:List Value)
theorem pnext_ok (hc:Cl q ⟨b,o+3,none⟩ (.slice ta todo.length tc))(hs:Sees q ta (todo.map PS.v))(hl:todo.length<=1000000):CallF prog G 232 (AA b o) (q) (Ret fun v q'=>v=(match todo.getLast? with|none=>Value.pointer none|some y=>y.v)/\q'=q):=by
 refine aB func232 ntmps232 rfl fun F g=> ?_;refine xo 10 ?_;refine ld ?_ (hc:=(hc.le leA));refine ox 3 ?_;refine xp 8 ?_ ?_<;>intro f
 . obtain rfl:todo= []:=aS (by omega);refine xx 5 ?_;refine Zq (q) func232 (Zf results232 rfl) ⟨_,rfl,rfl,rfl⟩
 have c:0<todo.length:=(by omega);refine Z7 (hs.le leA) (by simp;omega) fun h e d=> ?_;subst d;have a:todo.getLast? =some todo[todo.length - 1]:=by rw [List.getLast?_eq_getElem?,aE (by omega)]
 refine rn [3,0,1,2,3] ?_;refine ldD 3 ?_ (hc:=(hc.le leA));refine dd [4,5,6] ?_;refine ldD 7 ?_ (hc:=(hc.le leA));refine dd [8,9,10] ?_;refine ldD 11 ?_ (hc:=((hs.le leA).at (n:=todo.length - 1) (by omega) (by omega)));refine rn [13,0] ?_;refine Zq (q) func232 (Zf results232 rfl) ⟨_,rfl,by rw [a],rfl⟩
variable {ths:List TC}{hc gh:Nat}{d:Int}
theorem push_box (hK:Kn q fun M=>BlkAt M a c l)(hl:l.length<=1000000/\todo.length<=1000000):CallF prog G 231 (As b a l c) (pto b (.cells [x0,x1,x2,.slice ta todo.length tc,x4].toArray 332 (0,0))::lsH PS.v 130 ta tc todo::q) (Ret fun v q'=> ∃ a' c' b' o',(0<l.length->a=some ⟨b',o',none⟩)/\q'=pto b (.cells [x0,x1,x2,.slice a' (todo++(psL b' o' l).reverse).length c',x4].toArray 332 (0,0))::lsH PS.v 130 a' c' (todo++(psL b' o' l).reverse)::q):=by
 refine aB func231 ntmps231 rfl fun F cs=> ?_;have hS:=eR (hK.imp fun M h=>h.1.2.2);have o:=Zx Z2 l;rcases cW l.length with p|p
 . obtain rfl:=aS p;refine xx 7 ?_;refine aX (cC (fun (r:Unit)=>True) (fun r=> [(0,.pointer (some ⟨b,0,none⟩)),(1,.slice a 0 c),(6,I64 0),(7,I64 0)]) (fun r=>pto b (.cells [x0,x1,x2,.slice ta todo.length tc,x4].toArray 332 (0,0))::lsH PS.v 130 ta tc todo::(q++F)) (fun r=>0) (fun r e t=> ?_) () trivial) Zn leA;try dsimp only at e t|-
   obtain _:=e;refine xx 5 ?_;refine cY 8 rfl ?_ ?_<;>intro h0
   . exact aV (sp h0) (by decide)
   refine xx 2 ?_;refine Zr (pto b (.cells [x0,x1,x2,.slice ta todo.length tc,x4].toArray 332 (0,0))::lsH PS.v 130 ta tc todo::q) func231 (Yy results231) ⟨_,rfl,ta,tc,0,0,(fun k=>aV k (by decide)),by simp [psL]⟩
 refine Z7 (hS.le leA) (by rw [o];omega) fun n j e_=> ?_;subst e_;obtain ⟨d,g⟩:=lM (psL n j l).reverse;have w:d.length=l.length:=by rw [g,List.length_reverse,Zk6]
 refine xx 7 ?_;refine aX (cC (fun (s:Nat×Option Addr×Nat)=>s.1<=l.length) (fun s=> [(0,.pointer (some ⟨b,0,none⟩)),(1,.slice (some ⟨n,j,none⟩) l.length c),(6,I64 l.length),(7,I64 (s.1:Int))]) (fun s=>pto b (.cells [x0,x1,x2,.slice s.2.1 (todo++d.take s.1).length s.2.2,x4].toArray 332 (0,0))::lsH PS.v 130 s.2.1 s.2.2 (todo++d.take s.1)::(q++F)) (fun s=>l.length - s.1) (fun s e t=> ?_) (0,ta,tc) (bC _)) Zn (by simp only [gN,bR];exact leA);try dsimp only at e t|-
 obtain hi:=e;obtain ⟨i,a1,y⟩:=s;dsimp only at*;refine xx 5 ?_;refine xp 8 ?_ ?_<;>intro h0
 . have b0:i<l.length:=(by omega);have x:i<d.length:=(by omega);have hx:d[i]=⟨n,j+(l.length - 1 - i)*25,l.getD (l.length - 1 - i) zSm⟩:=by simp [g,psL]
   have a0:(todo++d.take i).length<=2000000:=by rw [aA,bI];omega
   refine rn [9,0,1,2,3,4,5,6,7,8,9,10,11,12] ?_;refine eE 12 rfl (Uk (u:=d[i]) PS.v underlying330 Lp (by rw [hx];exact aQ some (aQ (fun z=>Value.pointer (some ⟨n,j+z*25,none⟩)) (by omega))) rfl) ?_;rintro _ _ ⟨g2,rfl,rfl⟩;refine ⟨hlA,?_⟩;refine eE 13 rfl (Yb (f:=PS.v) (l:=todo++d.take i) (m:= [d[i]]) underlying330 Lp rfl rfl rfl Zj ((bY _).le leA) (fun _=>rfl) (by simp only [eN];omega) (by simp only [eN];omega)) ?_;refine kk2 fun a2 c2=> ?_
   rw [show todo++d.take i++ [d[i]]=todo++d.take (i+1) by rw [aN x,aK]];refine rn [15,16,17,0,5] ?_;refine aX (t (i+1,a2,c2) (by dsimp only;omega) (by dsimp only;omega)) Zn leA
 obtain rfl:i=l.length:=(by omega);rw [<-w,bV,g];refine xx 2 ?_;refine Zr (pto b (.cells [x0,x1,x2,.slice a1 (todo++(psL n j l).reverse).length y,x4].toArray 332 (0,0))::lsH PS.v 130 a1 y (todo++(psL n j l).reverse)::q) func231 (Yy results231) ⟨_,rfl,a1,y,n,j,fun _=>rfl,rfl⟩
end
theorem Ij:(prog.info? 2).map (fun i=>(i.zero,i.size,i.bytes))=some (some (I64 0),1,8):=by kernel_rfl
theorem Zxn:(prog.info? 332).map (fun i=>(i.zero,i.size,i.bytes))=some (some (.agg #[I64 0,I64 0,.slice none 0 0,.slice none 0 0,.slice none 0 0]),5,88):=by kernel_rfl
theorem getD_pr (h:n<g.ths.l.length):g.er.pr.ths.getD n (0, [])=(g.ths.l[n].loc,Zk g.ths.l[n].body):=by
 have a:n<g.er.pr.ths.length:=by simp [FC.er,Fnd.pr];exact h
 rw [aG,aE a];simp [FC.er,Fnd.pr,Th.er]
abbrev Au (v0:Int)(v1)(v2)(v3)(v4):=(⟨(v0:Int),4,some ⟨v1,0,none⟩,v2,List.replicate v2 0,v3,v4, [],none,0, []⟩:TC)
theorem begin_ok (hP:Prg q pp g)(hn:n<g.ths.l.length)(hl:0<=g.ths.l[n].loc/\g.ths.l[n].loc<=32)(hb:g.ths.l[n].body.length<=1000000):CallF prog G 164 [.pointer (some ⟨pp,0,none⟩),I64 n] (q) (Ret fun v q'=> ∃ T:TC,T.er=Ia g.er.pr n/\v= .agg (trC T).toArray/\(Kn q fun M=> ∀ y∈T.todo,y.At M)/\q'=trH T::q):=by
 refine aB func164 ntmps164 rfl fun F cs=> ?_;obtain ⟨hp,hK⟩:=hP;have m:CellsAt q pp 0 [.slice g.vars.a g.vars.l.length g.vars.c,.slice g.arrs.a g.arrs.l.length g.arrs.c,I64 g.mu,I64 g.co,.slice g.chs.a g.chs.l.length g.chs.c,.slice g.ths.a g.ths.l.length g.ths.c,I64 g.main,I64 g.stm]:=fun k v hk=>hp k v (by revert hk;match k with|0|1|2|3|4|5|6|7=>exact fun h=>h|(k+8)=>intro h;cases h)
 have hT:=dV (hK.imp fun M h=>h.ths);have p:=Zx Uh g.ths.l;obtain ⟨x,z⟩:=lM g.ths.l[n];rw [<-z] at hl hb;have j:=getD_pr hn;rw [<-z] at j;refine Z7 (hT.le leA) (by rw [p];omega) fun ab ao e_=> ?_;rw [e_] at hT m;have t:CellsAt q ab (ao+(n:Int).toNat*3) (thC x):=by rw [z];exact fD hT (aH _) Uh hn rfl
 have s:Kn q fun M=>BlkAt M x.a x.c x.body:=hK.imp fun M h=>h.bod x (z ▸ aC hn)
 obtain ⟨L,hL⟩:=bP hl.1;refine xo 2 ?_;refine Zh zeroValue332 fun n1=> ?_
 refine rg [7,0,3,0] m t ?_;refine aW 14 (Al L) rfl (by rw [hL]) ?_;refine bU (Ef.make (n:=L) rfl rfl underlying22 Ij rfl rfl (by omega) (by omega)) ?_;rintro _ _ ⟨d,rfl,rfl⟩;refine eP (q':=lsH I64 2 (some ⟨d,0,none⟩) L (List.replicate L 0)::_) (aM Zj (Dv _ _ _ _ _)) ?_;refine oo 1 ?_;refine Zh zeroValue332 fun n2=> ?_
 refine rg [0,6,0,3,0] m t ?_;refine eP (Z1 PS.v 130 _) ?_;refine Zv call231 (bD Zj Zj) (push_box (b:=n2) (todo:= []) (l:=x.body) (a:=x.a) (c:=x.c) (s.le leA) ⟨hb,by decide⟩) ?_;rintro _ _ ⟨f,e,b1,o1,b0,rfl⟩;refine oo 4 ?_;obtain ⟨TD,i⟩:=lM (psL b1 o1 x.body).reverse;rw [aY,<-i];have c0:TD.length=x.body.length:=by rw [i,List.length_reverse,Zk6]
 refine bM call232 (pnext_ok (todo:=TD) (b:=n2) (o:=0) clA ((bY _).le leA) (by omega)) ?_
 have hAt:Kn q fun M=> ∀ y∈TD,y.At M:=by
  rcases cW x.body.length with u|u
  . obtain rfl:TD= []:=aS (by omega);exact fun _ _ _ y w=>by cases w
  refine s.imp fun M h y w=> ?_
  rw [b0 u] at h;rw [i] at w;exact psL_at h y (List.mem_reverse.1 w)
 rcases cW x.body.length with u|u
 . obtain rfl:TD= []:=aS (by omega);refine aW 26 (.pointer none) rfl (rfl) ?_;refine rn [2,2027,3,0,3,0,0,1] ?_;refine cS (Z1 I64 3 _) ?_;refine cS (q':=trH (Au n d L f e)::_) (aM (b:=lsH I64 2 (some ⟨d,0,none⟩) L (List.replicate L 0)::lsH PS.v 130 f e []::lsH I64 3 none 0 []::_) (bD Zj (bD Zj Zj)) (Zm (trL (Au n d L f e)) _)) ?_;refine Zq (trH (Au n d L f e)::q) func164 (rA_ results164) ⟨_,rfl,(Au n d L f e),by simp only [TC.er,Ia];rw [show ((n:Int)).toNat=n from rfl,j];simp [hL,aS u,Zk],by rw [trC];simp only [cO];rfl,hAt,rfl⟩
 have r:TD.getLast? =some (TD[TD.length - 1]'(by omega)):=by rw [List.getLast?_eq_getElem?,aE (by omega)]
 obtain ⟨yy,a0⟩:=lM (TD[TD.length - 1]'(by omega));rw [<-a0] at r;refine aW 26 (.pointer (some ⟨yy.b,yy.o,none⟩)) rfl (by rw [r];rfl) ?_;refine rn [2,1027,4,0,0,1] ?_;refine cS (Z1 I64 3 _) ?_;refine cS (q':=trH (⟨(n:Int),1,some ⟨d,0,none⟩,L,List.replicate L 0,f,e,TD,none,0, []⟩:TC)::_) (aM (b:=lsH I64 2 (some ⟨d,0,none⟩) L (List.replicate L 0)::lsH PS.v 130 f e TD::lsH I64 3 none 0 []::_) (bD Zj (bD Zj Zj)) (Zm (trL (⟨(n:Int),1,some ⟨d,0,none⟩,L,List.replicate L 0,f,e,TD,none,0, []⟩:TC)) _)) ?_;refine Zq (trH (⟨(n:Int),1,some ⟨d,0,none⟩,L,List.replicate L 0,f,e,TD,none,0, []⟩:TC)::q) func164 (rA_ results164) ⟨_,rfl,(⟨(n:Int),1,some ⟨d,0,none⟩,L,List.replicate L 0,f,e,TD,none,0, []⟩:TC),by simp only [TC.er,Ia];rw [show ((n:Int)).toNat=n from rfl,j];rw [if_neg (by intro k_;have:=aQ List.length k_;rw [Y9] at this;exact aV this (by simp only [aT];omega)),i];simp [hL,<-psL_er b1 o1 x.body,List.map_reverse],by rw [trC];simp only [cO];rfl,hAt,rfl⟩
mutual
/-- A statement whose parts and slots are there. -/
def PStm.good (c:Cn)(lo:Int):PStm->Prop
 | .mk k _ _ _ _ e ix body els _ slot other loc=>G0 c lo k e ix body.length els.length=true/\Gh c lo k slot other loc=true/\(body.length<=512/\els.length<=512)/\Jj c lo body/\Jj c lo els
def Jj (c:Cn)(lo:Int):List PStm->Prop
 | []=>True
 |s::r=>s.good c lo/\Jj c lo r
end
mutual
theorem P7 {c:Cn}{lo:Int}: ∀ {s:PStm} {d n m:Int},0<=n->n<=512->s.ask c lo d n=some m->s.good c lo/\n+1<=m/\m<=512
 | .mk ..,d,n,m,hz,hn,h=>by
  simp only [PStm.ask] at h;split at h
  . cases h
  rename_i g;split at h
  . rename_i a;rw [aR] at a;split at h
    . cases h
    rename_i k b;have f:=Qe (by omega) (by omega) b;have e:=Qe (by omega) (by omega) h;exact ⟨⟨a.1,a.2,⟨by omega,by omega⟩,f.1,e.1⟩,by omega,by omega⟩
  cases h
theorem Qe {c:Cn}{lo:Int}: ∀ {l:List PStm} {d n m:Int},0<=n->n<=512->Z3 c lo l d n=some m->Jj c lo l/\n+l.length<=m/\m<=512
 | [],d,n,m,hz,hn,h=>by simp only [Z3] at h;cases h;exact ⟨trivial,by simp,hn⟩
 |s::r,d,n,m,hz,hn,h=>by
  simp only [Z3] at h;split at h
  . cases h
  rename_i k e;have b:=P7 hz hn e;have a:=Qe (by omega) b.2.2 h;exact ⟨⟨b.1,a.1⟩,by rw [aJ];omega,a.2.2⟩
end
structure MayP (F:Fnd):Prop where
 f:Bk F.mu F.co F.chs
 m:0<=F.main/\F.main<F.ths.length
 v: ∀ v∈F.vars,val v
 a: ∀ n∈F.arrs,1<=n/\n<=256
 s:Vh F.arrs<=256
 l:F.vars.length<=64/\F.arrs.length<=64/\F.chs.length<=64/\F.ths.length<=64
 t: ∀ t∈F.ths,(0<=t.loc/\t.loc<=32)/\t.body.length<=512/\Jj F.cn t.loc t.body
theorem Ro {c:Cn}: ∀ {l:List PTh} {n m:Int},0<=n->n<=512->Wh c l n=some m-> ∀ t∈l,(0<=t.loc/\t.loc<=32)/\t.body.length<=512/\Jj c t.loc t.body
 | [],n,m,_,_,_,t,a=>by cases a
 |x::r,n,m,h0,hn,h,t,a=>by
  simp only [Wh] at h;split at h
  . cases h
  rename_i d;split at h
  . cases h
  rename_i k b;have g:=Qe h0 hn b;rcases bG.1 a with rfl|a
  . exact ⟨by omega,by omega,g.1⟩
  exact Ro (by omega) g.2.2 h t a
theorem mayS_ok (h:Bz F=true):MayP F:=by
 unfold Bz S7 inB at h;simp only [aR,cP,eI] at h;obtain ⟨⟨⟨i,g,j,f,e,d,c⟩,b⟩,a⟩:=h;exact ⟨⟨i,g,by omega,d⟩,b,f,e,c,by omega,Ro (by decide) (by decide) a⟩
theorem Zzd (hA:Sees q g.arrs.a (g.arrs.l.map I64))(hv:g.vars.l.length<=64)(hal:g.arrs.l.length<=64)(ha: ∀ n∈g.arrs.l,0<=n/\n<=256):CallF prog G 163 (AB g) (q) (Ret fun v q'=>v= I64 (g.vars.l.length+Vh g.arrs.l)/\q'=q):=by
 refine aB func163 ntmps163 rfl fun F u=> ?_;refine xo 2 ?_;refine Zl fun p=> ?_
 refine rn [5,0] ?_;refine aW 7 (.slice g.vars.a g.vars.l.length g.vars.c) rfl (rfl) ?_;refine rn [7,0] ?_;refine aW 10 (.slice g.arrs.a g.arrs.l.length g.arrs.c) rfl (rfl) ?_;refine ox 4 ?_;refine aX (cC (fun (s:Nat)=>s<=g.arrs.l.length) (fun s=> [(3,I64 (g.vars.l.length+Vh (g.arrs.l.take s))),(10,.slice g.arrs.a g.arrs.l.length g.arrs.c),(11,I64 g.arrs.l.length),(12,I64 s)]) (fun s=>(q++F)) (fun s=>g.arrs.l.length - s) (fun s f j=> ?_) 0 (bC _)) Zn leA;try dsimp only at f j|-
 obtain hi:=f;refine xx 5 ?_;refine xp 13 ?_ ?_<;>intro t
 . have e:s<g.arrs.l.length:=(by omega);refine Z7 (hA.le leA) (by simp;omega) fun x w m=> ?_;have d:=hA;rw [m] at d|-;refine rf [7,0] d ?_;have r:=ha _ (aC e);have h:Vh (g.arrs.l.take (s+1))=Vh (g.arrs.l.take s)+g.arrs.l[s]:=by rw [aN e,Gx];simp [Vh]
   have b:=Bd (l:=g.arrs.l.take s) (k:=256) (fun y o=>by have:=ha y (lE o);omega) (by decide);rw [bI] at b;have i:((min s g.arrs.l.length:Nat):Int)=s:=(by omega);rw [i] at b;refine ox 13 ?_;rw [<-m,show (g.vars.l.length:Int)+Vh (g.arrs.l.take s)+g.arrs.l[s]=g.vars.l.length+Vh (g.arrs.l.take (s+1)) by rw [h];omega];refine aX (j (s+1) (by omega) (by omega)) Zn leA
 obtain rfl:s=g.arrs.l.length:=(by omega);rw [bV];refine xx 7 ?_;refine Zq (q) func163 (Zf results163 rfl) ⟨_,rfl,rfl,rfl⟩
theorem Zw8 (hK:Kn q fun M=>g.At M)(hM:MayP g.er):CallF prog G 163 (AB g) q (Ret fun v q'=>v= I64 (g.vars.l.length+Vh g.arrs.l)/\q'=q):=
 Zzd (by have c:=dV (hK.imp fun M h=>h.arrs);rwa [Ul] at c) hM.l.1 hM.l.2.1 fun n b=>by have:=hM.a n b;omega
theorem SeesZ.block {b ty:Nat}{l:List Value}(h:M b=some (.cells l.toArray ty (0,0))):SeesZ M (some ⟨b,0,none⟩) l:=fun i u a=>⟨b,0,l.toArray,ty,rfl,h,by rw [dO];simpa using a⟩
def PrgM (M:Hp)(pp:Nat)(g:FC):Prop:=SeesZ M (some ⟨pp,0,none⟩) (pgC g)/\g.At M
theorem PrgM.mono (e:Hle M M')(h:PrgM M pp g):PrgM M' pp g:=⟨h.1.mono e,h.2.mono e⟩
def prM (pp:Nat)(g:FC):HP:=lst (fun M=>PrgM M pp g) fun e h=>PrgM.mono e h
theorem Kn.prM {pp:Nat}{g:FC}{q:List HP}:Kn (prM pp g::q) fun M=>PrgM M pp g:=fJ
theorem Prg.of (h:Kn q fun M=>PrgM M pp g):Prg q pp g:=⟨fun k v a=>by have:=(eR (h.imp fun M h=>h.1)).cl a;exact this,h.imp fun M h=>h.2⟩
theorem PS.At.mono {x:PS}(e:Hle M M')(h:x.At M):x.At M':=⟨h.1.mono e,h.2.mono e⟩
theorem TodoAt.mono {l:List TC}(e:Hle M M')(h:TodoAt M l):TodoAt M' l:=fun t ht y hy=>(h t ht y hy).mono e
def tdM (l:List TC):HP:=lst (fun M=>TodoAt M l) fun e h=>TodoAt.mono e h
def Of:POut:=⟨0,0,0,0⟩
def Zqp (p:PPr):SS:=⟨p.vars++List.replicate (Vh p.arrs).toNat 0,P1 p.mu.toNat p.co.toNat p.room, [Ia p p.main],Of⟩
abbrev B4 (v0):=((.cells (pgC v0).toArray 29 (0,0)):Obj)
theorem pnew_ok {B:Nat}(hK:Kn q fun M=>g.At M)(hB:CpOk B g):CallF prog G 92 (AB g) (q) (Ret fun v q'=>(Bz g.er=true/\ ∃ (p pp:Nat) (g':FC) (U:StC),g'.er=g.er/\U.er=Zqp g.er.pr/\v= .tuple [.pointer (some ⟨p,0,none⟩),I64 0].toArray/\q'=stP p pp U::(staL U++(prM pp g'::tdM U.ths::q)))\/(Bz g.er=false/\v= .tuple [.pointer none,I64 2].toArray/\q'=q)):=by
 refine aB func92 ntmps92 rfl fun F cs=> ?_;refine xo 2 ?_;refine Zl fun n1=> ?_
 refine oo 6 ?_;refine bM call162 (pmay_ok (B:=B) (dH Vb) (hK.le leA) hB) ?_;refine ox 2 ?_;refine xp 9 ?_ ?_<;>intro h1
 . have hm:Bz g.er=false:=(by simpa using h1);refine xx 6 ?_;refine Zq (q) func92 (Q4 results92 rfl rfl) ⟨_,rfl,.inr ⟨hm,rfl,rfl⟩⟩
 have hm:Bz g.er=true:=(by simpa using h1);have f0:=mayS_ok hm;refine rn [4,0] ?_;refine Zv call50 (aH _) (Xk (B:=B) (hK.le leA) hB) ?_;rintro _ _ ⟨d,he,rfl,rfl⟩;have o:MayP d.er:=he ▸ f0;have b0:d.er.pr=g.er.pr:=by rw [he]
 have c0:0<=d.main/\d.main<d.ths.l.length:=⟨o.m.1,by have:=o.m.2;rw [g_th] at this;exact this⟩;obtain ⟨r,x⟩:=bP c0.1;have z:r<d.ths.l.length:=(by omega);have w:=o.t _ (aZ (f:=Th.er) (aC z));have a0:=Bd (l:=d.arrs.l) (k:=256) (fun y hy=>by have:=o.a y hy;omega) (by decide);have g0:d.vars.l.length<=64:=o.l.1;have h0:Vh d.arrs.l<=256:=o.s;obtain ⟨N,hN⟩:=bP a0.1;refine Zh zeroValue29 fun j=> ?_
 refine rn [0,4,0,1,0,1,0] ?_;refine aW 18 (.slice d.chs.a d.chs.l.length d.chs.c) rfl (rfl) ?_;refine Zv call53 (aH _) (New_Y (a:=d.chs.a) (c:=d.chs.c) (by rw [<-Ul];exact dV (cF (kX (Kn.fc (q:= []) (f:=d)) fun M h=>h.chs) leA)) o.f) ?_;rintro _ _ ⟨py,rfl,rfl⟩;refine rn [12,1023,5,0] ?_;refine bM call163 (Zw8 (g:=d) (cF (Kn.fc (q:= []) (f:=d)) leA) o) ?_;refine aW 26 (I64 ((d.vars.l.length+N:Nat):Int)) rfl (by rw [hN];rfl) ?_;refine bU (Ef.make (n:=d.vars.l.length+N) rfl rfl underlying22 Ij rfl rfl (by omega) (by omega)) ?_;rintro _ _ ⟨gl,rfl,rfl⟩;refine eP (q':=lsH I64 2 (some ⟨gl,0,none⟩) (d.vars.l.length+N) (List.replicate (d.vars.l.length+N) 0)::_) (aM Zj (Dv _ _ _ _ _)) ?_;refine oo 1 ?_;refine Zl fun n3=> ?_
 refine rn [3,0,1,2,3,4,5,6] ?_;refine dY 35 (.slice d.vars.a d.vars.l.length d.vars.c) rfl (rfl) ?_;refine dY 33 (.slice (some ⟨gl,0,none⟩) (List.replicate (d.vars.l.length+N) (0:Int)).length (d.vars.l.length+N)) rfl (by rw [cO]) ?_;refine eE 6 rfl (Zzq (f:=I64) (l:=List.replicate (d.vars.l.length+N) 0) (m:=d.vars.l) underlying22 Ij rfl rfl Zj (by rw [<-Ul];exact dV (cF (kX (Kn.fc (q:= []) (f:=d)) fun M h=>h.vars) leA)) (fun _=>rfl) (by rw [cO];omega)) ?_;refine kk0 ?_;rw [show d.vars.l++(List.replicate (d.vars.l.length+N) (0:Int)).drop d.vars.l.length=d.vars.l++List.replicate N 0 by rw [List.drop_replicate];congr 2;omega];refine rn [0,4,0] ?_;refine aW 39 (Al r) rfl (by rw [x]) ?_;refine eP (q':=pto j (B4 d)::_) Zj (XO.freeze ?_);refine eP (q':=prM j d::_) (dK (φ:=fun M=>PrgM M j d) (mn:=fun e h=>PrgM.mono e h) (((Kn.im).and (cF (Kn.fc (q:= []) (f:=d)) leA)).imp fun M h=>⟨SeesZ.block h.1,h.2⟩)) ?_;refine Vg call164 (begin_ok (q:= [prM j d]) (pp:=j) (g:=d) (n:=r) (Prg.of Kn.prM) z w.1 (by have:=w.2.1;rw [show (Th.er d.ths.l[r]).body=Zk d.ths.l[r].body from rfl,Y9] at this;omega)) ?_;rintro _ _ ⟨T1,e0,rfl,d0,rfl⟩ _ e_;simp only [ca,na] at e_;subst e_;refine bU (Yz (u:=T1) trC underlying327 Zxn rfl rfl trC_len rfl) ?_;rintro _ _ ⟨gt,rfl,rfl⟩;refine rn [2,0,7] ?_;obtain ⟨U,i⟩: ∃ U:StC,U=(⟨some ⟨gl,0,none⟩,d.vars.l.length+N,d.vars.l++List.replicate N 0,py,P1 d.mu.toNat d.co.toNat d.chs.l,some ⟨gt,0,none⟩,1, [T1],Of⟩:StC):=⟨_,rfl⟩;refine cS (q':=tdM U.ths::_) (dK (φ:=fun M=>TodoAt M U.ths) (mn:=fun e h=>TodoAt.mono e h) ((cF d0 leA).imp fun M h t ht y hy=>by rw [i] at ht;rw [bN.1 ht] at hy;exact h y hy)) ?_;refine cS (q':=stars (U.ths.map trH)::_) (aM (b:=trH T1::_) Zj (by rw [i];exact aM (cG _ (Yr _)) (U1 _ _ _))) ?_;refine Zq (stP n3 j U::(staL U++(prM j d::tdM U.ths::q))) func92 (Q4 results92 rfl rfl) ⟨_,rfl,.inl ⟨hm,n3,j,d,U,he,by rw [i];simp only [StC.er,bA,dC,e0];rw [<-x,<-b0];simp [Zqp,FC.er,Fnd.pr,hN],rfl,rfl⟩⟩ (by rw [i];simp only [stP,staC,staL,aA,cO,bO,aY,aK];exact leA)
def GC (q:List HP):Prop:= ∃ L:List (ByteArray×Int),L.map (·.2)=Er/\Sees q (some ⟨1,0,none⟩) (L.flatMap cdC)
theorem GC.le (h:GC q')(k:Le q q'):GC q:=let ⟨L,h1,h2⟩:=h;⟨L,h1,h2.le k⟩
section
variable {n:Int}
theorem Kb (h1:Cl q ⟨p1,0,none⟩ (I64 lo))(h2:Cl q ⟨p2,0,none⟩ (I64 hi)):CallF prog G 237 [I64 n,.pointer (some ⟨p1,0,none⟩),.pointer (some ⟨p2,0,none⟩)] (q) (Ret fun v q'=>v= .bool (decide (Yj n lo hi))/\q'=q):=by
 refine aB func237 ntmps237 rfl fun F c=> ?_;refine xo 6 ?_;refine ld ?_ (hc:=(h1.le leA));refine oo 3 ?_;refine bB [8,4,0,2] ?_;apply Zg 4 12 8 rfl
 . intro a b;have h1:=sp a;refine oo 1 ?_;refine ld ?_ (hc:=(h2.le leA));refine oo 2 ?_;exact Zz b ⟨Yi a,Zw⟩
 . intro a b;have h1:=sp a;refine oo 4 ?_;exact Zz b ⟨Yl a,Zw⟩
 refine ox 2 ?_;refine Zq (q) func237 (Zf results237 rfl) ⟨_,rfl,cB (by rw [cN,decide_eq_true_iff];unfold Yj;simp),rfl⟩
abbrev A8 (v0:Nat)(v1:Nat):=([.pointer (some ⟨v0,0,none⟩),.pointer (some ⟨v1,0,none⟩)]:List Value)
abbrev AK (v0:Int):=((.cells [I64 v0].toArray 3 (0,0)):Obj)
theorem Kv:CallF prog G 178 [I64 lo,I64 hi] ([]) (Ret fun v q'=> ∃ p1 p2,v= .func (.func 237) [].toArray (A8 p1 p2).toArray/\q'= [pto p1 (AK lo),pto p2 (AK hi)]):=by
 refine aB func178 ntmps178 rfl fun F c=> ?_;refine xo 2 ?_;refine Zl fun b=> ?_
 refine Zl fun a=> ?_
 refine ox 7 ?_;refine Zq [pto b (AK lo),pto a (AK hi)] func178 (Zf results178 rfl) ⟨_,rfl,b,a,rfl,rfl⟩
theorem R7 (h1:Cl q ⟨p1,0,none⟩ (I64 lo))(h2:Cl q ⟨p2,0,none⟩ (I64 hi)):Rdr prog G (.func (.func 237) [].toArray (A8 p1 p2).toArray) I64 (fun x=> .bool (decide (Yj x lo hi))) q l:=
 fun q1 h x _=>Jy call237 (Kb (h1.le h) (h2.le h))
theorem N6:CallF prog G 180 [I64 n] (q) (Ret fun v q'=>v= .bool (decide (Yj n (-2147483648) 2147483647))/\q'=q):=by
 refine aB func180 ntmps180 rfl fun F d=> ?_;refine xo 9 ?_;refine bB [5,2,0] ?_;apply Zg 3 8 5 rfl
 . intro a b;have c:=sp a;refine oo 3 ?_;exact Zz b ⟨Yi a,Zw⟩
 . intro a b;have c:=sp a;refine oo 3 ?_;exact Zz b ⟨Yl a,Zw⟩
 refine ox 2 ?_;refine Zq (q) func180 (Zf results180 rfl) ⟨_,rfl,cB (by rw [cN,decide_eq_true_iff];unfold Yj;simp),rfl⟩
theorem Sf :Rdr prog G (.func (.func 180) #[] #[]) I64 (fun x=> .bool (decide (Yj x (-2147483648) 2147483647))) q l:=
 fun q1 h x _=>CallV.c10 call180 N6
abbrev Af (v0:List Int)(v1:Int->Bool)(v2:List HP):=(Ret fun v q'=> ∃ k:Int,v= I64 k/\decide (0<=k)=v0.any v1/\q'=v2)
theorem Cm (hs:Sees q a (l.map I64))(hn:l.length<=9223372036854775807)(hp:Rdr prog G fv I64 (fun x=> .bool (u x)) q l):CallF prog G 285 [.slice a l.length c,fv] (q) (Af l u q):=by
 refine aB func285 ntmps285 rfl fun F o=> ?_;have e:(l.map I64).length=l.length:=by simp
 refine xx 12 ?_;refine aX (cC (fun (s:Nat×Option Addr)=>s.1<=l.length/\s.2=a/\(l.take s.1).any u=false) (fun s=> [(0,.slice s.2 l.length c),(1,fv),(7,I64 l.length),(8,I64 (s.1:Int))]) (fun s=>q++F) (fun s=>l.length - s.1) (fun s f g=> ?_) (0,a) ⟨by dsimp only;omega,rfl,rfl⟩) Zn leA;try dsimp only at f g|-
 obtain ⟨j,rfl,b⟩:=f;obtain ⟨s,a⟩:=s;dsimp only at*;refine xx 5 ?_;refine xp 9 ?_ ?_<;>intro n
 . have d:s<l.length:=by omega
   refine Z7 hs (by rw [e];omega) fun m i k=> ?_;subst k;refine rn [15,0] ?_;refine Ng (hp _ leA _ (aC d)) ?_;refine ox 1 ?_;refine xp 16 ?_ ?_<;>intro h
   . refine xx 6 ?_;refine Zq (q) func285 (Zf results285 rfl) ⟨_,rfl,_,rfl,by rw [C6 d h];exact dA (by omega),rfl⟩
   refine xx 7 ?_;refine aX (g (s+1,some ⟨m,i,none⟩) ⟨by dsimp only;omega,rfl,by dsimp only;rw [Tu d,b,h];rfl⟩ (by dsimp only;omega)) Zn leA
 refine xx 6 ?_;rw [bQ (show l.length<=s by omega)] at b;refine Zq (q) func285 (Zf results285 rfl) ⟨_,rfl,_,rfl,by rw [b];rfl,rfl⟩
theorem P4 (hs:Sees q a (l.map I64))(hn:l.length<=9223372036854775807)(hp:Rdr prog G fv I64 (fun x=> .bool (u x)) q l):CallF prog G 238 [.slice a l.length c,fv] (q) (Ret fun v q'=>v= .bool (l.any u)/\q'=q):=by
 refine aB func238 ntmps238 rfl fun F d=> ?_;refine xo 8 ?_;refine Zv call285 (aH _) (Cm (hs.le leA) hn (hp.le leA)) ?_;rintro _ _ ⟨k,rfl,b,rfl⟩;refine ox 3 ?_;refine Zq (q) func238 (Zf results238 rfl) ⟨_,rfl,aQ Value.bool b,rfl⟩
theorem Ie {x:Int}(hx:x∈l)(h1:Cl q ⟨p,0,none⟩ fv)(hp:Rdr prog G fv I64 (fun x=> .bool (u x)) q l):CallF prog G 239 [I64 x,.pointer (some ⟨p,0,none⟩)] (q) (Ret fun v q'=>v= .bool (!u x)/\q'=q):=by
 refine aB func239 ntmps239 rfl fun F a=> ?_;refine xo 6 ?_;refine ld ?_ (hc:=(h1.le leA));refine oo 1 ?_;refine Ng (hp _ leA _ hx) ?_;refine ox 3 ?_;refine Zq (q) func239 (Zf results239 rfl) ⟨_,rfl,rfl,rfl⟩
abbrev Ao (v0:List Int)(v1:Int)(v2:Int->Bool)(v3:List HP):=(Ret fun v q'=>v= .bool (decide ((v0.length:Int)<=v1/\ ∀ x∈v0,v2 x=true))/\q'=v3)
theorem Zqj (hs:Sees q a (l.map I64))(hn:l.length<=9223372036854775807)(hp:Rdr prog G fv I64 (fun x=> .bool (u x)) q l)(ho:fv.cells= #[fv]):CallF prog G 179 [.slice a l.length c,I64 hi,fv] (q) (Ao l hi u q):=by
 refine aB func179 ntmps179 rfl fun F i=> ?_;refine xo 2 ?_;refine Zl fun h=> ?_
 rw [ho];refine oo 9 ?_;refine bB [11,6,5,0] ?_;apply Zg 5 16 11 rfl
 . intro b e;have d:=sp b;refine oo 2 ?_;refine bM call238 (P4 (u:=fun x=> !u x) (hs.le leA) hn (fun g d x f=>gT call239 (Ie f ((fK (l:= [fv]) Vb rfl).le d) (hp.le (d.trans leA))))) ?_;refine oo 2 ?_;exact Zz e ⟨Yi b,Zw⟩
 . intro b e;have d:=sp b;refine oo 5 ?_;exact Zz e ⟨Yl b,Zw⟩
 refine ox 2 ?_;refine Zq (q) func179 (Zf results179 rfl) ⟨_,rfl,cB (by rw [cN];simp),rfl⟩
theorem Iv (hs:Sees q a (l.map I64))(hn:l.length<=9223372036854775807)(hp:Rdr prog G fv I64 (fun x=> .bool (u x)) q l):CallF prog G 204 [.slice a l.length c,fv] (q) (Af l u q):=by
 refine aB func204 ntmps204 rfl fun F o=> ?_;have e:(l.map I64).length=l.length:=by simp
 refine xx 12 ?_;refine aX (cC (fun (s:Nat×Option Addr)=>s.1<=l.length/\s.2=a/\(l.take s.1).any u=false) (fun s=> [(0,.slice s.2 l.length c),(1,fv),(7,I64 l.length),(8,I64 (s.1:Int))]) (fun s=>q++F) (fun s=>l.length - s.1) (fun s f g=> ?_) (0,a) ⟨by dsimp only;omega,rfl,rfl⟩) Zn leA;try dsimp only at f g|-
 obtain ⟨j,rfl,b⟩:=f;obtain ⟨s,a⟩:=s;dsimp only at*;refine xx 5 ?_;refine xp 9 ?_ ?_<;>intro n
 . have d:s<l.length:=by omega
   refine Z7 hs (by rw [e];omega) fun m i k=> ?_;subst k;refine rn [15,0] ?_;refine Ng (hp _ leA _ (aC d)) ?_;refine ox 1 ?_;refine xp 16 ?_ ?_<;>intro h
   . refine xx 6 ?_;refine Zq (q) func204 (Zf results204 rfl) ⟨_,rfl,_,rfl,by rw [C6 d h];exact dA (by omega),rfl⟩
   refine xx 7 ?_;refine aX (g (s+1,some ⟨m,i,none⟩) ⟨by dsimp only;omega,rfl,by dsimp only;rw [Tu d,b,h];rfl⟩ (by dsimp only;omega)) Zn leA
 refine xx 6 ?_;rw [bQ (show l.length<=s by omega)] at b;refine Zq (q) func204 (Zf results204 rfl) ⟨_,rfl,_,rfl,by rw [b];rfl,rfl⟩
theorem X7 (hs:Sees q a (l.map I64))(hn:l.length<=9223372036854775807)(hp:Rdr prog G fv I64 (fun x=> .bool (u x)) q l):CallF prog G 136 [.slice a l.length c,fv] (q) (Ret fun v q'=>v= .bool (l.any u)/\q'=q):=by
 refine aB func136 ntmps136 rfl fun F d=> ?_;refine xo 8 ?_;refine Zv call204 (aH _) (Iv (hs.le leA) hn (hp.le leA)) ?_;rintro _ _ ⟨k,rfl,b,rfl⟩;refine ox 3 ?_;refine Zq (q) func136 (Zf results136 rfl) ⟨_,rfl,aQ Value.bool b,rfl⟩
theorem Zjt {x:Int}(hx:x∈l)(h1:Cl q ⟨p,0,none⟩ fv)(hp:Rdr prog G fv I64 (fun x=> .bool (u x)) q l):CallF prog G 240 [I64 x,.pointer (some ⟨p,0,none⟩)] (q) (Ret fun v q'=>v= .bool (!u x)/\q'=q):=by
 refine aB func240 ntmps240 rfl fun F a=> ?_;refine xo 6 ?_;refine ld ?_ (hc:=(h1.le leA));refine oo 1 ?_;refine Ng (hp _ leA _ hx) ?_;refine ox 3 ?_;refine Zq (q) func240 (Zf results240 rfl) ⟨_,rfl,rfl,rfl⟩
theorem En (hs:Sees q a (l.map I64))(hn:l.length<=9223372036854775807)(hp:Rdr prog G fv I64 (fun x=> .bool (u x)) q l)(ho:fv.cells= #[fv]):CallF prog G 181 [.slice a l.length c,I64 hi,fv] (q) (Ao l hi u q):=by
 refine aB func181 ntmps181 rfl fun F i=> ?_;refine xo 2 ?_;refine Zl fun h=> ?_
 rw [ho];refine oo 9 ?_;refine bB [11,6,5,0] ?_;apply Zg 5 16 11 rfl
 . intro b e;have d:=sp b;refine oo 2 ?_;refine bM call136 (X7 (u:=fun x=> !u x) (hs.le leA) hn (fun g d x f=>gT call240 (Zjt f ((fK (l:= [fv]) Vb rfl).le d) (hp.le (d.trans leA))))) ?_;refine oo 2 ?_;exact Zz e ⟨Yi b,Zw⟩
 . intro b e;have d:=sp b;refine oo 5 ?_;exact Zz e ⟨Yl b,Zw⟩
 refine ox 2 ?_;refine Zq (q) func181 (Zf results181 rfl) ⟨_,rfl,cB (by rw [cN];simp),rfl⟩
theorem P2 {l:List Cod}{u:Cod->Bool}(hs:Sees q a (l.flatMap Vn))(hn:l.length<=9223372036854775807)(hp:Rdr prog G fv (fun x=> .agg (Vn x).toArray) (fun x=> .bool (u x)) q l):CallF prog G 286 [.slice a l.length c,fv] (q) (Ret fun v q'=> ∃ k:Int,v= I64 k/\decide (0<=k)=l.any u/\q'=q):=by
 refine aB func286 ntmps286 rfl fun F t=> ?_;have e:=Zx (f:=Vn) (sz:=4) (fun _=>rfl) l;refine xx 12 ?_;refine aX (cC (fun (s:Nat×Option Addr)=>s.1<=l.length/\s.2=a/\(l.take s.1).any u=false) (fun s=> [(0,.slice s.2 l.length c),(1,fv),(7,I64 l.length),(8,I64 (s.1:Int))]) (fun s=>q++F) (fun s=>l.length - s.1) (fun s g h=> ?_) (0,a) ⟨by dsimp only;omega,rfl,rfl⟩) Zn leA;try dsimp only at g h|-
 obtain ⟨m,rfl,d⟩:=g;obtain ⟨s,a⟩:=s;dsimp only at*;refine xx 5 ?_;refine xp 9 ?_ ?_<;>intro r
 . have b:s<l.length:=by omega
   refine Z7 hs (by rw [e];omega) fun p j o=> ?_;subst o;refine xo 15 ?_;refine Qi (n:=s) isAgg224 sizeOf224 hs b ?_;refine Ng (hp _ leA _ (aC b)) ?_;refine ox 1 ?_;refine xp 16 ?_ ?_<;>intro i
   . refine xx 6 ?_;refine Zq (q) func286 (Zf results286 rfl) ⟨_,rfl,_,rfl,by rw [C6 b i];exact dA (by omega),rfl⟩
   refine xx 7 ?_;refine aX (h (s+1,some ⟨p,j,none⟩) ⟨by dsimp only;omega,rfl,by dsimp only;rw [Tu b,d,i];rfl⟩ (by dsimp only;omega)) Zn leA
 refine xx 6 ?_;rw [bQ (show l.length<=s by omega)] at d;refine Zq (q) func286 (Zf results286 rfl) ⟨_,rfl,_,rfl,by rw [d];rfl,rfl⟩
theorem It {l:List Cod}{u:Cod->Bool}(hs:Sees q a (l.flatMap Vn))(hn:l.length<=9223372036854775807)(hp:Rdr prog G fv (fun x=> .agg (Vn x).toArray) (fun x=> .bool (u x)) q l):CallF prog G 241 [.slice a l.length c,fv] (q) (Ret fun v q'=>v= .bool (l.any u)/\q'=q):=by
 refine aB func241 ntmps241 rfl fun F d=> ?_;refine xo 8 ?_;refine Zv call286 (aH _) (P2 (hs.le leA) hn (hp.le leA)) ?_;rintro _ _ ⟨k,rfl,b,rfl⟩;refine ox 3 ?_;refine Zq (q) func241 (Zf results241 rfl) ⟨_,rfl,aQ Value.bool b,rfl⟩
theorem Zqk {l:List Cod}{x:Cod}{u:Cod->Bool}(hx:x∈l)(h1:Cl q ⟨p,0,none⟩ fv)(hp:Rdr prog G fv (fun x=> .agg (Vn x).toArray) (fun x=> .bool (u x)) q l):CallF prog G 242 [.agg (Vn x).toArray,.pointer (some ⟨p,0,none⟩)] (q) (Ret fun v q'=>v= .bool (!u x)/\q'=q):=by
 refine aB func242 ntmps242 rfl fun F b=> ?_;refine xo 2 ?_;refine Zl fun a=> ?_
 refine oo 4 ?_;refine ld ?_ (hc:=(h1.le leA));refine ldA ?_;refine Ng (hp _ leA _ hx) ?_;refine ox 3 ?_;refine Zq (q) func242 (Zf results242 rfl) ⟨_,rfl,rfl,rfl⟩
theorem Zjc {l:List Cod}{u:Cod->Bool}(hs:Sees q a (l.flatMap Vn))(hn:l.length<=9223372036854775807)(hp:Rdr prog G fv (fun x=> .agg (Vn x).toArray) (fun x=> .bool (u x)) q l)(ho:fv.cells= #[fv]):CallF prog G 182 [.slice a l.length c,I64 hi,fv] (q) (Ret fun v q'=>v= .bool (decide ((l.length:Int)<=hi/\ ∀ x∈l,u x=true))/\q'=q):=by
 refine aB func182 ntmps182 rfl fun F i=> ?_;refine xo 2 ?_;refine Zl fun h=> ?_
 rw [ho];refine oo 9 ?_;refine bB [11,6,5,0] ?_;apply Zg 5 16 11 rfl
 . intro b e;have d:=sp b;refine oo 2 ?_;refine bM call241 (It (u:=fun x=> !u x) (hs.le leA) hn (fun g d x f=>gT call242 (Zqk f ((fK (l:= [fv]) Vb rfl).le d) (hp.le (d.trans leA))))) ?_;refine oo 2 ?_;exact Zz e ⟨Yi b,Zw⟩
 . intro b e;have d:=sp b;refine oo 5 ?_;exact Zz e ⟨Yl b,Zw⟩
 refine ox 2 ?_;refine Zq (q) func182 (Zf results182 rfl) ⟨_,rfl,cB (by rw [cN];simp),rfl⟩
theorem Iw {l:List Ins}{u:Ins->Bool}(hs:Sees q a (l.flatMap Y8))(hn:l.length<=9223372036854775807)(hp:Rdr prog G fv (fun x=> .agg (Y8 x).toArray) (fun x=> .bool (u x)) q l):CallF prog G 313 [.slice a l.length c,fv] (q) (Ret fun v q'=> ∃ k:Int,v= I64 k/\decide (0<=k)=l.any u/\q'=q):=by
 refine aB func313 ntmps313 rfl fun F t=> ?_;have e:=Zx (f:=Y8) (sz:=4) (fun _=>rfl) l;refine xx 12 ?_;refine aX (cC (fun (s:Nat×Option Addr)=>s.1<=l.length/\s.2=a/\(l.take s.1).any u=false) (fun s=> [(0,.slice s.2 l.length c),(1,fv),(7,I64 l.length),(8,I64 (s.1:Int))]) (fun s=>q++F) (fun s=>l.length - s.1) (fun s g h=> ?_) (0,a) ⟨by dsimp only;omega,rfl,rfl⟩) Zn leA;try dsimp only at g h|-
 obtain ⟨m,rfl,d⟩:=g;obtain ⟨s,a⟩:=s;dsimp only at*;refine xx 5 ?_;refine xp 9 ?_ ?_<;>intro r
 . have b:s<l.length:=by omega
   refine Z7 hs (by rw [e];omega) fun p j o=> ?_;subst o;refine xo 15 ?_;refine Qi (n:=s) isAgg222 sizeOf222 hs b ?_;refine Ng (hp _ leA _ (aC b)) ?_;refine ox 1 ?_;refine xp 16 ?_ ?_<;>intro i
   . refine xx 6 ?_;refine Zq (q) func313 (Zf results313 rfl) ⟨_,rfl,_,rfl,by rw [C6 b i];exact dA (by omega),rfl⟩
   refine xx 7 ?_;refine aX (h (s+1,some ⟨p,j,none⟩) ⟨by dsimp only;omega,rfl,by dsimp only;rw [Tu b,d,i];rfl⟩ (by dsimp only;omega)) Zn leA
 refine xx 6 ?_;rw [bQ (show l.length<=s by omega)] at d;refine Zq (q) func313 (Zf results313 rfl) ⟨_,rfl,_,rfl,by rw [d];rfl,rfl⟩
theorem X8 {l:List Ins}{u:Ins->Bool}(hs:Sees q a (l.flatMap Y8))(hn:l.length<=9223372036854775807)(hp:Rdr prog G fv (fun x=> .agg (Y8 x).toArray) (fun x=> .bool (u x)) q l):CallF prog G 287 [.slice a l.length c,fv] (q) (Ret fun v q'=>v= .bool (l.any u)/\q'=q):=by
 refine aB func287 ntmps287 rfl fun F d=> ?_;refine xo 8 ?_;refine Zv call313 (aH _) (Iw (hs.le leA) hn (hp.le leA)) ?_;rintro _ _ ⟨k,rfl,b,rfl⟩;refine ox 3 ?_;refine Zq (q) func287 (Zf results287 rfl) ⟨_,rfl,aQ Value.bool b,rfl⟩
theorem Zjr {l:List Ins}{u:Ins->Bool}(hx:x∈l)(h1:Cl q ⟨p,0,none⟩ fv)(hp:Rdr prog G fv (fun x=> .agg (Y8 x).toArray) (fun x=> .bool (u x)) q l):CallF prog G 288 [.agg (Y8 x).toArray,.pointer (some ⟨p,0,none⟩)] (q) (Ret fun v q'=>v= .bool (!u x)/\q'=q):=by
 refine aB func288 ntmps288 rfl fun F b=> ?_;refine xo 2 ?_;refine Zl fun a=> ?_
 refine oo 4 ?_;refine ld ?_ (hc:=(h1.le leA));refine ldA ?_;refine Ng (hp _ leA _ hx) ?_;refine ox 3 ?_;refine Zq (q) func288 (Zf results288 rfl) ⟨_,rfl,rfl,rfl⟩
theorem Zx7 {l:List Ins}{u:Ins->Bool}(hs:Sees q a (l.flatMap Y8))(hn:l.length<=9223372036854775807)(hp:Rdr prog G fv (fun x=> .agg (Y8 x).toArray) (fun x=> .bool (u x)) q l)(ho:fv.cells= #[fv]):CallF prog G 243 [.slice a l.length c,I64 hi,fv] (q) (Ret fun v q'=>v= .bool (decide ((l.length:Int)<=hi/\ ∀ x∈l,u x=true))/\q'=q):=by
 refine aB func243 ntmps243 rfl fun F i=> ?_;refine xo 2 ?_;refine Zl fun h=> ?_
 rw [ho];refine oo 9 ?_;refine bB [11,6,5,0] ?_;apply Zg 5 16 11 rfl
 . intro b e;have d:=sp b;refine oo 2 ?_;refine bM call287 (X8 (u:=fun x=> !u x) (hs.le leA) hn (fun g d x f=>gT call288 (Zjr f ((fK (l:= [fv]) Vb rfl).le d) (hp.le (d.trans leA))))) ?_;refine oo 2 ?_;exact Zz e ⟨Yi b,Zw⟩
 . intro b e;have d:=sp b;refine oo 5 ?_;exact Zz e ⟨Yl b,Zw⟩
 refine ox 2 ?_;refine Zq (q) func243 (Zf results243 rfl) ⟨_,rfl,cB (by rw [cN];simp),rfl⟩
end
section
variable {n:Int}{t:Cod}
theorem what_at {L:List (ByteArray×Int)}(h:L.map (·.2)=Er)(hk:k<L.length)(h1:1<=k):k<35/\((L[k].2==1||L[k].2==2)=nmA k)/\((L[k].2==2)=decide ((k:Int)=26))/\((L[k].2==3)=decide ((k:Int)=1)):=by
 have b:L.length=35:=by rw [<-aI (f:=fun x:ByteArray×Int=>x.2),h];rfl
 have a:k<35:=by omega
 have e:L[k].2=Er[k]'a:=by
  have:=iG (fun x:ByteArray×Int=>x.2) (l:=L) (i:=k) (h:=by simpa using hk);rw [<-this];simp only [h];rfl
 rw [e];exact ⟨a,whatL_at ⟨k,a⟩ h1⟩
theorem Ge {bb:Bool}:CallF prog G 289 [I64 n,.bool bb] (q) (Ret fun v q'=>v= .bool (decide (if bb=true then 0<=n/\n<=65535 else n=0))/\q'=q):=by
 refine aB func289 ntmps289 rfl fun F e=> ?_;refine xx 9 ?_;refine xp 5 ?_ ?_<;>intro d
 focus
  refine xo 6 ?_;refine bB [8,4,0] ?_;apply Zg 3 11 8 rfl
  . intro a b;have c:=sp a;refine oo 3 ?_;exact Zz b ⟨Yi a,Zw⟩
  . intro a b;have c:=sp a;refine oo 3 ?_;exact Zz b ⟨Yl a,Zw⟩
  refine ox 2 ?_
 rotate_left
 focus
  refine xx 8 ?_
 all_goals
  refine Zq (q) func289 (Zf results289 rfl) ⟨_,rfl,cB (by rw [cN,decide_eq_true_iff];simp_all),rfl⟩
theorem La (g:GC q):CallF prog G 246 [I64 cd] (q) (Ret fun v q'=>((¬ (1<=cd/\cd<=34)/\v= .tuple [.agg #[.string ⟨#[]⟩,.bool false,.bool false,.bool false],.bool false].toArray)\/((1<=cd/\cd<=34)/\ ∃ s,v= .tuple [.agg [.string s,.bool (nmA cd),.bool (decide (cd=26)),.bool (decide (cd=1))].toArray,.bool true].toArray))/\q'=q):=by
 refine aB func246 ntmps246 rfl fun F u=> ?_;obtain ⟨L,i,l⟩:=g;have t:L.length=35:=by rw [<-aI (f:=fun x:ByteArray×Int=>x.2),i];rfl
 refine xo 2 ?_;refine Zh zeroValue350 fun r=> ?_
 refine oo 8 ?_;refine bB [7,3,2,0] ?_;apply Zb 3 10 7 rfl
 . intro b d;have j:=sp b;refine oo 3 ?_;exact Zz d ⟨orF b,Zw⟩
 . intro b d;have j:=sp b;refine oo 3 ?_;exact Zz d ⟨orT b,Zw⟩
 refine ox 1 ?_;refine xp 10 ?_ ?_<;>intro j
 . refine rn [4,0,2] ?_;refine Zq (q) func246 (N3 results246) ⟨_,rfl,.inl ⟨by omega,rfl⟩,rfl⟩
 refine xo 5 ?_;have m:1<=cd/\cd<=34:=(by omega);obtain ⟨_,w1,h,e⟩:=what_at i (k:=cd.toNat) (by omega) (by omega);rw [show ((cd.toNat:Nat):Int)=cd by omega] at w1 h e;refine Vl (H9 rfl rfl underlying453 sizeOf452 (by omega) (by omega)) ?_;refine Qi (n:=cd.toNat) isAgg452 sizeOf452 l (by omega) ?_;refine Zh zeroValue452 fun p=> ?_
 refine rn [0,4,0,1,0,2] ?_;refine bB [20,16,4,3,2] ?_;apply Zb 4 24 20 rfl
 . intro a c;have o:=sp a;refine rn [1,0,2] ?_;exact Zz c ⟨orF a,Zw⟩
 . intro a c;have o:=sp a;refine oo 4 ?_;exact Zz c ⟨orT a,Zw⟩
 refine rn [1,0,2,0,2,0,2] ?_;refine Zq (q) func246 (N3 results246) ⟨_,rfl,.inr ⟨m,(L[cd.toNat]'(by omega)).1,by rw [<-w1,<-h,<-e];rfl⟩,rfl⟩
theorem Zxd (g:GC q):CallF prog G 244 [.agg (Y8 x).toArray] (q) (Ret fun v q'=>v= .bool (decide (Kd x))/\q'=q):=by
 refine aB func244 ntmps244 rfl fun F n=> ?_;obtain ⟨d,j,i,h⟩:=x;simp only [Y8];refine xo 2 ?_;refine Zl fun m=> ?_
 refine rn [5,0] ?_;refine Zv call246 (aH _) (La (cd:=d) (g.le leA)) ?_;rintro _ _ ⟨(⟨e,rfl⟩|⟨e,s,rfl⟩),rfl⟩
 iterate 2
  focus
   refine oo 3 ?_;refine Zh zeroValue350 fun l=> ?_
   refine rn [0,8] ?_;refine bB [13,3,2,1] ?_;apply Zb 7 20 13 rfl
   . intro a b;have c:=sp a;refine rn [1,0,1,0] ?_;refine bM call289 (Ge) ?_;refine oo 2 ?_;exact Zz b ⟨orF a,Zw⟩
   . intro a b;have c:=sp a;refine oo 7 ?_;exact Zz b ⟨orT a,Zw⟩
   refine oo 1 ?_;refine bB [21,3,2,1] ?_;apply Zb 7 28 21 rfl
   . intro a b;have c:=sp a;refine rn [1,0,1,0] ?_;refine bM call289 (Ge) ?_;refine oo 2 ?_;exact Zz b ⟨orF a,Zw⟩
   . intro a b;have c:=sp a;refine oo 7 ?_;exact Zz b ⟨orT a,Zw⟩
   refine ox 1 ?_
  rotate_left
 . refine xp 28 ?_ ?_<;>intro c
   focus
    refine xx 5 ?_
   rotate_left
   focus
    refine rn [6,0,1] ?_;refine xp 30 ?_ ?_<;>intro f
    focus
     refine rn [4,0] ?_;refine bM call180 (N6) ?_;refine ox 2 ?_
    rotate_left
    focus
     refine rn [5,0,3] ?_
   all_goals
    refine Zq (q) func244 (Zf results244 rfl) ⟨_,rfl,cB (by rw [cN];simp only [cP,iN,Kd];first|(simp_all;done)|(simp_all;omega)|(simp;intro k;exact aV k e)),rfl⟩
 refine xp 28 ?_ ?_<;>intro c
 focus
  refine xx 5 ?_
 rotate_left
 focus
  refine rn [6,0,1] ?_;refine xp 30 ?_ ?_<;>intro f
  focus
   refine rn [4,0] ?_;refine bM call180 (N6) ?_;refine ox 2 ?_
  rotate_left
  focus
   refine rn [5,0,3] ?_
 all_goals
  refine Zq (q) func244 (Zf results244 rfl) ⟨_,rfl,cB (by rw [cN];simp only [cP,iN,Kd];first|(simp_all [Yj];done)|(by_cases e1:nmA d=true<;>by_cases e2:d=26<;>by_cases e3:d=1<;>simp_all [Yj]<;>omega)),rfl⟩
theorem Zjq {l:List Ins}(g:GC q):Rdr prog G (.func (.func 244) #[] #[]) (fun x=> .agg (Y8 x).toArray) (fun x=> .bool (decide (Kd x))) q l:=
 fun q1 h x _=>CallV.c10 call244 (Zxd (g.le h))
end
section
variable {n:Int}{t:Cod}
theorem Sp (g:GC q)(hq:CodQ q t):CallF prog G 183 [.agg (Vn t).toArray] (q) (Ret fun v q'=>v= .bool (decide (Dd t))/\q'=q):=by
 refine aB func183 ntmps183 rfl fun F cs=> ?_;have hn:=hq.n;have r:=hq.ni;have p:=hq.nl;refine xo 2 ?_;refine Zl fun s=> ?_
 refine rn [3,0,2,3,4] ?_;refine Rl 0 call178 (Kv) ?_;refine kd2 fun m h=> ?_
 refine ⟨hlA,?_⟩;refine C8 4 (Jy call237 (Kb (p1:=m) (p2:=h) (lo:=1) (hi:=16) (fK (l:= [I64 1]) Vb rfl) (fK (l:= [I64 16]) Vb rfl))) ?_;refine dd [5] ?_;refine eY 8 rfl ?_ ?_<;>intro d
 focus
  replace d:=sp d;refine rn [8,9] ?_;refine Rl 6 call178 (Kv) ?_;refine kd2 fun k f=> ?_
  refine ⟨hlA,?_⟩;refine C8 9 (Jy call237 (Kb (p1:=k) (p2:=f) (lo:=0) (hi:=32) (fK (l:= zz6) Vb rfl) (fK (l:= [I64 32]) Vb rfl))) ?_;refine dd [10,11] ?_;refine eY 14 rfl ?_ ?_<;>intro c
  focus
   replace c:=sp c;refine rn [13,14,15,16,17,18,19,20,21] ?_;refine eY 23 rfl ?_ ?_<;>intro b
   focus
    replace b:=sp b;refine rn [22,23] ?_;refine Ys 23 call243 (Zx7 (u:=fun x=>decide (Kd x)) (hq.i.le leA) hq.ni ((Zjq g).le leA) rfl) ?_;refine dd [24,25] ?_;refine eY 28 rfl ?_ ?_<;>intro a
    focus
     replace a:=sp a;refine rn [27,28] ?_;refine Rl 28 call178 (Kv) ?_;refine kd2 fun j e=> ?_
     refine ⟨hlA,?_⟩;refine Ys 29 call181 (En (u:=fun x=>decide (Yj x 0 65536)) (hq.l.le leA) hq.nl (R7 (p1:=j) (p2:=e) (lo:=0) (hi:=65536) (fK (l:= zz6) Vb rfl) (fK (l:= [I64 65536]) Vb rfl)) rfl) ?_;refine dd [30,31] ?_
    rotate_left
    focus
     replace a:=sp a;refine dd [26,27,28,29,30,31] ?_
   rotate_left 2
   focus
    replace b:=sp b;refine dd [21,22,23,24,25,26,27,28,29,30,31] ?_
  rotate_left 3
  focus
   replace c:=sp c;refine dd [12,13,14,15,16,17,18,19,20,21,22,23,24,25,26,27,28,29,30,31] ?_
 rotate_left 4
 focus
  replace d:=sp d;refine dd [6,7,8,9,10,11,12,13,14,15,16,17,18,19,20,21,22,23,24,25,26,27,28,29,30,31] ?_
 all_goals
  refine jV ?_;refine Zq (q) func183 (Zf results183 rfl) ⟨_,rfl,cB (by first|(rw [cN];simp only [cP,iN,Dd];simp_all;done)|((first|(symm;rw [cM];done)|(rw [cM])|(symm;rw [cM]));rintro ⟨k1,z,y,o,w⟩;exact aV o (by assumption))),rfl⟩
theorem Zzj (g:GC q)(hq:MdlQ q m):CallF prog G 99 [.agg (J7 m).toArray] (q) (Ret fun v q'=>v= I64 (Iq m)/\q'=q):=by
 refine aB func99 ntmps99 rfl fun F cs=> ?_;have s:=hq.nv;have z:=hq.na;have y:=hq.nc;have w:=hq.nt;refine xo 2 ?_;refine Zl fun n1=> ?_
 refine oo 4 ?_;refine Vg call178 (Kv) ?_;refine kd2 fun e d=> ?_
 refine rn [4,0,1,2,3] ?_;refine C8 3 (Jy call237 (Kb (p1:=e) (p2:=d) (lo:=0) (hi:=64) (fK (l:= zz6) Vb rfl) (fK (l:= [I64 64]) Vb rfl))) ?_;refine dd [4,5] ?_;refine eY 10 rfl ?_ ?_<;>intro b
 focus
  replace b:=sp b;refine rn [7,8,9,10,11,12,13,14,15,16,17,18,19,20,21,22,23,24,25,26,27,28,29,30,31,32,33,34,35,36,37,38,0,5] ?_
 rotate_left
 focus
  replace b:=sp b;refine rn [7,8,9] ?_;refine C8 9 (Jy call237 (Kb (p1:=e) (p2:=d) (lo:=0) (hi:=64) (fK (l:= zz6) Vb rfl) (fK (l:= [I64 64]) Vb rfl))) ?_;refine dd [10,11,12] ?_;refine eY 17 rfl ?_ ?_<;>intro j
  focus
   replace j:=sp j;refine rn [14,15,16,17,18,19,20,21,22,23,24,25,26,27,28,29,30,31,32,33,34,35,36,37,38,0,5] ?_
  rotate_left
  focus
   replace j:=sp j;refine rn [14,15] ?_;refine Ys 15 call179 (Zqj (u:=fun x=>decide (Yj x (-2147483648) 2147483647)) (hq.v.le leA) hq.nv Sf rfl) ?_;refine dd [16,17,18] ?_;refine eY 23 rfl ?_ ?_<;>intro i
   focus
    replace i:=sp i;refine rn [20,21,22,23,24,25,26,27,28,29,30,31,32,33,34,35,36,37,38,0,5] ?_
   rotate_left
   focus
    replace i:=sp i;refine rn [20,21] ?_;refine Rl 21 call178 (Kv) ?_;refine kd2 fun p n=> ?_
    refine ⟨hlA,?_⟩;refine Ys 22 call181 (En (u:=fun x=>decide (Yj x 0 256)) (hq.a.le leA) hq.na (R7 (p1:=p) (p2:=n) (lo:=0) (hi:=256) (fK (l:= zz6) Vb rfl) (fK (l:= [I64 256]) Vb rfl)) rfl) ?_;refine dd [23,24,25] ?_;refine eY 30 rfl ?_ ?_<;>intro h
    focus
     replace h:=sp h;refine rn [27,28,29,30,31,32,33,34,35,36,37,38,0,5] ?_
    rotate_left
    focus
     replace h:=sp h;refine rn [27,28] ?_;refine Rl 28 call178 (Kv) ?_;refine kd2 fun o k=> ?_
     refine ⟨hlA,?_⟩;refine Ys 29 call181 (En (u:=fun x=>decide (Yj x 1 16)) (hq.c.le leA) hq.nc (R7 (p1:=o) (p2:=k) (lo:=1) (hi:=16) (fK (l:= [I64 1]) Vb rfl) (fK (l:= [I64 16]) Vb rfl)) rfl) ?_;refine dd [30,31,32] ?_;refine eY 37 rfl ?_ ?_<;>intro f
     focus
      replace f:=sp f;refine rn [34,35,36,37,38,0,5] ?_
     rotate_left
     focus
      replace f:=sp f;refine rn [34,35] ?_;refine Ys 35 call182 (Zjc (u:=fun x=>decide (Dd x)) (hq.t.le leA) hq.nt (fun q1 b x r=>CallV.c10 call183 (Sp (g.le (b.trans leA)) ((hq.x x r).le (b.trans leA)))) rfl) ?_;refine rn [37,38,0] ?_;refine xp 42 ?_ ?_<;>intro h6
      focus
       refine xx 5 ?_
      rotate_left
      focus
       refine xx 6 ?_
 all_goals
  refine Zq (q) func99 (Zf results99 rfl) ⟨_,rfl,aQ (Value.int _) (by unfold Iq;split<;>(rename_i hm;unfold Tb at hm;simp_all)),rfl⟩
end
theorem Fa:(prog.info? 3).map (fun i=>(i.zero,i.size,i.bytes))=some (some (I64 0),1,8):=by kernel_rfl
abbrev Pm:=Int×Int×Int×Int
variable {ins:List Pm}
def Wj (c:Int):Int×Int:=
 if c<=3\/c=30 then (0,1) else if c=4\/c=8\/c=9\/c=22 then (1,1) else if 10<=c/\c<=18 then (2,1) else if c=7 then (2,0) else if c=5\/c=6\/c=20\/c=21\/c=29\/c=33 then (1,0) else (0,0)
theorem Ip (c:Int):0<=(Wj c).1/\0<=(Wj c).2:=by
 unfold Wj;repeat' split
 all_goals decide
def Rt (i:Pm)(a:Nat):List Int:=
 if i.1=34 then [] else if i.1=19 then [i.2.1] else if i.1=20\/i.1=21 then if i.2.1=a+1 then [i.2.1] else [i.2.1,a+1] else [(a:Int)+1]
def zI:Pm:=(0,0,0,0)
def Qj (ins:List Pm)(a:Nat)(d:Int):Int×Int:=
 let i:=ins.getD a zI
 if d<(Wj i.1).1\/d - (Wj i.1).1+(Wj i.1).2>25 then (0,173)
 else if (i.1=23\/i.1=34)/\d≠0 then (0,175)
 else if ∃ x∈Rt i a,(ins.length:Int)<=x then (0,172) else (d - (Wj i.1).1+(Wj i.1).2,0)
def dAt (D:List Int)(i:Nat):Int:=D.getD i (-1)
def Qn (b:Int):List Int->List Int->Option (List Int)
 |D, []=>some D
 |D,x::r=>if 0<=dAt D x.toNat/\dAt D x.toNat≠b then none else Qn b (D.set x.toNat b) r
abbrev Nw (D:List Int)(dn:List Bool)(i:Nat):Prop:=0<=dAt D i/\dn.getD i false=false
def Kg (D:List Int)(dn:List Bool):Option Nat:=(List.range D.length).find? fun i=>decide (Nw D dn i)
def Gk (ins:List Pm):Nat->List Int->List Bool->List Int×Int
 |0,D,_=>(D,0)
 |k+1,D,dn=>match Kg D dn with
  |none=>(D,0)
  |some a=>if (Qj ins a (dAt D a)).2≠0 then ([],(Qj ins a (dAt D a)).2) else match Qn (Qj ins a (dAt D a)).1 D (Rt (ins.getD a zI) a) with
   |none=>([],174)
   |some D'=>Gk ins k D' (dn.set a true)
theorem Tg {a:Nat}(h:Kg D dn=some a):a<D.length/\Nw D dn a/\ ∀ j,j<a-> ¬Nw D dn j:=by
 unfold Kg at h;have m:=List.find?_some h;have g:=jQ h;refine ⟨by simpa using g,cU m,fun j p d=> ?_⟩;obtain ⟨_,b,n,e,i⟩:=List.find?_eq_some_iff_append.1 h
 have o:b.length=a:=by
  have c:(List.range D.length)[b.length]? =some a:=by rw [e];simp
  have f:b.length<D.length:=by have:=aQ List.length e;simp at this;omega
  rw [aE (by simpa using f)] at c;simpa using c
 have k:j∈b:=by
  have c:b[j]? =some j:=by
   have l:(List.range D.length)[j]? =b[j]? :=by rw [e,dB (by omega)]
   rw [<-l];have f:a<D.length:=by simpa using g
   rw [aE (by simp;omega)];simp
  exact jB c
 have:=i j k;rw [dA d] at this;cases this
theorem Xc (h:Kg D dn=none): ∀ j,j<D.length-> ¬Nw D dn j:=by
 intro j b a;have:=List.find?_eq_none.1 h j (by simpa using b);exact this (dA a)
theorem Zxh {a:Nat}(h1:a<D.length)(h2:Nw D dn a)(h3: ∀ j,j<D.length->Nw D dn j->a<=j):Kg D dn=some a:=by
 cases h:Kg D dn with
 |none=>exact aV h2 (Xc h a h1)
 |some b=>
  obtain ⟨f,e,d⟩:=Tg h;have:=h3 b f e;rcases dJ a b with c|c
  . exact aV h2 (d a c)
  rw [show b=a by omega]
theorem Cb (h: ∀ j,j<D.length-> ¬Nw D dn j):Kg D dn=none:=by
 cases h1:Kg D dn with
 |none=>rfl
 |some b=>obtain ⟨c,a,_⟩:=Tg h1;exact aV a (h b c)
theorem F5 {b:Int}(hi:i<D.length):dAt (D.set i b) j=if j=i then b else dAt D j:=by
 unfold dAt;simp only [aG,List.getElem?_set];by_cases h:j=i
 . subst h;simp [hi]
 have a: ¬i=j:=fun e=>h e.symm
 simp [h,a]
theorem Lu {a:Nat}{d:Int}(h:(Qj ins a d).2=0):(∀ x∈Rt (ins.getD a zI) a,x<(ins.length:Int))/\(0<=d->0<=(Qj ins a d).1)/\ ¬d<(Wj (ins.getD a zI).1).1:=by
 unfold Qj at h|-;simp only at h|-;split at h
 . cases h
 rename_i e;split at h
 . cases h
 rename_i g;split at h
 . cases h
 rename_i c;rw [if_neg e,if_neg g,if_neg c];refine ⟨fun x f=> ?_,fun i=> ?_,fun b=>e (.inl b)⟩
 . rcases Int.lt_or_le x ins.length with b|b
   . exact b
   exact aV ⟨x,f,b⟩ c
 have:=Ip (ins.getD a zI).1;dsimp only;omega
def Ins.t (i:Ins):Pm:=(i.c,i.a,i.b,i.n)
def efC (x:Int×Int):List Value:= [I64 x.1,I64 x.2]
def effL:List (Int×Int):= [(0,0),(0,1),(0,1),(0,1),(1,1),(1,0),(1,0),(2,0),(1,1),(1,1),(2,1),(2,1),(2,1),(2,1),(2,1),(2,1),(2,1),(2,1),(2,1),(0,0),(1,0),(1,0),(1,1),(0,0),(0,0),(0,0),(0,0),(0,0),(0,0),(1,0),(0,1),(0,0),(0,0),(1,0),(0,0)]
theorem effL_at: ∀ k:Fin 35,1<=k.val->effL[k.val]'k.isLt=Wj k.val:=by decide
def GE (q:List HP):Prop:=Sees q (some ⟨2,0,none⟩) (effL.flatMap efC)
theorem GE.le (h:GE q')(k:Le q q'):GE q:=Sees.le h k
section
variable {n:Int}{t:Cod}
def nxt (x:Ins)(at_:Int):List Int:=if x.c=34 then [] else if x.c=19 then [x.a] else if x.c=20\/x.c=21 then if x.a=at_+1 then [x.a] else [x.a,at_+1] else [at_+1]
theorem Zzi (x:Ins)(k:Nat):nxt x k=Rt x.t k:=rfl
def ivs (n:Int):List Value:= [I64 n]
abbrev A4 (v0:Nat)(v1:Ins)(v2:Nat)(v3:Int):=[im v0 (.cells (Y8 v1).toArray 222 (0,0)),im v2 (.cells [I64 v3].toArray 3 (0,0))]
theorem Zjd {y:Nat}{J:Nat->HP}{Jf:HP->Prop}(hat:0<=at_/\at_<=1000000000000)
 (hy: ∀ i (h:i<((nxt x at_).map ivs).length),CallV prog G (.func (.yield y) #[] #[]) ((nxt x at_).map ivs)[i] (J i:: (A4 p1 x p2 at_)) (Ret fun v q=>(v= .bool true/\q=J (i+1):: (A4 p1 x p2 at_))\/(v= .bool false/\ ∃ A,Jf A/\q=A:: (A4 p1 x p2 at_)))):
 CallF prog G 293 [.func (.yield y) #[] #[],.pointer (some ⟨p1,0,none⟩),.pointer (some ⟨p2,0,none⟩)] (J 0:: (A4 p1 x p2 at_)) (Ret fun _ q=>q=J (nxt x at_).length:: (A4 p1 x p2 at_)\/ ∃ A,Jf A/\q=A:: (A4 p1 x p2 at_)):=by
 refine aB func293 ntmps293 rfl fun F o=> ?_;refine rn [4,0,7] ?_;refine xp 6 ?_ ?_<;>intro k
 . have d:nxt x at_= []:=by unfold nxt;rw [if_pos k]
   refine xx 1 ?_;refine Zq (J 0:: (A4 p1 x p2 at_)) func293 (Yy results293) ⟨_,rfl,.inl (by rw [d];rfl)⟩
 refine xx 6 ?_;refine xp 8 ?_ ?_<;>intro l
 . have d:nxt x at_= [x.a]:=by unfold nxt;rw [if_neg k,if_pos l]
   rw [d] at hy;have g:=hy 0 (by simp);refine rn [5,0] ?_;refine XO.cV (g) ?_;rintro _ _ (⟨rfl,rfl⟩|⟨rfl,A,e,rfl⟩) _ b<;>simp only [ca,na] at b<;>subst b
   . refine ox 1 ?_;refine Zq (J 1:: (A4 p1 x p2 at_)) func293 (Yy results293) ⟨_,rfl,.inl (by rw [d];rfl)⟩
   refine ox 1 ?_;refine Zq (A:: (A4 p1 x p2 at_)) func293 (Yy results293) ⟨_,rfl,.inr ⟨A,e,rfl⟩⟩
 refine xx 7 ?_;refine xp 14 ?_ ?_<;>intro j
 . refine rn [7,0] ?_;have j:x.c=20\/x.c=21:= .inl j;rcases eB (x.a=at_+1) with f|f
   focus
    have d:nxt x at_= [x.a]:=by unfold nxt;rw [if_neg k,if_neg l,if_pos j,if_pos f]
    rw [d] at hy;have g:=hy 0 (by simp);refine XO.cV (g) ?_;rintro _ _ (⟨rfl,rfl⟩|⟨rfl,A,e,rfl⟩) _ b<;>simp only [ca,na] at b<;>subst b
    . refine rn [2,1022,1,0,0,4] ?_;refine jC 28 ?_ rfl (by rw [eI];exact f);refine xx 1 ?_;refine Zq (J 1:: (A4 p1 x p2 at_)) func293 (Yy results293) ⟨_,rfl,.inl (by rw [d];rfl)⟩
   rotate_left
   focus
    have d:nxt x at_= [x.a,at_+1]:=by unfold nxt;rw [if_neg k,if_neg l,if_pos j,if_neg f]
    rw [d] at hy;have g:=hy 0 (by simp);have m:=hy 1 (by simp);refine XO.cV (g) ?_;rintro _ _ (⟨rfl,rfl⟩|⟨rfl,A,e,rfl⟩) _ b<;>simp only [ca,na] at b<;>subst b
    . refine rn [2,1022,1,0,0,4] ?_;refine gG 28 ?_ rfl (by rw [cZ];exact f);refine rn [5,0,1] ?_;refine XO.cV (m) ?_;rintro _ _ (⟨rfl,rfl⟩|⟨rfl,A,e,rfl⟩) _ b<;>simp only [ca,na] at b<;>subst b
      . refine ox 1 ?_;refine Zr (J 2:: (A4 p1 x p2 at_)) func293 (Yy results293) ⟨_,rfl,.inl (by rw [d];rfl)⟩
      refine ox 1 ?_;refine Zr (A:: (A4 p1 x p2 at_)) func293 (Yy results293) ⟨_,rfl,.inr ⟨A,e,rfl⟩⟩
   all_goals
    refine rn [2,2022,8] ?_;refine Zq (A:: (A4 p1 x p2 at_)) func293 (Yy results293) ⟨_,rfl,.inr ⟨A,e,rfl⟩⟩
 refine xx 5 ?_;refine xp 14 ?_ ?_<;>intro n
 . have j:x.c=20\/x.c=21:= .inr n;rcases eB (x.a=at_+1) with f|f
   focus
    have d:nxt x at_= [x.a]:=by unfold nxt;rw [if_neg k,if_neg l,if_pos j,if_pos f]
    rw [d] at hy;have g:=hy 0 (by simp);refine rn [5,0] ?_;refine XO.cV (g) ?_;rintro _ _ (⟨rfl,rfl⟩|⟨rfl,A,e,rfl⟩) _ b<;>simp only [ca,na] at b<;>subst b
    . refine rn [2,1022,1,0,0,4] ?_;refine jC 28 ?_ rfl (by rw [eI];exact f);refine xx 1 ?_;refine Zq (J 1:: (A4 p1 x p2 at_)) func293 (Yy results293) ⟨_,rfl,.inl (by rw [d];rfl)⟩
   rotate_left
   focus
    have d:nxt x at_= [x.a,at_+1]:=by unfold nxt;rw [if_neg k,if_neg l,if_pos j,if_neg f]
    rw [d] at hy;have g:=hy 0 (by simp);have m:=hy 1 (by simp);refine rn [5,0] ?_;refine XO.cV (g) ?_;rintro _ _ (⟨rfl,rfl⟩|⟨rfl,A,e,rfl⟩) _ b<;>simp only [ca,na] at b<;>subst b
    . refine rn [2,1022,1,0,0,4] ?_;refine gG 28 ?_ rfl (by rw [cZ];exact f);refine rn [5,0,1] ?_;refine XO.cV (m) ?_;rintro _ _ (⟨rfl,rfl⟩|⟨rfl,A,e,rfl⟩) _ b<;>simp only [ca,na] at b<;>subst b
      . refine ox 1 ?_;refine Zr (J 2:: (A4 p1 x p2 at_)) func293 (Yy results293) ⟨_,rfl,.inl (by rw [d];rfl)⟩
      refine ox 1 ?_;refine Zr (A:: (A4 p1 x p2 at_)) func293 (Yy results293) ⟨_,rfl,.inr ⟨A,e,rfl⟩⟩
   all_goals
    refine rn [2,2022,8] ?_;refine Zq (A:: (A4 p1 x p2 at_)) func293 (Yy results293) ⟨_,rfl,.inr ⟨A,e,rfl⟩⟩
 have d:nxt x at_= [at_+1]:=by unfold nxt;rw [if_neg k,if_neg l,if_neg (by omega)]
 rw [d] at hy;have g:=hy 0 (by simp);refine rn [5,0,1] ?_;refine XO.cV (g) ?_;rintro _ _ (⟨rfl,rfl⟩|⟨rfl,A,e,rfl⟩) _ b<;>simp only [ca,na] at b<;>subst b
 . refine ox 1 ?_;refine Zr (J 1:: (A4 p1 x p2 at_)) func293 (Yy results293) ⟨_,rfl,.inl (by rw [d];rfl)⟩
 refine ox 1 ?_;refine Zr (A:: (A4 p1 x p2 at_)) func293 (Yy results293) ⟨_,rfl,.inr ⟨A,e,rfl⟩⟩
theorem Fj (hat:0<=at_/\at_<=1000000000000):Iter prog G (.func (.func 293) [].toArray (A8 p1 p2).toArray) ((nxt x at_).map ivs) (A4 p1 x p2 at_):=by
 intro y J a b;rw [aI];exact Jy call293 (Zjd (G:=G) (p1:=p1) (p2:=p2) (J:=J) (Jf:=a) hat b)
abbrev B9 (v0:Ins):=((.cells (Y8 v0).toArray 222 (0,0)):Obj)
theorem L8:CallF prog G 255 [.agg (Y8 x).toArray,I64 at_] ([]) (Ret fun v q'=> ∃ p1 p2,v= .func (.func 293) [].toArray (A8 p1 p2).toArray/\q'= [pto p1 (B9 x),pto p2 (AK at_)]):=by
 refine aB func255 ntmps255 rfl fun F c=> ?_;refine xo 2 ?_;refine Zl fun b=> ?_
 refine Zl fun a=> ?_
 refine ox 7 ?_;refine Zq [pto b (B9 x),pto a (AK at_)] func255 (Zf results255 rfl) ⟨_,rfl,b,a,rfl,rfl⟩
end
def Ux (m:Mdl)(t:Cod)(c:Int):Option Int:=
 if c=2\/c=5 then some m.vars.length else if c=3\/c=6 then some t.locals else if c=4\/c=7 then some m.arrays.length else if c=19\/c=20\/c=21 then some t.ins.length
 else if c=24\/c=25 then some m.mutexes else if c=26\/c=27\/c=28 then some m.conds else if c=29\/c=30 then some m.chans.length else if c=31 then some m.threads.length else none
def Tv (m:Mdl)(t:Cod)(i:Ins):Prop:=(∀ n,Ux m t i.c=some n->i.a<n)/\(i.c=26->i.b<m.mutexes)
instance (m:Mdl) (t:Cod) (i:Ins):Decidable (Tv m t i):=by
 unfold Tv
 have:Decidable (∀ n,Ux m t i.c=some n->i.a<n):=match Ux m t i.c with
  |none=> .isTrue (fun n h=>by cases h)
  |some k=>if h:i.a<k then .isTrue (fun n e=>by cases e;exact h) else .isFalse (fun e=>h (e k rfl))
 infer_instance
def cntL:List (Int×Value×Nat):= [(2,.func (.func 315) #[] #[],0),(5,.func (.func 315) #[] #[],1),(3,.func (.func 316) #[] #[],2),(6,.func (.func 316) #[] #[],3),(4,.func (.func 317) #[] #[],4),(7,.func (.func 317) #[] #[],5),(19,.func (.func 318) #[] #[],6),(20,.func (.func 318) #[] #[],7),(21,.func (.func 318) #[] #[],8),(24,.func (.func 319) #[] #[],9),(25,.func (.func 319) #[] #[],10),(26,.func (.func 320) #[] #[],11),(27,.func (.func 320) #[] #[],12),(28,.func (.func 320) #[] #[],13),(29,.func (.func 321) #[] #[],14),(30,.func (.func 321) #[] #[],15),(31,.func (.func 322) #[] #[],16)]
def Mu (e:Int×Value×Nat):MapEntry:= { key:= I64 e.1,val:=e.2.1,born:=e.2.2 }
theorem cnt_none {t:Cod}{c:Int}(h: ∀ e∈cntL,e.1≠c):Ux m t c=none:=by
 simp only [cntL,bG,forall_eq_or_imp,iH,false_imp_iff,implies_true,and_true] at h;unfold Ux;(repeat' split)<;>first|rfl|omega
section
variable {n:Int}{t:Cod}
abbrev A5 (v0:Nat)(v1:Nat)(v2:Nat)(v3:Nat):=([.pointer (some ⟨v0,v1,none⟩),.pointer (some ⟨v2,v3,none⟩)]:List Value)
theorem Zvi (hm:CellsAt q pm om (J7 m))(ht:CellsAt q pth ot (Vn t)):CallF prog G 315 (A5 pm om pth ot) (q) (Ret fun v q'=>v= I64 m.vars.length/\q'=q):=by
 refine aB func315 ntmps315 rfl fun F a=> ?_;refine xo 9 ?_;refine ld ?_ (hc:=((hm 0 _ rfl).le leA));refine ox 3 ?_;refine Zq (q) func315 (Zf results315 rfl) ⟨_,rfl,rfl,rfl⟩
theorem Zvr (hm:CellsAt q pm om (J7 m))(ht:CellsAt q pth ot (Vn t)):CallF prog G 316 (A5 pm om pth ot) (q) (Ret fun v q'=>v= I64 t.locals/\q'=q):=by
 refine aB func316 ntmps316 rfl fun F a=> ?_;refine xo 9 ?_;refine ld ?_ (hc:=((ht 1 _ rfl).le leA));refine ox 2 ?_;refine Zq (q) func316 (Zf results316 rfl) ⟨_,rfl,rfl,rfl⟩
theorem Zvt (hm:CellsAt q pm om (J7 m))(ht:CellsAt q pth ot (Vn t)):CallF prog G 317 (A5 pm om pth ot) (q) (Ret fun v q'=>v= I64 m.arrays.length/\q'=q):=by
 refine aB func317 ntmps317 rfl fun F a=> ?_;refine xo 9 ?_;refine ld ?_ (hc:=((hm 1 _ rfl).le leA));refine ox 3 ?_;refine Zq (q) func317 (Zf results317 rfl) ⟨_,rfl,rfl,rfl⟩
theorem cnt4_ok (hm:CellsAt q pm om (J7 m))(ht:CellsAt q pth ot (Vn t)):CallF prog G 318 (A5 pm om pth ot) (q) (Ret fun v q'=>v= I64 t.ins.length/\q'=q):=by
 refine aB func318 ntmps318 rfl fun F a=> ?_;refine xo 9 ?_;refine ld ?_ (hc:=((ht 2 _ rfl).le leA));refine ox 3 ?_;refine Zq (q) func318 (Zf results318 rfl) ⟨_,rfl,rfl,rfl⟩
theorem Zvc (hm:CellsAt q pm om (J7 m))(ht:CellsAt q pth ot (Vn t)):CallF prog G 319 (A5 pm om pth ot) (q) (Ret fun v q'=>v= I64 m.mutexes/\q'=q):=by
 refine aB func319 ntmps319 rfl fun F a=> ?_;refine xo 9 ?_;refine ld ?_ (hc:=((hm 3 _ rfl).le leA));refine ox 2 ?_;refine Zq (q) func319 (Zf results319 rfl) ⟨_,rfl,rfl,rfl⟩
theorem Ii (hm:CellsAt q pm om (J7 m))(ht:CellsAt q pth ot (Vn t)):CallF prog G 320 (A5 pm om pth ot) (q) (Ret fun v q'=>v= I64 m.conds/\q'=q):=by
 refine aB func320 ntmps320 rfl fun F a=> ?_;refine xo 9 ?_;refine ld ?_ (hc:=((hm 4 _ rfl).le leA));refine ox 2 ?_;refine Zq (q) func320 (Zf results320 rfl) ⟨_,rfl,rfl,rfl⟩
theorem Zvd (hm:CellsAt q pm om (J7 m))(ht:CellsAt q pth ot (Vn t)):CallF prog G 321 (A5 pm om pth ot) (q) (Ret fun v q'=>v= I64 m.chans.length/\q'=q):=by
 refine aB func321 ntmps321 rfl fun F a=> ?_;refine xo 9 ?_;refine ld ?_ (hc:=((hm 2 _ rfl).le leA));refine ox 3 ?_;refine Zq (q) func321 (Zf results321 rfl) ⟨_,rfl,rfl,rfl⟩
theorem cnt8_ok (hm:CellsAt q pm om (J7 m))(ht:CellsAt q pth ot (Vn t)):CallF prog G 322 (A5 pm om pth ot) (q) (Ret fun v q'=>v= I64 m.threads.length/\q'=q):=by
 refine aB func322 ntmps322 rfl fun F a=> ?_;refine xo 9 ?_;refine ld ?_ (hc:=((hm 5 _ rfl).le leA));refine ox 3 ?_;refine Zq (q) func322 (Zf results322 rfl) ⟨_,rfl,rfl,rfl⟩
theorem Zvu (h:e∈cntL): ∃ (f:Nat) (n:Int),e.2.1= .func (.func f) #[] #[]/\Ux m t e.1=some n/\(CellsAt q pm om (J7 m)->CellsAt q pth ot (Vn t)->CallV prog G (.func (.func f) #[] #[]) (A5 pm om pth ot) q (Ret fun v q'=>v= I64 n/\q'=q)):=by
 simp only [cntL,bG,iH,or_false] at h;rcases h with rfl|rfl|rfl|rfl|rfl|rfl|rfl|rfl|rfl|rfl|rfl|rfl|rfl|rfl|rfl|rfl|rfl
 . exact ⟨315,(m.vars.length:Int),rfl,by simp [Ux],fun b a=>Ze call315 (Zvi b a)⟩
 . exact ⟨315,(m.vars.length:Int),rfl,by simp [Ux],fun b a=>Ze call315 (Zvi b a)⟩
 . exact ⟨316,t.locals,rfl,by simp [Ux],fun b a=>Ze call316 (Zvr b a)⟩
 . exact ⟨316,t.locals,rfl,by simp [Ux],fun b a=>Ze call316 (Zvr b a)⟩
 . exact ⟨317,(m.arrays.length:Int),rfl,by simp [Ux],fun b a=>Ze call317 (Zvt b a)⟩
 . exact ⟨317,(m.arrays.length:Int),rfl,by simp [Ux],fun b a=>Ze call317 (Zvt b a)⟩
 rotate_left
 rotate_left
 rotate_left
 . exact ⟨319,m.mutexes,rfl,by simp [Ux],fun b a=>Ze call319 (Zvc b a)⟩
 . exact ⟨319,m.mutexes,rfl,by simp [Ux],fun b a=>Ze call319 (Zvc b a)⟩
 . exact ⟨320,m.conds,rfl,by simp [Ux],fun b a=>Ze call320 (Ii b a)⟩
 . exact ⟨320,m.conds,rfl,by simp [Ux],fun b a=>Ze call320 (Ii b a)⟩
 . exact ⟨320,m.conds,rfl,by simp [Ux],fun b a=>Ze call320 (Ii b a)⟩
 . exact ⟨321,(m.chans.length:Int),rfl,by simp [Ux],fun b a=>Ze call321 (Zvd b a)⟩
 . exact ⟨321,(m.chans.length:Int),rfl,by simp [Ux],fun b a=>Ze call321 (Zvd b a)⟩
 . exact ⟨322,(m.threads.length:Int),rfl,by simp [Ux],fun b a=>Ze call322 (cnt8_ok b a)⟩
 all_goals
  exact ⟨318,(t.ins.length:Int),rfl,by simp [Ux],fun b a=>Ze call318 (cnt4_ok b a)⟩
theorem Zx1:CallF prog G 291 [] ([]) (Ret fun v q'=> ∃ n,v= .map (some n)/\q'= [pto n (.map (cntL.map Mu).toArray 17)]):=by
 refine aB func291 ntmps291 rfl fun F b=> ?_;refine xo 38 ?_;refine bU (kS) ?_;rintro _ _ ⟨a,rfl,rfl⟩;refine oo 1 ?_;refine dM (dD (es:= []) underlying460 underlying220 rfl rfl rfl Zj (by rfl)) ?_;rintro _ _ ⟨rfl,rfl⟩;refine oo 1 ?_;refine dM (dD (es:=((cntL.take 1).map Mu)) underlying460 underlying220 rfl rfl rfl Zj (by rfl)) ?_;rintro _ _ ⟨rfl,rfl⟩;refine oo 1 ?_;refine dM (dD (es:=((cntL.take 2).map Mu)) underlying460 underlying220 rfl rfl rfl Zj (by rfl)) ?_;rintro _ _ ⟨rfl,rfl⟩;refine oo 1 ?_;refine dM (dD (es:=((cntL.take 3).map Mu)) underlying460 underlying220 rfl rfl rfl Zj (by rfl)) ?_;rintro _ _ ⟨rfl,rfl⟩;refine oo 1 ?_;refine dM (dD (es:=((cntL.take 4).map Mu)) underlying460 underlying220 rfl rfl rfl Zj (by rfl)) ?_;rintro _ _ ⟨rfl,rfl⟩;refine oo 1 ?_;refine dM (dD (es:=((cntL.take 5).map Mu)) underlying460 underlying220 rfl rfl rfl Zj (by rfl)) ?_;rintro _ _ ⟨rfl,rfl⟩;refine oo 1 ?_;refine dM (dD (es:=((cntL.take 6).map Mu)) underlying460 underlying220 rfl rfl rfl Zj (by rfl)) ?_;rintro _ _ ⟨rfl,rfl⟩;refine oo 1 ?_;refine dM (dD (es:=((cntL.take 7).map Mu)) underlying460 underlying220 rfl rfl rfl Zj (by rfl)) ?_;rintro _ _ ⟨rfl,rfl⟩;refine oo 1 ?_;refine dM (dD (es:=((cntL.take 8).map Mu)) underlying460 underlying220 rfl rfl rfl Zj (by rfl)) ?_;rintro _ _ ⟨rfl,rfl⟩;refine oo 1 ?_;refine dM (dD (es:=((cntL.take 9).map Mu)) underlying460 underlying220 rfl rfl rfl Zj (by rfl)) ?_;rintro _ _ ⟨rfl,rfl⟩;refine oo 1 ?_;refine dM (dD (es:=((cntL.take 10).map Mu)) underlying460 underlying220 rfl rfl rfl Zj (by rfl)) ?_;rintro _ _ ⟨rfl,rfl⟩;refine oo 1 ?_;refine dM (dD (es:=((cntL.take 11).map Mu)) underlying460 underlying220 rfl rfl rfl Zj (by rfl)) ?_;rintro _ _ ⟨rfl,rfl⟩;refine oo 1 ?_;refine dM (dD (es:=((cntL.take 12).map Mu)) underlying460 underlying220 rfl rfl rfl Zj (by rfl)) ?_;rintro _ _ ⟨rfl,rfl⟩;refine oo 1 ?_;refine dM (dD (es:=((cntL.take 13).map Mu)) underlying460 underlying220 rfl rfl rfl Zj (by rfl)) ?_;rintro _ _ ⟨rfl,rfl⟩;refine oo 1 ?_;refine dM (dD (es:=((cntL.take 14).map Mu)) underlying460 underlying220 rfl rfl rfl Zj (by rfl)) ?_;rintro _ _ ⟨rfl,rfl⟩;refine oo 1 ?_;refine dM (dD (es:=((cntL.take 15).map Mu)) underlying460 underlying220 rfl rfl rfl Zj (by rfl)) ?_;rintro _ _ ⟨rfl,rfl⟩;refine oo 1 ?_;refine dM (dD (es:=((cntL.take 16).map Mu)) underlying460 underlying220 rfl rfl rfl Zj (by rfl)) ?_;rintro _ _ ⟨rfl,rfl⟩;refine ox 3 ?_;refine Zq [pto a (.map (cntL.map Mu).toArray 17)] func291 (Zf results291 rfl) ⟨_,rfl,a,rfl,rfl⟩
theorem cnt_call {f:Nat}{n:Int}(h:e∈cntL)(h1:e.2.1= .func (.func f) #[] #[])(h2:Ux m t e.1=some n)(h3:CellsAt q pm om (J7 m))(h4:CellsAt q pth ot (Vn t)):CallV prog G (.func (.func f) #[] #[]) (A5 pm om pth ot) q (Ret fun v q'=>v= I64 n/\q'=q):=by
 obtain ⟨i,g,c,a,b⟩:=Zvu (G:=G) (q:=q) (m:=m) (t:=t) (pm:=pm) (om:=om) (pth:=pth) (ot:=ot) h;rw [h2] at a;obtain rfl:=dT a;have d:=h1.symm.trans c
 cases d;exact b h3 h4
theorem Xm (hm:CellsAt q pm om (J7 m))(ht:CellsAt q pth ot (Vn t))(hq:CodQ q t):CallF prog G 251 [.pointer (some ⟨pm,om,none⟩),.pointer (some ⟨pth,ot,none⟩)] (q) (Ret fun v q'=>v= .bool (decide (∀ x∈t.ins,Tv m t x))/\q'=q):=by
 refine aB func251 ntmps251 rfl fun F cs=> ?_;have hs:=hq.i;have d0:=hq.ni;have p:=Zx (f:=Y8) (sz:=4) (fun _=>rfl) t.ins;refine xo 6 ?_;refine Vg call291 (Zx1) ?_;refine kd1 fun nm=> ?_
 refine oo 8 ?_;refine ld ?_ (hc:=((ht 2 _ rfl).le leA));refine ox 4 ?_;refine aX (cC (fun (s:Nat×Option Addr)=>s.1<=t.ins.length/\s.2=t.ia/\ ∀ i (h:i<t.ins.length),i<s.1->Tv m t t.ins[i]) (fun s=> [(15,I64 (s.1:Int)),(13,.slice s.2 t.ins.length t.ic),(14,I64 t.ins.length),(0,.pointer (some ⟨pm,om,none⟩)),(1,.pointer (some ⟨pth,ot,none⟩)),(5,.map (some nm))]) (fun s=>pto nm (.map (cntL.map Mu).toArray 17)::(q++F)) (fun s=>t.ins.length - s.1) (fun s r ih=> ?_) (0,t.ia) ⟨by dsimp only;omega,rfl,fun i _ k=>by dsimp only at k;omega⟩) Zn leA;try dsimp only at r ih|-
 obtain ⟨e0,b0,u⟩:=r;obtain ⟨s,ia⟩:=s;dsimp only at*;refine xx 5 ?_;refine xp 16 ?_ ?_<;>intro h0
 . have b:s<t.ins.length:=(by omega);refine Z7 hs (by rw [p];omega) fun b1 o1 eA=> ?_;have o:=hs;rw [eA] at o;obtain rfl:ia=some ⟨b1,o1,none⟩:=b0.trans eA;refine xo 7 ?_;refine Qi (n:=s) isAgg222 sizeOf222 o b ?_;refine Zh zeroValue222 fun n1=> ?_
   refine rn [0,6,0] ?_;obtain ⟨aF,hF,hA⟩:=E9 (kd:= .i64) (c:=t.ins[s].c) cntL 0;refine XO.rd (Rd.lookup (es:=cntL.map Mu) (clock:=17) underlying460 underlying220 rfl rfl Zj zeroValue462 hF) ?_;rcases hA with ⟨rfl,a0⟩|⟨jF,eF,rfl,g,y⟩
   focus
    have c0:=cnt_none (m:=m) (t:=t) a0;refine aW 22 (.nilFunc) rfl (rfl) ?_;refine rn [3,0,1] ?_;refine Fv 1 rfl (Zqd rfl underlying462) ?_;refine rn [3,4,5,6,7,8,9,10,11,0,3,0,1,2,3,4] ?_;refine eY 37 rfl ?_ ?_<;>intro h1
    focus
     replace h1:=sp h1;refine rn [5,6,7,8,9] ?_;refine ldD 9 ?_ (hc:=((hm 3 _ rfl).le leA));refine rn [11,12,0] ?_;refine xp 45 ?_ ?_<;>intro z
     . refine xx 5 ?_;refine Zq (q) func251 (Zf results251 rfl) ⟨_,rfl,cB (by symm;rw [cM];intro j;have d:=j _ (aC b);first|(have:=d.2 (by omega);omega)|(have:=d.1 _ a;omega)),rfl⟩
    rotate_left
    focus
     replace h1:=sp h1;refine rn [5,6,7,8,9,10,11,12,0] ?_
    all_goals
     refine xx 7 ?_;have l:Tv m t t.ins[s]:=⟨(fun n e=>by rw [c0] at e;cases e),fun e=>by omega⟩
   rotate_left 2
   focus
    obtain ⟨fF,nF,w,a,f0⟩:=Zvu (G:=G) (m:=m) (t:=t) (q:=q) (pm:=pm) (om:=om) (pth:=pth) (ot:=ot) g;rw [y] at a;refine aW 22 (.func (.func fF) #[] #[]) rfl (by exact w) ?_;refine rn [3,0,1] ?_;refine Fv 1 rfl (Zj2 rfl underlying462) ?_;refine rn [3,4,5,6,7,8] ?_;refine C8 8 ((cnt_call g w (y ▸ a)) (hm.le leA) (ht.le leA)) ?_;refine rn [10,11,0] ?_;refine xp 33 ?_ ?_<;>intro h1
    . refine xx 5 ?_;refine Zq (q) func251 (Zf results251 rfl) ⟨_,rfl,cB (by symm;rw [cM];intro j;have d:=j _ (aC b);first|(have:=d.2 (by omega);omega)|(have:=d.1 _ a;omega)),rfl⟩
    refine rn [3,0,1,2,3,4] ?_;refine eY 37 rfl ?_ ?_<;>intro z
    focus
     replace z:=sp z;refine rn [5,6,7,8,9] ?_;refine ldD 9 ?_ (hc:=((hm 3 _ rfl).le leA));refine rn [11,12,0] ?_;refine xp 45 ?_ ?_<;>intro h3
     . refine xx 5 ?_;refine Zq (q) func251 (Zf results251 rfl) ⟨_,rfl,cB (by symm;rw [cM];intro j;have d:=j _ (aC b);first|(have:=d.2 (by omega);omega)|(have:=d.1 _ a;omega)),rfl⟩
    rotate_left
    focus
     replace z:=sp z;refine rn [5,6,7,8,9,10,11,12,0] ?_
    all_goals
     refine xx 7 ?_;have l:Tv m t t.ins[s]:=⟨(fun n e=>by rw [a] at e;cases e;omega),fun e=>by omega⟩
   all_goals
    refine aX (ih (s+1,some ⟨b1,o1,none⟩) ⟨by dsimp only;omega,eA.symm,fun i hh k=>by rcases dJ i s with e|e;exact u i hh e;obtain rfl:i=s:=(by dsimp only at k;omega);exact l⟩ (by dsimp only;omega)) Zn leA
 refine xx 6 ?_;refine Zq (q) func251 (Zf results251 rfl) ⟨_,rfl,cB (by symm;rw [decide_eq_true_iff];intro x hx;obtain ⟨k,hk,rfl⟩:=fH hx;exact u k hk (by omega)),rfl⟩
end
section
variable {n:Int}{t:Cod}
variable {n:Nat}
theorem effS_le (c:Int):(Wj c).1<=2/\(Wj c).2<=1:=by
 unfold Wj;(repeat' split)<;>decide
def Hf (t:Cod):List Pm:=t.ins.map Ins.t
theorem Hr {t:Cod}(h:n<t.ins.length):(Hf t).getD n zI=(t.ins[n]).t:=by
 unfold Hf;rw [aG,bJ,aE h];rfl
theorem Ku (t:Cod):(Hf t).length=t.ins.length:=by simp [Hf]
abbrev AH (v0:Int):=((.cells [I64 v0].toArray 3 (0,0)):Obj)
abbrev B3 :=((.cells [I64 (0)].toArray 3 (0,0)):Obj)
abbrev AP (v0:Nat)(v1:Nat):=((.cells [.pointer (some ⟨v0,v1,none⟩)].toArray 356 (0,0)):Obj)
theorem look_ok (g:GE q)(ht:CellsAt q pth ot (Vn t))(hq:CodQ q t)(hc: ∀ x∈t.ins,1<=x.c/\x.c<=34)(hL:t.ins.length<=65536)(hn:n<t.ins.length)(hd:0<=dep/\dep<=1000000):CallF prog G 254 [.pointer (some ⟨pth,ot,none⟩),I64 n,I64 dep] (q) (Ret fun v q'=>v= .tuple [I64 (Qj (Hf t) n dep).1,I64 (Qj (Hf t) n dep).2].toArray/\q'=q):=by
 refine aB func254 ntmps254 rfl fun F cs=> ?_;have hs:=hq.i;have o:=Zx (f:=Y8) (sz:=4) (fun _=>rfl) t.ins;have g0:=hc _ (aC hn);have e0:=Ip t.ins[n].c;have hk:t.ins[n].c.toNat<effL.length:=by show _<35;omega
 have c0:effL[t.ins[n].c.toNat]=Wj t.ins[n].c:=by
  have e:=effL_at ⟨t.ins[n].c.toNat,hk⟩ (by show 1<=t.ins[n].c.toNat;omega);have z:((t.ins[n].c.toNat:Nat):Int)=t.ins[n].c:=by omega
  dsimp only at e;rw [z] at e;exact e
 have f0:(Wj t.ins[n].c).1<=2/\(Wj t.ins[n].c).2<=1:=effS_le _;refine xo 2 ?_;refine Zl fun n1=> ?_
 refine Zh zeroValue3 fun n2=> ?_
 refine Zh zeroValue34 fun n3=> ?_
 refine rn [3,0,2] ?_;refine ld ?_ (hc:=((ht 2 _ rfl).le leA));refine oo 1 ?_;refine Ql hs (by rw [o];omega) fun b1 o1 z=> ?_;have m:=hs;rw [z] at m;refine aW 15 (.slice (some ⟨b1,o1,none⟩) t.ins.length t.ic) rfl (by rw [z]) ?_;refine oo 1 ?_;refine Qi (n:=n) isAgg222 sizeOf222 m hn ?_;refine Zh zeroValue222 fun n4=> ?_
 refine rn [0,4,0] ?_;refine Vl (H9 rfl rfl underlying469 sizeOf468 (by omega) (by omega)) ?_;refine Qi (n:=t.ins[n].c.toNat) isAgg468 sizeOf468 g hk ?_;refine aW 22 (.agg (efC (Wj t.ins[n].c)).toArray) rfl (by rw [c0]) ?_;refine Zh zeroValue468 fun n5=> ?_
 refine rn [0,5,0,2,0,8,0,2] ?_;refine bB [34,10,8,7,6,3,1,2] ?_;apply Zb 3 37 34 rfl
 . intro s M1;have h1:=sp s;refine oo 3 ?_;exact Zz M1 ⟨orF s,Zw⟩
 . intro s M1;have h1:=sp s;refine oo 3 ?_;exact Zz M1 ⟨orT s,Zw⟩
 refine ox 1 ?_;refine xp 37 ?_ ?_<;>intro h1
 . refine rn [3,0,0,1] ?_;have l:Qj (Hf t) n dep=(0,173):=by unfold Qj;rw [Hr hn];dsimp only [Ins.t];rw [if_pos (by omega)]
   refine Zq (q) func254 (Bl results254 (dN rfl (gO isAgg3 clA) (dN rfl (gO isAgg34 clA) eT))) ⟨_,rfl,by rw [l],rfl⟩
 refine rn [6,0,2] ?_;refine bB [41,10,8,7,6,3,1,2] ?_;apply Zb 4 45 41 rfl
 . intro a d;have w:=sp a;refine rn [1,0,2] ?_;exact Zz d ⟨orF a,Zw⟩
 . intro a d;have w:=sp a;refine oo 4 ?_;exact Zz d ⟨orT a,Zw⟩
 refine oo 1 ?_;refine bB [46,10,8,7,6,3,1,2] ?_;apply Zg 3 49 46 rfl
 . intro a d;have w:=sp a;refine oo 3 ?_;exact Zz d ⟨Yi a,Zw⟩
 . intro a d;have w:=sp a;refine oo 3 ?_;exact Zz d ⟨Yl a,Zw⟩
 refine ox 1 ?_;refine xp 49 ?_ ?_<;>intro w
 . refine rn [3,0,0,1] ?_;have l:Qj (Hf t) n dep=(0,175):=by unfold Qj;rw [Hr hn];dsimp only [Ins.t];rw [if_neg (by omega),if_pos (by omega)]
   refine Zq (q) func254 (Bl results254 (dN rfl (gO isAgg3 clA) (dN rfl (gO isAgg34 clA) eT))) ⟨_,rfl,by rw [l],rfl⟩
 refine rn [5,0,1] ?_;refine Vg call255 (L8) ?_;refine kd2 fun p1 p2=> ?_
 refine ox 2 ?_;refine cS (q':=pto p1 (.cells (Y8 t.ins[n]).toArray 222 (0,0))::_) Zj (fX ?_);refine cS (q':=pto p2 (AH n)::_) Zj (fX ?_);refine X.range [im p1 (.cells (Y8 t.ins[n]).toArray 222 (0,0)),im p2 (AH n)] (fun k=>Wx.pure (∀ j (h:j<(nxt t.ins[n] (n:Int)).length),j<k->(nxt t.ins[n] (n:Int))[j]<t.ins.length)::pto n1 (AP pth ot)::pto n2 B3::pto n3 (.cells [I64 (0)].toArray 34 (0,0))::pto n4 (.cells (Y8 t.ins[n]).toArray 222 (0,0))::pto n5 (.cells (efC (Wj t.ins[n].c)).toArray 468 (0,0))::q) (fun e qs=>e= .ret/\qs=Wx.pure (∃ x∈nxt t.ins[n] (n:Int),(t.ins.length:Int)<=x)::pto n1 (AP pth ot)::pto n2 B3::pto n3 (.cells [I64 (172)].toArray 34 (0,0))::pto n4 (.cells (Y8 t.ins[n]).toArray 222 (0,0))::pto n5 (.cells (efC (Wj t.ins[n].c)).toArray 468 (0,0))::q) (F:=F) (Fj (x:=t.ins[n]) ⟨by omega,by omega⟩) rfl ?_ (by intro x u;obtain ⟨y,_,rfl⟩:=bS.1 u;rfl) rfl (by rw [func254];rfl) rfl (fun i hi l2 rec F0 h0=> ?_) (fun r=> ?_) fun r c2 d0 hJ=> ?_
 . refine aM (b:= [im p1 (.cells (Y8 t.ins[n]).toArray 222 (0,0)),im p2 (AH n)]++((Wx.pure (∀ j (h:j<(nxt t.ins[n] (n:Int)).length),j<0->(nxt t.ins[n] (n:Int))[j]<t.ins.length)::pto n1 (AP pth ot)::pto n2 B3::pto n3 (.cells [I64 (0)].toArray 34 (0,0))::pto n4 (.cells (Y8 t.ins[n]).toArray 222 (0,0))::pto n5 (.cells (efC (Wj t.ins[n].c)).toArray 468 (0,0))::q)++F)) ?_ (K8 _ _ _);simp only [ca,na];refine bD Zj (bD Zj (aM ?_ (Yc (fun j h k=>aV k (jT j)) _)));exact leB
 . have b0:i<(nxt t.ins[n] (n:Int)).length:=by simpa using hi
   rw [iG];simp only [Gq,ivs];simp only [ca,na];refine cS (q':=Wx.pure (∀ j (h:j<(nxt t.ins[n] (n:Int)).length),j<i->(nxt t.ins[n] (n:Int))[j]<t.ins.length)::_) Zj (X.pure (fun p=> ?_));refine xx 3 ?_;refine fM rfl leA ?_;refine rn [4,0,2] ?_;refine ld ?_ (hc:=((ht 2 _ rfl).le leA));refine ox 3 ?_;refine xp 60 ?_ ?_<;>intro k1
   . refine rn [3,0,0,1] ?_;refine jA ⟨rfl,rfl,_,⟨rfl,rfl⟩,?_⟩;simp only [ca,na];refine bD Zj (aM ?_ (Yc (show ∃ x∈nxt t.ins[n] (n:Int),(t.ins.length:Int)<=x from ⟨_,aC b0,by omega⟩) _));exact leA
   refine xx 3 ?_;refine gC ⟨rfl,rfl,?_⟩;simp only [ca,na];refine bD Zj (aM ?_ (Yc (show (∀ j (h:j<(nxt t.ins[n] (n:Int)).length),j<i+1->(nxt t.ins[n] (n:Int))[j]<t.ins.length) from fun j h k=>by rcases dJ j i with e|e;exact p j h e;obtain rfl:j=i:=(by omega);omega) _));exact leA
 focus
  simp only [ca,na];rw [aI];refine cS (q':=Wx.pure (∀ j (h:j<(nxt t.ins[n] (n:Int)).length),j<(nxt t.ins[n] (n:Int)).length->(nxt t.ins[n] (n:Int))[j]<t.ins.length)::_) Zj (X.pure (fun p=> ?_));refine rn [4,0,0,1] ?_
  have l:Qj (Hf t) n dep=(dep - (Wj t.ins[n].c).1+(Wj t.ins[n].c).2,0):=by
   have hF: ¬∃ x∈Rt t.ins[n].t n,((Hf t).length:Int)<=x:=by
    rintro ⟨x,u,a0⟩;rw [Ku] at a0;rw [<-Zzi] at u;obtain ⟨j,hj,rfl⟩:=fH u;have:=p j hj hj;omega
   unfold Qj;rw [Hr hn];dsimp only [Ins.t];rw [if_neg (by omega),if_neg (by omega)];exact if_neg hF
 rotate_left
 focus
  obtain ⟨rfl,rfl⟩:=hJ;simp only [ca,na];refine cS (q':=Wx.pure (∃ x∈nxt t.ins[n] (n:Int),(t.ins.length:Int)<=x)::_) Zj (X.pure (fun p=> ?_))
  have l:Qj (Hf t) n dep=(0,172):=by
   have hF: ∃ x∈Rt t.ins[n].t n,((Hf t).length:Int)<=x:=by rw [Ku,<-Zzi];exact p
   unfold Qj;rw [Hr hn];dsimp only [Ins.t];rw [if_neg (by omega),if_neg (by omega)];exact if_pos hF
 all_goals
  refine jA ⟨rfl,Ke ?_⟩;exact gE (q':=q) func254 (Bl results254 (dN rfl (gO isAgg3 clA) (dN rfl (gO isAgg34 clA) eT))) ⟨_,rfl,by rw [l],rfl⟩ leB
end
def par (k:Nat):Nat:=(k - 1) / 2
def hAt (l:List Int)(i:Nat):Int:=l.getD i 0
def sw (l:List Int)(i j:Nat):List Int:=(l.set i (hAt l j)).set j (hAt l i)
theorem D9 (l:List Int)(i j:Nat):(sw l i j).length=l.length:=by simp [sw]
theorem Js (h:i<l.length):hAt l i=l[i]:=by simp [hAt,List.getD,h]
theorem Eb (hi:i<l.length)(hj:j<l.length):hAt (sw l i j) k=if k=j then hAt l i else if k=i then hAt l j else hAt l k:=by
 unfold sw hAt;simp only [aG,List.getElem?_set,bK];by_cases h1:k=j
 . subst h1;simp [hj]
 have a: ¬j=k:=fun e=>h1 e.symm
 by_cases h2:k=i
 . subst h2;simp [h1,a,hi]
 have b: ¬i=k:=fun e=>h2 e.symm
 simp [h1,a,h2,b]
theorem Fo (hi:i<l.length)(hj:j<l.length):(sw l i j).Perm l:=by
 have h:=Array.swap_perm (xs:=l.toArray) (i:=i) (j:=j) (by simpa using hi) (by simpa using hj);have a:=h.toList;rw [Array.toList_swap] at a;unfold sw;rw [Js hi,Js hj];simpa using a
def HeapP (l:List Int)(n:Nat):Prop:= ∀ k,0<k->k<n->hAt l (par k)<=hAt l k
theorem HeapP.least (h:HeapP l n): ∀ k,k<n->hAt l 0<=hAt l k:=by
 intro k
 induction k using Nat.strongRecOn with
 |_ k ih=>
  intro b;rcases cW k with rfl|a
  . exact bL _
  have c:par k<k:=by unfold par;omega
  exact Int.le_trans (ih _ c (by omega)) (h k a b)
def HeapUp (l:List Int)(n j:Nat):Prop:=(∀ k,0<k->k<n->k≠j->hAt l (par k)<=hAt l k)/\ ∀ k,0<k->k<n->par k=j->0<j->hAt l (par j)<=hAt l k
theorem Zq3 (h:HeapP l n):HeapUp l (n+1) n:=
 ⟨fun k b c a=>h k b (by omega),fun k b c a d=>by unfold par at a;omega⟩
theorem HeapUp.done (h:HeapUp l n j)(hj:j=0\/hAt l (par j)<=hAt l j):HeapP l n:=fun k c b=>by
 by_cases e:k=j
 . subst e;rcases hj with a|a
   . omega
   exact a
 exact h.1 k c b e
theorem HeapUp.step (h:HeapUp l n j)(hn:n=l.length)(hj:j<n)(h0:0<j)(hlt:hAt l j<hAt l (par j)):HeapUp (sw l (par j) j) n (par j):=by
 have o:par j<j:=by unfold par;omega
 have e:=fun k=>Eb (l:=l) (i:=par j) (j:=j) (k:=k) (by omega) (by omega)
 refine ⟨fun k c b a=> ?_,fun k c b a f=> ?_⟩
 . rw [e,e];by_cases k1:k=j
   . subst k1;rw [if_neg (by omega),if_pos rfl,if_pos rfl];omega
   by_cases k2:par k=j
   . have:=h.2 k c b k2 h0;rw [if_pos k2,if_neg k1,if_neg a];exact this
   by_cases k3:par k=par j
   . have:=h.1 k c b k1;rw [if_neg k2,if_pos k3,if_neg k1,if_neg a];rw [k3] at this;omega
   have:=h.1 k c b k1;rw [if_neg k2,if_neg k3,if_neg k1,if_neg a];exact this
 have g:par (par j)<par j:=by unfold par at f|-;omega
 have d:=h.1 (par j) f (by omega) (by omega);rw [e,e,if_neg (show par (par j)≠j by omega),if_neg (show par (par j)≠par j by omega)];by_cases k1:k=j
 . subst k1;rw [if_pos rfl];exact d
 have m:k≠par j:=by rintro rfl;omega
 rw [if_neg k1,if_neg m];have:=h.1 k c b k1;rw [a] at this;omega
def HeapDn (l:List Int)(n i:Nat):Prop:=(∀ k,0<k->k<n->par k≠i->hAt l (par k)<=hAt l k)/\ ∀ k,0<k->k<n->par k=i->0<i->hAt l (par i)<=hAt l k
theorem HeapDn.done (h:HeapDn l n i)(hi: ∀ k,0<k->k<n->par k=i->hAt l i<=hAt l k):HeapP l n:=fun k b a=>by
 by_cases e:par k=i
 . rw [e];exact hi k b a e
 exact h.1 k b a e
theorem HeapDn.step (h:HeapDn l n i)(hn:n<=l.length)(hj:j<n)(hj0:0<j)(hp:par j=i)(hlt:hAt l j<hAt l i)(hmin: ∀ k,0<k->k<n->par k=i->hAt l j<=hAt l k):HeapDn (sw l i j) n j:=by
 have g:i<j:=by rw [<-hp];unfold par;omega
 have e:=fun k=>Eb (l:=l) (i:=i) (j:=j) (k:=k) (by omega) (by omega)
 refine ⟨fun k c d b=> ?_,fun k c d b m=> ?_⟩
 . rw [e,e,if_neg b];by_cases k1:par k=i
   . rw [if_pos k1];by_cases k2:k=j
     . subst k2;rw [if_pos rfl];omega
     have a:k≠i:=by rintro rfl;unfold par at k1;omega
     rw [if_neg k2,if_neg a];exact hmin k c d k1
   rw [if_neg k1];by_cases k2:k=j
   . subst k2;exact aV hp k1
   rw [if_neg k2];by_cases k3:k=i
   . subst k3;rw [if_pos rfl];exact h.2 j hj0 hj hp c
   rw [if_neg k3];exact h.1 k c d k1
 have f:k≠j:=by rintro rfl;unfold par at b;omega
 have a:k≠i:=by rintro rfl;unfold par at b;omega
 rw [e,e,hp,if_neg (show i≠j by omega),if_pos rfl,if_neg f,if_neg a];have:=h.1 k c d (by rw [b];omega);rw [b] at this;exact this
theorem Zq4 (h:HeapP l (n+1))(hn:n+1<=l.length):HeapDn (sw l 0 n) n 0:=by
 have e:=fun k=>Eb (l:=l) (i:=0) (j:=n) (k:=k) (by omega) (by omega)
 refine ⟨fun k b c a=> ?_,fun k b c a d=>by omega⟩;rw [e,e,if_neg (show par k≠n by unfold par;omega),if_neg a,if_neg (show k≠n by omega),if_neg (show k≠0 by omega)];exact h k b (by omega)
section
variable {n:Int}{t:Cod}
variable {b:Nat}{z:Int}
abbrev plP (b:Nat)(a:Option Addr)(c:Nat)(l:List Int):List HP:= [pto b (.cells [.slice a l.length c].toArray 411 (0,0)),lsH I64 3 a c l]
abbrev plB (b:Nat)(l:List Int):HP:=bxH I64 411 3 b l
abbrev plI (b:Nat):Value:= .iface 410 (.pointer (some ⟨b,0,none⟩))
theorem Xj:CallF prog G 252 [.slice a l.length c] (plP b a c l) (Ret fun v q'=>v= I64 l.length/\q'=plP b a c l):=by
 refine aB func252 ntmps252 rfl fun F d=> ?_;refine xx 10 ?_;refine Zq (plP b a c l) func252 (Zf results252 rfl) ⟨_,rfl,rfl,rfl⟩
theorem Zw6 (hi:i<l.length)(hj:j<l.length)(hL:l.length<=1000000):CallF prog G 352 [.slice a l.length c,I64 i,I64 j] (plP b a c l) (Ret fun v q'=>v= .bool (decide (hAt l i<hAt l j))/\q'=plP b a c l):=by
 refine aB func352 ntmps352 rfl fun F e=> ?_;refine Rw (l:=l) (by omega) fun g d=> ?_;subst d;refine rn [5,0,1,2,3] ?_;refine ldD 3 ?_ (hc:=(gP (bY _) Zj hi rfl));refine dd [4,5,6] ?_;refine ldD 7 ?_ (hc:=(gP (bY _) Zj hj rfl));refine rn [9,10,0] ?_;refine Zq (plP b (some ⟨g,0,none⟩) c l) func352 (Zf results352 rfl) ⟨_,rfl,by rw [Js hi,Js hj],rfl⟩
theorem Zw4 (hi:i<l.length)(hj:j<l.length)(hL:l.length<=1000000):CallF prog G 355 [.slice a l.length c,I64 i,I64 j] (plP b a c l) (Ret fun v q'=>q'=plP b a c (sw l i j)):=by
 refine aB func355 ntmps355 rfl fun F f=> ?_;refine Rw (l:=l) (by omega) fun g d=> ?_;subst d;refine rn [0,1,2,3,4,5,6,7] ?_;refine ldD 7 ?_ (hc:=(gP (bY _) Zj hj rfl));refine dd [8,9,10] ?_;refine ldD 11 ?_ (hc:=(gP (bY _) Zj hi rfl));refine dd [12] ?_;refine iM 13 rfl (D7 (l:=l) (n:=i) (u:=l[j]) rfl rfl sizeOf3 rfl hi rfl rfl Zj) ?_;refine kk0 ?_;refine dd [14] ?_;refine iM 15 rfl (D7 (l:=l.set i l[j]) (n:=j) (u:=l[i]) rfl rfl sizeOf3 rfl (by rw [bK];exact hj) rfl rfl Zj) ?_;refine kk0 ?_;refine jV ?_;have e:(l.set i l[j]).set j l[i]=sw l i j:=by unfold sw;rw [Js hi,Js hj]
 rw [e];refine Zr (plP b (some ⟨g,0,none⟩) c (sw l i j)) func355 (Yy results355) ⟨_,rfl,rfl⟩ (by unfold plP;rw [D9];exact leA)
theorem plPop_ok (h0:0<l.length)(hL:l.length<=1000000):CallF prog G 353 [.pointer (some ⟨b,0,none⟩)] (plP b a c l) (Ret fun v q'=> ∃ x,v= .iface 3 (I64 x)/\l[l.length - 1]? =some x/\q'=plP b a c (l.take (l.length - 1))):=by
 refine aB func353 ntmps353 rfl fun F f=> ?_;refine Rw (l:=l) (by omega) fun g e=> ?_;subst e;refine Zv1 (l:=l) fun d=> ?_;refine rn [5,0,1,2,3,4,5,6,7,8,9] ?_;refine ldD 9 ?_ (hc:=(Cl.e1z (bY _) Zj h0));refine rn [11,0,1,0,1,2,3,4,5,6,7,8,9,10,11] ?_;refine dY 23 (.slice (some ⟨g,0,none⟩) (l.take (l.length - 1)).length c) rfl (by rw [bI];congr 1;omega) ?_;refine rn [12,0,6] ?_;refine Zq (plP b (some ⟨g,0,none⟩) c (l.take (l.length - 1))) func353 (Zf results353 rfl) ⟨_,rfl,_,rfl,aE (by omega),rfl⟩ (bD Zj ((leA).trans (Fg _ _ _ _ _ _ _)))
theorem Zw5 (hL:l.length<=1000000):CallF prog G 354 [.pointer (some ⟨b,0,none⟩),.iface 3 (I64 z)] (plP b a c l) (Ret fun v q'=> ∃ a' c',q'=plP b a' c' (l++ [z])):=by
 refine aB func354 ntmps354 rfl fun F g=> ?_;refine rn [0,1,2,3,4,5] ?_;refine Fv 5 rfl (Pv rfl underlying3 rfl) ?_;refine eE 6 rfl (Yu I64 [z] underlying411 Fa rfl rfl rfl rfl rfl rfl (fun _=>rfl)) ?_;rintro _ _ ⟨f,rfl,rfl⟩;refine ⟨hlA,?_⟩;refine eE 7 rfl (Yb (l:=l) (m:= [z]) underlying411 Fa rfl rfl rfl Zj ((bY _).le Zj) (fun _=>rfl) (by simp;omega) (by simp;omega)) ?_;refine kk2 fun e d=> ?_
 refine rn [9,10,0] ?_;refine Zr (plP b e d (l++ [z])) func354 (Yy results354) ⟨_,rfl,e,d,rfl⟩
theorem mLen: CallM prog G (plI b) "Len" [] [plB b l] (Ret fun v q' => ∃ l', (fun v l' => v = I64 (l.length : Int) ∧ l' = l) v l' ∧ q' = [plB b l']) :=
 T3 (φ := fun v l' => v = I64 (l.length : Int) ∧ l' = l) fun a c => CallM.of call252 (fun F w s => Bq (m := ⟨"Len", 83, #[], some (252, false)⟩) s clA Tryz.typeInfo410 underlying410 isAgg411 (by kernel_rfl) rfl rfl) (kR (Xj) (fun e q h => by obtain ⟨v, rfl, h⟩ := h; exact ⟨v, rfl, ⟨l, a, c, ⟨h.1, rfl⟩, h.2⟩⟩))
theorem Zvb (hi:i<l.length)(hj:j<l.length)(hL:l.length≤1000000): CallM prog G (plI b) "Less" [I64 (i : Int), I64 (j : Int)] [plB b l] (Ret fun v q' => ∃ l', (fun v l' => v = .bool (decide (hAt l i < hAt l j)) ∧ l' = l) v l' ∧ q' = [plB b l']) :=
 T3 (φ := fun v l' => v = .bool (decide (hAt l i < hAt l j)) ∧ l' = l) fun a c => CallM.of call352 (fun F w s => Bq (m := ⟨"Less", 196, #[], some (352, false)⟩) s clA Tryz.typeInfo410 underlying410 isAgg411 (by kernel_rfl) rfl rfl) (kR (Zw6 hi hj hL) (fun e q h => by obtain ⟨v, rfl, h⟩ := h; exact ⟨v, rfl, ⟨l, a, c, ⟨h.1, rfl⟩, h.2⟩⟩))
theorem Zvx (hi:i<l.length)(hj:j<l.length)(hL:l.length≤1000000): CallM prog G (plI b) "Swap" [I64 (i : Int), I64 (j : Int)] [plB b l] (Ret fun v q' => ∃ l', (fun v l' => l' = sw l i j) v l' ∧ q' = [plB b l']) :=
 T3 (φ := fun v l' => l' = sw l i j) fun a c => CallM.of call355 (fun F w s => Bq (m := ⟨"Swap", 422, #[], some (355, false)⟩) s clA Tryz.typeInfo410 underlying410 isAgg411 (by kernel_rfl) rfl rfl) (kR (Zw4 hi hj hL) (fun e q h => by obtain ⟨v, rfl, h⟩ := h; exact ⟨v, rfl, ⟨_, a, c, rfl, h⟩⟩))
theorem mPop (h0:0<l.length)(hL:l.length≤1000000): CallM prog G (plI b) "Pop" [] [plB b l] (Ret fun v q' => ∃ l', (fun v l' => ∃ x, v = .iface 3 (I64 x) ∧ l[l.length - 1]? = some x ∧ l' = l.take (l.length - 1)) v l' ∧ q' = [plB b l']) :=
 T3 (φ := fun v l' => ∃ x, v = .iface 3 (I64 x) ∧ l[l.length - 1]? = some x ∧ l' = l.take (l.length - 1)) fun a c => CallM.of call353 (fun F w s => Cz (m := ⟨"Pop", 466, #[], some (353, true)⟩) Tryz.typeInfo410 underlying410 (by kernel_rfl) rfl rfl) (kR (plPop_ok h0 hL) (fun e q h => by obtain ⟨v, rfl, h⟩ := h; exact ⟨v, rfl, (by obtain ⟨x, g, f, d⟩ := h; exact ⟨_, a, c, ⟨x, g, f, rfl⟩, d⟩)⟩))
theorem mPush (hL:l.length≤1000000): CallM prog G (plI b) "Push" [.iface 3 (I64 z)] [plB b l] (Ret fun v q' => ∃ l', (fun v l' => l' = l ++ [z]) v l' ∧ q' = [plB b l']) :=
 T3 (φ := fun v l' => l' = l ++ [z]) fun a c => CallM.of call354 (fun F w s => Cz (m := ⟨"Push", 470, #[], some (354, true)⟩) Tryz.typeInfo410 underlying410 (by kernel_rfl) rfl rfl) (kR (Zw5 hL) (fun e q h => by obtain ⟨v, rfl, h⟩ := h; exact ⟨v, rfl, (by obtain ⟨f, d, h⟩ := h; exact ⟨_, f, d, rfl, h⟩)⟩))
end
theorem Zvh {z:Int}(h:k<l.length):hAt (l++ [z]) k=hAt l k:=by
 rw [Js (by simp;omega),Js h,List.getElem_append_left h]
theorem HeapP.app {z:Int}(h:HeapP l l.length):HeapUp (l++ [z]) (l++ [z]).length l.length:=by
 rw [aA];refine Zq3 fun k b a=> ?_;rw [Zvh a,Zvh (by unfold par;omega)];exact h k b a
theorem HeapDn.least (h:HeapP l n)(hn:n<=l.length)(h0:0<n): ∀ x∈l.take n,hAt l 0<=x:=by
 intro x b;obtain ⟨k,c,rfl⟩:=fH b;have a:k<n:=by simp at c;omega
 have:=h.least k a;rw [Js (i:=k) (by omega)] at this;rw [List.getElem_take];exact this
theorem HeapP.take (h:HeapP l n)(hn:n<=l.length):HeapP (l.take n) (l.take n).length:=by
 have e: ∀ k,k<n->hAt (l.take n) k=hAt l k:=fun k d=>by rw [Js (by simp;omega),Js (by omega),List.getElem_take]
 intro k c b;have a:k<n:=by simp at b;omega
 rw [e k a,e _ (by unfold par;omega)];exact h k c a
theorem par_lt (h:0<k):par k<k:=by unfold par;omega
theorem par_cast (j:Nat):Int.tdiv ((j:Int) - 1) 2=(par j:Int):=by
 unfold par;rcases cW j with rfl|h
 . decide
 rw [Int.tdiv_eq_ediv_of_nonneg (by omega)];omega
theorem Zw1 {m:List Int}{x:Int}(h:HeapP l l.length)(h0:0<l.length)(hp:m.Perm (sw l 0 (l.length - 1)))(hk: ∀ k,l.length - 1<=k->hAt m k=hAt (sw l 0 (l.length - 1)) k)(hx:m[m.length - 1]? =some x):
 (x::m.take (m.length - 1)).Perm l/\ ∀ y∈m.take (m.length - 1),x<=y:=by
 have b:m.Perm l:=hp.trans (Fo h0 (by omega));have i:=b.length_eq
 have e:x=hAt l 0:=by
  have c:=hk (l.length - 1) (aU _);rw [Eb h0 (by omega),if_pos rfl] at c;rw [<-c,Js (by omega)];rw [aE (by omega)] at hx;have:=dT hx;rw [<-this];congr 1;omega
 have a:m=m.take (m.length - 1)++ [x]:=by
  have c:m.length - 1<m.length:=by omega
  rw [aE c] at hx;have f:=List.take_append_getElem c;rw [dT hx] at f;rw [f,show m.length - 1+1=m.length by omega,bV]
 refine ⟨?_,fun y g=> ?_⟩
 . refine List.Perm.trans ?_ b
   conv=>rhs;rw [a]
   exact (List.perm_append_comm (l₁:=m.take (m.length - 1)) (l₂:= [x])).symm
 have d:y∈l:=b.mem_iff.1 (lE g);rw [e];have:=HeapDn.least (n:=l.length) h (aU _) h0 y (by rw [bV];exact d);exact this
section
variable {n:Int}{t:Cod}
variable {b n:Nat}{z:Int}
theorem up_ok (h:HeapUp l l.length j)(hj:j<l.length)(hL:l.length<=1000000):CallF prog G 294 [plI b,I64 j] ([plB b l]) (Ret fun v q'=> ∃ l',HeapP l' l'.length/\l'.Perm l/\q'= [plB b l']):=by
 refine aB func294 ntmps294 rfl fun F x=> ?_;refine xx 1 ?_;refine aX (cC (fun (s:List Int×Nat)=>HeapUp s.1 s.1.length s.2/\s.1.Perm l/\s.2<s.1.length) (fun s=> [(0,plI b),(1,I64 (s.2:Int))]) (fun s=>(plB b s.1::F)) (fun s=>s.2) (fun s d p=> ?_) (l,j) ⟨h,List.Perm.refl _,hj⟩) Zn leA;try dsimp only at d p|-
 obtain ⟨o,n,k⟩:=d;obtain ⟨m,j⟩:=s;dsimp only at*;have r:=n.length_eq;refine xo 6 ?_;have q:par j<=j:=by unfold par;omega
 refine aW 7 (I64 (par j:Int)) rfl (aQ (Value.int .i64) (by rw [par_cast j];exact Qk (by omega) (by omega))) ?_;refine oo 9 ?_;refine kQ 11 rfl ?_ ?_<;>intro f
 . replace f:=sp f;have c:j=0:=by rcases cW j with e|e;exact e;have:=par_lt e;omega
   refine ox 9 ?_;refine Zr ([plB b m]) func294 (Yy results294) ⟨_,rfl,m,o.done (.inl c),n,rfl⟩
 replace f:=sp f;have a:par j<m.length:=by unfold par;omega
 have c:0<j:=by rcases cW j with e|e;subst e;exact aV rfl f;exact e
 refine oo 3 ?_;refine N0 (Zvb (l:=m) (i:=j) (j:=par j) k a (by omega)) ?_;rintro _ _ ⟨u,⟨rfl,t⟩,rfl⟩ _ g;simp only [ca,na] at g;subst g;obtain rfl:=t.symm;refine ox 3 ?_;refine xp 17 ?_ ?_<;>intro w
 . refine xx 2 ?_;refine Zr ([plB b m]) func294 (Yy results294) ⟨_,rfl,m,o.done (.inr (by omega)),n,rfl⟩
 refine xo 7 ?_;refine N0 (Zvx (l:=m) (i:=par j) (j:=j) a k (by omega)) ?_;rintro _ _ ⟨_,rfl,rfl⟩ _ g;simp only [ca,na] at g;subst g;refine ox 6 ?_;refine aX (p (sw m (par j) j,par j) ⟨by rw [D9];exact o.step rfl k c (by omega),(Fo a k).trans n,by dsimp only;rw [D9];exact a⟩ (par_lt c)) Zn leA
theorem down_ok (h:HeapDn l n 0)(hn:n<=l.length)(hL:l.length<=1000000):CallF prog G 292 [plI b,I64 0,I64 n] ([plB b l]) (Ret fun v q'=> ∃ l',HeapP l' n/\l'.Perm l/\(∀ k,n<=k->hAt l' k=hAt l k)/\q'= [plB b l']):=by
 refine aB func292 ntmps292 rfl fun F cs=> ?_;refine xx 11 ?_;refine aX (cC (fun (s:List Int×Nat)=>HeapDn s.1 n s.2/\s.1.Perm l/\(s.2<n\/s.2=0)/\ ∀ k,n<=k->hAt s.1 k=hAt l k) (fun s=> [(0,plI b),(1,I64 0),(2,I64 n),(7,I64 (s.2:Int))]) (fun s=>(plB b s.1::F)) (fun s=>(n - s.2)) (fun s q w=> ?_) (l,0) ⟨h,List.Perm.refl _,.inr rfl,fun _ _=>rfl⟩) Zn leA;try dsimp only at q w|-
 obtain ⟨g,f,hs,o⟩:=q;obtain ⟨m,i⟩:=s;dsimp only at*;have y:=f.length_eq;refine xo 15 ?_;refine kQ 18 rfl ?_ ?_<;>intro u
 . replace u:=sp u;refine ox 13 ?_;refine Zq ([plB b m]) func292 (Zf results292 rfl) ⟨_,rfl,m,g.done (fun k d e c=>aV c (by unfold par;omega)),f,o,rfl⟩
 replace u:=sp u;refine ox 4 ?_;refine xp 21 ?_ ?_<;>intro h1
 . refine xx 9 ?_;refine Zq ([plB b m]) func292 (Zf results292 rfl) ⟨_,rfl,m,g.done (fun k d e c=>aV c (by unfold par;omega)),f,o,rfl⟩
 refine xo 20 ?_;refine kQ 28 rfl ?_ ?_<;>intro t
 focus
  replace t:=sp t;refine oo 3 ?_;refine aW 30 (I64 ((2*i+2:Nat):Int)) rfl (aQ (Value.int .i64) (by omega)) ?_;refine aW 31 (I64 ((2*i+1:Nat):Int)) rfl (aQ (Value.int .i64) (by omega)) ?_;refine aW 10 (I64 ((2*i+2:Nat):Int)) rfl (aQ (Value.int .i64) (by omega)) ?_;refine aW 9 (I64 ((2*i+1:Nat):Int)) rfl (aQ (Value.int .i64) (by omega)) ?_;refine aW 8 (I64 ((2*i+1:Nat):Int)) rfl (aQ (Value.int .i64) (by omega)) ?_;refine N0 (Zvb (l:=m) (i:=2*i+2) (j:=2*i+1) (by omega) (by omega) (by omega)) ?_;rintro _ _ ⟨x,⟨rfl,r⟩,rfl⟩ _ a;simp only [ca,na] at a;subst a;obtain rfl:=r.symm;refine ox 2 ?_;refine xp 33 ?_ ?_<;>intro h3
  . have p:=(show ∀ k,0<k->k<n->par k=i->hAt m (2*i+2)<=hAt m k from fun k d e c=>by have:k=2*i+1\/k=2*i+2:=(by unfold par at c;omega);rcases this with rfl|rfl<;>omega);refine xo 11 ?_;refine N0 (Zvb (l:=m) (i:=2*i+2) (j:=i) (by omega) (by omega) (by omega)) ?_;rintro _ _ ⟨x,⟨rfl,r⟩,rfl⟩ _ a;simp only [ca,na] at a;subst a;obtain rfl:=r.symm;refine ox 2 ?_;refine xp 39 ?_ ?_<;>intro z
    . refine xx 9 ?_;refine Zq ([plB b m]) func292 (Zf results292 rfl) ⟨_,rfl,m,g.done (fun k d e c=>by have:=p k d e c;omega),f,o,rfl⟩
    refine xo 7 ?_;refine N0 (Zvx (l:=m) (i:=i) (j:=2*i+2) (by omega) (by omega) (by omega)) ?_;rintro _ _ ⟨_,rfl,rfl⟩ _ a;simp only [ca,na] at a;subst a;refine ox 6 ?_;refine aX (w (sw m i (2*i+2),2*i+2) ⟨g.step (by omega) (by omega) (by omega) (by unfold par;omega) (by omega) p,(Fo (by omega) (by omega)).trans f,.inl (by dsimp only;omega),fun k d=>by dsimp only;rw [Eb (by omega) (by omega),if_neg (by omega),if_neg (by omega)];exact o k d⟩ (by dsimp only;omega)) Zn leA
  have p:=(show ∀ k,0<k->k<n->par k=i->hAt m (2*i+1)<=hAt m k from fun k d e c=>by have:k=2*i+1\/k=2*i+2:=(by unfold par at c;omega);rcases this with rfl|rfl<;>omega);refine xo 8 ?_
 rotate_left
 focus
  replace t:=sp t;refine oo 14 ?_;have p:=(show ∀ k,0<k->k<n->par k=i->hAt m (2*i+1)<=hAt m k from fun k d e c=>by have:k=2*i+1:=(by unfold par at c;omega);subst this;omega)
 all_goals
  refine N0 (Zvb (l:=m) (i:=2*i+1) (j:=i) (by omega) (by omega) (by omega)) ?_;rintro _ _ ⟨x,⟨rfl,r⟩,rfl⟩ _ a;simp only [ca,na] at a;subst a;obtain rfl:=r.symm;refine ox 2 ?_;refine xp 39 ?_ ?_<;>intro z
  . refine xx 9 ?_;refine Zq ([plB b m]) func292 (Zf results292 rfl) ⟨_,rfl,m,g.done (fun k d e c=>by have:=p k d e c;omega),f,o,rfl⟩
  refine xo 7 ?_;refine N0 (Zvx (l:=m) (i:=i) (j:=2*i+1) (by omega) (by omega) (by omega)) ?_;rintro _ _ ⟨_,rfl,rfl⟩ _ a;simp only [ca,na] at a;subst a;refine ox 6 ?_;refine aX (w (sw m i (2*i+1),2*i+1) ⟨g.step (by omega) (by omega) (by omega) (by unfold par;omega) (by omega) p,(Fo (by omega) (by omega)).trans f,.inl (by dsimp only;omega),fun k d=>by dsimp only;rw [Eb (by omega) (by omega),if_neg (by omega),if_neg (by omega)];exact o k d⟩ (by dsimp only;omega)) Zn leA
theorem hPush_ok (h:HeapP l l.length)(hL:l.length<1000000):CallF prog G 256 [plI b,.iface 3 (I64 z)] ([plB b l]) (Ret fun v q'=> ∃ l',HeapP l' l'.length/\l'.Perm (z::l)/\q'= [plB b l']):=by
 refine aB func256 ntmps256 rfl fun F k=> ?_;refine xo 4 ?_;refine N0 (mPush (l:=l) (z:=z) (by omega)) ?_;rintro _ _ ⟨_,rfl,rfl⟩ _ a;simp only [ca,na] at a;subst a;refine oo 4 ?_;refine N0 (mLen (l:=l++ [z])) ?_;rintro _ _ ⟨i,⟨rfl,g⟩,rfl⟩ _ a;simp only [ca,na] at a;subst a;subst g;have c:(l++ [z]).length=l.length+1:=by simp
 refine oo 1 ?_;refine aW 10 (I64 l.length) rfl (aQ (Value.int .i64) (by rw [c];omega)) ?_;refine Vg call294 (up_ok (l:=l++ [z]) (j:=l.length) h.app (by omega) (by omega)) ?_;rintro _ _ ⟨d,f,e,rfl⟩ _ a;simp only [ca,na] at a;subst a;refine ox 1 ?_;refine Zr ([plB b d]) func256 (Yy results256) ⟨_,rfl,d,f,e.trans (List.perm_append_comm (l₁:=l) (l₂:= [z])),rfl⟩
theorem hPop_ok (h:HeapP l l.length)(h0:0<l.length)(hL:l.length<=1000000):CallF prog G 253 [plI b] ([plB b l]) (Ret fun v q'=> ∃ x l',v= .iface 3 (I64 x)/\(x::l').Perm l/\(∀ y∈l',x<=y)/\HeapP l' l'.length/\q'= [plB b l']):=by
 refine aB func253 ntmps253 rfl fun F s=> ?_;refine xo 7 ?_;refine N0 (mLen (l:=l)) ?_;rintro _ _ ⟨a,⟨rfl,r⟩,rfl⟩ _ c;simp only [ca,na] at c;subst c;subst r;refine oo 7 ?_;refine aW 8 (I64 ((a.length - 1:Nat):Int)) rfl (aQ (Value.int .i64) (by omega)) ?_;refine aW 3 (I64 ((a.length - 1:Nat):Int)) rfl (aQ (Value.int .i64) (by omega)) ?_;refine N0 (Zvx (l:=a) (i:=0) (j:=a.length - 1) (by omega) (by omega) (by omega)) ?_;rintro _ _ ⟨_,rfl,rfl⟩ _ c;simp only [ca,na] at c;subst c;have e:HeapDn (sw a 0 (a.length - 1)) (a.length - 1) 0:=Zq4 (n:=a.length - 1) (by rw [show a.length - 1+1=a.length by omega];exact h) (by omega);refine oo 5 ?_;refine Vg call292 (down_ok (l:=sw a 0 (a.length - 1)) (n:=a.length - 1) e (by rw [D9];omega) (by rw [D9];omega)) ?_;rintro _ _ ⟨m,p,f,q,rfl⟩ _ c;simp only [ca,na] at c;subst c;have d:=f.length_eq;rw [D9] at d;refine oo 4 ?_;refine N0 (mPop (l:=m) (by omega) (by omega)) ?_;rintro _ _ ⟨_,⟨x,rfl,o,rfl⟩,rfl⟩ _ c;simp only [ca,na] at c;subst c;obtain ⟨k,g⟩:=Zw1 h h0 f q o;refine ox 2 ?_;refine Zq ([plB b (m.take (m.length - 1))]) func253 (Zf results253 rfl) ⟨_,rfl,x,_,rfl,k,g,HeapP.take (n:=m.length - 1) (by rw [d];exact p) (by omega),rfl⟩
end
structure HI (D:List Int) (dn:List Bool) (l:List Int):Prop where
 len:dn.length=D.length
 mem: ∀ x:Int,x∈l↔0<=x/\Nw D dn x.toNat
 nd:l.Nodup
 hp:HeapP l l.length
 rng: ∀ i,dAt D i= -1\/(0<=dAt D i/\dAt D i<=25)
 dnp: ∀ i,dn.getD i false=true->0<=dAt D i
 cnt:l.length+D.count (-1)<=D.length
theorem dAt_ge (h:D.length<=i):dAt D i= -1:=by simp [dAt,aG,eU h]
theorem dAt_lt (h:0<=dAt D i):i<D.length:=by
 rcases dJ i D.length with e|e
 . exact e
 rw [dAt_ge e] at h;omega
theorem Rj (h:i<D.length):dAt D i=D[i]:=by simp [dAt,aG,h]
theorem Zjz {b:Bool}(hi:i<dn.length):(dn.set i b).getD j false=if j=i then b else dn.getD j false:=by
 simp only [aG,List.getElem?_set];by_cases h:j=i
 . subst h;simp [hi]
 have a: ¬i=j:=fun e=>h e.symm
 simp [h,a]
theorem HI.nil (h:HI D dn []):Kg D dn=none:=
 Cb fun j _ a=>by
  have:=(h.mem (j:Int)).2 ⟨by omega,by simpa using a⟩;simp at this
theorem HI.pop {x:Int}(h:HI D dn l)(hp:(x::l').Perm l)(hy: ∀ y∈l',x<=y)(hh:HeapP l' l'.length):
 0<=x/\x.toNat<D.length/\Kg D dn=some x.toNat/\Nw D dn x.toNat/\HI D (dn.set x.toNat true) l':=by
 have s:x∈l:=hp.mem_iff.1 (bW ..);obtain ⟨u,f⟩:=(h.mem x).1 s;have a:=dAt_lt f.1;have m:=(hp.nodup_iff).2 h.nd;obtain ⟨o,n⟩:=gX.1 m;refine ⟨u,a,Zxh a f (fun j v p=> ?_),f,?_⟩
 . have q:(j:Int)∈l:=(h.mem j).2 ⟨by omega,by simpa using p⟩;rcases bG.1 (hp.mem_iff.2 q) with e|e
   . omega
   have:=hy _ e;omega
 have e:=fun j=>Zjz (dn:=dn) (i:=x.toNat) (j:=j) (b:=true) (by rw [h.len];exact a)
 refine ⟨by rw [bK];exact h.len,fun y=> ?_,n,hh,h.rng,fun i hi=> ?_,?_⟩
 . constructor
   . intro r;obtain ⟨k,g,d⟩:=(h.mem y).1 (hp.mem_iff.1 (bX _ r));refine ⟨k,g,?_⟩;rw [e,if_neg (fun c=>o (by rw [show x=y by omega];exact r))];exact d
   rintro ⟨k,g,d⟩;rw [e] at d;split at d
   . cases d
   rename_i c;have:=(h.mem y).2 ⟨k,g,d⟩;rcases bG.1 (hp.mem_iff.2 this) with e|e
   . exact aV (by rw [e]) c
   exact e
 . rw [e] at hi;split at hi
   . rename_i c;rw [c];exact f.1
   exact h.dnp i hi
 have t:=hp.length_eq;have w:=h.cnt;rw [aJ] at t;omega
theorem HI.push {b:Int}(h:HI D dn l)(hi:i<D.length)(hd:dAt D i= -1)(hb:0<=b/\b<=25)(hp:l'.Perm ((i:Int)::l))(hh:HeapP l' l'.length):HI (D.set i b) dn l':=by
 have e:=fun j=>F5 (D:=D) (i:=i) (j:=j) (b:=b) hi
 have m:dn.getD i false=false:=by
  cases hc:dn.getD i false with
  |false=>rfl
  |true=>have:=h.dnp i hc;omega
 have g:(i:Int)∉l:=fun k=>by have:=((h.mem _).1 k).2.1;simp only [cT] at this;omega
 refine ⟨by rw [bK];exact h.len,fun y=> ?_,(hp.nodup_iff).2 (gX.2 ⟨g,h.nd⟩),hh,fun j=> ?_,fun j n=> ?_,?_⟩
 . rw [hp.mem_iff,bG];constructor
   . rintro (rfl|k)
     . refine ⟨by omega,?_,by simpa using m⟩;rw [e];simp [hb.1]
     obtain ⟨f,c,d⟩:=(h.mem y).1 k;refine ⟨f,?_,d⟩;rw [e];split
     . exact hb.1
     exact c
   rintro ⟨f,c,d⟩;rw [e] at c;split at c
   . left;omega
   exact .inr ((h.mem y).2 ⟨f,c,d⟩)
 . rw [e];split
   . exact .inr hb
   exact h.rng j
 . rw [e];split
   . exact hb.1
   exact h.dnp j n
 have o:=List.count_set (a:=b) (b:=(-1:Int)) hi;rw [o,bK,hp.length_eq,aJ];rw [Rj hi] at hd;have s:0<D.count (-1):=List.count_pos_iff.2 (hd ▸ aC hi);have r:=h.cnt;have q:(D[i]==(-1:Int))=true:=by rw [hd];rfl
 have p:(b==(-1:Int))=false:=cZ.2 (by omega);rw [q,p];simp;omega
theorem HI.init (hn:0<n):HI ((List.replicate n (-1)).set 0 0) (List.replicate n false) [0]:=by
 have e:=fun j=>F5 (D:=List.replicate n (-1)) (i:=0) (j:=j) (b:=0) (by simpa using hn)
 have d: ∀ j,dAt (List.replicate n (-1)) j= -1:=fun j=>by
  unfold dAt;rw [aG,iJ];split<;>rfl
 have c: ∀ j,(List.replicate n false).getD j false=false:=fun j=>by
  rw [aG,iJ];split<;>rfl
 refine ⟨by simp,fun x=> ?_,by simp,fun k l f=>by simp at f;omega,fun i=> ?_,fun i hi=>(by rw [c] at hi;cases hi),?_⟩
 . rw [bN];constructor
   . rintro rfl;exact ⟨by omega,by rw [e];simp,c _⟩
   rintro ⟨h,a,g⟩;rw [e,d] at a;split at a<;>omega
 . rw [e,d];split<;>simp
 rw [List.count_set (by simpa using hn)];simp;omega
theorem noFalse {a:Nat}(h:(dn.filter (· ==false)).length=0)(ha:a<dn.length):dn.getD a false=true:=by
 have b:=aS h;rw [List.filter_eq_nil_iff] at b;have:=b dn[a] (aC ha);simp [List.getD,ha];simpa using this
theorem fil_set: ∀ (dn:List Bool) (a:Nat),a<dn.length->dn.getD a false=false->((dn.set a true).filter (· ==false)).length+1=(dn.filter (· ==false)).length:=by
 intro dn
 induction dn with
 |nil=>intro a h;simp at h
 |cons x r ih=>
  intro a b h
  cases a with
  |zero=>simp at h;subst h;simp
  |succ a=>
   have:=ih a (by simpa using b) (by simpa using h)
   cases x
   . simp only [List.set_cons_succ,jD,beq_self_eq_true,if_true,aJ];omega
   simpa using this
def dOf (m:Mdl)(t:Cod):List Int×Int:=
 if t.ins.length=0 then ([],170) else if ¬ (∀ x∈t.ins,Tv m t x) then ([],171) else Gk (Hf t) t.ins.length ((List.replicate t.ins.length (-1)).set 0 0) (List.replicate t.ins.length false)
theorem thrS_end (k:Nat)(h:HI D dn []):Gk ins k D dn=(D,0):=by
 cases k with
 |zero=>rfl
 |succ k=>unfold Gk;rw [h.nil]
theorem fil_pos {a:Nat}(ha:a<dn.length)(h:dn.getD a false=false):0<(dn.filter (· ==false)).length:=by
 rcases cW (dn.filter (· ==false)).length with e|e
 . have:=noFalse e ha;rw [h] at this;cases this
 exact e
theorem fill_eq (h:D.length=N)(h2: ∀ i (hi:i<D.length),i<N->D[i]= -1):D=List.replicate N (-1):=by
 refine List.ext_getElem (by simp [h]) fun i a b=> ?_;rw [List.getElem_replicate];exact h2 i a (by omega)
theorem Zwh {a:Nat}(h:Kg D dn=some a):Gk ins (k+1) D dn=if (Qj ins a (dAt D a)).2≠0 then ([],(Qj ins a (dAt D a)).2) else match Qn (Qj ins a (dAt D a)).1 D (Rt (ins.getD a zI) a) with
 |none=>([],174)
 |some D'=>Gk ins k D' (dn.set a true):=by
 conv=>lhs;unfold Gk
 rw [h]<;>rfl
theorem oneS_le {a:Nat}{d:Int}(h:(Qj ins a d).2=0):(Qj ins a d).1<=25:=by
 unfold Qj at h|-;simp only at h|-;split at h
 . cases h
 rename_i e;split at h
 . cases h
 rename_i c;split at h
 . cases h
 rename_i b;rw [if_neg e,if_neg c,if_neg b];dsimp only;omega
structure VI (D0:List Int) (dn:List Bool) (b:Int) (xs:List Int) (k:Nat) (s:List Int×List Int):Prop where
 hi:HI s.1 dn s.2
 len:s.1.length=D0.length
 go:Qn b D0 xs=Qn b s.1 (xs.drop k)
def viH (D:List Int)(dn:List Bool)(b:Int)(xs:List Int)(g N nb k:Nat):HP:=ex fun s:List Int×List Int=>stars [Wx.pure (VI D dn b xs k s),lsH I64 3 (some ⟨g,0,none⟩) N s.1,plB nb s.2]
theorem Zzy {b:Int}{g:Nat}{r:List HP}(s:List Int×List Int)(h:VI D dn b xs k s)(hle:Le q (lsH I64 3 (some ⟨g,0,none⟩) N s.1::plB nb s.2::r)):Le q (viH D dn b xs g N nb k::r):=
 Wa s (hle.trans ((Yc h _).trans (by exact Zm [_,_,_] r)))
theorem X.viH {P:Program}{f:Fc}{Q:Yw}{todo:List Item}{p:PE}{ds:List Deferred}{cs:List Frame}{b:Int}{g:Nat}
 (x: ∀ D' l',VI D dn b xs k (D',l')->X P G f Q todo p ds cs (lsH I64 3 (some ⟨g,0,none⟩) N D'::plB nb l'::q)):X P G f Q todo p ds cs (Go.Proofs.YtadahhbefdnabaaGreatDoor.viH D dn b xs g N nb k::q):=
 X.ex (fun s=>cS (Zy _ _) (X.pure (fun h=>x s.1 s.2 h)))
theorem nxt_mem (h:Kd x)(a:Nat): ∀ y∈nxt x (a:Int),0<=y:=by
 intro y b;have d:=h.2.1;unfold nxt at b
 have e:(x.c=19\/x.c=20\/x.c=21)->0<=x.a:=fun hc=>by
  rw [if_pos (by unfold nmA;exact dA (by omega))] at d;exact d.1
 (repeat' split at b)<;>simp at b<;>first|(have:=e (by omega);omega)|omega
theorem VI.step {D0:List Int}{b:Int}{y:Nat}(h:VI D0 dn b xs k (D,l))(hk:k<xs.length)(hy:xs[k]=(y:Int))(hyl:y<D.length):Qn b D0 xs=if 0<=D[y]/\D[y]≠b then none else Qn b (D.set y b) (xs.drop (k+1)):=by
 rw [h.go,aP hk,hy]
 conv=>lhs;unfold Qn
 simp only [cT,Rj hyl]
section
variable {n:Int}{t:Cod}
variable {n:Nat}
theorem X3 (g:GE q)(hm:CellsAt q pm om (J7 m))(ht:CellsAt q pth ot (Vn t))(hq:CodQ q t)(hin: ∀ x∈t.ins,Kd x)(hL:t.ins.length<=65536):CallF prog G 189 [.pointer (some ⟨pm,om,none⟩),.pointer (some ⟨pth,ot,none⟩)] (q) (Ret fun v q'=>((dOf m t).2≠0/\v= .tuple [.slice none 0 0,I64 (dOf m t).2].toArray/\q'=q)\/((dOf m t).2=0/\ ∃ a' c',v= .tuple [.slice a' (dOf m t).1.length c',I64 0].toArray/\q'=lsH I64 3 a' c' (dOf m t).1::q)):=by
 refine aB func189 ntmps189 rfl fun F cs=> ?_;have hs:=hq.i;have p0:=Zx (f:=Y8) (sz:=4) (fun _=>rfl) t.ins;have hc: ∀ x∈t.ins,1<=x.c/\x.c<=34:=fun x hx=>(hin x hx).1
 refine xo 12 ?_;refine ld ?_ (hc:=((ht 2 _ rfl).le leA));refine ox 3 ?_;refine xp 19 ?_ ?_<;>intro h0
 . refine xx 6 ?_;have hD:dOf m t=([],170):=by unfold dOf;rw [if_pos (by omega)]
   refine Zq (q) func189 (Q4 results189 rfl rfl) ⟨_,rfl,.inl ⟨by rw [hD];decide,by rw [hD],rfl⟩⟩
 have hN:0<t.ins.length:=by omega
 refine xo 7 ?_;refine bM call251 (Xm (hm.le leA) (ht.le leA) (hq.le leA)) ?_;refine ox 2 ?_;refine xp 23 ?_ ?_<;>intro h1
 . refine xx 6 ?_;have hD:dOf m t=([],171):=by unfold dOf;rw [if_neg (by omega),if_pos (by simpa using h1)]
   refine Zq (q) func189 (Q4 results189 rfl rfl) ⟨_,rfl,.inl ⟨by rw [hD];decide,by rw [hD],rfl⟩⟩
 have d:dOf m t=Gk (Hf t) t.ins.length ((List.replicate t.ins.length (-1)).set 0 0) (List.replicate t.ins.length false):=by unfold dOf;rw [if_neg (by omega),if_neg (by simpa using h1)]
 generalize dOf m t=T at d|-;refine xo 7 ?_;refine ld ?_ (hc:=((ht 2 _ rfl).le leA));refine oo 1 ?_;refine bU (Ef.make (n:=t.ins.length) rfl rfl underlying23 Fa rfl rfl (by omega) (by omega)) ?_;rintro _ _ ⟨w,rfl,rfl⟩;refine eP (q':=lsH I64 3 (some ⟨w,0,none⟩) t.ins.length (List.replicate t.ins.length 0)::_) (aM Zj (by rw [show lsH I64 3 (some ⟨w,0,none⟩) t.ins.length (List.replicate t.ins.length 0)=slH (some ⟨w,0,none⟩) t.ins.length 3 1 t.ins.length ((List.replicate t.ins.length (Value.cells (I64 0)).toList).flatten) from by unfold lsH;rw [cO];congr 1;induction t.ins.length with|zero=>rfl|succ n ih=>simp [List.replicate_succ,Value.cells] at*];exact aH _)) ?_;refine Zh zeroValue23 fun n1=> ?_
 refine rn [0,4,0,4] ?_;refine aX (cC (fun (s:List Int×Nat)=>s.1.length=t.ins.length/\s.2<=t.ins.length/\ ∀ i (h:i<s.1.length),i<s.2->s.1[i]= -1) (fun s=> [(32,I64 (s.2:Int)),(31,I64 t.ins.length),(6,pt n1),(5,I64 0),(4,.slice none 0 0),(0,.pointer (some ⟨pm,om,none⟩)),(1,.pointer (some ⟨pth,ot,none⟩))]) (fun s=>pto n1 (.cells [.slice (some ⟨w,0,none⟩) t.ins.length t.ins.length].toArray 23 (0,0))::lsH I64 3 (some ⟨w,0,none⟩) t.ins.length s.1::(q++F)) (fun s=>t.ins.length - s.2) (fun s a0 ih=> ?_) (List.replicate t.ins.length 0,0) ⟨by simp,by omega,fun i _ h=>aV h (jT _)⟩) Zn leA;try dsimp only at a0 ih|-
 obtain ⟨r0,z1,l0⟩:=a0;obtain ⟨D,k⟩:=s;dsimp only at*;refine xx 5 ?_;refine xp 33 ?_ ?_<;>intro h2
 . refine rn [10,0,2] ?_;refine dM (D7 (l:=D) (n:=k) (u:= -1) rfl rfl sizeOf3 rfl (by omega) rfl rfl Zj) ?_;rintro _ _ ⟨rfl,rfl⟩;refine ox 6 ?_;refine aX (ih (D.set k (-1),k+1) ⟨by rw [bK];exact r0,by dsimp only;omega,fun i hh hk=>by dsimp only at hk hh|-;rw [List.getElem_set];split;rfl;exact l0 i (by rw [bK] at hh;exact hh) (by omega)⟩ (by dsimp only;omega)) Zn leA
 have o0:D=List.replicate t.ins.length (-1):=fill_eq r0 (fun i h1 h3=>l0 i h1 (by omega));clear l0;refine rn [4,0,1] ?_;refine dM (D7 (l:=D) (n:=0) (u:=0) rfl rfl sizeOf3 rfl (by omega) rfl rfl Zj) ?_;rintro _ _ ⟨rfl,rfl⟩;refine oo 3 ?_;refine bU (Yu I64 [0] underlying411 Fa rfl rfl rfl rfl rfl rfl (fun _=>rfl)) ?_;rintro _ _ ⟨g1,rfl,rfl⟩;refine Zl fun n2=> ?_
 refine Zh zeroValue410 fun n3=> ?_
 refine rn [0,3] ?_;refine Zh zeroValue34 fun n4=> ?_
 refine rn [0,5] ?_;subst o0;refine aX (Zv2 (fun (s:List Int×List Bool×List Int×Nat×List Nat)=>HI s.1 s.2.1 s.2.2.1/\s.1.length=t.ins.length/\(s.2.1.filter (· ==false)).length<=s.2.2.2.1/\Gk (Hf t) s.2.2.2.1 s.1 s.2.1=T) (fun s=> [(8,pt n3),(9,pt n4),(6,pt n1),(5,I64 0),(4,.slice none 0 0),(0,.pointer (some ⟨pm,om,none⟩)),(1,.pointer (some ⟨pth,ot,none⟩))]) (fun s=>s.2.2.2.2.map markD++ []) (fun s=>mks s.2.2.2.2::pto n1 (.cells [.slice (some ⟨w,0,none⟩) t.ins.length t.ins.length].toArray 23 (0,0))::lsH I64 3 (some ⟨w,0,none⟩) t.ins.length s.1::plB n2 s.2.2.1::pto n3 (.cells [pt n2].toArray 410 (0,0))::pto n4 (.cells zz6.toArray 34 (0,0))::(q++F)) (fun s=>s.2.2.2.1) (fun s a0 ih=> ?_) ((List.replicate t.ins.length (-1)).set 0 0,List.replicate t.ins.length false, [0],t.ins.length, []) ⟨HI.init hN,by simp,dR (fZ _ _) (by simp),d.symm⟩) Zn (by refine aM ?_ (Pg _);refine bD Zj (bD Zj (Le.bx (a:=some ⟨g1,0,none⟩) (c:=1) ?_));exact leA);try dsimp only at a0 ih|-
 obtain ⟨hI,v0,s1,d⟩:=a0;skip;obtain ⟨D,dn,l,fu,rs⟩:=s;dsimp only at hI v0 s1 d ih|-;have y1:l.length<=65536:=by have:=hI.cnt;omega
 refine cS (q':=plB n2 l::_) Zj (X.bx (fun a1 c1=> ?_));refine rn [3,0,1,0] ?_;refine Vg call252 (Xj (b:=n2)) ?_;refine kd0 ?_;refine ox 2 ?_;refine cS (q':=plB n2 l::_) (Le.bx (a:=a1) (c:=c1) (bD Zj Zj)) ?_;refine xp 47 ?_ ?_<;>intro h3
 . refine rn [5,0,1] ?_;refine Vg call253 (hPop_ok (b:=n2) hI.hp (by omega) (by omega)) ?_;rintro _ _ ⟨x,l',rfl,q1,m1,j1,rfl⟩ _ e_;simp only [ca,na] at e_;subst e_;obtain ⟨x1,o,q0,e0,u0⟩:=hI.pop q1 m1 j1;obtain ⟨a,rfl⟩: ∃ a:Nat,x=a:=⟨x.toNat,by omega⟩;simp only [cT] at o q0 e0 u0;have b2:=fil_pos (a:=a) (dn:=dn) (by rw [hI.len];exact o) e0.2;have a2:=fil_set dn a (by rw [hI.len];exact o) e0.2;obtain ⟨fv,rfl⟩: ∃ f,fu=f+1:=⟨fu - 1,by omega⟩;rw [Zwh q0,Rj o] at d;have d1:=hI.rng a;have i0:=e0.1;rw [Rj o] at d1 i0;have b0:a<t.ins.length:=by omega
   refine Vl (Pv rfl underlying3 rfl) ?_;refine rn [6,0,2] ?_;refine ld ?_ (hc:=(gP (bY _) Zj o rfl));refine bM call254 (look_ok (n:=a) (dep:=D[a]) (g.le leA) (ht.le leA) (hq.le leA) hc hL b0 (by omega)) ?_;have p:(Qj (Hf t) a D[a]).2=0->(∀ x∈Rt ((Hf t).getD a zI) a,x<((Hf t).length:Int))/\0<=(Qj (Hf t) a D[a]).1/\(Qj (Hf t) a D[a]).1<=25:=fun h=>⟨(Lu h).1,(Lu h).2.1 i0,oneS_le h⟩
   generalize Qj (Hf t) a D[a]=O at d p|-;refine oo 3 ?_;refine Zh zeroValue3 fun n5=> ?_
   refine rn [0,8] ?_;refine cY 63 rfl ?_ ?_<;>intro h4
   . have k0:O.2≠0:=by simpa using h4
     refine rn [4,0,5,0,2] ?_;refine jC 96 ?_ rfl (by rw [iA];exact k0);refine rn [2,0,1,2,3,0] ?_;have d0:T=([],O.2):=by rw [if_pos k0] at d;exact d.symm
     refine jA ⟨rfl,?_⟩;refine Lv.mks ?_;exact gE (q':=q) func189 (Q4 results189 rfl rfl) ⟨_,rfl,.inl ⟨by rw [d0];exact k0,by rw [d0],rfl⟩⟩ leB
   replace h4:=sp h4;rw [if_neg (by omega),Hr b0] at d;obtain ⟨p,v1,u1⟩:=p (by omega);rw [Hr b0,Ku] at p;rw [<-Zzi] at p d;refine xo 7 ?_;refine ld ?_ (hc:=((ht 2 _ rfl).le leA));refine oo 1 ?_;refine Ql hs (by rw [p0];omega) fun b1 o1 e1=> ?_;have n0:=hs;rw [e1] at n0;refine aW 68 (.slice (some ⟨b1,o1,none⟩) t.ins.length t.ic) rfl (by rw [e1]) ?_;refine oo 1 ?_;refine Qi (n:=a) isAgg222 sizeOf222 n0 b0 ?_;refine oo 1 ?_;refine Vg call255 (L8 (x:=t.ins[a])) ?_;refine kd2 fun p1 p2=> ?_
   refine ox 2 ?_;refine cS (q':=pto p1 (.cells (Y8 t.ins[a]).toArray 222 (0,0))::_) Zj (fX ?_);refine cS (q':=pto p2 (.cells [I64 a].toArray 3 (0,0))::_) Zj (fX ?_);have y0: ∀ y∈nxt t.ins[a] (a:Int),0<=y/\y<t.ins.length:=fun y hy=>⟨nxt_mem (hin _ (aC b0)) a y hy,p y hy⟩
   refine X.range [im p1 (.cells (Y8 t.ins[a]).toArray 222 (0,0)),im p2 (.cells [I64 a].toArray 3 (0,0))] (fun k=>viH D (dn.set a true) O.1 (nxt t.ins[a] (a:Int)) w t.ins.length n2 k::pto n1 (.cells [.slice (some ⟨w,0,none⟩) t.ins.length t.ins.length].toArray 23 (0,0))::pto n3 (.cells [pt n2].toArray 410 (0,0))::pto n4 (.cells zz6.toArray 34 (0,0))::pto n5 (.cells [I64 O.1].toArray 3 (0,0)):: []) (fun e qs=>e= .exit 2/\qs=Wx.pure (Qn O.1 D (nxt t.ins[a] (a:Int))=none)::pto n4 (.cells [I64 174].toArray 34 (0,0)):: []) (F:=mks rs::(q++F)) (Fj (x:=t.ins[a]) ⟨by omega,by omega⟩) rfl ?_ (by intro x hx;obtain ⟨y,_,rfl⟩:=bS.1 hx;rfl) rfl (by rw [func189];rfl) rfl (fun i hi l2 rec F0 d2=> ?_) (fun r=> ?_) fun r c2 w1 hJ=> ?_
   . simp only [ca,na];refine Zzy (D,l') ⟨u0,rfl,by simp⟩ ?_;exact leA
   . have s0:i<(nxt t.ins[a] (a:Int)).length:=by simpa using hi
     rw [iG];simp only [Gq,ivs];have x0:=y0 _ (aC s0);obtain ⟨y,hy⟩: ∃ y:Nat,(nxt t.ins[a] (a:Int))[i]=(y:Int):=⟨((nxt t.ins[a] (a:Int))[i]).toNat,by omega⟩;rw [hy] at x0|-;simp only [ca,na];refine cS (q':=viH D (dn.set a true) O.1 (nxt t.ins[a] (a:Int)) w t.ins.length n2 i::_) Zj (X.viH (fun D1 l1 hV=> ?_));have c0:=hV.len;dsimp only at c0;have j:y<D1.length:=by omega
     have j0:=hV.step s0 hy j;have f0:=hV.hi.rng y;dsimp only at f0;rw [Rj j] at f0;have t1:=hV.hi.cnt;dsimp only at t1;refine xx 3 ?_;refine fM rfl leA ?_;refine rn [3,0,2] ?_;refine ld ?_ (hc:=(gP (bY _) Zj j rfl));refine ox 2 ?_;refine xp 79 ?_ ?_<;>intro k1
     . refine rn [3,0,1,0,1] ?_;refine dM (D7 (l:=D1) (n:=y) (u:=O.1) rfl rfl sizeOf3 rfl j rfl rfl Zj) ?_;rintro _ _ ⟨rfl,rfl⟩;refine rn [2,0,3] ?_;refine Vg call256 (hPush_ok (b:=n2) (l:=l1) (z:=(y:Int)) hV.hi.hp (by omega)) ?_;rintro _ _ ⟨w0,i1,f1,rfl⟩ _ e_;simp only [ca,na] at e_;subst e_;refine ox 2 ?_;refine gC ⟨rfl,rfl,?_⟩;simp only [ca,na];refine bD Zj (Zzy (D1.set y O.1,w0) ⟨hV.hi.push j (by rw [Rj j];exact k1) ⟨v1,u1⟩ f1 i1,by rw [bK];exact c0,by rw [j0,if_neg (by omega)]⟩ ?_);exact leA
     refine rn [2,0,1,2,3] ?_;refine ldD 3 ?_ (hc:=(gP (bY _) Zj j rfl));refine rn [5,6,0] ?_;refine xp 94 ?_ ?_<;>intro k2
     . refine rn [3,0,1] ?_;refine X.out rfl ⟨rfl,rfl,_,⟨rfl,rfl⟩,?_⟩;simp only [ca,na];refine bD Zj (aM ?_ (Yc (show Qn O.1 D (nxt t.ins[a] (a:Int))=none by rw [j0,if_pos ⟨by omega,by omega⟩]) _));exact leA
     refine xx 3 ?_;have z0:D1.set y O.1=D1:=by rw [<-k2];exact gA j
     refine gC ⟨rfl,rfl,?_⟩;simp only [ca,na];refine bD Zj (Zzy (D1,l1) ⟨hV.hi,c0,by rw [j0,if_neg (by omega),z0]⟩ ?_);exact leA
   . simp only [ca,na];rw [aI];refine cS (q':=viH D (dn.set a true) O.1 (nxt t.ins[a] (a:Int)) w t.ins.length n2 (nxt t.ins[a] (a:Int)).length::_) Zj (X.viH (fun D1 l1 hV=> ?_));have c0:=hV.len;have t0:=hV.hi;have m0:=hV.go;dsimp only at c0 t0 m0;rw [dP] at m0;rw [m0] at d;simp only [Qn] at d;refine xx 2 ?_;refine aX (ih (D1,dn.set a true,l1,fv,r::rs) ⟨t0,by dsimp only;omega,by dsimp only;omega,d⟩ (by dsimp only;omega)) Zn (by refine aM ?_ (Ff _ _ _);exact leB)
   obtain ⟨rfl,rfl⟩:=hJ;simp only [ca,na];refine cS (q':=Wx.pure (Qn O.1 D (nxt t.ins[a] (a:Int))=none)::_) Zj (X.pure (fun hP=> ?_));rw [hP] at d;dsimp only at d;refine rn [4,0,2] ?_;refine jC 96 ?_ rfl (by rw [iA];decide);refine rn [2,0,1,2,3,0] ?_;have d0:T=([],174):=d.symm;refine jA ⟨rfl,?_⟩;refine Ke ?_;refine Lv.mks ?_;exact gE (q':=q) func189 (Q4 results189 rfl rfl) ⟨_,rfl,.inl ⟨by rw [d0];decide,by rw [d0],rfl⟩⟩ leB
 have r1:l= []:=aS (by omega);rw [r1] at hI;rw [thrS_end fu hI] at d;refine rn [5,0,2,1096,4,0,3] ?_;refine jA ⟨rfl,?_⟩;refine Lv.mks ?_;exact gE (q':=(lsH I64 3 (some ⟨w,0,none⟩) t.ins.length D::q)) func189 (Q4 results189 rfl rfl) ⟨_,rfl,.inr ⟨by rw [<-d],_,_,by rw [<-d,v0],by rw [<-d]⟩⟩ leB
end
def Sg (m:Mdl):List Cod->Int
 | []=>0
 |t::r=>if (dOf m t).2≠0 then (dOf m t).2 else Sg m r
def Hy (m:Mdl):Int:=if Iq m≠0 then Iq m else Sg m m.threads
theorem Zxb (h:Iq m=0){t:Cod}(ht:t∈m.threads):(∀ x∈t.ins,Kd x)/\t.ins.length<=65536:=by
 have b:=Tf.1 h;have a:=b.2.2.2.2.2.2 t ht;exact ⟨a.2.2.2.1.2,by have:=a.2.2.2.1.1;omega⟩
section
variable {n:Int}{t:Cod}
variable {n:Nat}{th:Int}
abbrev Ak (v0:Mdl):=((.cells (J7 v0).toArray 109 (0,0)):Obj)
theorem L9 (gc:GC q)(g:GE q)(hq:MdlQ q m):CallF prog G 111 [.agg (J7 m).toArray] (q) (Ret fun v q'=>v= I64 (Hy m)/\q'=q):=by
 refine aB func111 ntmps111 rfl fun F cs=> ?_;have d:=Zx (f:=Vn) (sz:=4) (fun _=>rfl) m.threads;have w:=hq.nt;refine xo 2 ?_;refine Zl fun n=> ?_
 refine rn [5,0] ?_;refine bM call99 (Zzj (gc.le leA) (hq.le leA)) ?_;refine ox 7 ?_;refine xp 10 ?_ ?_<;>intro z
 . refine xx 6 ?_;refine Zq (q) func111 (Zf results111 rfl) ⟨_,rfl,by unfold Hy;rw [if_pos (by omega)],rfl⟩
 have k:Iq m=0:=by omega
 refine rn [6,0,4] ?_;refine aX (cC (fun (s:Nat)=>s<=m.threads.length/\Sg m m.threads=Sg m (m.threads.drop s)) (fun s=> [(15,I64 s),(14,I64 m.threads.length),(1,pt n),(2,I64 0)]) (fun s=>pto n (Ak m)::(q++F)) (fun s=>m.threads.length - s) (fun s e o=> ?_) 0 ⟨bC _,rfl⟩) Zn leA;try dsimp only at e o|-
 obtain ⟨u,i⟩:=e;refine xx 5 ?_;refine xp 16 ?_ ?_<;>intro z
 . have a:s<m.threads.length:=by omega
   obtain ⟨l,y⟩:=Zxb k (aC a);have b:Sg m (m.threads.drop s)=if (dOf m m.threads[s]).2≠0 then (dOf m m.threads[s]).2 else Sg m (m.threads.drop (s+1)):=by rw [aP a];rfl
   refine rn [12,0,1] ?_;refine Ql hq.t (by rw [d];omega) fun b1 r p=> ?_;have c:=hq.t;rw [p] at c;refine aW 20 (.slice (some ⟨b1,r,none⟩) m.threads.length m.tc) rfl (by rw [p]) ?_;refine oo 1 ?_;refine Zv call189 (aH _) (X3 (m:=m) (t:=m.threads[s]) (g.le leA) (dH Vb) (fD (j:=(s:Int)) c leA (fun _=>rfl) a (by omega)) ((hq.x _ (aC a)).le leA) l y) ?_;rintro _ _ (⟨h,rfl,rfl⟩|⟨h,a1,c1,rfl,rfl⟩)
   . refine ox 11 ?_;refine jC 27 ?_ rfl (by rw [iA];exact h);refine xx 6 ?_;refine Zq (q) func111 (Zf results111 rfl) ⟨_,rfl,by unfold Hy;rw [if_neg (by omega),i,b,if_pos h],rfl⟩
   refine rn [11,1027,7] ?_;refine aX (o (s+1) ⟨by omega,by rw [i,b,if_neg (by omega)]⟩ (by omega)) Zn leA
 refine xx 6 ?_;refine Zq (q) func111 (Zf results111 rfl) ⟨_,rfl,by unfold Hy;rw [if_neg (by omega),i,cL (by omega)];rfl,rfl⟩
end
mutual
def PEx.sz:PEx->Nat
 | .mk _ _ _ _ _ _ args=>Vy args+1
def Vy:List PEx->Nat
 | []=>0
 |e::r=>e.sz+Vy r
end
mutual
theorem Z6: ∀ (e:Ex),e.er.sz=e.sz
 | .mk _ _ _ _ _ _ args _ _=>by simp only [Ex.er,PEx.sz,Ex.sz,Pt args]
theorem Pt: ∀ (l:List Ex),Vy (Z5 l)=Wf l
 | []=>rfl
 |e::r=>by simp only [Z5,Vy,Wf,Z6 e,Pt r]
end
mutual
/-- What an expression that may be is like. -/
def PEx.fit:PEx->Prop
 | .mk k n _ _ _ op args=>(1<=k/\k<=6)/\args.length=Rr k/\(k=1->0<=n/\n<=2147483647)/\(k=6->1<=op/\op<=11)/\Q1 args
def Q1:List PEx->Prop
 | []=>True
 |e::r=>e.fit/\Q1 r
end
theorem Ud {x:PEx}: ∀ {l:List PEx},Q1 l->x∈l->x.fit
 |y::r,⟨h1,h2⟩,h=>by
  rcases bG.1 h with rfl|h
  . exact h1
  exact Ud h2 h
mutual
theorem Mj: ∀ {e:PEx} {d:Nat},e.right d=true->e.fit
 | .mk k n nm _ _ op args,d,h=>by
  simp only [PEx.right] at h;split at h
  . cases h
  split at h
  . rename_i b;rw [aR,aR,cP] at h;obtain ⟨⟨a,f⟩,c⟩:=h;refine ⟨b,f,fun h=> ?_,fun h=> ?_,Ta c⟩
    . subst h;unfold Zk8 at a;rw [if_pos rfl,aR] at a;simpa using a
    subst h;unfold Zk8 at a;rw [if_neg (by decide),if_neg (by decide),if_pos rfl,aR] at a;simpa using a
  cases h
theorem Ta: ∀ {l:List PEx} {d:Nat},Wy l d=true->Q1 l
 | [],_,_=>trivial
 |e::r,d,h=>by
  simp only [Wy,aR] at h;exact ⟨Mj h.1,Ta h.2⟩
end
mutual
def PEx.plain:PEx->Bool
 | .mk k _ _ _ _ _ args=>if k=2\/k=3 then false else Uf args
def Uf:List PEx->Bool
 | []=>true
 |e::r=>e.plain && Uf r
end
mutual
/-- What an expression without names is worth, and its trap. -/
def PEx.ev:PEx->Int×Int
 | .mk k n _ _ _ op args=>
  if k=1 then (n,0)
  else if ((PEx.evs args).getD 0 (0,0)).2≠0 then (PEx.evs args).getD 0 (0,0)
  else if k=4 then Ms 8 0 ((PEx.evs args).getD 0 (0,0)).1
  else if k=5 then (Mo (((PEx.evs args).getD 0 (0,0)).1==0),0)
  else if (op=1/\((PEx.evs args).getD 0 (0,0)).1≠0)\/(op=2/\((PEx.evs args).getD 0 (0,0)).1=0) then (Mo (op==1),0)
  else if ((PEx.evs args).getD 1 (0,0)).2≠0 then (PEx.evs args).getD 1 (0,0)
  else if op<=2 then (Mo (((PEx.evs args).getD 1 (0,0)).1 !=0),((PEx.evs args).getD 1 (0,0)).2)
  else Ms op ((PEx.evs args).getD 0 (0,0)).1 ((PEx.evs args).getD 1 (0,0)).1
def PEx.evs:List PEx->List (Int×Int)
 | []=> []
 |e::r=>e.ev::PEx.evs r
end
theorem U8 (b:Bool):val (Mo b):=by cases b<;>decide
theorem Od (op a b:Int):val (Ms op a b).1:=by
 unfold Ms;split;exact U8 _;split;exact U8 _;split;exact U8 _;split;exact U8 _;split;decide;have h: ∀ n:Int,val (if val n then ((n,0):Int×Int) else (0,2)).1:=fun n=>by by_cases h:val n;rw [if_pos h];exact h;rw [if_neg h];decide
 exact h _
mutual
theorem Vt: ∀ {e:PEx},e.fit->val e.ev.1
 | .mk k n nm _ _ op args,⟨hk,h1,h2,h3,h4⟩=>by
  have b:=Fx h4
  have a: ∀ i,val ((PEx.evs args).getD i (0,0)).1:=fun i=>by
   rcases dJ i (PEx.evs args).length with h|h
   . rw [gD h];exact b _ (aC h)
   rw [aG,eU h];decide
  simp only [PEx.ev];split
  . rename_i h;have:=h2 h;unfold val;dsimp only;omega
  split;exact a 0
  split;exact Od _ _ _
  split;exact U8 _
  split;exact U8 _
  split;exact a 1
  split;exact U8 _
  exact Od _ _ _
theorem Fx: ∀ {l:List PEx},Q1 l-> ∀ x∈PEx.evs l,val x.1
 | [],_,x,h=>by cases h
 |e::r,⟨h1,h2⟩,x,h=>by
  rcases bG.1 h with rfl|h
  . exact Vt h1
  exact Fx h2 x h
end
def PEx.one (e:PEx):Bool:=e.plain && e.ev.2==0
mutual
def PEx.code:PEx->Int->List Ins
 | .mk k n nm slot loc op args,at_=>
  if (PEx.one (.mk k n nm slot loc op args))=true then [⟨1,0,0,(PEx.ev (.mk k n nm slot loc op args)).1⟩]
  else if k=2 then [⟨if loc=true then 3 else 2,slot,0,0⟩]
  else if k=1 then [⟨1,0,0,n⟩]
  else
   let a:=(PEx.codes args).getD 0 (fun _=> []) at_
   if k=6/\op<=2 then
    let b:=(PEx.codes args).getD 1 (fun _=> []) (at_+a.length+1)
    a++ [⟨if op=2 then 20 else 21,at_+a.length+1+b.length+2,0,0⟩]++b++ [⟨22,0,0,0⟩,⟨19,at_+a.length+1+b.length+2+1,0,0⟩,⟨1,0,0,2 - op⟩]
   else if k=3 then a++ [⟨4,slot,0,0⟩]
   else if k=4 then a++ [⟨8,0,0,0⟩]
   else if k=5 then a++ [⟨9,0,0,0⟩]
   else a++(PEx.codes args).getD 1 (fun _=> []) (at_+a.length)++ [⟨op+7,0,0,0⟩]
def PEx.codes:List PEx->List (Int->List Ins)
 | []=> []
 |e::r=>e.code::PEx.codes r
end
theorem R3: ∀ (l:List PEx),PEx.codes l=l.map PEx.code
 | []=>rfl
 |e::r=>by rw [PEx.codes,R3 r,bA]
theorem Fy: ∀ (l:List PEx),PEx.evs l=l.map PEx.ev
 | []=>rfl
 |e::r=>by rw [PEx.evs,Fy r,bA]
theorem Ed {l:List PEx}(h:i<l.length):(l[i]).sz<=Vy l:=by
 induction l generalizing i with
 |nil=>simp at h
 |cons e r ih=>
  cases i with
  |zero=>simp only [fT,Vy];omega
  |succ i=>have:=ih (i:=i) (by simpa using h);simp only [fU,Vy];omega
mutual
theorem Za: ∀ (e:PEx) (a:Int),(e.code a).length<=4*e.sz
 | .mk k n nm slot loc op args,a=>by
  have c: ∀ a b,((PEx.codes args).getD 0 (fun _=> []) a).length+((PEx.codes args).getD 1 (fun _=> []) b).length<=4*Vy args:=P8 args;have d: ∀ a,((PEx.codes args).getD 0 (fun _=> []) a).length<=4*Vy args:=fun a=>by have:=c a 0;omega
  simp only [PEx.code,PEx.sz];split;(simp only [aJ,aT];omega);split;(simp only [aJ,aT];omega);split;(simp only [aJ,aT];omega);have f:=d a;split
  . have:=c a (a+(((PEx.codes args).getD 0 (fun _=> []) a).length:Int)+1);simp only [aA,aJ,aT];omega
  split;(simp only [aA,aJ,aT];omega)
  split;(simp only [aA,aJ,aT];omega)
  split;(simp only [aA,aJ,aT];omega)
  have:=c a (a+(((PEx.codes args).getD 0 (fun _=> []) a).length:Int));simp only [aA,aJ,aT];omega
theorem P8: ∀ (l:List PEx) (a b:Int),((PEx.codes l).getD 0 (fun _=> []) a).length+((PEx.codes l).getD 1 (fun _=> []) b).length<=4*Vy l
 | [],a,b=>by simp [PEx.codes]
 | [e],a,b=>by have:=Za e a;simp [PEx.codes,Vy];omega
 |e::x::r,a,b=>by have d:=Za e a;have c:=Za x b;simp [PEx.codes,Vy];omega
end
def lnd (l:List Ins)(ln:Int):List (Ins×Int):=l.map fun i=>(i,ln)
def intoS (slot:Int)(loc:Bool):Ins:=⟨if loc=true then 6 else 5,slot,0,0⟩
def Vm (main t:Int):Int:=if t=main then 0 else if t<main then t+1 else t
def Qz (k:Int)(e ix:PEx)(id at_:Int):List Ins:=
 let c1:List Ins:=if k=3 then [⟨23,id,0,0⟩]++ix.code (at_+1) else [⟨23,id,0,0⟩]
 if k<=5\/k=11\/k=15 then c1++e.code (at_+c1.length) else c1
def Uq (main k slot other:Int)(loc:Bool):List Ins:=
 if k=1\/k=2 then [intoS slot loc] else if k=3 then [⟨7,slot,0,0⟩] else if k=6 then [⟨24,slot,0,0⟩] else if k=7 then [⟨25,slot,0,0⟩]
 else if k=8 then [⟨26,slot,other,0⟩] else if k=9 then [⟨27,slot,0,0⟩] else if k=10 then [⟨28,slot,0,0⟩] else if k=11 then [⟨29,slot,0,0⟩]
 else if k=12 then [⟨30,slot,0,0⟩,intoS other loc] else if k=13 then [⟨31,Vm main slot,0,0⟩] else if k=14 then [⟨32,0,0,0⟩] else [⟨33,0,0,0⟩]
mutual
def PStm.code (main:Int):PStm->Int->List (Ins×Int)
 | .mk k ln _ _ _ e ix body els id slot other loc,at_=>
  let c:=Qz k e ix id at_
  if k=4 then
   let b:=PStm.codes main body (at_+c.length+1)
   let n:Int:=at_+c.length+1+b.length
   if els= [] then lnd (c++ [⟨20,n,0,0⟩]) ln++b
   else
    let o:=PStm.codes main els (n+1)
    lnd (c++ [⟨20,n+1,0,0⟩]) ln++b++lnd [⟨19,n+1+o.length,0,0⟩] ln++o
  else if k=5 then
   let b:=PStm.codes main body (at_+c.length+1)
   lnd (c++ [⟨20,at_+c.length+1+b.length+1,0,0⟩]) ln++b++lnd [⟨19,at_,0,0⟩] ln
  else lnd (c++Uq main k slot other loc) ln
def PStm.codes (main:Int):List PStm->Int->List (Ins×Int)
 | [],_=> []
 |s::r,at_=>s.code main at_++PStm.codes main r (at_+(s.code main at_).length)
end
def Yx (main:Int)(t:PTh):List (Ins×Int):=PStm.codes main t.body 0++lnd [⟨34,0,0,0⟩] 0
mutual
/-- How much code a statement makes at most. -/
def PStm.wt:PStm->Nat
 | .mk _ _ _ _ _ e ix body els _ _ _ _=>4*e.sz+4*ix.sz+6+Zo body+Zo els
def Zo:List PStm->Nat
 | []=>0
 |s::r=>s.wt+Zo r
end
mutual
/-- What a statement that was found is like. -/
def PStm.fit:PStm->Prop
 | .mk k _ _ _ _ e ix body els _ slot _ _=>(1<=k/\k<=15)/\(k<=5\/k=11\/k=15->e.fit)/\(k=3->ix.fit)/\(k=13->0<=slot/\slot<=1000000)/\Mr body/\Mr els
def Mr:List PStm->Prop
 | []=>True
 |s::r=>s.fit/\Mr r
end
theorem preS_len (k:Int)(e ix:PEx)(id t:Int):(Qz k e ix id t).length<=4*e.sz+4*ix.sz+1:=by
 have d:=Za ix (t+1);have a: ∀ b,(e.code b).length<=4*e.sz:=Za e;unfold Qz;dsimp only;split<;>split<;>simp only [aA,aJ,aT]<;>first|omega|(have c:=a (t+((0+1+(ix.code (t+1)).length:Nat):Int));omega)|(have c:=a (t+((0+1:Nat):Int));omega)
theorem Zwm (m k s o:Int)(l:Bool):(Uq m k s o l).length<=2:=by unfold Uq;repeat' split<;>try (simp only [aJ,aT];omega)
theorem Z9 (l:List Ins)(n:Int):(lnd l n).length=l.length:=by simp [lnd]
mutual
theorem P6 (m:Int): ∀ (s:PStm) (t:Int),(s.code m t).length<=s.wt
 | .mk k ln _ _ _ e ix body els id slot other loc,t=>by
  have g:=preS_len k e ix id t;have a:=Y5 m body;have c:=Y5 m els;have f:=Zwm m k slot other loc;simp only [PStm.code,PStm.wt];split
  . split
    . have b:=a (t+((Qz k e ix id t).length:Int)+1);simp only [aA,Z9,aJ,aT];omega
    have b:=a (t+((Qz k e ix id t).length:Int)+1);have d:=c (t+((Qz k e ix id t).length:Int)+1+((PStm.codes m body (t+((Qz k e ix id t).length:Int)+1)).length:Int)+1);simp only [aA,Z9,aJ,aT];omega
  split
  . have b:=a (t+((Qz k e ix id t).length:Int)+1);simp only [aA,Z9,aJ,aT];omega
  rw [Z9,aA];omega
theorem Y5 (m:Int): ∀ (l:List PStm) (t:Int),(PStm.codes m l t).length<=Zo l
 | [],_=>by simp [PStm.codes]
 |s::r,t=>by have b:=P6 m s t;have a:=Y5 m r (t+((s.code m t).length:Int));simp only [PStm.codes,Zo,aA];omega
end
theorem Nj (l:List Ins)(n:Int):(lnd l n).map Prod.fst=l:=by simp [lnd,Function.comp_def]
theorem Tl (m:Int): ∀ (l r:List PStm) (t:Int),PStm.codes m (l++r) t=PStm.codes m l t++PStm.codes m r (t+(PStm.codes m l t).length)
 | [],r,t=>by simp [PStm.codes]
 |s::l,r,t=>by
  have a:=Tl m l r (t+((s.code m t).length:Int));simp only [bO,PStm.codes,a,aK,aA];congr 3;omega
theorem Nc: ∀ (l r:List PStm),Zo (l++r)=Zo l+Zo r
 | [],r=>by simp [Zo]
 |s::l,r=>by simp only [bO,Zo,Nc l r];omega
theorem Dr {m:List Stm}{s:Nat}(h:s<m.length):Zk (m.take (s+1))=Zk (m.take s)++ [m[s].er]:=by rw [aN h,Ho];rfl
theorem Zqt {m:List Stm}{s:Nat}(h:s<m.length):Zo (Zk (m.take s))+m[s].er.wt<=Zo (Zk m):=by
 have a:Zk m=Zk (m.take (s+1))++Zk (m.drop (s+1)):=by rw [<-Ho,dZ]
 rw [a,Nc,Dr h,Nc];simp only [Zo];omega
def V3 (main:Int)(l:List PTh)(i:Nat):List PTh:=match l with
 | []=> []
 |t::r=>if (i:Int)=main then V3 main r (i+1) else t::V3 main r (i+1)
def Ui (F:Fnd):List PTh:=F.ths.getD F.main.toNat ⟨em,0, []⟩::V3 F.main F.ths 0
theorem E4 (main:Int): ∀ (l:List PTh) (i:Nat),(V3 main l i).length<=l.length
 | [],i=>aU _
 |x::r,i=>by have:=E4 main r (i+1);simp only [V3];split<;>simp only [aJ]<;>omega
def thP (main:Int)(t:PTh):ByteArray×Int×List Ins×List Int:=(t.nm,t.loc,(Yx main t).map Prod.fst,(Yx main t).map Prod.snd)
theorem Ea (main:Int)(t:PTh):(Yx main t).length<=Zo t.body+1:=by
 unfold Yx;rw [aA,Z9];have:=Y5 main t.body 0;simp;omega
structure ModOf (F:Fnd) (m:Mdl):Prop where
 v:m.vars=F.vars
 a:m.arrays=F.arrs
 c:m.chans=F.chs
 mu:m.mutexes=F.mu
 co:m.conds=F.co
 t:m.threads.map (fun x=>(x.name,x.locals,x.ins,x.lines))=(Ui F).map (thP F.main)
theorem Hc (main:Int){x:PTh}: ∀ (l:List PTh) (i:Nat),x∈V3 main l i->x∈l
 |y::r,i,h=>by
  simp only [V3] at h;split at h
  . exact bX _ (Hc main r _ h)
  rcases bG.1 h with rfl|h
  . exact bW
  exact bX _ (Hc main r _ h)
theorem mods_b {l:List Th}{main:Int}{mn:Nat}{T:List Cod}(hn: ∀ x∈l,x.nm.size<=9223372036854775807)(ht: ∀ x∈l,Zo (Zk x.body)<=999999999)(hmn:mn<l.length)
 (h:T.map (fun x=>(x.name,x.locals,x.ins,x.lines))=thP main (l[mn]).er::(V3 main (l.map Th.er) 0).map (thP main)): ∀ x∈T,x.name.size<=9223372036854775807/\x.ins.length<=9223372036854775807/\x.lines.length<=9223372036854775807:=by
 intro x c;have a:(fun x:Cod=>(x.name,x.locals,x.ins,x.lines)) x∈thP main (l[mn]).er::(V3 main (l.map Th.er) 0).map (thP main):=by rw [<-h];exact aZ c
 have i: ∃ y∈l,(x.name,x.locals,x.ins,x.lines)=thP main y.er:=by
  rcases bG.1 a with a|a
  . exact ⟨_,aC hmn,a⟩
  obtain ⟨p,d,e⟩:=bS.1 a;obtain ⟨y,b,m⟩:=bS.1 (Hc main _ _ d);exact ⟨y,b,by rw [m];exact e.symm⟩
 obtain ⟨y,b,e⟩:=i;unfold thP at e;simp only [jL] at e;obtain ⟨n, -,k,j⟩:=e;have g:=Ea main y.er;have o:=ht y b;have f:(Yx main y.er).length<=1000000000:=dR g (by show Zo (Zk y.body)+1<=_;omega);refine ⟨by rw [n];exact hn y b,by rw [k,aI];omega,by rw [j,aI];omega⟩
theorem Wb {w:Int}(hw:w≠0):(f.fl w).flaw≠0:=by
 unfold Fnd.fl;split
 . exact hw
 rename_i h;exact h
theorem Bm {g:Fnd}(h:((g.loc1 nm).loc2).flaw=0):(g.loc1 nm).loc2=g/\g.locals<32/\g.flaw=0:=by
 have e:(g.loc1 nm)=g:=by
  by_cases hk:g.at nm≠0
  . exfalso;have a:(g.loc1 nm).flaw≠0:=by unfold Fnd.loc1;rw [if_pos hk];exact Wb (by decide)
    unfold Fnd.loc2 at h;split at h
    . exact Wb (by decide) h
    exact a h
  unfold Fnd.loc1;rw [if_neg hk]
 rw [e] at h|-;unfold Fnd.loc2 at h|-;by_cases h5:32<=g.locals
 . rw [if_pos h5] at h;exact aV h (Wb (by decide))
 rw [if_neg h5] at h|-;exact ⟨rfl,by omega,h⟩
structure Cn.le (c d:Cn):Prop where
 v:c.v<=d.v
 a:c.a<=d.a
 mu:c.mu<=d.mu
 co:c.co<=d.co
 ch:c.ch<=d.ch
 th:c.th<=d.th
structure NmOk (c:Cn) (lo:Int) (x:Nm):Prop where
 z:0<=x.s
 v:x.k=1->x.s<c.v
 a:x.k=2->x.s<c.a
 mu:x.k=3->x.s<c.mu
 co:x.k=4->x.s<c.co
 ch:x.k=5->x.s<c.ch
 th:x.k=6->x.s<c.th
 lo:x.k=100->x.s<lo
theorem NmOk.up {c d:Cn}{x:Nm}(h:NmOk c lo x)(hc:c.le d)(hl:lo<=hi):NmOk d hi x:=by
 obtain ⟨l,k,j,i,g,f,b,a⟩:=h;obtain ⟨r,q,p,o,n,m⟩:=hc;exact ⟨l,fun e=>by have:=k e;omega,fun e=>by have:=j e;omega,fun e=>by have:=i e;omega,fun e=>by have:=g e;omega,fun e=>by have:=f e;omega,fun e=>by have:=b e;omega,fun e=>by have:=a e;omega⟩
theorem Cn.le_refl (c:Cn):c.le c:=⟨bL _,bL _,bL _,bL _,bL _,bL _⟩
def vaOk (c:Cn)(lo:Int)(s:Int)(l:Bool):Prop:=0<=s/\(if l=true then s<lo else s<c.v)
mutual
def PEx.wl (c:Cn)(lo:Int):PEx->Prop
 | .mk k _ _ slot loc _ args=>(k=2->vaOk c lo slot loc)/\(k=3->0<=slot/\slot<c.a)/\Rx c lo args
def Rx (c:Cn)(lo:Int):List PEx->Prop
 | []=>True
 |e::r=>e.wl c lo/\Rx c lo r
end
theorem vaOk.up {c:Cn}{s:Int}{l:Bool}(h:vaOk c lo s l)(hl:lo<=hi):vaOk c hi s l:=by
 unfold vaOk at*;refine ⟨h.1,?_⟩;have:=h.2;split<;>rename_i k
 . rw [if_pos k] at this;omega
 rw [if_neg k] at this;omega
mutual
theorem Mi {c:Cn}{lo hi:Int}(hl:lo<=hi): ∀ {e:PEx},e.wl c lo->e.wl c hi
 | .mk ..,⟨h1,h2,h3⟩=>⟨fun k=>(h1 k).up hl,h2,Py hl h3⟩
theorem Py {c:Cn}{lo hi:Int}(hl:lo<=hi): ∀ {l:List PEx},Rx c lo l->Rx c hi l
 | [],_=>trivial
 |_::_,⟨h1,h2⟩=>⟨Mi hl h1,Py hl h2⟩
end
theorem Fnd.wants_ok {s:ByteArray}{a b:Int}(h:(f.wants s a b).1.flaw=0):(f.wants s a b).1=f/\ ∃ x∈f.names,(x.k=a\/x.k=b)/\(f.wants s a b).2=(x.k,x.s):=by
 unfold Fnd.wants at h|-;have j:f.at s<=f.names.length:=Mn;split at h
 . exact aV h (Wb (by decide))
 rename_i i hi;have c:i<f.names.length:=by omega
 have g:(f.names.map fun x=>(x.k,x.s)).getD i (0,0)=(f.names[i].k,f.names[i].s):=by
  rw [aG,bJ,aE c];rfl
 dsimp only at h|-;rw [g] at h|-;split at h
 . exact aV h (Wb (by decide))
 rename_i d;rw [if_neg d];refine ⟨rfl,_,aC c,?_,rfl⟩;simp only [aR,iA,ne_eq,not_and,kE] at d;by_cases e:f.names[i].k=a
 . exact .inl e
 exact .inr (d e)
abbrev fV:=@Fnd.wants_ok
mutual
theorem U2: ∀ (e:PEx) (f:Fnd),(f.expr e).2.sz=e.sz/\(f.expr e).2.dep=e.dep/\(e.fit->(f.expr e).2.fit)
 | .mk k n nm slot loc op args,f=>by
  simp only [Fnd.expr];split
  . obtain ⟨j,i,h,g⟩:=Q3 args (f.wants nm 1 100).1;exact ⟨by simp only [PEx.sz,j],by simp only [PEx.dep,i],fun ⟨a,b,c,d,e⟩=>⟨a,h.trans b,c,d,g e⟩⟩
  split
  . obtain ⟨j,i,h,g⟩:=Q3 args (f.wants nm 2 2).1;exact ⟨by simp only [PEx.sz,j],by simp only [PEx.dep,i],fun ⟨a,b,c,d,e⟩=>⟨a,h.trans b,c,d,g e⟩⟩
  obtain ⟨j,i,h,g⟩:=Q3 args f;exact ⟨by simp only [PEx.sz,j],by simp only [PEx.dep,i],fun ⟨a,b,c,d,e⟩=>⟨a,h.trans b,c,d,g e⟩⟩
theorem Q3: ∀ (l:List PEx) (f:Fnd),Vy (f.exprs l).2=Vy l/\Ym (f.exprs l).2=Ym l/\(f.exprs l).2.length=l.length/\(Q1 l->Q1 (f.exprs l).2)
 | [],f=>⟨rfl,rfl,rfl,fun _=>trivial⟩
 |e::r,f=>by
  obtain ⟨k,j,i⟩:=U2 e f;obtain ⟨h,g,d,c⟩:=Q3 r (f.expr e).1;simp only [Fnd.exprs];exact ⟨by simp only [Vy,k,h],by simp only [Ym,j,g],by simp only [aJ,d],fun ⟨b,a⟩=>⟨i b,c a⟩⟩
end
mutual
theorem Ja {c:Cn}{lo:Int}: ∀ (e:PEx) (f:Fnd),(f.expr e).1.flaw=0->(f.expr e).1=f/\((∀ x∈f.names,NmOk c lo x)->(f.expr e).2.wl c lo)
 | .mk k n nm slot loc op args,f,h=>by
  simp only [Fnd.expr] at h|-;split at h
  . rename_i m;rw [if_pos m];obtain ⟨g,o⟩:=Kj (c:=c) (lo:=lo) args _ h;dsimp only at h g|-;rw [g] at h;obtain ⟨p,x,q,b,r⟩:=fV h;refine ⟨g.trans p,fun i=>⟨fun _=> ?_,fun e=>aV (m.symm.trans e) (by decide),o (by rw [p];exact i)⟩⟩;have d:=i x q;rw [r];refine ⟨d.z,?_⟩;dsimp only;rcases b with b|b
    . rw [if_neg (by rw [b];decide)];exact d.v b
    rw [if_pos (by rw [b];decide)];exact d.lo b
  rename_i l;rw [if_neg l];split at h
  . rename_i m;rw [if_pos m];obtain ⟨g,o⟩:=Kj (c:=c) (lo:=lo) args _ h;dsimp only at h g|-;rw [g] at h;obtain ⟨p,x,q,b,r⟩:=fV h;refine ⟨g.trans p,fun i=>⟨fun e=>aV (m.symm.trans e) (by decide),fun _=> ?_,o (by rw [p];exact i)⟩⟩;have d:=i x q;rw [r];exact ⟨d.z,d.a (by rcases b with e|e<;>exact e)⟩
  rename_i j;rw [if_neg j];obtain ⟨g,o⟩:=Kj (c:=c) (lo:=lo) args _ h;exact ⟨g,fun i=>⟨fun e=>aV e l,fun e=>aV e j,o i⟩⟩
theorem Kj {c:Cn}{lo:Int}: ∀ (l:List PEx) (f:Fnd),(f.exprs l).1.flaw=0->(f.exprs l).1=f/\((∀ x∈f.names,NmOk c lo x)->Rx c lo (f.exprs l).2)
 | [],f,_=>⟨rfl,fun _=>trivial⟩
 |e::r,f,h=>by
  simp only [Fnd.exprs] at h|-;obtain ⟨d,i⟩:=Kj (c:=c) (lo:=lo) r _ h;rw [d] at h;obtain ⟨a,g⟩:=Ja (c:=c) (lo:=lo) e f h;exact ⟨d.trans a,fun b=>⟨g b,i (by rw [a];exact b)⟩⟩
end
def ownOk (c:Cn)(lo k slot other:Int)(loc:Bool):Prop:=
 (k=1\/k=2->vaOk c lo slot loc)/\(k=3->0<=slot/\slot<c.a)/\(k=6\/k=7->0<=slot/\slot<c.mu)/\(k=8\/k=9\/k=10->0<=slot/\slot<c.co)/\(k=8->0<=other/\other<c.mu)/\(k=11\/k=12->0<=slot/\slot<c.ch)/\(k=12->vaOk c lo other loc)/\(k=13->0<=slot/\slot<c.th)
theorem ownOk.up {c:Cn}{k s o:Int}{l:Bool}(h:ownOk c lo k s o l)(hl:lo<=hi):ownOk c hi k s o l:=by
 obtain ⟨m,j,i,g,f,d,b,a⟩:=h;exact ⟨fun e=>(m e).up hl,j,i,g,f,d,fun e=>(b e).up hl,a⟩
mutual
def PStm.wl (c:Cn)(lo:Int):PStm->Prop
 | .mk k _ _ _ _ e ix body els id slot other loc=>(1<=k/\k<=15)/\(k<=5\/k=11\/k=15->e.fit/\e.dep<=24/\e.wl c lo)/\(k=3->ix.fit/\ix.dep<=24/\ix.wl c lo)/\(0<=id/\id<512)/\ownOk c lo k slot other loc/\Ww c lo body/\Ww c lo els
def Ww (c:Cn)(lo:Int):List PStm->Prop
 | []=>True
 |s::r=>s.wl c lo/\Ww c lo r
end
mutual
theorem Pw {c:Cn}{lo hi:Int}(hl:lo<=hi): ∀ {s:PStm},s.wl c lo->s.wl c hi
 | .mk ..,⟨h1,h2,h3,h4,h5,h6,h7⟩=>⟨h1,fun k=>⟨(h2 k).1,(h2 k).2.1,Mi hl (h2 k).2.2⟩,fun k=>⟨(h3 k).1,(h3 k).2.1,Mi hl (h3 k).2.2⟩,h4,h5.up hl,He hl h6,He hl h7⟩
theorem He {c:Cn}{lo hi:Int}(hl:lo<=hi): ∀ {l:List PStm},Ww c lo l->Ww c hi l
 | [],_=>trivial
 |_::_,⟨h1,h2⟩=>⟨Pw hl h1,He hl h2⟩
end
mutual
theorem Zqa {c:Cn}{lo:Int}(hc:c.th<=1000000): ∀ {s:PStm},s.wl c lo->s.fit
 | .mk ..,⟨h1,h2,h3,h4,h5,h6,h7⟩=>⟨h1,fun k=>(h2 k).1,fun k=>(h3 k).1,fun k=>by have:=h5.2.2.2.2.2.2.2 k;omega,J9 hc h6,J9 hc h7⟩
theorem J9 {c:Cn}{lo:Int}(hc:c.th<=1000000): ∀ {l:List PStm},Ww c lo l->Mr l
 | [],_=>trivial
 |_::_,⟨h1,h2⟩=>⟨Zqa hc h1,J9 hc h2⟩
end
structure Ctx (c:Cn) (f:Fnd):Prop where
 n: ∀ x∈f.names,NmOk c f.locals x
 l:0<=f.locals/\f.locals<=f.most/\f.most<=32
 s:0<=f.stm
theorem Zkh {c:Cn}{k ot:Int}{wt:ByteArray}{lo:Bool}(h:(f.own k nm wt sl ot lo).1.flaw=0)(hx:Ctx c f):
 f.flaw=0/\Ctx c (f.own k nm wt sl ot lo).1/\f.most<=(f.own k nm wt sl ot lo).1.most/\(f.own k nm wt sl ot lo).1.stm=f.stm/\ownOk c (f.own k nm wt sl ot lo).1.most k (f.own k nm wt sl ot lo).2.1 (f.own k nm wt sl ot lo).2.2.1 (f.own k nm wt sl ot lo).2.2.2:=by
 obtain ⟨g, hg⟩ : ∃ g, f.own1 k nm sl lo = g := ⟨_, rfl⟩; unfold Fnd.own at h |-; rw [hg] at h |-; -- behind own1 nothing is flawed
 have p:g.1.flaw=0:=by
  unfold Fnd.own2 at h;split at h
  . exact (Bm (show ((g.1.loc1 nm).loc2).flaw=0 from h)).2.2
  split at h
  . dsimp only at h;rw [<-(fV h).1];exact h
  split at h
  . dsimp only at h;rw [<-(fV h).1];exact h
  exact h
 have hw:g.1=f/\(k=2->vaOk c f.locals g.2.1 g.2.2)/\(k=3->0<=g.2.1/\g.2.1<c.a)/\(k=6\/k=7->0<=g.2.1/\g.2.1<c.mu)/\(k=8\/k=9\/k=10->0<=g.2.1/\g.2.1<c.co)/\(k=11\/k=12->0<=g.2.1/\g.2.1<c.ch)/\(k=13->0<=g.2.1/\g.2.1<c.th):=by
  rw [<-hg] at p|-;unfold Fnd.own1 at p|-;by_cases hz:(Hh k).1≠0
  . rw [if_pos hz] at p|-;obtain ⟨o,x,b,j,q⟩:=fV p;have i:=hx.n x b;rw [q];refine ⟨o,fun e=> ?_,fun e=> ?_,fun e=> ?_,fun e=> ?_,fun e=> ?_,fun e=> ?_⟩
    . subst e;refine ⟨i.z,?_⟩;dsimp only;rcases j with j|j
      . rw [if_neg (by rw [j];decide)];exact i.v j
      rw [if_pos (by rw [j];decide)];exact i.lo j
    . subst e;exact ⟨i.z,i.a (by rcases j with e|e<;>exact e)⟩
    . refine ⟨i.z,i.mu ?_⟩;rcases e with e|e<;>subst e<;>rcases j with e|e<;>exact e
    . refine ⟨i.z,i.co ?_⟩;rcases e with e|e|e<;>subst e<;>rcases j with e|e<;>exact e
    . refine ⟨i.z,i.ch ?_⟩;rcases e with e|e<;>subst e<;>rcases j with e|e<;>exact e
    subst e;exact ⟨i.z,i.th (by rcases j with e|e<;>exact e)⟩
  rw [if_neg hz] at p|-;have r:(Hh k).1=0:=kE.1 hz;refine ⟨rfl,fun e=> ?_,fun e=> ?_,fun e=> ?_,fun e=> ?_,fun e=> ?_,fun e=> ?_⟩<;>exfalso<;>revert r
  . subst e;decide
  . subst e;decide
  . rcases e with e|e<;>subst e<;>decide
  . rcases e with e|e|e<;>subst e<;>decide
  . rcases e with e|e<;>subst e<;>decide
  subst e;decide
 obtain ⟨o,w2,w3,w4,y,w,w7⟩:=hw;obtain ⟨m,gs,gl⟩:=g;dsimp only at*;subst o;obtain ⟨l1,l2,l3⟩:=hx.l;refine ⟨p,?_⟩;unfold Fnd.own2 at h|-;split at h
 . rename_i j;rw [if_pos j];obtain ⟨e3,e4,_⟩:=Bm (show ((m.loc1 nm).loc2).flaw=0 from h);dsimp only;rw [e3];have hm:(m.loc3 nm).most=max m.most (m.locals+1):=rfl;have a0:(m.loc3 nm).locals=m.locals+1:=rfl;refine ⟨⟨fun x b=> ?_,⟨by omega,by omega,by omega⟩,hx.s⟩,by omega,rfl,?_⟩
   . rcases bE.1 (show x∈m.names++ [⟨nm,100,m.locals⟩] from b) with b|b
     . exact (hx.n x b).up (Cn.le_refl c) (by omega)
     rw [bN.1 b];exact ⟨l1,fun e=>aV (show (100:Int)=1 from e) (by decide),fun e=>aV (show (100:Int)=2 from e) (by decide),fun e=>aV (show (100:Int)=3 from e) (by decide),fun e=>aV (show (100:Int)=4 from e) (by decide),fun e=>aV (show (100:Int)=5 from e) (by decide),fun e=>aV (show (100:Int)=6 from e) (by decide),fun _=>by dsimp only;omega⟩
   exact ⟨fun _=>⟨l1,by rw [if_pos rfl];omega⟩,fun e=>by omega,fun e=>by omega,fun e=>by omega,fun e=>by omega,fun e=>by omega,fun e=>by omega,fun e=>by omega⟩
 rename_i u;rw [if_neg u];split at h
 . rename_i j;rw [if_pos j];dsimp only at h|-;obtain ⟨o,x,b,d,q⟩:=fV h;rw [o,q];have i:=hx.n x b;exact ⟨hx,bL _,rfl,fun e=>by omega,fun e=>by omega,fun e=>by omega,fun e=>y (by omega),fun _=>⟨i.z,i.mu (by rcases d with e|e<;>exact e)⟩,fun e=>by omega,fun e=>by omega,fun e=>by omega⟩
 rename_i t;rw [if_neg t];split at h
 . rename_i j;rw [if_pos j];dsimp only at h|-;obtain ⟨o,x,b,d,q⟩:=fV h;rw [o,q];have i:=hx.n x b;refine ⟨hx,bL _,rfl,fun e=>by omega,fun e=>by omega,fun e=>by omega,fun e=>by omega,fun e=>by omega,fun e=>w (by omega),fun _=>⟨i.z,?_⟩,fun e=>by omega⟩;dsimp only;rcases d with d|d
   . rw [if_neg (by rw [d];decide)];exact i.v d
   rw [if_pos (by rw [d];decide)];have:=i.lo d;omega
 rename_i d;rw [if_neg d];dsimp only;exact ⟨hx,bL _,rfl,fun e=>(w2 (by omega)).up l2,w3,w4,fun e=>y (by omega),fun e=>by omega,fun e=>w (by omega),fun e=>by omega,w7⟩
theorem Pp {k ot:Int}{wt:ByteArray}{lo:Bool}(h:(f.own k nm wt sl ot lo).1.flaw=0):f.flaw=0:=by
 have a:(f.own1 k nm sl lo).1.flaw=0:=by
  unfold Fnd.own Fnd.own2 at h;split at h
  . exact (Bm (show (((f.own1 k nm sl lo).1.loc1 nm).loc2).flaw=0 from h)).2.2
  split at h
  . dsimp only at h;rw [<-(fV h).1];exact h
  split at h
  . dsimp only at h;rw [<-(fV h).1];exact h
  exact h
 unfold Fnd.own1 at a;split at a
 . dsimp only at a;rw [<-(fV a).1];exact a
 exact a
theorem Jv (l:List PStm)(f:Fnd)(h:(f.blk l).1.flaw=0):f.flaw=0:=by
 cases l with
 |nil=>exact h
 |cons s r=>
  simp only [Fnd.blk] at h;split at h
  . rename_i k;exact k
  exact h
mutual
/-- A statement that Check lets pass. -/
def PStm.raw:PStm->Prop
 | .mk k _ _ _ _ e ix body els _ _ _ _=>(1<=k/\k<=15)/\(k<=5\/k=11\/k=15->e.fit/\e.dep<=24)/\(k=3->ix.fit/\ix.dep<=24)/\(e.sz<=e.nd+1/\ix.sz<=ix.nd+1)/\V8 body/\V8 els
def V8:List PStm->Prop
 | []=>True
 |s::r=>s.raw/\V8 r
end
mutual
theorem Zq6 {c:Cn}: ∀ (s:PStm) (f:Fnd),s.raw->(f.stmt s).1.flaw=0->Ctx c f->f.flaw=0/\Ctx c (f.stmt s).1/\f.most<=(f.stmt s).1.most/\(f.stmt s).2.wl c (f.stmt s).1.most
 | .mk k ln cl nm wt e ix body els id slot other loc,f,hr,h,hx=>by
  obtain ⟨r1,r2,r3,r4,r5,r6⟩:=hr;simp only [Fnd.stmt] at h|-;split at h
  . exact aV h (Wb (by decide))
  rename_i h5;rw [if_neg h5];dsimp only at h|-;obtain ⟨q,a⟩: ∃ g:Fnd,g= { f with stm:=f.stm+1 } :=⟨_,rfl⟩;rw [<-a] at h|-;obtain ⟨f1,o⟩:=lM (q.expr ix);rw [<-o] at h|-;obtain ⟨t,m⟩:=lM (f1.1.expr e);rw [<-m] at h|-;obtain ⟨r,j⟩:=lM (t.1.own k nm wt slot other loc);rw [<-j] at h|-;obtain ⟨f4,i⟩:=lM (r.1.blk body);rw [<-i] at h|-;obtain ⟨z,b⟩: ∃ g:Fnd,g= { f4.1 with names:=r.1.names,locals:=r.1.locals } :=⟨_,rfl⟩;rw [<-b] at h|-;obtain ⟨f5,d⟩:=lM (z.blk els);rw [<-d] at h|-;have q5:=Jv els z (by rw [<-d];exact h);have q4:f4.1.flaw=0:=by rw [b] at q5;exact q5
  have q3:r.1.flaw=0:=Jv body r.1 (by rw [<-i];exact q4);have q2:t.1.flaw=0:=Pp (by rw [<-j];exact q3);have p2:=Ja (c:=c) (lo:=f.locals) e f1.1 (by rw [<-m];exact q2);rw [<-m] at p2;have q1:f1.1.flaw=0:=by rw [<-p2.1];exact q2
  have p1:=Ja (c:=c) (lo:=f.locals) ix q (by rw [<-o];exact q1);rw [<-o] at p1;have x0:Ctx c q:=by rw [a];exact ⟨hx.n,hx.l,by have:=hx.s;dsimp only;omega⟩
  have e2:t.1=q:=p2.1.trans p1.1;have v: ∀ x∈q.names,NmOk c f.locals x:=by rw [a];exact hx.n
  have w1:=p1.2 v;have w2:=p2.2 (by rw [p1.1];exact v);have u:=Zkh (c:=c) (f:=t.1) (k:=k) (sl:=slot) (ot:=other) (nm:=nm) (wt:=wt) (lo:=loc) (by rw [<-j];exact q3) (by rw [e2];exact x0);rw [<-j] at u;obtain ⟨o1,p,o3,o4,o5⟩:=u;have b4:=Hv (c:=c) body r.1 r5 (by rw [<-i];exact q4) p;rw [<-i] at b4;obtain ⟨b0,f0,d0⟩:=b4;have x4:Ctx c z:=by rw [b];exact ⟨p.n,⟨p.l.1,by have:=p.l.2.1;dsimp only;omega,b0.l.2.2⟩,b0.s⟩
  have b5:=Hv (c:=c) els z r6 (by rw [<-d];exact h) x4;rw [<-d] at b5;obtain ⟨a0,e0,c0⟩:=b5;have m4:z.most=f4.1.most:=by rw [b]
  have m2:t.1.most=f.most:=by rw [e2,a]
  have s2:t.1.stm=f.stm+1:=by rw [e2,a]
  have k1:=U2 ix q;have k2:=U2 e f1.1;rw [<-o] at k1;rw [<-m] at k2;have hl:=hx.l;have w:f.locals<=f5.1.most:=by omega
  refine ⟨by rw [e2,a] at o1;exact o1,⟨p.n,⟨p.l.1,by have:=p.l.2.1;dsimp only;omega,a0.l.2.2⟩,a0.s⟩,by (try dsimp only);omega,r1,fun y=>⟨k2.2.2 (r2 y).1,by rw [k2.2.1];exact (r2 y).2,Mi w w2⟩,fun y=>⟨k1.2.2 (r3 y).1,by rw [k1.2.1];exact (r3 y).2,Mi w w1⟩,⟨hx.s,by omega⟩,o5.up (by (try dsimp only);omega),He (by (try dsimp only);omega) d0,c0⟩
theorem Hv {c:Cn}: ∀ (l:List PStm) (f:Fnd),V8 l->(f.blk l).1.flaw=0->Ctx c f->Ctx c (f.blk l).1/\f.most<=(f.blk l).1.most/\Ww c (f.blk l).1.most (f.blk l).2
 | [],f,_,_,hx=>⟨hx,bL _,trivial⟩
 |s::r,f,hr,h,hx=>by
  simp only [Fnd.blk] at h|-;split at h
  . rename_i a;rw [if_pos a];have q:=Jv r (f.stmt s).1 h;obtain ⟨_,i,j,g⟩:=Zq6 (c:=c) s f hr.1 q hx;obtain ⟨e,d,b⟩:=Hv (c:=c) r (f.stmt s).1 hr.2 h i;exact ⟨e,by (try dsimp only);omega,Pw d g,b⟩
  rename_i a;exact aV h a
end
mutual
theorem Zq5: ∀ (s:PStm) (f:Fnd),s.raw->(f.stmt s).2.wt<=7*s.nd
 | .mk k ln cl nm wt e ix body els id slot other loc,f,hr=>by
  obtain ⟨_,_,_,⟨h,g⟩,b,a⟩:=hr;simp only [Fnd.stmt];split
  . have j:=Qs body b;have i:=Qs els a;simp only [PStm.wt,Tj];omega
  dsimp only;have d:=U2 ix { f with stm:=f.stm+1 };have c:=U2 e (Fnd.expr { f with stm:=f.stm+1 } ix).1;simp only [PStm.wt,Tj,d.1,c.1];refine dR (Nat.add_le_add_left (Hk els _ a) _) (dR (Nat.add_le_add_right (Nat.add_le_add_left (Hk body _ b) _) _) ?_);omega
theorem Hk: ∀ (l:List PStm) (f:Fnd),V8 l->Zo (f.blk l).2<=7*Z0 l
 | [],f,_=>bC _
 |s::r,f,hr=>by
  simp only [Fnd.blk];split
  . have b:=Zq5 s f hr.1;have a:=Hk r (f.stmt s).1 hr.2;simp only [Zo,Z0];omega
  simp [Zo]
theorem Zqr: ∀ (s:PStm),s.raw->s.wt<=7*s.nd
 | .mk k ln cl nm wt e ix body els id slot other loc,hr=>by
  obtain ⟨_,_,_,⟨d,c⟩,b,a⟩:=hr;have g:=Qs body b;have f:=Qs els a;simp only [PStm.wt,Tj];omega
theorem Qs: ∀ (l:List PStm),V8 l->Zo l<=7*Z0 l
 | [],_=>bC _
 |s::r,hr=>by
  have b:=Zqr s hr.1;have a:=Qs r hr.2;simp only [Zo,Z0];omega
end
mutual
theorem Q0: ∀ {e:PEx} {d:Nat},e.right d=true->e.sz=e.nd/\e.dep<=d
 | .mk k n nm _ _ op args,d,h=>by
  simp only [PEx.right] at h;split at h
  . cases h
  rename_i c;split at h
  . rename_i f;rw [aR] at h
    have g:1<=d:=by
     unfold E6 at c;simp only [eS,not_or,cP] at c;omega
    obtain ⟨a,b⟩:=R2 h.2;simp only [PEx.sz,PEx.nd,PEx.dep];rw [if_neg (by omega)];omega
  cases h
theorem R2: ∀ {l:List PEx} {d:Nat},Wy l d=true->Vy l=F8 l/\Ym l<=d
 | [],_,_=>⟨rfl,bC _⟩
 |e::r,d,h=>by
  simp only [Wy,aR] at h;have b:=Q0 h.1;have a:=R2 h.2;simp only [Vy,F8,Ym];omega
end
theorem Pb {e:PEx}(h:e.nil=true):e.sz<=e.nd+1:=by
 cases e with
 |mk k n nm s l op args=>
  simp only [PEx.nil,aR,cP] at h;have:args= []:=aS h.2;subst this;simp only [PEx.sz,Vy];omega
mutual
theorem I7: ∀ {s:PStm} {n:Nat},s.may n=true->s.raw
 | .mk k _ _ nm wt e ix body els _ _ _ _,n,h=>by
  simp only [PStm.may] at h;split at h;cases h
  rename_i f;split at h;cases h
  split at h;cases h
  rename_i c;split at h;cases h
  rw [aR] at h;unfold Zz4 at f;simp only [eS,not_or,cP] at f;unfold Xu at c;have b:P3 k=true->e.right 24=true:=fun b=>by cases hr:e.right 24 with|true=>rfl|false=>simp [b,hr] at c
  have g:P3 k=false->e.nil=true:=fun b=>by cases hr:e.nil with|true=>rfl|false=>simp [b,hr] at c
  have d:k=3->ix.right 24=true:=fun a=>by cases hr:ix.right 24 with|true=>rfl|false=>simp [a,hr] at c
  have i: ¬k=3->ix.nil=true:=fun a=>by cases hr:ix.nil with|true=>rfl|false=>simp [a,hr] at c
  refine ⟨by omega,fun a=> ?_,fun a=>⟨Mj (d a),(Q0 (d a)).2⟩,⟨?_,?_⟩,Vc h.1,Vc h.2⟩
  . have:P3 k=true:=by unfold P3;simp only [eS,cP,eI];omega
    exact ⟨Mj (b this),(Q0 (b this)).2⟩
  . cases a:P3 k with
    |true=>have:=(Q0 (b a)).1;omega
    |false=>exact Pb (g a)
  by_cases a:k=3
  . have:=(Q0 (d a)).1;omega
  exact Pb (i a)
theorem Vc: ∀ {l:List PStm} {n:Nat},Yp l n=true->V8 l
 | [],_,_=>trivial
 |s::r,n,h=>by
  simp only [Yp,aR] at h;exact ⟨I7 h.1,Vc h.2⟩
end
structure DInv (f:Fnd):Prop where
 n: ∀ x∈f.names,NmOk f.cn 0 x
 l:f.locals=0/\f.stm=0
 k:f.names.length<=64/\f.vars.length<=f.names.length/\f.arrs.length<=f.names.length/\f.chs.length<=f.names.length/\f.ths.length<=f.names.length/\(0<=f.mu/\f.mu<=f.names.length)/\(0<=f.co/\f.co<=f.names.length)
 v: ∀ n∈f.vars, -2147483648<=n/\n<=2147483647
 a: ∀ n∈f.arrs,1<=n/\n<=256
 c: ∀ n∈f.chs,1<=n/\n<=16
 t: ∀ t∈f.ths,(1<=t.nm.size/\t.nm.size<=16)/\t.loc=0/\t.body= []
theorem Ty {α:Type}{φ:α->Prop}{l:List α}{x:α}(h: ∀ y∈l,φ y)(hx:φ x): ∀ y∈l++ [x],φ y:=by
 intro y a;rcases bE.1 a with a|a
 . exact h y a
 rw [bN.1 a];exact hx
theorem DInv.z:DInv Fnd.z:=⟨fun x a=>(by cases a),⟨rfl,rfl⟩,by decide,fun x a=>(by cases a),fun x a=>(by cases a),fun x a=>(by cases a),fun x a=>(by cases a)⟩
theorem DInv.decl {d:PDec}(h:DInv f)(hf:(f.decl d).flaw=0)(h0:f.flaw=0)(hk:1<=d.k/\d.k<=6)(hn:1<=d.nm.size/\d.nm.size<=16):DInv (f.decl d):=by
 have r: ∃ g s,f.decl d= { g with names:=f.names++ [⟨d.nm,d.k,s⟩] } /\g.names=f.names/\f.names.length<64/\g=(f.decl1 d).1/\s=(f.decl1 d).2.1/\(f.decl1 d).2.2=true:=by
  unfold Fnd.decl at hf|-;split at hf
  . exact aV hf (Wb (by decide))
  rename_i c1;rw [if_neg c1];split at hf
  . rename_i l;rw [Mv l] at hf;exact aV hf (Wb (by decide))
  rename_i l;rw [if_neg l]
  have u:(f.decl1 d).1.names=f.names:=by
   unfold Fnd.decl1;(repeat' split)<;>first|rfl|exact (f.fl_keep _).2.2.1
  split at hf
  . exact aV hf (Wb (by decide))
  rename_i v;rw [if_neg v];rw [u] at v;exact ⟨_,_,by rw [u],u,by omega,rfl,rfl,by revert l;cases (f.decl1 d).2.2<;>simp⟩
 obtain ⟨g,s,e1,e2,e3,b,a,j⟩:=r;rw [e1];obtain ⟨w,q,i3,p,o,n,m⟩:=h;have hc:d.k=1\/d.k=2\/d.k=3\/d.k=4\/d.k=5\/d.k=6:=by omega
 have i: ∀ {c:Cn},f.cn.le c->NmOk c 0 ⟨d.nm,d.k,s⟩-> ∀ x∈f.names++ [⟨d.nm,d.k,s⟩],NmOk c 0 x:=fun t ho=>Ty (fun y z=>(w y z).up t (bL _)) ho
 unfold Fnd.decl1 at b a j;rcases hc with hc|hc|hc|hc|hc|hc 
 . rw [if_pos hc] at b a j;split at j
   . cases j
   rename_i l;rw [if_neg l] at b a;subst b;subst a;refine ⟨i ⟨by simp [Fnd.cn]<;>omega,bL _,bL _,bL _,bL _,bL _⟩ ⟨by simp,fun _=>by simp [Fnd.cn]<;>omega,?_,?_,?_,?_,?_,?_⟩,q,by simp;omega,Ty p (by omega),o,n,m⟩<;>(intro e;have e:d.k=_:=e;omega)
 . rw [if_neg (by omega),if_pos hc] at b a j;split at j
   . cases j
   rename_i l;rw [if_neg l] at b a;subst b;subst a;refine ⟨i ⟨bL _,by simp [Fnd.cn]<;>omega,bL _,bL _,bL _,bL _⟩ ⟨by simp,?_,fun _=>by simp [Fnd.cn]<;>omega,?_,?_,?_,?_,?_⟩,q,by simp;omega,p,Ty o (by omega),n,m⟩<;>(intro e;have e:d.k=_:=e;omega)
 . rw [if_neg (by omega),if_neg (by omega),if_pos hc] at b a j;subst b;subst a;refine ⟨i ⟨bL _,bL _,by simp [Fnd.cn]<;>omega,bL _,bL _,bL _⟩ ⟨by dsimp only;omega,?_,?_,fun _=>by simp [Fnd.cn]<;>omega,?_,?_,?_,?_⟩,q,by simp;omega,p,o,n,m⟩<;>(intro e;have e:d.k=_:=e;omega)
 . rw [if_neg (by omega),if_neg (by omega),if_neg (by omega),if_pos hc] at b a j;subst b;subst a;refine ⟨i ⟨bL _,bL _,bL _,by simp [Fnd.cn]<;>omega,bL _,bL _⟩ ⟨by dsimp only;omega,?_,?_,?_,fun _=>by simp [Fnd.cn]<;>omega,?_,?_,?_⟩,q,by simp;omega,p,o,n,m⟩<;>(intro e;have e:d.k=_:=e;omega)
 . rw [if_neg (by omega),if_neg (by omega),if_neg (by omega),if_neg (by omega),if_pos hc] at b a j;split at j
   . cases j
   rename_i l;rw [if_neg l] at b a;subst b;subst a;refine ⟨i ⟨bL _,bL _,bL _,bL _,by simp [Fnd.cn]<;>omega,bL _⟩ ⟨by simp,?_,?_,?_,?_,fun _=>by simp [Fnd.cn]<;>omega,?_,?_⟩,q,by simp;omega,p,o,Ty n (by omega),m⟩<;>(intro e;have e:d.k=_:=e;omega)
 rw [if_neg (by omega),if_neg (by omega),if_neg (by omega),if_neg (by omega),if_neg (by omega),if_pos hc] at b a j;subst b;subst a;refine ⟨i ⟨bL _,bL _,bL _,bL _,bL _,by simp [Fnd.cn]<;>omega⟩ ⟨by simp,?_,?_,?_,?_,?_,fun _=>by simp [Fnd.cn]<;>omega,?_⟩,q,by simp;omega,p,o,n,Ty m ⟨hn,rfl,rfl⟩⟩<;>(intro e;have e:d.k=_:=e;omega)
theorem DInv.decls: ∀ {ds:List PDec} {f:Fnd},DInv f->(∀ d∈ds,(1<=d.k/\d.k<=6)/\(1<=d.nm.size/\d.nm.size<=16))->(f.decls ds).flaw=0->DInv (f.decls ds)
 | [],_,h,_,_=>h
 |d::r,f,h,hd,hf=>by
  unfold Fnd.decls at hf|-;split at hf
  . rename_i a;rw [if_pos a]
    have b:(f.decl d).flaw=0:=by
     cases r with
     |nil=>exact hf
     |cons x r=>
      unfold Fnd.decls at hf;split at hf
      . assumption
      exact hf
    exact DInv.decls (h.decl b a (hd d (bW ..)).1 (hd d (bW ..)).2) (fun x c=>hd x (bX _ c)) hf
  rename_i a;exact aV hf a
structure ThW (P:List PStm->Prop) (c:Cn) (t:PTh):Prop where
 n:1<=t.nm.size/\t.nm.size<=16
 l:0<=t.loc/\t.loc<=32
 b:Ww c t.loc t.body
 p:P t.body
structure BInv (P:List PStm->Prop) (d f:Fnd):Prop where
 e:f.vars=d.vars/\f.arrs=d.arrs/\f.chs=d.chs/\f.mu=d.mu/\f.co=d.co/\f.ths.length=d.ths.length/\f.names=d.names
 n: ∀ x∈d.names,NmOk d.cn 0 x
 l:f.locals=0/\0<=f.stm
 t: ∀ t∈f.ths,ThW P d.cn t
theorem BInv.bodies {d:Fnd}: ∀ {bs:List (List PStm)} {i:Nat} {f:Fnd},(∀ b∈bs,V8 b/\ ∀ g,P (Fnd.blk g b).2)->BInv P d f->(f.bodies i bs).flaw=0->BInv P d (f.bodies i bs)
 | [],_,_,_,h,_=>h
 |b::r,i,f,hb,h,hf=>by
  unfold Fnd.bodies at hf|-;split at hf
  . rename_i o;rw [if_pos o];dsimp only at hf|-;obtain ⟨g,hg⟩:=lM (Fnd.block { f with most:=0 } b);rw [<-hg] at hf|-;obtain ⟨q,j⟩:=lM (Fnd.blk { f with most:=0 } b);have k:g=({ q.1 with names:=f.names,locals:=f.locals },q.2):=by rw [hg,j];rfl
    have fl:g.1.flaw=0:=by
     cases r with
     |nil=>exact hf
     |cons x r=>
      unfold Fnd.bodies at hf;split at hf
      . assumption
      exact hf
    have p:q.1.flaw=0:=by rw [k] at fl;exact fl
    have v:=iB b { f with most:=0 };rw [<-j] at v;obtain ⟨t1,t2,t3,z,y,m,_⟩:=v.e;dsimp only at t1 t2 t3 z y m;obtain ⟨j1,j2,j3,j4,j5,j6,j7⟩:=h.e;have cx:Ctx d.cn { f with most:=0 } :=⟨by dsimp only;rw [j7,h.l.1];exact h.n,by dsimp only;rw [h.l.1];decide,h.l.2⟩;have w:=Hv (c:=d.cn) b { f with most:=0 } (hb b (bW ..)).1 (by rw [<-j];exact p) cx;have hp:=(hb b (bW ..)).2 { f with most:=0 };rw [<-j] at w hp;obtain ⟨w1,u,w3⟩:=w;dsimp only at u;refine BInv.bodies (fun x hx=>hb x (bX _ hx)) ⟨?_,h.n,?_,?_⟩ hf
    . rw [k];dsimp only;rw [bK,m];exact ⟨t1.trans j1,t2.trans j2,y.trans j3,t3.trans j4,z.trans j5,j6,j7⟩
    . rw [k];exact ⟨h.l.1,w1.s⟩
    rw [k];dsimp only;rw [m];intro t a;by_cases hi:i<f.ths.length
    . rcases gB a with a|a
      . exact h.t t a
      rw [a,aG,aE hi];exact ⟨(h.t _ (aC hi)).n,⟨u,w1.l.2.2⟩,w3,hp⟩
    rw [List.set_eq_of_length_le (by omega)] at a;exact h.t t a
  rename_i o;exact aV hf o
structure PrgOk (P:List PStm->Prop) (F:Fnd):Prop where
 k:F.vars.length<=64/\F.arrs.length<=64/\F.chs.length<=64/\F.ths.length<=64/\(0<=F.mu/\F.mu<=64)/\(0<=F.co/\F.co<=64)
 v: ∀ n∈F.vars, -2147483648<=n/\n<=2147483647
 a: ∀ n∈F.arrs,1<=n/\n<=256
 c: ∀ n∈F.chs,1<=n/\n<=16
 t: ∀ t∈F.ths,ThW P F.cn t
 m:0<=F.main/\F.main<F.ths.length
theorem bad_nm {d:PDec}(h:d.bad=false):1<=d.nm.size/\d.nm.size<=16:=by
 unfold PDec.bad Zz5 at h;simp only [eZ,cM,iO] at h;obtain ⟨⟨⟨⟨⟨⟨⟨⟨_,_⟩,b⟩,_⟩,_⟩,_⟩,_⟩,_⟩,_⟩:=h;have a:nmS (bs d.nm)=true:=by simpa using b
 unfold nmS at a;split at a
 . cases a
 rename_i c;have e:(bs d.nm).length=d.nm.size:=Nf d.nm;omega
theorem Is {d:PDec}(h:d.bad=false):V8 d.body:=by
 unfold PDec.bad Zz5 at h;simp only [eZ,cM,iO] at h;exact Vc h.2
theorem Cc (h:E8 ds=some F)(h0:P [])(hP: ∀ d∈ds,d.bad=false-> ∀ g,P (Fnd.blk g d.body).2):PrgOk P F:=by
 unfold E8 at h;split at h
 . cases h
 rename_i a0
 have o: ∀ d∈ds,d.bad=false:=fun d w=>by
  cases hb:d.bad with
  |false=>rfl
  |true=>exact aV (kN.2 ⟨d,w,hb⟩) a0
 dsimp only at h;obtain ⟨f,hf⟩:=lM (Fnd.decls .z ds);rw [<-hf] at h;obtain ⟨f1,m⟩: ∃ f1,f1=(if f.flaw=0/\(f.at J2=0\/((f.names.map (·.k)).getD (f.at J2 - 1) 0)≠6) then f.fl 133 else f):=⟨_,rfl⟩;rw [<-m] at h;obtain ⟨bs,y⟩:=lM ((ds.filter fun d=>d.k==6).map (·.body));rw [<-y] at h;by_cases hfl:(f1.bodies 0 bs).flaw≠0
 . rw [if_pos hfl] at h;cases h
 rw [if_neg hfl] at h
 cases h
 have j:=kE.1 hfl
 have u:f1.flaw=0:=by
  cases bs with
  |nil=>exact j
  |cons x r=>
   unfold Fnd.bodies at j;split at j
   . assumption
   exact j
 have hm:f1=f/\f.flaw=0/\f.at J2≠0/\((f.names.map (·.k)).getD (f.at J2 - 1) 0)=6:=by
  split at m
  . rw [m] at u;exact aV u (Wb (by decide))
  rename_i hn;rw [m] at u;refine ⟨m,u,fun k=>hn ⟨u,.inl k⟩,Decidable.byContradiction fun k=>hn ⟨u,.inr k⟩⟩
 obtain ⟨e1,z2,m1,m2⟩:=hm
 have D:DInv f:=by
  rw [hf];exact DInv.decls .z (fun d w=>⟨(Io (o d w)).1,bad_nm (o d w)⟩) (by rw [<-hf];exact z2)
 rw [e1] at j|-
 have B:=BInv.bodies (P:=P) (d:=f) (bs:=bs) (i:=0) (f:=f) (fun b hb=>by
  rw [y] at hb;obtain ⟨d,w,rfl⟩:=bS.1 hb;have q:=(gY.1 w).1
  exact ⟨Is (o d q),hP d q (o d q)⟩) ⟨⟨rfl,rfl,rfl,rfl,rfl,rfl,rfl⟩,D.n,⟨D.l.1,by rw [D.l.2];decide⟩,fun t ht=>by
   obtain ⟨a,b,c⟩:=D.t t ht;exact ⟨a,by omega,by rw [c];trivial,by rw [c];exact h0⟩⟩ j
 obtain ⟨g,hg⟩:=lM (f.bodies 0 bs);rw [<-hg] at B|-;obtain ⟨b1,b2,b3,b4,b5,b6,b7⟩:=B.e;have cn:Fnd.cn { g with main:=(g.names.map (·.s)).getD (f.at J2 - 1) 0 } =f.cn:=by unfold Fnd.cn;dsimp only;rw [b1,b2,b3,b4,b5,b6]
 obtain ⟨k1,k2,k3,k4,k5,k6,k7⟩:=D.k;refine ⟨?_,by dsimp only;rw [b1];exact D.v,by dsimp only;rw [b2];exact D.a,by dsimp only;rw [b3];exact D.c,by rw [cn];exact B.t,?_⟩
 . dsimp only;rw [b1,b2,b3,b4,b5,b6];omega
 have p:f.at J2 - 1<f.names.length:=by
  have:f.at J2<=f.names.length:=Mn;omega
 have e6:f.names[f.at J2 - 1].k=6:=by
  rw [aG,bJ,aE p] at m2;exact m2
 have ho:=D.n _ (aC p);dsimp only;rw [b7,aG,bJ,aE p,b6];exact ⟨ho.z,ho.th e6⟩
theorem Ln {l:Bs}(h:Q9 l=some ds):(ds.map fun d=>Z0 d.body+1).sum<=l.length/\l.length<=65536:=by
 unfold Q9 at h;split at h
 . cases h
 rename_i i;split at h
 . cases h
 rename_i e b;split at h
 . cases h
 rename_i c a;split at h
 . cases h
 cases h
 have g:=(Nv b).1;have f:=(Du (aU _) a).1;omega
theorem Gv {l:Bs}(h:Vi l=some F):PrgOk (fun b=>Zo b<=7*l.length) F/\l.length<=65536:=by
 unfold Vi at h;split at h
 . cases h
 rename_i ds c;obtain ⟨n,j⟩:=Ln c;refine ⟨Cc h (bC _) fun d a e g=> ?_,j⟩;have m:=Hk d.body g (Is e);have i:=Fe (f:=fun d:PDec=>Z0 d.body+1) a;have k:Z0 d.body+1<=(ds.map fun d=>Z0 d.body+1).sum:=i;show Zo (Fnd.blk g d.body).2<=7*l.length
 omega
structure FCok (g:FC):Prop where
 m: ∃ mn:Nat,g.main=(mn:Int)/\mn<g.ths.l.length
 f: ∀ x∈g.ths.l,Mr (Zk x.body)
 w: ∀ x∈g.ths.l,Zo (Zk x.body)<=999999999
 n: ∀ x∈g.ths.l,x.nm.size<=9223372036854775807
 l:g.ths.l.length<=1000000
theorem FC.ok {l:Bs}(h:Vi l=some g.er):FCok g:=by
 obtain ⟨p,j⟩:=Gv h;have e:g.er.ths.length=g.ths.l.length:=by show (g.ths.l.map Th.er).length=_;rw [aI]
 have k:=p.k.2.2.2.1;rw [e] at k;have th: ∀ x∈g.ths.l,x.er∈g.er.ths:=fun x a=>aZ a
 have hc:g.er.cn.th<=1000000:=by show (g.er.ths.length:Int)<=_;omega
 have c:=p.m;rw [e] at c;have i:0<=g.main:=c.1;have f:g.main<g.ths.l.length:=c.2;refine ⟨⟨g.main.toNat,by omega,by omega⟩,fun x a=>J9 hc (p.t _ (th x a)).b,fun x a=> ?_,fun x a=> ?_,by omega⟩
 . have:=(p.t _ (th x a)).p;have d:x.er.body=Zk x.body:=rfl;rw [d] at this;omega
 have:=(p.t _ (th x a)).n;have d:x.er.nm=x.nm:=rfl;rw [d] at this;omega
end Go.Proofs.YtadahhbefdnabaaGreatDoor
