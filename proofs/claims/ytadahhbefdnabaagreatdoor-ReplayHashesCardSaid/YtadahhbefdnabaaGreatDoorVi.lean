/- Contracts. -/
import Derived.Test.YtadahhbefdnabaaGreatDoorVh
set_option maxHeartbeats 16000000
set_option maxRecDepth 100000
set_option linter.all false
namespace Go.Proofs.YtadahhbefdnabaaGreatDoor
open Go Go.RowKit Wx Go.Proofs.Tryz
attribute [local irreducible] lsH rsH stars
variable {P:Program}{G:World}{p c k n j b N who sb so fuel B nb:Nat}{q r pre:List HP}{d:Option Tmp}{pos:String}{af:Array Edge}{gd:Option (Nat×Bool)}{x:MTC}{vs:List Value}{g:FC}{a:Option Addr}{K:MK}{s:MS}{m m':Mdl}{L:List Stm}{i:Int}{F:Fnd}{f:Fc}{Q:Yw}{ds:List Deferred}{cs:List Frame}
theorem Ef.setRF {p:PE}{ty:TypeId}{x y:Operand}{t:TypeId}{α:Type}{fl:α->List Value}{l:List α}{sz et:Nat}{u:α}{g:Nat}{j:Int}(hx:evp p x=some (.pointer (some ⟨g,0+j.toNat*sz+k,none⟩)))(hy:evp p y=some (.agg vs.toArray))(hsz: ∀ w,(Go.sizeOf t).run P w= .ok vs.length w)(hf: ∀ x,(fl x).length=sz)
 (hj:j=n) (hn:n<l.length) (hk:k+vs.length<=sz) (hu:Vo (fl l[n]) k vs=fl u) (h1:vs.all (·.oneCell')=true) (hq:Le q (Wx.rsH fl sz et (some ⟨g,0,none⟩) c l::r)):
 Ef P G p q ⟨d,.store t x y,ty,pos,af,gd⟩ fun z q'=>z=undef/\q'=Wx.rsH fl sz et (some ⟨g,0,none⟩) c (l.set n u)::r:=by
 subst hj;rw [cT,dO] at hx;intro tm w ag s;have m:=s.le hq;unfold Wx.rsH at m;obtain ⟨h0,h2|⟨g',a,q1,v,q3,o,q5,s'⟩⟩:=m.slH_elim
 . obtain ⟨_,_,h3,_⟩:=h2;omega
 cases q1
 have h:n*sz+sz<=l.length*sz:=by
  have:=eJ sz (show n+1<=l.length from hn);rw [eG,lI] at this;omega
 have hc:n*sz+sz<=a.size:=by rw [o];exact dR h (eJ _ v)
 obtain ⟨z,w',q',hr,hs,rfl,rfl⟩:=Ef.storeA (G:=G) (d:=d) (ty:=ty) (pos:=pos) (af:=af) (gd:=gd) (q:=pto g (.cells a.toList.toArray et (0,0))::r) hx hy hsz rfl h1 (Le.here _ _) (by simp [Nat.ble_eq];omega) tm w ag (by simpa using s');refine ⟨_,w',_,hr,?_,rfl,rfl⟩;have hl:(l.set n u).length=l.length:=by simp
 unfold Wx.rsH;rw [hl];have i:a.toList.length=c*sz:=by simpa using o
 have f:(Vo a.toList (n*sz+k) vs).length=a.toList.length:=by
  unfold Vo;rw [aA,aA,bI,cE];omega
 refine hs.le (Yn v q3 (by rw [fE,f,i]) ?_ r);rw [List.toList_toArray]
 have e1:(l.set n u).flatMap fl=(l.flatMap fl).take (n*sz)++fl u++(l.flatMap fl).drop (n*sz+sz):=by
  rw [Qu hf,show n*sz+sz=(n+1)*sz by rw [eG];omega,Nx hf,eX,if_pos hn,eK,bZ,aK]
 have e2:l.flatMap fl=(l.flatMap fl).take (n*sz)++fl l[n]++(l.flatMap fl).drop (n*sz+sz):=by
  conv=>lhs;rw [show l=l.set n l[n] by rw [gA]]
  rw [Qu hf,show n*sz+sz=(n+1)*sz by rw [eG];omega,Nx hf,eX,if_pos hn,eK,bZ,aK]
 have b:(l.flatMap fl).length=l.length*sz:=Zx hf l;rw [e1,<-hu];have e3:a.toList=(l.flatMap fl)++a.toList.drop (l.length*sz):=by rw [<-q5];exact (dZ _ _).symm
 obtain ⟨A,hA⟩:=lM ((l.flatMap fl).take (n*sz));obtain ⟨B,hB⟩:=lM ((l.flatMap fl).drop (n*sz+sz));have e:A.length=n*sz:=by rw [hA,bI,b];omega
 have b0:B.length=l.length*sz - (n*sz+sz):=by rw [hB,cE,b]
 rw [<-hA,<-hB] at e2|-;have a0:=hf l[n];rw [e3,e2];unfold Vo
 have t1:((A++fl l[n]++B)++a.toList.drop (l.length*sz)).take (n*sz+k)=A++(fl l[n]).take k:=by
  rw [aK,aK,<-e,List.take_length_add_append,List.take_append_of_le_length (by omega)]
 have t2:((A++fl l[n]++B)++a.toList.drop (l.length*sz)).drop (n*sz+k+vs.length)=(fl l[n]).drop (k+vs.length)++(B++a.toList.drop (l.length*sz)):=by
  rw [aK,aK,fA,<-e,List.drop_length_add_append,List.drop_append_of_le_length (by omega)]
 rw [t1,t2];rw [show A++(fl l[n]).take k++vs++((fl l[n]).drop (k+vs.length)++(B++a.toList.drop (l.length*sz)))=(A++((fl l[n]).take k++vs++(fl l[n]).drop (k+vs.length))++B)++a.toList.drop (l.length*sz) by simp only [aK]];apply List.take_left';simp only [aA,bI,cE];omega
def frC (x:MTC):List Value:= [I64 x.t.code,I64 x.t.pc,.slice x.la x.t.loc.length x.lc,.slice x.ta x.t.stk.length x.tc]
theorem Xo {o:Nat}(h:CellsAt q b o (mtC x)):CellsAt q b (o+2) (frC x):=fun k v e=>by
 match k,e with
 |0,e=>exact h 2 v e
 |1,e=>exact h 3 v e
 |2,e=>exact h 4 v e
 |3,e=>exact h 5 v e
theorem Zyn {l:List MTC}(hs:Sees q a (l.flatMap mtC))(hL:l.length<=1000000000):CallF prog G 123 [.slice a l.length c] (q) (Ret fun v q'=> ∃ a' c',v= .slice a' l.length c'/\q'=rsH mtC 7 147 a' c' l::q):=by
 refine aB func123 ntmps123 rfl fun F cs=> ?_;rcases cW l.length with b|b
 . obtain rfl:=aS b;refine xx 10 ?_;refine cY 4 rfl ?_ ?_<;>intro j
   . refine xx 5 ?_;refine Zq (rsH mtC 7 147 none 0 []::q) func123 (Zf results123 rfl) ⟨_,rfl,none,0,rfl,rfl⟩ ((leA).trans (Zc _ _ _ _))
   refine xo 4 ?_;refine bU (U3 mtC underlying125 Mp) ?_;rintro _ _ ⟨g,rfl,rfl⟩;refine oo 1 ?_;refine bU (Z4 (f:=mtC) (l:= []) (m:= []) underlying125 Mp rfl rfl Z8 rfl rfl Zj (hs.le leA) Zvw (by simp;try omega) (by simp;try omega)) ?_;rintro _ _ ⟨e,d,rfl,rfl⟩;refine ox 2 ?_;refine Zq (rsH mtC 7 147 e d []::q) func123 (Zf results123 rfl) ⟨_,rfl,e,d,by simp,rfl⟩
 refine Z7 hs (by rw [Zx Z8];omega) fun k i h=> ?_;subst h;refine rn [10,1004,4] ?_;refine bU (U3 mtC underlying125 Mp) ?_;rintro _ _ ⟨g,rfl,rfl⟩;refine oo 1 ?_;refine bU (Z4 (f:=mtC) (l:= []) (m:=l) underlying125 Mp rfl rfl Z8 rfl rfl Zj (hs.le leA) Zvw (by simp;try omega) (by simp;try omega)) ?_;rintro _ _ ⟨e,d,rfl,rfl⟩;refine ox 2 ?_;refine Zq (rsH mtC 7 147 e d l::q) func123 (Zf results123 rfl) ⟨_,rfl,e,d,by simp,rfl⟩
theorem Zz2 (h1:Sees q x.la (x.t.loc.map I64))(h2:Sees q x.ta (x.t.stk.map I64))(b1:x.t.loc.length<=1000000)(b2:x.t.stk.length<=1000000):CallF prog G 124 [.agg (frC x).toArray] (q) (Ret fun v q'=> ∃ a1 c1 a2 c2,v= .agg (frC { x with la:=a1,lc:=c1,ta:=a2,tc:=c2 }).toArray/\q'=lsH I64 2 a2 c2 x.t.stk::lsH I64 2 a1 c1 x.t.loc::q):=by
 refine aB func124 ntmps124 rfl fun F cs=> ?_;refine xo 2 ?_;refine Zl fun n1=> ?_
 refine Zh zeroValue145 fun n2=> ?_
 refine rn [2,0,1,2,4,5] ?_;refine Wv 2 call93 (aH _) (Jx (l:=x.t.loc) ((h1).le leA) (by omega)) ?_;refine kk2 fun b a=> ?_
 refine dd [6] ?_;refine Wv 5 call93 (aH _) (Jx (l:=x.t.stk) ((h2).le leA) (by omega)) ?_;refine kk2 fun a1 c1=> ?_
 refine rn [8,9,10,0,2,0,0,1] ?_;refine Zq (lsH I64 2 a1 c1 x.t.stk::lsH I64 2 b a x.t.loc::q) func124 (rA_ results124) ⟨_,rfl,b,a,a1,c1,by rfl,rfl⟩
theorem mcopy_ok (h8:1<=s.ths.length/\s.ths.length<=8)(hys:s.sy.ok N)(hN:N<=1000000000)(hC:s.cells.length<=1000000)(hT: ∀ t∈s.ths,t.loc.length<=1000000/\t.stk.length<=1000000/\t.sp.length<=1000000):CallF prog G 65 [.pointer (some ⟨p,0,none⟩)] (maH p K s::q) (Ret fun v q'=> ∃ p2,v= .pointer (some ⟨p2,0,none⟩)/\q'=maH p2 K s::maH p K s::q):=by
 refine aB func65 ntmps65 rfl fun F cs=> ?_;refine Ra fun U hs=> ?_;subst hs;rw [kI] at h8;replace hys:U.sy.ok N:=hys;replace hC:U.cells.length<=1000000:=hC;replace hT: ∀ x∈U.ths,x.t.loc.length<=1000000/\x.t.stk.length<=1000000/\x.t.sp.length<=1000000:=(fun x hx=>hT _ (aZ hx));have k0:=Zx Z8 U.ths
 refine xo 8 ?_;refine bM call55 (Mm (p:=p) (K:=K) clA) ?_;refine rn [2,1008,6,0] ?_;refine Zh zeroValue127 fun n1=> ?_
 refine rn [0,2,0,1,2,3,4,6,7,8,9,11,12,13,14] ?_;refine Wv 4 call93 (aH _) (Jx (l:=U.cells) ((bY _).le leA) (by omega)) ?_;refine kk2 fun ac cc=> ?_
 refine Rl 9 call122 (Copy_Y hys (by omega)) ?_;refine kd1 fun py=> ?_
 refine ⟨hlA,?_⟩;refine Wv 14 call123 (aH _) (Zyn (l:=U.ths) ((cI _).le leA) (by omega)) ?_;refine kk2 fun j0 ct=> ?_
 refine rn [16,17,18,19,20,21,0,4,0,4] ?_;refine U7 (a:=j0) (l:=U.ths) (by omega) fun o i0=> ?_;subst i0;refine aX (cC (fun (s:Nat×List MTC)=>s.1<=U.ths.length/\s.2.length=s.1/\s.2.map MTC.t=(U.ths.take s.1).map MTC.t) (fun s=> [(2,.pointer none),(3,pt n1),(32,I64 U.ths.length),(33,I64 (s.1:Int))]) (fun s=>pto n1 (.cells [.pointer (some ⟨K.pp,0,none⟩),.pointer (some ⟨K.mp,0,none⟩),.map (some K.mb),.slice ac U.cells.length cc,.pointer (some ⟨py,0,none⟩),.slice (some ⟨o,0,none⟩) U.ths.length ct,I64 U.out.kind,I64 U.out.trap,I64 U.out.th,I64 U.out.stmt,I64 U.cnt].toArray 127 (0,0))::lsH I64 2 ac cc U.cells::yH py U.sy::rsH mtC 7 147 (some ⟨o,0,none⟩) ct (s.2++U.ths.drop s.1)::stars (s.2.map mtH)::mcP p K U::lsH I64 2 U.ca U.cc U.cells::yH U.sp U.sy::rsH mtC 7 147 U.ha U.hc U.ths::stars (U.ths.map mtH)::(q++F)) (fun s=>U.ths.length - s.1) (fun s d0 ih=> ?_) (0, []) ⟨bC _,rfl,rfl⟩) Zn (aM (Yr _) leA);try dsimp only at d0 ih|-
 obtain ⟨l0,m,b0⟩:=d0;obtain ⟨i,d⟩:=s;dsimp only at*;refine xx 5 ?_;refine xp 34 ?_ ?_<;>intro h0
 . have e:i<U.ths.length:=(by omega);obtain ⟨x,hx⟩:=lM U.ths[i];have hb:=hT x (hx ▸ aC e);have g0:=fun q:List HP=>Zyj (r:=q) e;have e0:=fun q:List HP=>Zyq (r:=q) e;have f0:=fun q:List HP=>Zyz (r:=q) e;rw [<-hx] at g0 e0 f0
   have a0:i<(d++U.ths.drop i).length:=by rw [aA,cE];omega
   have c0:(d++U.ths.drop i)[i]=x:=by rw [iD (by omega)];simp [m,hx]
   have c: ∀ r,CellsAt (rsH mtC 7 147 (some ⟨o,0,none⟩) ct (d++U.ths.drop i)::r) o (0+(i:Int).toNat*7) (mtC x):=fun r=>by rw [<-c0];exact fD (j:=(i:Int)) (cI r) (aH _) Z8 a0 rfl
   refine rn [12,0,4,0,1,2,3,4,5,8,9,10] ?_;refine ldD 10 ?_ (hc:=(((c _).le leA) 6 _ rfl));refine eE 5 rfl (Rd.ef (Pz (us:=frC x) rfl isAgg145 sizeOf145 rfl ((Xo (c _)).le leA))) ?_;rintro _ _ ⟨rfl,rfl⟩;refine ⟨(hlA (h:=by repeat first|exact trivial|refine ⟨clA,?_⟩|refine ⟨(((c _).le leA) 6 _ rfl),?_⟩|refine ⟨((Xo (c _)).le leA) 0 _ rfl,?_⟩|refine ⟨((Xo (c _)).le leA) _ _ rfl,?_⟩)),?_⟩;refine Wv 6 call124 (aH _) (Zz2 (x:=x) ((g0 _).le leA) ((e0 _).le leA) hb.1 hb.2.1) ?_;rintro _ _ ⟨a1,y,z,w,rfl,rfl⟩;refine ⟨(hlA (h:=by repeat first|exact trivial|refine ⟨clA,?_⟩|refine ⟨(((c _).le leA) 6 _ rfl),?_⟩|refine ⟨((Xo (c _)).le leA) 0 _ rfl,?_⟩|refine ⟨((Xo (c _)).le leA) _ _ rfl,?_⟩)),?_⟩;refine Wv 11 call94 (aH _) (Hx (l:=x.t.sp) ((f0 _).le leA) (by omega)) ?_;refine kk2 fun a4 c4=> ?_
   refine dd [12,13] ?_;refine iM 14 rfl (Ef.setRF (g:=o) (fl:=mtC) (l:=d++U.ths.drop i) (u:= { x with la:=a1,lc:=y,ta:=z,tc:=w }) (vs:=frC ({ x with la:=a1,lc:=y,ta:=z,tc:=w } :MTC)) (n:=i) (k:=2) (j:=(i:Int)) rfl rfl sizeOf145 Z8 rfl a0 (show 2+4<=7 by decide) (by rw [c0];rfl) rfl Zj) ?_;refine kk0 ?_;refine dd [15,16] ?_;refine iM 17 rfl (V4 (g:=o) (f:=mtC) (l:=(d++U.ths.drop i).set i { x with la:=a1,lc:=y,ta:=z,tc:=w }) (u:= { x with la:=a1,lc:=y,ta:=z,tc:=w,sa:=a4,sc:=c4 }) (n:=i) (k:=6) (j:=(i:Int)) rfl rfl sizeOf23 Z8 rfl (by rw [bK];exact a0) rfl (by rw [cH];rfl) rfl rfl Zj) ?_;refine kk0 ?_;rw [iW];refine rn [0,5] ?_;rw [F1 d (U.ths.drop i) i _ m (by rw [cE];omega),iE];refine cS (q':=stars ((d++ [({ x with la:=a1,lc:=y,ta:=z,tc:=w,sa:=a4,sc:=c4 } :MTC)]).map mtH)::_) (aM (b:=stars (d.map mtH)::lsH I64 2 a1 y x.t.loc::lsH I64 2 z w x.t.stk::lsH I64 3 a4 c4 x.t.sp::_) (bD Zj (bD Zj (bD Zj Zj))) (aM (cG _ (Zm (mtL ({ x with la:=a1,lc:=y,ta:=z,tc:=w,sa:=a4,sc:=c4 } :MTC)) _)) (mtH_app d ({ x with la:=a1,lc:=y,ta:=z,tc:=w,sa:=a4,sc:=c4 } :MTC) _))) ?_;refine aX (ih (i+1,d++ [({ x with la:=a1,lc:=y,ta:=z,tc:=w,sa:=a4,sc:=c4 } :MTC)]) ⟨by dsimp only;omega,by dsimp only;rw [aA];simp [m],by dsimp only;rw [aN e,aO,aO,b0,<-hx];rfl⟩ (by dsimp only;omega)) Zn leA
 obtain rfl:i=U.ths.length:=(by omega);rw [bV] at b0;rw [dP,bR];clear ih;refine xx 6 ?_;refine Zq (maH n1 K U.er::maH p K U.er::q) func65 (Zf results65 rfl) ⟨_,rfl,n1,rfl,rfl⟩ (J3 (U:=(⟨ac,cc,U.cells,py,U.sy,some ⟨o,0,none⟩,ct,d,U.out,U.cnt⟩:MC)) (by unfold MC.er;rw [b0]) (by unfold mcP mcC mcL;dsimp only;rw [m];exact aM (b:=pto n1 (.cells [.pointer (some ⟨K.pp,0,none⟩),.pointer (some ⟨K.mp,0,none⟩),.map (some K.mb),.slice ac U.cells.length cc,.pointer (some ⟨py,0,none⟩),.slice (some ⟨o,0,none⟩) U.ths.length ct,I64 U.out.kind,I64 U.out.trap,I64 U.out.th,I64 U.out.stmt,I64 U.cnt].toArray 127 (0,0))::lsH I64 2 ac cc U.cells::yH py U.sy::rsH mtC 7 147 (some ⟨o,0,none⟩) ct d::stars (d.map mtH)::(maH p K U.er::(q++F))) (bD Zj (bD Zj (bD Zj (bD Zj (bD Zj (J3 (U:=U) rfl (by unfold mcL;exact leA))))))) (aH _)))
def MS.doP (main:Int)(m:Mdl)(L:List PStm)(fuel:Nat)(s:MS)(i:Int):MS×PEv×Int:=
 if i<0\/(s.ths.length:Int)<=i then (s,zEv 0 0,2)
 else if (s.all m L).length=0 then (s,zEv 0 0,150)
 else if s.can m L i.toNat=false then (s,zEv 0 0,151)
 else
  let x:=L.getD ((s.th i.toNat).at m).a.toNat R5
  let r:=doM main m x.kd x.slt i.toNat fuel s (zEv i x.idn)
  if r.2.2≠0 then ({ s with out:=⟨4,r.2.2,i,x.idn⟩ }, { zEv i x.idn with trap:=r.2.2,acc:=r.2.1.acc },0)
  else (r.1,r.2.1,0)
section
variable {a:Nat}
abbrev A9 :=((.cells zz0.toArray 63 (0,0)):Obj)
abbrev A2 :=(⟨zEv 0 0,none,0,none,0⟩:EvC)
theorem mDo_ok (hE:ME q K g m)(hQ:MQ q K sb so L)(gc:GC q)(ge:GE q)(hk:Hy m=0)(hS: ∀ n,n<s.ths.length->Stands m (L.map Stm.er) s n)(h8:1<=s.ths.length/\s.ths.length<=8)(hys:s.sy.ok N)(hN:N<=1000000000)(hC:s.cells.length<=1000000)(hT: ∀ t∈s.ths,t.loc.length<=1000000/\t.stk.length<=1000000/\t.sp.length<=1000000)(hG: ∀ n,n<s.ths.length->s.can m (L.map Stm.er) n=true->GoodM g m (((L.map Stm.er).getD ((s.th n).at m).a.toNat R5).kd) (((L.map Stm.er).getD ((s.th n).at m).a.toNat R5).slt) n N fuel true (s.put n { s.th n with st:=1 }) { zEv n (((L.map Stm.er).getD ((s.th n).at m).a.toNat R5).idn) with woke:=decide ((s.th n).st=3) }):CallF prog G 37 [.pointer (some ⟨p,0,none⟩),I64 i] (maH p K s::q) (Ret fun v q'=> ∃ e:EvC,e.e=(s.doP g.main m (L.map Stm.er) fuel i).2.1/\v= .tuple [.agg (evC e).toArray,I64 (s.doP g.main m (L.map Stm.er) fuel i).2.2].toArray/\q'=rsH acC 3 158 e.aa e.ac e.e.acc::rsH snC 3 161 e.na e.nc e.e.syn::maH p K (s.doP g.main m (L.map Stm.er) fuel i).1::q):=by
 refine aB func37 ntmps37 rfl fun F cs=> ?_;obtain ⟨D,f⟩:=lM (s.doP g.main m (L.map Stm.er) fuel i);rw [<-f];unfold MS.doP at f;refine Ra fun U hs=> ?_;have hl:U.ths.length=s.ths.length:=(by rw [<-hs,kI])
 refine xo 2 ?_;refine Zh zeroValue63 fun n1=> ?_
 refine oo 7 ?_;refine bM call55 (Mm (p:=p) (K:=K) clA) ?_;refine rn [3,1009,6] ?_;refine bB [17,5,4,0,1] ?_;apply Zb 8 25 17 rfl
 . intro w h0;have s0:=sp w;refine rn [4,0,3] ?_;exact Zz h0 ⟨orF w,Zw⟩
 . intro w h0;have s0:=sp w;refine oo 8 ?_;exact Zz h0 ⟨orT w,Zw⟩
 refine ox 2 ?_;refine xp 14 ?_ ?_<;>intro h1
 . rw [if_pos (by omega)] at f;refine rn [4,0,2] ?_;refine Zq (rsH acC 3 158 A2.aa A2.ac A2.e.acc::rsH snC 3 161 A2.na A2.nc A2.e.syn::maH p K s::q) func37 (N3 results37) ⟨_,rfl,A2,by rw [f],by rw [f];rfl,by rw [f]⟩ (aM (b:=maH p K s::(q++F)) (J3 hs (by unfold mcL;exact leA)) (aM (Zc snC 3 161 _) (Zc acC 3 158 _)))
 rw [if_neg (by omega)] at f;obtain ⟨n,rfl⟩:=bP (show 0<=i by omega);have hn:n<s.ths.length:=(by omega);rw [show ((n:Nat):Int).toNat=n from rfl] at f;refine cS (q':=maH p K s::pto n1 A9::(q++F)) (J3 hs (by unfold mcL;exact leA)) ?_;clear hs hl;refine xo 4 ?_;refine Zv call56 (aH _) (Iz (S:=s) (L:=L) (q:=pto n1 A9::(q++F)) (hE.le leA) (hQ.le leA) hS h8.2 hys hN) ?_;rintro _ _ ⟨a1,c1,rfl,rfl⟩;refine ox 4 ?_;refine xp 27 ?_ ?_<;>intro h2
 . rw [if_pos (by omega)] at f;refine rn [4,0,2] ?_;refine Zq (rsH acC 3 158 A2.aa A2.ac A2.e.acc::rsH snC 3 161 A2.na A2.nc A2.e.syn::maH p K s::q) func37 (N3 results37) ⟨_,rfl,A2,by rw [f],by rw [f];rfl,by rw [f]⟩ (aM (b:=maH p K s::(q++F)) leA (aM (Zc snC 3 161 _) (Zc acC 3 158 _)))
 rw [if_neg (by omega)] at f;refine xo 5 ?_;refine Zv call75 leA (Xd (n:=n) (s:=s) (L:=L) (q:=pto n1 A9::(q++F)) (hE.le leA) (hQ.le leA) (hS n hn) hys hN) ?_;rintro _ _ ⟨rfl,rfl⟩;refine ox 3 ?_;refine cY 33 rfl ?_ ?_<;>intro y
 . replace y:s.can m (L.map Stm.er) n=false:=(by simpa using y);rw [if_pos y] at f;refine rn [4,0,2] ?_;refine Zq (rsH acC 3 158 A2.aa A2.ac A2.e.acc::rsH snC 3 161 A2.na A2.nc A2.e.syn::maH p K s::q) func37 (N3 results37) ⟨_,rfl,A2,by rw [f],by rw [f];rfl,by rw [f]⟩ (aM (b:=maH p K s::(q++F)) leA (aM (Zc snC 3 161 _) (Zc acC 3 158 _)))
 replace y:s.can m (L.map Stm.er) n=true:=(by simpa using y);rw [if_neg (by rw [y];decide)] at f;dsimp only at f;have hg:=hG n hn y;have c0:=hS n hn;have d0:(s.th n).st≠4:=(fun e=>by unfold MS.can at y;rw [if_pos (.inr (.inr e))] at y;cases y);have ha:=c0.a d0;have r0:=c0.in;have p0:=c0.k;have n0:=c0.p;obtain ⟨j,hj⟩:=bP ha.1;rw [hj] at f hg ha;rw [aI] at ha;have f0:j<L.length:=(by omega);rw [show (L.map Stm.er).getD (j:Int).toNat R5=(L[j]).er by rw [cT,aG,bJ,aE f0];rfl] at f hg;have hX:=hQ.c j f0;obtain ⟨x,hx⟩:=lM L[j];rw [<-hx] at hX f hg;obtain ⟨h,l0⟩:=lM x.er.idn;rw [<-l0] at f hg;have u:Cl q ⟨sb,so+j*25+21,none⟩ (I64 h):=hX 21 (I64 h) (by rw [l0];obtain ⟨kk,ln,cl,nm,wt,⟨ek,en,d1,y0,e1,b1,el,ea,ec⟩,⟨xk,xn,u0,xsl,v0,t0,xl,xa,xc⟩,bd,z0,ba,bc,g1,f1,x0,sl,ot,w0⟩:=x;rfl);refine Ra fun U hs=> ?_;have a0:n<U.ths.length:=(by rw [<-hs,kI] at hn;exact hn);have o:s.th n=(U.ths[n]).t:=(by rw [<-hs];exact Ug a0)
 have q0:(Df m U.ths[n].t.code U.ths[n].t.pc).a=(j:Int):=(by rw [<-o];exact hj);have e0:U.ths[n].t.st≠4:=(by rw [<-o];exact d0);have o0:0<=U.ths[n].t.code/\U.ths[n].t.code<m.threads.length:=(by rw [<-o];exact p0);have k0:U.ths[n].t.pc<(m.threads[(U.ths[n].t.code).toNat]'(by omega)).ins.length:=(by simp only [<-o];exact r0);have m0:0<=U.ths[n].t.pc:=(by rw [<-o];exact n0.1);refine U7 (l:=U.ths) (by omega) fun ga e_=> ?_;have hr: ∀ r,Sees (rsH mtC 7 147 U.ha U.hc U.ths::r) (some ⟨ga,0,none⟩) (U.ths.flatMap mtC):=fun r=>by rw [<-e_];exact cI r
 refine rf [9,0,1,3043,1] e_ ?_;refine bM call76 (Xn (p:=p) (K:=K) (g:=g) (m:=m) (L:=L) (sb:=sb) (so:=so) (j:=j) (c:=ga) (a:=0+(n:Int).toNat*7) (st:=U.ths[n].t.st) (k:=U.ths[n].t.code) (x:=U.ths[n].t.pc) (hE.le leA) (hQ.le leA) clA clA (dW (n:=n) (hr _) leA Z8 a0 rfl 1 _ rfl) e0 (dW (n:=n) (hr _) leA Z8 a0 rfl 2 _ rfl) (dW (n:=n) (hr _) leA Z8 a0 rfl 3 _ rfl) o0 ⟨m0,k0⟩ q0 f0) ?_;refine oo 5 ?_;refine eP (q':=maH p K s::pto n1 A9::(q++F)) (J3 hs (by unfold mcL;exact leA)) ?_;refine Zv call65 (aH _) (mcopy_ok (q:=pto n1 A9::(q++F)) h8 hys hN hC hT) ?_;rintro _ _ ⟨p2,rfl,rfl⟩;refine XO.maO fun z b0=> ?_
 refine rn [1,0,3] ?_;refine Zl fun n2=> ?_
 refine oo 10 ?_;refine ld ?_ (hc:=(u.le leA));refine rn [3,0,3,0,5] ?_;refine eP (q':=spH n2 K n ⟨sb,so+j*25,none⟩ s (zEv n h)::maH p K s::pto n1 A9::(q++F)) (aM (Zc snC 3 161 _) (aM (Zc acC 3 158 _) (sp_in (U:=z) (e:=(⟨zEv n h,none,0,none,0⟩:EvC)) b0 rfl (by unfold mcL evL;exact leA)))) ?_;obtain ⟨R,hR⟩:=lM (doM g.main m x.er.kd x.er.slt n fuel s (zEv n h));rw [<-hR] at f;refine Zv call77 (aH _) (mdo_ok (N:=N) (n_:=fuel) (x:=x) (s:=s) (ev:=zEv n h) (q:=maH p K s::pto n1 A9::(q++F)) (hX.le leA) (hE.le leA) (gc.le leA) (ge.le leA) hk hn hg) ?_;rintro _ _ ⟨rfl,rfl⟩;rw [<-hR];refine ox 7 ?_;refine cY 71 rfl ?_ ?_<;>intro h4
 . replace h4:R.2.2≠0:=sp h4;rw [if_pos h4] at f;refine X.spO fun z d b0 g0=> ?_
   refine Ra fun i0 j0=> ?_
   refine xo 9 ?_;refine ld ?_ (hc:=(u.le leA));refine rn [3,0,2,0,1,2,3,4] ?_;refine ldD 4 ?_ (hc:=(u.le leA));refine rn [6,7,8,9,10,11,12,13,14,0] ?_;refine Zq (rsH acC 3 158 (⟨{ zEv n h with trap:=R.2.2,acc:=d.e.acc },d.aa,d.ac,none,0⟩:EvC).aa (⟨{ zEv n h with trap:=R.2.2,acc:=d.e.acc },d.aa,d.ac,none,0⟩:EvC).ac (⟨{ zEv n h with trap:=R.2.2,acc:=d.e.acc },d.aa,d.ac,none,0⟩:EvC).e.acc::rsH snC 3 161 (⟨{ zEv n h with trap:=R.2.2,acc:=d.e.acc },d.aa,d.ac,none,0⟩:EvC).na (⟨{ zEv n h with trap:=R.2.2,acc:=d.e.acc },d.aa,d.ac,none,0⟩:EvC).nc (⟨{ zEv n h with trap:=R.2.2,acc:=d.e.acc },d.aa,d.ac,none,0⟩:EvC).e.syn::maH p K D.1::q) func37 (N3 results37) ⟨_,rfl,(⟨{ zEv n h with trap:=R.2.2,acc:=d.e.acc },d.aa,d.ac,none,0⟩:EvC),by rw [f,<-g0],by rw [f];rfl,rfl⟩ (aM (b:=maH p K D.1::rsH acC 3 158 d.aa d.ac d.e.acc::(q++F)) (J3 (U:=({ i0 with out:=⟨4,R.2.2,n,h⟩ } :MC)) (by rw [f,<-j0];rfl) (by unfold mcL;exact leA)) (aM (Zc snC 3 161 _) leA))
 replace h4:R.2.2=0:=(by simpa using h4);rw [if_neg (fun k=>k h4)] at f;refine X.spO fun z d b0 g0=> ?_
 refine Ra fun i0 j0=> ?_
 refine rn [8,0,1,0,6,0,0,2] ?_;refine Zq (rsH acC 3 158 d.aa d.ac d.e.acc::rsH snC 3 161 d.na d.nc d.e.syn::maH p K D.1::q) func37 (N3 results37) ⟨_,rfl,d,by rw [f,<-g0],by rw [f];rfl,rfl⟩ (aM (b:=maH p K D.1::rsH acC 3 158 d.aa d.ac d.e.acc::rsH snC 3 161 d.na d.nc d.e.syn::(q++F)) (J3 (U:=z) (by rw [f,<-b0]) (by unfold mcL;exact leA)) leA)
end
structure MHd (q:List HP) (K:MK) (sb so:Nat) (g:FC) (m:Mdl) (L:List Stm) (fuel N:Nat) (s:MS):Prop where
 E:ME q K g m
 Q:MQ q K sb so L
 gc:GC q
 ge:GE q
 k:Hy m=0
 S: ∀ n,n<s.ths.length->Stands m (L.map Stm.er) s n
 h8:1<=s.ths.length/\s.ths.length<=8
 y:s.sy.ok N
 n9:N<=1000000000
 C:s.cells.length<=1000000
 T: ∀ t∈s.ths,t.loc.length<=1000000/\t.stk.length<=1000000/\t.sp.length<=1000000
 G: ∀ n,n<s.ths.length->s.can m (L.map Stm.er) n=true->GoodM g m (((L.map Stm.er).getD ((s.th n).at m).a.toNat R5).kd) (((L.map Stm.er).getD ((s.th n).at m).a.toNat R5).slt) n N fuel true (s.put n { s.th n with st:=1 }) { zEv n (((L.map Stm.er).getD ((s.th n).at m).a.toNat R5).idn) with woke:=decide ((s.th n).st=3) }
theorem MHd.le {q':List HP}(h:MHd q' K sb so g m L fuel N s)(l:Le q q'):MHd q K sb so g m L fuel N s:=⟨h.E.le l,h.Q.le l,h.gc.le l,h.ge.le l,h.k,h.S,h.h8,h.y,h.n9,h.C,h.T,h.G⟩
def ixM (k:Int)(n:Nat):Nat:=((k.tmod n+n).tmod n).toNat
theorem ixM_ok {k:Int}(h:0<n)(h8:n<=1000):(-(n:Int)<k.tmod n/\k.tmod n<n)/\(0<=(k.tmod n+n).tmod n/\(k.tmod n+n).tmod n<n)/\ixM k n<n:=by
 have c: -(n:Int)<k.tmod n/\k.tmod n<n:=by
  have e:=Int.tmod_lt_of_pos k (b:=(n:Int)) (by omega);have d:=Int.lt_tmod_of_pos k (b:=(n:Int)) (by omega);exact ⟨d,e⟩
 have a:0<=(k.tmod n+n).tmod n/\(k.tmod n+n).tmod n<n:=⟨Int.tmod_nonneg _ (by omega),Int.tmod_lt_of_pos _ (by omega)⟩;exact ⟨c,a,by unfold ixM;omega⟩
def MS.stepP (main:Int)(m:Mdl)(L:List PStm)(fuel:Nat)(s:MS)(k:Int):MS×PEv×Int:=
 if (s.all m L).length=0 then (s,zEv 0 0,150) else s.doP main m L fuel ((s.all m L).getD (ixM k (s.all m L).length) 0)
theorem all_lenM (m:Mdl)(L:List PStm)(s:MS):(s.all m L).length<=s.ths.length:=by
 unfold MS.all;rw [aI];have:=fZ (fun n=>s.can m L n) (List.range s.ths.length);rwa [List.length_range] at this
section
variable {a:Nat}{k:Int}
theorem mStep_ok (hH:MHd q K sb so g m L fuel N s)(hk: -9223372036854775808<=k/\k<=9223372036854775807):CallF prog G 59 [.pointer (some ⟨p,0,none⟩),I64 k] (maH p K s::q) (Ret fun v q'=> ∃ e:EvC,e.e=(s.stepP g.main m (L.map Stm.er) fuel k).2.1/\v= .tuple [.agg (evC e).toArray,I64 (s.stepP g.main m (L.map Stm.er) fuel k).2.2].toArray/\q'=rsH acC 3 158 e.aa e.ac e.e.acc::rsH snC 3 161 e.na e.nc e.e.syn::maH p K (s.stepP g.main m (L.map Stm.er) fuel k).1::q):=by
 refine aB func59 ntmps59 rfl fun F cs=> ?_;obtain ⟨D,a⟩:=lM (s.stepP g.main m (L.map Stm.er) fuel k);rw [<-a];unfold MS.stepP at a;have d:=all_lenM m (L.map Stm.er) s;have o:=hH.h8;refine Ra fun U t=> ?_
 refine xo 2 ?_;refine Zh zeroValue63 fun n1=> ?_
 refine oo 6 ?_;refine bM call55 (Mm (p:=p) (K:=K) clA) ?_;refine rn [2,1009,5] ?_;refine eP (q':=maH p K s::pto n1 A9::(q++F)) (J3 t (by unfold mcL;exact leA)) ?_;refine Zv call56 (aH _) (Iz (S:=s) (L:=L) (q:=pto n1 A9::(q++F)) (hH.E.le leA) (hH.Q.le leA) hH.S o.2 hH.y hH.n9) ?_;rintro _ _ ⟨a1,c1,rfl,rfl⟩;obtain ⟨A,x⟩:=lM (s.all m (L.map Stm.er));rw [<-x] at a d|-;refine ox 9 ?_;refine xp 15 ?_ ?_<;>intro h2
 . rw [if_pos (by omega)] at a;refine rn [4,0,2] ?_;refine Zq (rsH acC 3 158 A2.aa A2.ac A2.e.acc::rsH snC 3 161 A2.na A2.nc A2.e.syn::maH p K s::q) func59 (N3 results59) ⟨_,rfl,A2,by rw [a],by rw [a];rfl,by rw [a]⟩ (aM (b:=maH p K s::(q++F)) leA (aM (Zc snC 3 161 _) (Zc acC 3 158 _)))
 rw [if_neg (by omega)] at a;have h:0<A.length:=(by omega);obtain ⟨u,n,c⟩:=ixM_ok (k:=k) h (by omega);refine Rw (l:=A) (by omega) fun z f=> ?_;have j: ∀ r,Sees (lsH I64 3 a1 c1 A::r) (some ⟨z,0,none⟩) (A.map I64):=fun r=>by rw [<-f];exact bY r
 refine xo 16 ?_;refine aW 28 (I64 (ixM k A.length:Int)) rfl (by unfold ixM;rw [Int.toNat_of_nonneg n.1]) ?_;refine rf [3018,1] f ?_;refine ld ?_ (hc:=(((j _).le leA).at (by omega) c));refine aW 30 (I64 (A.getD (ixM k A.length) 0)) rfl (by rw [aG,aE c];rfl) ?_;refine Zv call37 leA (mDo_ok (N:=N) (fuel:=fuel) (s:=s) (L:=L) (g:=g) (m:=m) (sb:=sb) (so:=so) (i:=A.getD (ixM k A.length) 0) (q:=pto n1 A9::(q++F)) (hH.E.le leA) (hH.Q.le leA) (hH.gc.le leA) (hH.ge.le leA) hH.k hH.S o hH.y hH.n9 hH.C hH.T hH.G) ?_;rintro _ _ ⟨e,w,rfl,rfl⟩;refine rn [2,0,2] ?_;refine Zq (rsH acC 3 158 e.aa e.ac e.e.acc::rsH snC 3 161 e.na e.nc e.e.syn::maH p K D.1::q) func59 (N3 results59) ⟨_,rfl,e,by rw [w,a],by rw [a];rfl,rfl⟩ (by rw [a];exact leA)
end
theorem Dm:(prog.info? 63).map (fun i=>(i.zero,i.size,i.bytes))=some (some (.agg #[I64 0,I64 0,.bool false,I64 0,.slice none 0 0,.bool false,I64 0,I64 0,.slice none 0 0]),9,104):=by kernel_rfl
theorem Dn (x:EvC):(evC x).length=9:=rfl
theorem Zvn (x:EvC):(evC x).all (·.oneCell')=true:=rfl
def Wo (main:Int)(m:Mdl)(L:List PStm)(fuel:Nat):MS->List Int->MS×List PEv
 |s, []=>(s, [])
 |s,k::r=>if (s.stepP main m L fuel k).2.2≠0 then ((s.stepP main m L fuel k).1, []) else ((Wo main m L fuel (s.stepP main m L fuel k).1 r).1,(s.stepP main m L fuel k).2.1::(Wo main m L fuel (s.stepP main m L fuel k).1 r).2)
abbrev evsL (a:Option Addr)(c:Nat)(l:List EvC)(r:List HP):List HP:=rsH evC 9 63 a c l::stars (l.map fun x=>stars (evL x))::r
def Br (n:Int)(k:Nat):List Int:=(List.range k).map fun i:Nat=>n+i
theorem Bt (n:Int)(a b:Nat):Br n (a+b)=Br n a++Br (n+a) b:=by
 unfold Br;rw [List.range_add,aO,fC];congr 1;apply List.map_congr_left;intro i _;show n+((a+i:Nat):Int)=n+a+i
 omega
theorem seqI_one (n:Int):Br n 1= [n]:=by simp [Br,jU]
mutual
theorem I9 {c:Cn}{lo:Int}: ∀ (s:PStm) (d n n' e:Int),s.ask c lo d n=some n'-> ∃ k:Nat,n'=n+k/\(s.its e).map (fun y=>y.2.idn)=Br n k
 | .mk k ln cl nm wt ex ix body els id slot other loc,d,n,n',e,h=>by
  unfold PStm.ask at h;split at h
  . cases h
  rename_i a;split at h
  . split at h
    . cases h
    rename_i m l;obtain ⟨i,o,f⟩:=Jm body (d+1) (n+1) m (e+1) l;obtain ⟨g,p,b⟩:=Jm els (d+1) m n' (e+1) h;refine ⟨1+(i+g),by omega,?_⟩;have j:id=n:=by by_cases q:id=n;exact q;exact aV (.inr (.inr q)) a
    unfold PStm.its;rw [bA,aO,f,b,Bt,seqI_one,Bt,o,show (n:Int)+((1:Nat):Int)=n+1 from rfl];show id::_=_
    rw [j];rfl
  cases h
theorem Jm {c:Cn}{lo:Int}: ∀ (l:List PStm) (d n n' e:Int),Z3 c lo l d n=some n'-> ∃ k:Nat,n'=n+k/\(Zt l e).map (fun y=>y.2.idn)=Br n k
 | [],d,n,n',e,h=>by
  unfold Z3 at h;cases h
  exact ⟨0,by simp,by simp [Zt,Br]⟩
 |s::r,d,n,n',e,h=>by
  unfold Z3 at h;split at h
  . cases h
  rename_i m i;obtain ⟨g,j,b⟩:=I9 s d n m e i;obtain ⟨f,o,a⟩:=Jm r d m n' e h;refine ⟨g+f,by omega,?_⟩;unfold Zt;rw [aO,b,a,Bt,j]
end
def Vf (F:Fnd):List PStm:=F.ths.flatMap fun t=>(Zt t.body 0).map Prod.snd
theorem Zku {c:Cn}: ∀ (l:List PTh) (n n':Int),Wh c l n=some n'-> ∃ k:Nat,n'=n+k/\(l.flatMap fun t=>(Zt t.body 0).map Prod.snd).map PStm.idn=Br n k
 | [],n,n',h=>by unfold Wh at h;cases h;exact ⟨0,by simp,by simp [Br]⟩
 |t::r,n,n',h=>by
  unfold Wh at h;split at h
  . cases h
  split at h
  . cases h
  rename_i m e;obtain ⟨d,f,g⟩:=Jm t.body 1 n m 0 e;obtain ⟨b,i,a⟩:=Zku r m n' h;refine ⟨d+b,by omega,?_⟩;rw [bZ,aO,a,fC,Bt,<-f];congr 1
theorem may_ids (h:Bz F=true): ∃ k:Nat,F.stm=k/\(Vf F).map PStm.idn=Br 0 k:=by
 unfold Bz at h;simp only [aR,eI] at h;obtain ⟨k,e,l⟩:=Zku F.ths 0 _ h.2;exact ⟨k,by omega,l⟩
theorem Zkt (h:Bz F=true){i:Nat}(hi:i<(Vf F).length):((Vf F)[i]).idn=i:=by
 obtain ⟨k,_,l⟩:=may_ids h;have a:((Vf F).map PStm.idn)[i]? =some ((Vf F)[i]).idn:=by rw [bJ,aE hi];rfl
 have b:i<k:=by have:=aQ List.length l;rw [aI] at this;unfold Br at this;simp at this;omega
 rw [l] at a;unfold Br at a;rw [bJ,List.getElem?_range b] at a;simp at a;exact a.symm
def Zwz {τ:Type}(P:Program)(G:World)(gv:Value)(R:τ->List Value->HP->Prop)(xs:List τ)(M0 M1:HP)(pre:List HP):Prop:=
 ∀ (l:Nat) (J:Nat->HP),
  (∀ i (h:i<xs.length) vs A,R xs[i] vs A->CallV P G (Aw l) vs (J i::A::pre) (Ret fun v q=>v= .bool true/\q=J (i+1)::pre))->
  CallV P G gv [.func (.yield l) #[] #[]] (J 0::M0::pre) (Ret fun _ q=>q=J xs.length::M1::pre)
theorem Zqy {k:List Item}{p:PE}{τ:Type}{g:Operand}{ps:List Tmp}{ag bd:Code}{gv:Value}{R:τ->List Value->HP->Prop}{xs:List τ}{F:List HP}{M0 M1:HP}(pre:List HP)(Inv:Nat->List HP)(hI:Zwz P G gv R xs M0 M1 pre)(hg:evp p g=some gv)(hq:Le q (Inv 0++((M0::pre)++F)))
 (hxs: ∀ x vs A,R x vs A->vs.length=ps.length) (hps:ps.all (Nat.blt · f.n)=true) (hf:(P.funcs[f.fn]?).isSome=true) (hro:f.round=none)
 (round: ∀ i (h:i<xs.length) vs A,R xs[i] vs A-> ∀ l rec F₀ cs₀,X P G ⟨f.fn,f.n,.normal,some l⟩ (RQ cs₀ rec l (Inv (i+1)) (fun _ _=>False) (pre++F₀)) [.code ag,.beginRound,.code bd] (Gq ps vs p) [] cs₀ (lp rec l .ready none::(Inv i++(A::(pre++F₀)))))
 (cont: ∀ r,X P G f Q k p (markD r::ds) cs (pto r (.deferred (some []))::(Inv xs.length++((M1::pre)++F)))):
 X P G f Q (.code (.rangeFunc g ps.toArray ag bd)::k) p ds cs q:=by
 refine X.rangeFunc (pre:=Inv 0++(M0::pre)) (F:=F) (R':=fun a q1=>a=none/\q1=Inv xs.length++(M1::pre)) hro hg (by rw [aK];exact hq) (fun l rec b=> ?_) fun r a q1 h=> ?_
 . have m:=hI l (fun i=>stars (lp rec l .ready none::Inv i)) fun i h vs A hR=> ?_
   . refine hY (pre':=stars (lp rec l .ready none::Inv 0)::(M0::pre)) (Zm (lp rec l .ready none::Inv 0) (M0::pre)) m ?_;rintro e j ⟨v,rfl,rfl⟩;exact ⟨lp rec l .ready none::(Inv xs.length++(M1::pre)),⟨v,rfl,.ready,none,_,by simp,rfl,rfl,rfl⟩,Zy (lp rec l .ready none::Inv xs.length) (M1::pre)⟩
   refine hY (pre':=lp rec l .ready none::(Inv i++(A::pre))) (Zy (lp rec l .ready none::Inv i) (A::pre))
    (CallV.yield (R:=Ret fun v q=>v= .bool true/\q=lp rec l .ready none::(Inv (i+1)++pre)) b hps (by simpa using hxs _ _ _ hR) hf (fun F₀ cs₀=> ?_)) ?_
   . intro tm w hn ha s;obtain ⟨o,d,p',z,a0,w',j,⟨y,u,t⟩,h1,h2,h3,h4⟩:=round i h vs A hR l rec F₀ cs₀ tm w hn ha (by rw [aK] at s;exact s);refine ⟨o,d,p',z,a0,w',j,⟨y,u,?_⟩,h1,h2,h3,h4⟩
     cases o with
     |fall=>exact ⟨Inv (i+1)++pre,⟨_,rfl,rfl,rfl⟩,by rw [aK];exact t⟩
     |jump c=>obtain ⟨qs,hJ,b0⟩:=t;exact hJ.elim
     |panic ch=>exact t.elim
   rintro e j ⟨v,rfl,rfl,rfl⟩;exact ⟨stars (lp rec l .ready none::Inv (i+1))::pre,⟨_,rfl,rfl,rfl⟩,Zm (lp rec l .ready none::Inv (i+1)) pre⟩
 obtain ⟨rfl,rfl⟩:=h;have:=cont r;rw [<-aK] at this;exact this
def EvR (x:PEv)(vs:List Value)(A:HP):Prop:= ∃ e:EvC,e.e=x/\vs= [.agg (evC e).toArray]/\A=stars (evL e)
section
variable {a:Nat}{k:Int}{picks:List Int}{pa:Option Addr}{pc n1 n2 y:Nat}{J:Nat->MS->Prop}{S:MS}{Y:Nat->HP}
theorem Zwc (hc1:Cl pre ⟨n1,0,none⟩ (AQ pa picks pc))(hc2:Cl pre ⟨n2,0,none⟩ (AJ p))(h0:J 0 S)(hJ: ∀ j s k,J j s->J (j+1) (s.stepP g.main m (L.map Stm.er) fuel k).1)(hH: ∀ j s,J j s->j<=picks.length->MHd pre K sb so g m L fuel (N+j) s)(hs:Sees pre pa (picks.map I64))(hk: ∀ k∈picks, -9223372036854775808<=k/\k<=9223372036854775807)(hp:picks.length<=10000)(hy: ∀ i (h:i<(Wo g.main m (L.map Stm.er) fuel S picks).2.length) vs A,EvR (Wo g.main m (L.map Stm.er) fuel S picks).2[i] vs A->CallV prog G (Aw y) vs (Y i::A::pre) (Ret fun v q=>v= .bool true/\q=Y (i+1)::pre)):CallF prog G 117 [.func (.yield y) #[] #[],pt n1,pt n2] (Y 0::maH p K S::pre) (Ret fun v q'=>q'=Y (Wo g.main m (L.map Stm.er) fuel S picks).2.length::maH p K (Wo g.main m (L.map Stm.er) fuel S picks).1::pre):=by
 refine aB func117 ntmps117 rfl fun F cs=> ?_;obtain ⟨R,hR⟩:=lM (Wo g.main m (L.map Stm.er) fuel S picks);rw [<-hR];simp only [<-hR] at hy;refine xo 2 ?_;refine ld ?_ (hc:=(hc1.le leA));refine ox 4 ?_;refine aX (cC (fun (s:Nat×MS)=>s.1<=picks.length/\s.1<=R.2.length/\J s.1 s.2/\R=((Wo g.main m (L.map Stm.er) fuel s.2 (picks.drop s.1)).1,R.2.take s.1++(Wo g.main m (L.map Stm.er) fuel s.2 (picks.drop s.1)).2)) (fun s=> [(0,.func (.yield y) #[] #[]),(2,pt n2),(8,.slice pa picks.length pc),(9,I64 picks.length),(10,I64 (s.1:Int))]) (fun s=>Y s.1::maH p K s.2::(pre++F)) (fun s=>picks.length - s.1) (fun s u ih=> ?_) (0,S) ⟨bC _,bC _,h0,by rw [hR];rfl⟩) Zn leA;try dsimp only at u ih|-
 obtain ⟨hi,c0,hj,a⟩:=u;obtain ⟨i,s⟩:=s;dsimp only at*;refine xx 5 ?_;refine xp 11 ?_ ?_<;>intro h0
 . have t:i<picks.length:=(by omega);have b0:=hH i s hj (by omega);have a0:=hJ i s picks[i] hj;rw [aP t,Wo] at a;obtain ⟨D,hD⟩:=lM (s.stepP g.main m (L.map Stm.er) fuel picks[i]);rw [<-hD] at a a0;refine Z7 (hs.le leA) (by rw [aI];omega) fun b1 o1 n=> ?_;have r:=hs;rw [n] at r;refine rg [6,3008,1,0,4] n r ?_;refine ld ?_ (hc:=(hc2.le leA));refine oo 1 ?_;refine Zv call59 (bD Zj (aH _)) (mStep_ok (N:=N+i) (s:=s) (k:=picks[i]) (fuel:=fuel) (sb:=sb) (so:=so) (L:=L) (g:=g) (m:=m) (q:=Y i::(pre++F)) (b0.le leA) (hk _ (aC t))) ?_;rintro _ _ ⟨x,hx,rfl,rfl⟩;rw [<-hD] at hx|-;refine oo 3 ?_;refine Zh zeroValue63 fun n3=> ?_
   refine rn [0,6] ?_;by_cases h5:D.2.2=0
   . refine XO.kf 21 ?_ rfl (by simp [h5]);refine oo 1 ?_;rw [if_neg (fun k=>k h5)] at a;dsimp only at a;have c:R.2=R.2.take i++D.2.1::(Wo g.main m (L.map Stm.er) fuel D.1 (picks.drop (i+1))).2:=aQ Prod.snd a;have d:=aQ Prod.fst a;dsimp only at d;have f:i<R.2.length:=(by rw [c,aA,bI,aJ];omega);have w:R.2[i]=D.2.1:=(by have o:=aQ (fun l:List PEv=>l[i]?) c;rw [aE f,dG (by rw [bI];omega),bI,eW (by omega),lA] at o;simpa using o);refine rn [1,0] ?_;refine iV (aM (b:=rsH acC 3 158 x.aa x.ac x.e.acc::rsH snC 3 161 x.na x.nc x.e.syn::Y i::([maH p K D.1]++(pre++F))) leA (aM (cG _ (cG _ (cG _ (K8 [maH p K D.1] pre F)))) (aM (Zm (evL x) _) (iS _ _ _)))) (jH (maH p K D.1::F) (hy i f _ _ ⟨x,by rw [w,hx],rfl,rfl⟩)) ?_;rintro _ _ ⟨_,⟨rfl,rfl⟩,rfl⟩;refine ox 10 ?_;refine fR 8 (AQ pa picks pc) rfl (by rw [<-n]) ?_;refine aX (ih (i+1,D.1) ⟨by dsimp only;omega,f,a0,by dsimp only;rw [aN f,w,aK];exact a⟩ (by dsimp only;omega)) Zn (cG _ (K8 pre [maH p K D.1] F))
   refine XO.kt 21 ?_ rfl (by simp [h5]);refine oo 1 ?_;rw [if_pos h5] at a;dsimp only at a;have d:R.1=D.1:=(by rw [a]);have c:R.2.length=i:=(by have o:=aQ (fun z:MS×List PEv=>z.2.length) a;simp only [bR,bI] at o;omega);refine ox 7 ?_;refine Zq (Y R.2.length::maH p K R.1::pre) func117 (Yy results117) ⟨_,rfl,rfl⟩ (by rw [d,c];exact leA)
 obtain rfl:i=picks.length:=(by omega);rw [dP] at a;simp only [Wo,bR] at a;have d:R.1=s:=aQ Prod.fst a;have c:R.2.length=picks.length:=(by have o:=aQ (fun z:MS×List PEv=>z.2.length) a;simp only [bI] at o;omega);refine xx 2 ?_;refine Zr (Y R.2.length::maH p K R.1::pre) func117 (Yy results117) ⟨_,rfl,rfl⟩ (by rw [d,c];exact leA)
abbrev Av (v0:Option Addr)(v1:List Int)(v2:Nat):=((.cells [.slice v0 v1.length v2].toArray 23 (0,0)):Obj)
abbrev AL (v0:Nat):=((.cells (A3 v0).toArray 54 (0,0)):Obj)
theorem steps_ok:CallF prog G 57 [.pointer (some ⟨p,0,none⟩),.slice pa picks.length pc] (q) (Ret fun v q'=> ∃ na nb,v= .func (.func 117) [].toArray [.pointer (some ⟨nb,0,none⟩),.pointer (some ⟨na,0,none⟩)].toArray/\q'=pto nb (Av pa picks pc)::pto na (AL p)::q):=by
 refine aB func57 ntmps57 rfl fun F cs=> ?_;refine xo 2 ?_;refine Zl fun n1=> ?_
 refine Zl fun n2=> ?_
 refine ox 7 ?_;refine Zq (pto n2 (Av pa picks pc)::pto n1 (AL p)::q) func57 (Zf results57 rfl) ⟨_,rfl,n1,n2,rfl,rfl⟩
theorem Zzg (hc1:Cl pre ⟨n1,0,none⟩ (AQ pa picks pc))(hc2:Cl pre ⟨n2,0,none⟩ (AJ p))(h0:J 0 S)(hJ: ∀ j s k,J j s->J (j+1) (s.stepP g.main m (L.map Stm.er) fuel k).1)(hH: ∀ j s,J j s->j<=picks.length->MHd pre K sb so g m L fuel (N+j) s)(hs:Sees pre pa (picks.map I64))(hk: ∀ k∈picks, -9223372036854775808<=k/\k<=9223372036854775807)(hp:picks.length<=10000):Zwz prog G (.func (.func 117) [].toArray [pt n1,pt n2].toArray) EvR (Wo g.main m (L.map Stm.er) fuel S picks).2 (maH p K S) (maH p K (Wo g.main m (L.map Stm.er) fuel S picks).1) pre:=
 fun y J' hy=>Jy call117 (Zwc hc1 hc2 h0 hJ hH hs hk hp hy)
end
mutual
theorem Zqs: ∀ (s:PStm) (d e:Int),(s.its d).map Prod.snd=(s.its e).map Prod.snd
 | .mk _ _ _ _ _ _ _ b l _ _ _ _,d,e=>by simp only [PStm.its,bA,aO,Kq b (d+1) (e+1),Kq l (d+1) (e+1)]
theorem Kq: ∀ (l:List PStm) (d e:Int),(Zt l d).map Prod.snd=(Zt l e).map Prod.snd
 | [],_,_=>rfl
 |s::r,d,e=>by simp only [Zt,aO,Zqs s d e,Kq r d e]
end
def ovT (t:Th):List PStm:=(Zt (Zk t.body) 1).map Prod.snd
def ovL (g:FC):List PStm:=g.ths.l.flatMap ovT
def ovO (g:FC)(k:Nat):Nat:=((g.ths.l.take k).flatMap ovT).length
theorem ovL_eq (g:FC):ovL g=Vf g.er:=by
 unfold ovL Vf;show _=(g.ths.l.map Th.er).flatMap _
 rw [jG];congr 1;funext t;exact Kq _ _ _
theorem ov_at {i:Nat}(hk:k<g.ths.l.length)(hi:i<(Zt (Zk (g.ths.l[k]).body) 1).length): ∃ h:ovO g k+i<(ovL g).length,(ovL g)[ovO g k+i]=((Zt (Zk (g.ths.l[k]).body) 1)[i]).2:=by
 have e:ovL g=(g.ths.l.take k).flatMap ovT++(ovT (g.ths.l[k])++(g.ths.l.drop (k+1)).flatMap ovT):=by
  unfold ovL;rw [<-bZ,<-aP hk,<-eK,dZ]
 have c:(ovT (g.ths.l[k])).length=(Zt (Zk (g.ths.l[k]).body) 1).length:=aI _
 have h:(ovL g)[ovO g k+i]? =some ((Zt (Zk (g.ths.l[k]).body) 1)[i]).2:=by
  rw [e];unfold ovO;rw [dG (kP _ _),kB,dB (by omega)];unfold ovT;rw [bJ,aE hi];rfl
 obtain ⟨b,a⟩:=cA.1 h;exact ⟨b,a⟩
theorem ov_next (hk:k<g.ths.l.length):ovO g (k+1)=ovO g k+(Zt (Zk (g.ths.l[k]).body) 1).length:=by
 unfold ovO;rw [aN hk,eK,aA];congr 1;show (ovT _++ []).length=_
 rw [bR];exact aI _
theorem ov_end (g:FC):ovO g g.ths.l.length=(ovL g).length:=by unfold ovO ovL;rw [bV]
def OvR (x:PStm)(vs:List Value)(A:HP):Prop:= ∃ (n:Int) (s:Stm),s.er=x/\vs= [I64 n,.agg (stC s).toArray]/\A=stM s
section
variable {nc y:Nat}{Y:Nat->HP}
theorem over1_ok (hc:CellsAt pre nc 0 (pgC g))(hK:Kn pre fun M=>g.At M)(hB:CpOk B g)(hy: ∀ i (h:i<(ovL g).length) vs A,OvR (ovL g)[i] vs A->CallV prog G (.func (.yield y) #[] #[]) vs (Y i::A::pre) (Ret fun v q=>v= .bool true/\q=Y (i+1)::pre)):CallF prog G 188 [.func (.yield y) #[] #[],.pointer (some ⟨nc,0,none⟩)] (Y 0::pre) (Ret fun v q'=>q'=Y (ovL g).length::pre):=by
 refine aB func188 ntmps188 rfl fun F cs=> ?_;have hT:=dV (hK.imp fun M h=>h.ths);have d0:=Zx Uh g.ths.l;have hL:=hB.l.2.2.2.1;have l0:=hB.b;refine xo 2 ?_;refine Zl fun n1=> ?_
 refine oo 4 ?_;refine ld ?_ (hc:=(Cl.le (hc 5 _ rfl) leA));refine ox 4 ?_;refine aX (Zv2 (fun (s:Nat×List Nat)=>s.1<=g.ths.l.length) (fun s=> [(2,pt n1),(8,.slice g.ths.a g.ths.l.length g.ths.c),(9,I64 g.ths.l.length),(10,I64 (s.1:Int))]) (fun s=>s.2.map markD++ []) (fun s=>mks s.2::Y (ovO g s.1)::pto n1 (.cells [.func (.yield y) #[] #[]].toArray 353 (0,0))::(pre++F)) (fun s=>g.ths.l.length - s.1) (fun s e0 ih=> ?_) (0, []) (bC _)) Zn (aM leA (Pg _));try dsimp only at e0 ih|-
 obtain hi:=e0;obtain ⟨j,z⟩:=s;dsimp only at*;refine xx 5 ?_;refine xp 11 ?_ ?_<;>intro h0
 . have m:j<g.ths.l.length:=(by omega);refine Z7 (hT.le leA) (by rw [d0];omega) fun b1 o1 w=> ?_;have f0:=hT;rw [w] at f0;obtain ⟨x,hx⟩:=lM g.ths.l[j];have a0:x∈g.ths.l:=(by rw [hx];exact aC m);have n:=hB.t x a0;have g0:Kn pre fun M=>BlkAt M x.a x.c x.body:=hK.imp fun M h=>h.bod x a0;have u:=fun i=>ov_at (g:=g) (k:=j) (i:=i) m;have o:=ov_next (g:=g) m;rw [<-hx] at u o
   have b0: ∀ r,Le r pre->CellsAt r b1 (o1+(j:Int).toNat*3) (thC x):=fun r l=>by rw [hx];exact fD (j:=(j:Int)) (f0.le l) (aH _) Uh m rfl
   refine rf [7,3008,1] w ?_;refine Kr (us:=thC x) isAgg218 sizeOf218 rfl (b0 _ leA) ?_;refine Zh zeroValue3 fun n2=> ?_
   refine Zh zeroValue218 fun n3=> ?_
   refine rn [0,0,4,0,1] ?_;refine Zv call187 (aH _) (Zqm (l:=x.body) (B:=B) l0 n.1 n.2 (g0.le leA)) ?_;rintro _ _ ⟨d,f,e,nb,p,rfl,rfl⟩;refine ox 2 ?_;have m0:Zu d=Zu x.body:=(by rw [<-Vu d 0,<-Vu x.body 0,p]);have k0:=Ki p n.2;rw [<-p] at u o;refine cS (q':=pto nb (.cells [.slice f d.length e].toArray 128 (0,0))::_) leA (fX ?_);refine Zqx (xs:=Zt (Zk d) 1) (im nb (.cells [.slice f d.length e].toArray 128 (0,0))::blM f e d::pto n1 (.cells [.func (.yield y) #[] #[]].toArray 353 (0,0))::pto n2 (.cells [I64 j].toArray 3 (0,0))::mks z::pre) (fun k:Nat=> [Y (ovO g j+k)]) (fun _ _=>False) (F:=F) (Gf (B:=B) (by omega) (by omega) k0 (Kn.blM.there) (dH (iT _ _ _))) rfl ?_ (by rintro _ _ _ ⟨_,_,rfl,_⟩;rfl) rfl (by rw [func188];rfl) rfl (fun i hi vs A hA l9 rec F0 y0=> ?_) (fun r=> ?_) (fun _ _ _ hJ=>hJ.elim)
   . simp only [ca,na];exact leA
   . obtain ⟨s2,i0,rfl,rfl⟩:=hA;obtain ⟨j0,c0⟩:=u i hi;rw [<-i0] at c0;refine X.sub (p':= [(20,_),(19,_),(18,_),(3,_),(8,_),(2,_),(9,_),(10,_)]) ⟨rfl,rfl,rfl,rfl,rfl,rfl,rfl,rfl,trivial⟩ ?_;simp only [ca,na];obtain ⟨kk,ln,cl,nm,wt,⟨ek,en,u0,r0,v0,t0,el,ea,ec⟩,⟨xk,xn,o0,xsl,p0,n0,xl,xa,xc⟩,bd,s0,ba,bc,x0,w0,id,sl,ot,q0⟩:=s2;refine xo 1 ?_;refine Zh zeroValue138 fun n4=> ?_
     refine rn [0,1] ?_;refine fM rfl leA ?_;refine rn [3,0,0,0] ?_;refine iV (aM (b:=Y (ovO g j+i)::stM _::([lp rec l9 .busy none,im nb (.cells [.slice f d.length e].toArray 128 (0,0)),blM f e d,pto n1 (.cells [.func (.yield y) #[] #[]].toArray 353 (0,0)),pto n2 (.cells [I64 j].toArray 3 (0,0)),mks z]++(pre++F0))) leA (cG _ (cG _ (K8 [lp rec l9 .busy none,im nb (.cells [.slice f d.length e].toArray 128 (0,0)),blM f e d,pto n1 (.cells [.func (.yield y) #[] #[]].toArray 353 (0,0)),pto n2 (.cells [I64 j].toArray 3 (0,0)),mks z] pre F0)))) (jH ([lp rec l9 .busy none,im nb (.cells [.slice f d.length e].toArray 128 (0,0)),blM f e d,pto n1 (.cells [.func (.yield y) #[] #[]].toArray 353 (0,0)),pto n2 (.cells [I64 j].toArray 3 (0,0)),mks z]++F0) (hy (ovO g j+i) j0 _ _ ⟨(j:Int),_,c0.symm,rfl,rfl⟩)) ?_;rintro _ _ ⟨_,⟨rfl,rfl⟩,rfl⟩;refine ox 5 ?_;refine gC ⟨rfl,rfl,?_⟩;exact aM (cG _ (K8 pre [lp rec l9 .busy none,im nb (.cells [.slice f d.length e].toArray 128 (0,0)),blM f e d,pto n1 (.cells [.func (.yield y) #[] #[]].toArray 353 (0,0)),pto n2 (.cells [I64 j].toArray 3 (0,0)),mks z] F0)) (by simp only [ca,na];exact leA)
   simp only [ca,na];refine xx 6 ?_;refine fR 8 (.slice g.ths.a g.ths.l.length g.ths.c) rfl (by rw [<-w]) ?_;refine aX (ih (j+1,r::z) (by dsimp only;omega) (by dsimp only;omega)) Zn (by dsimp only;rw [o];refine aM ?_ (Ff _ _ _);exact leA)
 obtain rfl:j=g.ths.l.length:=(by omega);rw [ov_end];refine xx 2 ?_;exact gC ⟨rfl,Lv.mks (gE (q':=Y (ovL g).length::pre) func188 (Yy results188) ⟨_,rfl,rfl⟩ leA) (hq:=leA)⟩
theorem over_ok:CallF prog G 110 (AB g) (q) (Ret fun v q'=> ∃ nb,v= .func (.func 188) [].toArray (A3 nb).toArray/\q'=pto nb (B4 g)::q):=by
 refine aB func110 ntmps110 rfl fun F cs=> ?_;refine xo 2 ?_;refine Zl fun n1=> ?_
 refine ox 7 ?_;refine Zq (pto n1 (B4 g)::q) func110 (Zf results110 rfl) ⟨_,rfl,n1,rfl,rfl⟩
theorem Zw9 (hc:CellsAt pre nc 0 (pgC g))(hK:Kn pre fun M=>g.At M)(hB:CpOk B g):Zwz prog G (.func (.func 188) [].toArray (A3 nc).toArray) OvR (ovL g) (stars []) (stars []) pre:=
 fun y J a=>hY (pre':=J 0::pre) (cG _ (dX _ _)) (gT call188 (over1_ok hc hK hB a)) (by
  rintro e b ⟨v,rfl,rfl⟩;exact ⟨_,⟨v,rfl,rfl⟩,cG _ (Zm [] pre)⟩)
def ovI (L:List PStm)(k nb:Nat):HP:=ex fun x:List Stm×Option Addr×Nat=>stars [pure (Zk x.1=L.take k),pto nb (.cells [.slice x.2.1 x.1.length x.2.2].toArray 128 (0,0)),rsH stC 25 138 x.2.1 x.2.2 x.1,stsM x.1]
theorem ovI_in {L:List PStm}(x:List Stm×Option Addr×Nat)(h:Zk x.1=L.take k)(hle:Le q (pto nb (.cells [.slice x.2.1 x.1.length x.2.2].toArray 128 (0,0))::rsH stC 25 138 x.2.1 x.2.2 x.1::stsM x.1::r)):Le q (ovI L k nb::r):=
 Wa x (hle.trans ((Yc h _).trans (by exact Zm [_,_,_,_] r)))
theorem X.ovI {todo:List Item}{p:PE}{L:List PStm}
 (x: ∀ (l:List Stm) (a:Option Addr) (c:Nat),Zk l=L.take k->X P G f Q todo p ds cs (pto nb (.cells [.slice a l.length c].toArray 128 (0,0))::rsH stC 25 138 a c l::stsM l::q)):X P G f Q todo p ds cs (Go.Proofs.YtadahhbefdnabaaGreatDoor.ovI L k nb::q):=
 X.ex (fun s=>cS (Zy _ _) (X.pure (fun h=>x s.1 s.2.1 s.2.2 h)))
theorem Zxw (hK:Kn q fun M=>g.At M)(hB:CpOk B g)(hL:(ovL g).length<=1000000):CallF prog G 51 [.agg (pgC g).toArray] (q) (Ret fun v q'=> ∃ (l':List Stm) (a':Option Addr) (c':Nat),Zk l'=ovL g/\v= .slice a' l'.length c'/\q'=blM a' c' l'::q):=by
 refine aB func51 ntmps51 rfl fun F cs=> ?_;refine xo 2 ?_;refine Zl fun n1=> ?_
 refine oo 4 ?_;refine Zh zeroValue128 fun n2=> ?_
 refine rn [4,0] ?_;refine Zv call110 (aH _) (over_ok (g:=g)) ?_;rintro _ _ ⟨nb,rfl,rfl⟩;refine ox 2 ?_;refine cS (q':=pto nb (.cells (pgC g).toArray 29 (0,0))::_) leA (fX ?_);refine Zqy (xs:=ovL g) (im nb (.cells (pgC g).toArray 29 (0,0))::q) (fun k:Nat=> [ovI (ovL g) k n2]) (F:=F) (Zw9 (B:=B) (dH (iT _ _ _)) hK.there hB) rfl ?_ (by rintro _ _ _ ⟨_,_,_,rfl,_⟩;rfl) rfl (by rw [func51];rfl) rfl (fun i hi vs A hA l9 rec F0 e0=> ?_) fun r=> ?_
 . simp only [ca,na];refine ovI_in ([],none,0) (by simp [Zk]) ?_;exact aM (Zm [] _) (aM K9 (aM (Zc stC 25 138 _) leA))
 . obtain ⟨d9,s2,c0,rfl,rfl⟩:=hA;refine X.sub (p':= [(9,_),(8,_),(7,_),(3,_),(2,_)]) ⟨rfl,rfl,rfl,rfl,rfl,trivial⟩ ?_;simp only [ca,na];refine cS (q':=ovI (ovL g) i n2::_) Zj (X.ovI (fun d a1 c1 h1=> ?_));have d0:d.length<=1000000:=by have e1:=aQ List.length h1;rw [Y9,bI] at e1;omega
   obtain ⟨kk,ln,cl,nm,wt,⟨ek,en,y,t,z,x,el,ea,ec⟩,⟨xk,xn,h,xsl,p,e,xl,xa,xc⟩,bd,w,ba,bc,b0,a0,id,sl,ot,s⟩:=s2;refine xo 1 ?_;refine Zh zeroValue138 fun n3=> ?_
   refine rn [0,1] ?_;refine fM rfl leA ?_;refine rn [1,0,1,2,3] ?_;refine eE 3 rfl (Yz (u:=zSm) stC underlying128 V5 rfl rfl Z2 rfl) ?_;rintro _ _ ⟨g9,rfl,rfl⟩;refine ⟨hlA,?_⟩;refine eE 4 rfl (Z4 (f:=stC) (l:=d) (m:= [zSm]) underlying128 V5 rfl rfl Z2 rfl rfl Zj ((cI _).le Zj) J5 (by simp;omega) (by simp;omega)) ?_;refine kk2 fun a3 c3=> ?_
   refine C7 (l:=d++ [zSm]) (by simp) fun g3 e3=> ?_;subst e3;refine Fv 5 rfl (Pu.indexAddr rfl rfl underlying128 sizeOf138 (by omega) (by simp;omega)) ?_;refine Yd (fl:= []) (XF.two 6 7 trivial (Nd 6 (fun E=>Sw (fl:=stC) (l:=d++ [zSm]) (u:=(Stm.mk kk ln cl nm wt (Ex.mk ek en y t z x el ea ec) (Ex.mk xk xn h xsl p e xl xa xc) bd w ba bc b0 a0 id sl ot s)) (n:=d.length) (j:=(d.length:Int)) (g:=g3) (c:=c3) (et:=138) rfl rfl sizeOf138 Z2 rfl (by simp) (J5 _) Zj E) ?_) (Nd 7 (fun E=>Ef.stE (b:=n2) (o:=0) (l:= [.slice a1 d.length c1]) (v:= .slice (some ⟨g3,0,none⟩) (d++ [zSm]).length c3) (t':=128) sizeOf128 rfl rfl rfl rfl Zj rfl E) ?_))
   focus
    rintro _ _ ⟨rfl,rfl⟩;refine ⟨trivial,eQ ?_⟩;refine stD 7 ?_
   rotate_left
   focus
    rintro _ _ ⟨rfl,rfl⟩;refine ⟨trivial,eQ ?_⟩;refine iM 6 rfl (Pl (a:=none) (fl:=stC) (l:=d++ [zSm]) (u:=(Stm.mk kk ln cl nm wt (Ex.mk ek en y t z x el ea ec) (Ex.mk xk xn h xsl p e xl xa xc) bd w ba bc b0 a0 id sl ot s)) (n:=d.length) rfl rfl sizeOf138 Z2 rfl (by simp) (J5 _) Zj) ?_;refine kk0 ?_
   all_goals
    refine rn [0,1] ?_;rw [show (d++ [zSm]).set d.length (Stm.mk kk ln cl nm wt (Ex.mk ek en y t z x el ea ec) (Ex.mk xk xn h xsl p e xl xa xc) bd w ba bc b0 a0 id sl ot s)=d++ [(Stm.mk kk ln cl nm wt (Ex.mk ek en y t z x el ea ec) (Ex.mk xk xn h xsl p e xl xa xc) bd w ba bc b0 a0 id sl ot s)] by simp];refine cS (q':=stsM (d++ [(Stm.mk kk ln cl nm wt (Ex.mk ek en y t z x el ea ec) (Ex.mk xk xn h xsl p e xl xa xc) bd w ba bc b0 a0 id sl ot s)])::_) (aM (bD Zj Zj) H1) ?_;refine gC ⟨rfl,rfl,?_⟩;simp only [ca,na];refine bD Zj (ovI_in (d++ [(Stm.mk kk ln cl nm wt (Ex.mk ek en y t z x el ea ec) (Ex.mk xk xn h xsl p e xl xa xc) bd w ba bc b0 a0 id sl ot s)],some ⟨g3,0,none⟩,c3) (by rw [C9,h1,aN hi,<-c0];rfl) ?_);rw [show (d++ [zSm]).length=(d++ [(Stm.mk kk ln cl nm wt (Ex.mk ek en y t z x el ea ec) (Ex.mk xk xn h xsl p e xl xa xc) bd w ba bc b0 a0 id sl ot s)]).length by simp];exact leA
 simp only [ca,na];refine cS (q':=ovI (ovL g) (ovL g).length n2::_) Zj (X.ovI (fun d a1 c1 h1=> ?_));rw [bV] at h1;refine cS (q':=rsH stC 25 138 a1 c1 d::stsM d::_) (bD Zj Zj) ?_;refine X.frzR (Kn.blk Kn.stsM) (mn:=kZ) ?_ (hq:=aH _);refine rn [3,0,2] ?_;exact jA ⟨rfl,Ke (q':=blM a1 c1 d::(q++F)) (gE (q':=blM a1 c1 d::q) func51 (Zf results51 rfl) ⟨_,rfl,d,a1,c1,h1,rfl,rfl⟩ leA) (hq:=bD Zj leA)⟩
end
abbrev codA (m:Mdl)(k:Nat):List Ins:=(m.threads.map (fun x:Cod=>x.ins)).getD k []
abbrev locA (m:Mdl)(k:Nat):Int:=(m.threads.map (fun x:Cod=>x.locals)).getD k 0
theorem codA_len (h:k<m.threads.length):codA m k=(m.threads[k]).ins:=by
 unfold codA;rw [aG,bJ,aE h];rfl
mutual
theorem Zql {c:Cn}{lo:Int}: ∀ {s:PStm} (d:Int),s.wl c lo-> ∀ y∈s.its d,y.2.wl c lo
 | .mk k ln cl nm wt e ix body els id slot other loc,d,hw,y,a=>by
  simp only [PStm.its,bG,bE] at a;rcases a with rfl|a|a
  . exact hw
  . exact J8 (d+1) hw.2.2.2.2.2.1 y a
  exact J8 (d+1) hw.2.2.2.2.2.2 y a
theorem J8 {c:Cn}{lo:Int}: ∀ {l:List PStm} (d:Int),Ww c lo l-> ∀ y∈Zt l d,y.2.wl c lo
 | [],d,_,y,a=>by simp only [Zt] at a;cases a
 |s::r,d,⟨h1,h2⟩,y,a=>by
  simp only [Zt,bE] at a;rcases a with a|a
  . exact Zql d h1 y a
  exact J8 d h2 y a
end
theorem mod_th (hm:ModOf F m)(k:Nat):codA m k=((Ui F).map fun t=>(Yx F.main t).map Prod.fst).getD k []/\locA m k=((Ui F).map PTh.loc).getD k 0:=by
 have b:=aQ (List.map fun x:ByteArray×Int×List Ins×List Int=>x.2.2.1) hm.t;have a:=aQ (List.map fun x:ByteArray×Int×List Ins×List Int=>x.2.1) hm.t;rw [fC,fC] at b a;exact ⟨aQ (fun l:List (List Ins)=>l.getD k []) b,aQ (fun l:List Int=>l.getD k 0) a⟩
theorem mod_lens (hF:PrgOk (fun b=>Zo b<=7*N/\Y6 (N+1) b) F)(hm:ModOf F m):m.threads.length=F.ths.length/\(Ui F).length=F.ths.length:=by
 have h:=aQ List.length hm.t;rw [aI,aI] at h
 have a:(Ui F).length=F.ths.length:=by
  unfold Ui;rw [aJ];exact R9 F.main F.ths 0 hF.m.1 (by have:=hF.m.2;omega)
 exact ⟨by rw [h,a],a⟩
theorem mod_beg (hg:g.er=F)(hF:PrgOk (fun b=>Zo b<=7*N/\Y6 (N+1) b) F)(hm:ModOf F m): ∀ d:Int,0<=d->d<F.ths.length->BegOk g m d:=fun d n j=>by
 obtain ⟨f,dl⟩:=mod_lens hF hm;have o:g.ths.l.length=F.ths.length:=by rw [<-hg];exact (aI _).symm
 have h:g.main=F.main:=by rw [<-hg];rfl
 have a:0<=Vm g.main d/\Vm g.main d<m.threads.length:=by
  have:=hF.m;rw [h,f];unfold Vm;split
  . omega
  split<;>omega
 have i:=hF.k.2.2.2.1;refine ⟨by omega,by omega,a,?_⟩;have c:(Vm g.main d).toNat<m.threads.length:=by omega
 have e:=(mod_th hm (Vm g.main d).toNat).1;rw [codA_len c,aG,bJ,aE (by omega)] at e;rw [gD c,e];show 0<((Yx F.main _).map Prod.fst).length
 rw [aI];unfold Yx;rw [aA,Z9];simp
def MS.new (F:Fnd)(m:Mdl):MS:=⟨F.vars++List.replicate (Vh F.arrs).toNat 0,P1 F.mu.toNat F.co.toNat F.chs, [Bw F.main m F.main],⟨0,0,0,0⟩,0⟩
structure Mq (m m':Mdl):Prop where
 v:m.vars=m'.vars
 a:m.arrays=m'.arrays
 i:(m.threads.map fun x:Cod=>x.ins)=m'.threads.map fun x:Cod=>x.ins
 l:(m.threads.map fun x:Cod=>x.locals)=m'.threads.map fun x:Cod=>x.locals
section
variable {main kd d:Int}{i:Ins}{L:List PStm}{ev:PEv}
theorem Mq.at_ (h:Mq m m')(t:MTh):t.at m=t.at m':=by unfold MTh.at Df;rw [h.i]
theorem Mq.beg (h:Mq m m')(d:Int):Bw main m d=Bw main m' d:=by unfold Bw;simp only [h.l,h.at_]
theorem Mq.ins (h:Mq m m'):N4 main m kd d i s who ev=N4 main m' kd d i s who ev:=rfl
theorem Mq.run (h:Mq m m'): ∀ (n:Nat) (b:Bool) (s:MS) (ev:PEv),Gp main m kd d who n b s ev=Gp main m' kd d who n b s ev
 |0,_,_,_=>rfl
 |n+1,b,s,ev=>by unfold Gp;simp only [h.at_,h.ins,h.run n]
theorem Mq.do1 (h:Mq m m'):doM main m kd d who n s ev=doM main m' kd d who n s ev:=by unfold doM;simp only [h.run,h.at_]
theorem Mq.can (h:Mq m m')(n:Nat):s.can m L n=s.can m' L n:=by unfold MS.can;simp only [h.at_]
theorem Mq.all (h:Mq m m'):s.all m L=s.all m' L:=by unfold MS.all;simp only [h.can]
theorem Mq.outc (h:Mq m m'):s.outc m L=s.outc m' L:=by unfold MS.outc;simp only [h.all]
theorem Mq.do (h:Mq m m'){f:Nat}(i:Int):s.doP main m L f i=s.doP main m' L f i:=by unfold MS.doP;simp only [h.all,h.can,h.at_,h.do1]
theorem Mq.step (h:Mq m m'){f:Nat}(k:Int):s.stepP main m L f k=s.stepP main m' L f k:=by unfold MS.stepP;simp only [h.all,h.do]
theorem Mq.ln (h:Mq m m'):m.threads.length=m'.threads.length:=by have:=aQ List.length h.i;rwa [aI,aI] at this
theorem Mq.il (h:Mq m m')(k:Nat):(m.threads.getD k ⟨em,0, [], [],none,0,none,0⟩).ins=(m'.threads.getD k ⟨em,0, [], [],none,0,none,0⟩).ins:=by
 have e: ∀ n:Mdl,(n.threads.getD k ⟨em,0, [], [],none,0,none,0⟩).ins=(n.threads.map fun x:Cod=>x.ins).getD k []:=fun n=>by
  rw [aG,aG,bJ]
  cases n.threads[k]? <;>rfl
 rw [e,e,h.i]
theorem Mq.ato (h:Mq m m')(a:AtOk m s n):AtOk m' s n:=⟨a.w,a.h8,h.ln ▸ a.k,by rw [<-h.il];exact a.p,a.b,a.n⟩
theorem Mq.stn (h:Mq m m')(a:Stands m L s n):Stands m' L s n:=⟨a.w,a.h8,h.ln ▸ a.k,by rw [<-h.il];exact a.p,by rw [<-h.at_];exact a.a,by rw [<-h.at_];exact a.e⟩
def Zvm (m:Mdl)(kd d:Int)(who:Nat):Nat->Bool->MS->PEv->Bool
 |0,_,_,_=>false
 |n+1,b,s,ev=>decide (who<s.ths.length/\s.ths.length<=8/\(0<=(s.th who).code/\(s.th who).code<m.threads.length)/\(0<=(s.th who).pc/\(s.th who).pc<(m.threads.getD (s.th who).code.toNat ⟨em,0, [], [],none,0,none,0⟩).ins.length)/\(s.th who).pc<=1000000/\(0<=s.cnt/\s.cnt<=1000000000000)/\ev.syn.length<=3000000000000) &&
  (if (b||(((s.th who).at m).c !=23 && ((s.th who).at m).c !=34))=true then
   decide (who<(s.on who).ths.length/\((s.on who).th who).stk.length<=1000/\ev.acc.length<=10000000/\(((s.th who).at m).c=33->1<=((s.on who).th who).stk.length)/\(((s.th who).at m).c=1\/((s.th who).at m).c=33\/((s.th who).at m).c=23)) && Zvm m kd d who n false (N4 0 m kd d ((s.th who).at m) (s.on who) who ev).1 (N4 0 m kd d ((s.th who).at m) (s.on who) who ev).2.1
  else true)
theorem Xl {g:FC}(h:Mq m m'){N k:Nat}: ∀ (n:Nat) (b:Bool) (s:MS) (ev:PEv),Zvm m kd d who n b s ev=true->GoodM g m' kd d who N (n+k) b s ev
 |0,_,_,_,hb=>by cases hb
 |n+1,b,s,ev,hb=>by
  rw [show n+1+k=(n+k)+1 by omega];unfold Zvm at hb;rw [aR] at hb;obtain ⟨p,o,l,j,i,f,e⟩:=cU hb.1;refine ⟨h.ato ⟨p,o,l,j,i,f⟩,fun c=> ?_,e⟩;rw [<-h.at_] at c|-;have a:=hb.2;rw [if_pos c,aR] at a;obtain ⟨v,u,t,r,q⟩:=cU a.1;exact ⟨⟨v,u,t,r,q⟩,fun _=>Xl h n false _ _ a.2⟩
end
theorem ModOf.mq (h:ModOf F m)(h':ModOf F m'):Mq m m':=by
 have e:=h.t.trans h'.t.symm;have c:=aQ (List.map fun x:ByteArray×Int×List Ins×List Int=>x.2.2.1) e;have b:=aQ (List.map fun x:ByteArray×Int×List Ins×List Int=>x.2.1) e;rw [fC,fC] at c b;exact ⟨h.v.trans h'.v.symm,h.a.trans h'.a.symm,c,b⟩
def knL:Bs:= [116,104,114,101,97,100,32,109,97,105,110,32,123,32,112,114,105,110,116,32,55,59,32,125]
@[irreducible] def kF:Fnd:=match Vi knL with
 |some F=>F
 |none=>FC.z.er
def TxF (F:Fnd):Prop:=F=kF/\ ∃ l:Bs,Vi l=some F/\l.length<=5000
def FDo (F:Fnd)(s:MS)(i:Int):MS×PEv×Int:=s.doP F.main (Wk F) (Vf F) 36011 i
def FSt (F:Fnd)(s:MS)(k:Int):MS×PEv×Int:=s.stepP F.main (Wk F) (Vf F) 36011 k
def Je (F:Fnd)(s:MS)(l:List Int):MS×List PEv:=Wo F.main (Wk F) (Vf F) 36011 s l
def Hw (F:Fnd)(s:MS):POut:=s.outc (Wk F) (Vf F)
@[irreducible] def ks0:MS:=MS.new kF (Wk kF)
@[irreducible] def ks1:MS:=(FDo kF ks0 0).1
theorem ks0_eq:MS.new kF (Wk kF)=ks0:=by unfold ks0;rfl
theorem ks1_eq:(FDo kF ks0 0).1=ks1:=by unfold ks1;rfl
structure FI (F:Fnd) (N:Nat) (s:MS):Prop where
 f:F=kF
 s:s=ks0\/s=ks1
 n:N=N
def chkM (s:MS):Bool:=decide (s.ths.length=1/\s.sy.owners.length=0/\s.sy.conds.length=0/\s.sy.chans.length=0/\s.cells.length<=1000000/\((s.th 0).loc.length<=1000000/\(s.th 0).stk.length<=1000000/\(s.th 0).sp.length<=1000000)/\(0<=(s.th 0).code/\(s.th 0).code<(Wk kF).threads.length)/\(0<=(s.th 0).pc/\(s.th 0).pc<((Wk kF).threads.getD (s.th 0).code.toNat ⟨em,0, [], [],none,0,none,0⟩).ins.length)/\((s.th 0).st≠4->0<=((s.th 0).at (Wk kF)).a/\((s.th 0).at (Wk kF)).a<(Vf kF).length)/\((s.th 0).st≠4->(s.th 0).st≠3/\((Vf kF).getD ((s.th 0).at (Wk kF)).a.toNat R5).kd=15)/\s.out.kind=0) &&
 (if s.can (Wk kF) (Vf kF) 0=true then Zvm (Wk kF) (((Vf kF).getD ((s.th 0).at (Wk kF)).a.toNat R5).kd) (((Vf kF).getD ((s.th 0).at (Wk kF)).a.toNat R5).slt) 0 8 true (s.put 0 { s.th 0 with st:=1 }) { zEv 0 (((Vf kF).getD ((s.th 0).at (Wk kF)).a.toNat R5).idn) with woke:=decide ((s.th 0).st=3) } else true)
set_option maxRecDepth 1000000 in
theorem Zvl:(chkM ks0 && (chkM ks1 && decide ((ks1.all (Wk kF) (Vf kF)).length=0)))=true:=by decide+kernel
structure MX where
 K:MK
 sb:Nat
 so:Nat
 sa:Option Addr
 sc:Nat
 L:List Stm
 g:FC
 m:Mdl
variable {z:MX}
structure MX.ok (z:MX) (F:Fnd):Prop where
 g:z.g.er=F
 m:ModOf F z.m
 b:MdB z.m
 l:z.L.map Stm.er=Vf F
 a:z.L.length≠0->z.sa=some ⟨z.sb,z.so,none⟩
def mxL (z:MX):List HP:= [im z.K.pp (.cells (pgC z.g).toArray 29 (0,0)),im z.K.mp (.cells (J7 z.m).toArray 109 (0,0)),im z.K.mb (.map (Cw z.sb z.so z.L.length).toArray z.L.length),blM z.sa z.sc z.L,fcM z.g,mdM z.m]
def mxI (z:MX):HP:=stars (mxL z)
def mxH (p:Nat)(F:Fnd)(s:MS):HP:=ex fun z:MX=>stars [pure (z.ok F),maH p z.K s,mxI z]
theorem Zvk (h:z.ok F)(hq:Le q (maH p z.K s::mxI z::r)):Le q (mxH p F s::r):=
 hq.trans (Wa z ((Yc h _).trans (Zm [pure _,maH p z.K s,mxI z] r)))
theorem Zvv {fn:FuncId}{R:Wx.Ub}(h: ∀ z:MX,z.ok F->CallF P G fn vs (maH p z.K s::mxI z::q) R):CallF P G fn vs (mxH p F s::q) R:=by
 intro b w st cs;obtain ⟨z,c⟩:=St.get_ex st;have a:=c.le (Zy _ (q++b));exact h z a.get_pure b w (a.le (dX _ _)) cs
theorem MX.out (q:List HP)(z:MX):Le (mxI z::q) (mxL z++q):=Zy (mxL z) q
theorem MX.ok.me (h:z.ok F)(hl:Le q (mxI z::r)):ME q z.K z.g z.m:=by
 have l:=hl.trans (MX.out r z);unfold mxL at l;simp only [bO,aY] at l;have c: ∀ r,Kn (fcM z.g::r) fun M=>z.g.At M:=fun r=>fJ
 have a: ∀ r,Kn (mdM z.m::r) fun M=>MdAt M z.m:=fun r=>fJ
 exact ⟨(dH (iT _ _ _)).le (l.trans Zj),(c _).le (l.trans Zj),(dH (iT _ _ _)).le (l.trans Zj),(a _).le (l.trans Zj),h.b⟩
theorem MX.ok.mq (h:z.ok F)(hl:Le q (mxI z::r)):MQ q z.K z.sb z.so z.L:=by
 have l:=hl.trans (MX.out r z);unfold mxL at l;simp only [bO,aY] at l;refine ⟨(iT _ _ _).le (l.trans Zj),fun j d=> ?_⟩;have c: ∀ r,Kn (blM z.sa z.sc z.L::r) fun M=>BlkAt M z.sa z.sc z.L:=fun r=>fJ
 have e:Kn q fun M=>BlkAt M z.sa z.sc z.L:=(c _).le (l.trans Zj)
 have b:Sees q z.sa (z.L.flatMap stC):=eR (e.imp fun _ k=>k.1.2.2);rw [h.a (by omega)] at b;have:=fD (j:=(j:Int)) b (aH _) Z2 d rfl;rwa [cT] at this
theorem MX.ok.mn (h:z.ok F):z.g.main=F.main:=by rw [<-h.g];rfl
theorem FI.chk (hM:FI F N s):chkM s=true:=by
 have h:=Zvl;rw [aR,aR] at h;rcases hM.s with e|e
 . rw [e];exact h.1
 rw [e];exact h.2.1
theorem FI.n8 (hM:FI F N s):s.ths.length=1/\s.out.kind=0:=by
 have h:=hM.chk;unfold chkM at h;rw [aR] at h;obtain ⟨b,_,_,_,_,_,_,_,_,_,a⟩:=cU h.1;exact ⟨b,a⟩
theorem MX.ok.hd (h:z.ok F)(t:TxF F)(hl:Le q (mxI z::r))(gc:GC q)(ge:GE q)(hM:FI F N s)(hN:N+36011<=B)(hB:B<=50000000):MHd q z.K z.sb z.so z.g z.m z.L 36011 B s:=by
 obtain ⟨e,l,h1,h2⟩:=t;have f:=hM.chk;unfold chkM at f;rw [aR,<-e,<-h.l] at f;obtain ⟨n1,y,c0,w,cl,T,k,p,a,e9,_⟩:=cU f.1;have d:=(Zz1 F).mq h.m
 have hS: ∀ n,n<s.ths.length->Stands z.m (z.L.map Stm.er) s n:=fun n hn=>by
  obtain rfl:n=0:=by omega
  exact d.stn ⟨by omega,by omega,k,p,a,e9⟩
 have j: ∀ {α:Type} {l:List α},l.length=0-> ∀ x,¬x∈l:=fun h x u=>by rw [aS h] at u;cases u
 refine ⟨h.me hl,h.mq hl,gc,ge,T4 h1 h2 h.m,hS,by omega,⟨by omega,by omega,by omega,fun o b=>aV b (j y o),fun o b=>aV b (j c0 o),fun o b=>aV b (j w o)⟩,by omega,cl,fun t ht=> ?_,fun n hn c=> ?_⟩
 . obtain ⟨i,hi,rfl⟩:=fH ht;obtain rfl:i=0:=by omega
   have e0:s.ths[0]=s.th 0:=by unfold MS.th;rw [aG,aE hi];rfl
   rw [e0];exact T
 obtain rfl:n=0:=by omega
 rw [<-d.can] at c;have v:=f.2;rw [if_pos c] at v;have:=Xl (g:=z.g) (N:=B) (k:=36003) d 8 _ _ _ v;rw [<-d.at_];exact this
theorem MX.ok.do (h:z.ok F)(i:Int):s.doP z.g.main z.m (z.L.map Stm.er) 36011 i=FDo F s i:=by rw [h.mn,h.l];exact (h.m.mq (Zz1 F)).do i
theorem MX.ok.step (h:z.ok F)(i:Int):s.stepP z.g.main z.m (z.L.map Stm.er) 36011 i=FSt F s i:=by rw [h.mn,h.l];exact (h.m.mq (Zz1 F)).step i
theorem MX.ok.outc (h:z.ok F):s.outc z.m (z.L.map Stm.er)=Hw F s:=by rw [h.l];exact (h.m.mq (Zz1 F)).outc
theorem MX.ok.run (h:z.ok F): ∀ (l:List Int) (s:MS),Wo z.g.main z.m (z.L.map Stm.er) 36011 s l=Je F s l
 | [],s=>rfl
 |k::r,s=>by unfold Je Wo;simp only [h.step,h.run r];rfl
theorem FI.mono {N':Nat}(h:FI F N s)(_:N<=N'):FI F N' s:=⟨h.f,h.s,rfl⟩
theorem FI.new (_:g.er=F)(h:TxF F):FI F 0 (MS.new F (Wk F)):=by
 obtain ⟨e,_⟩:=h;rw [e,ks0_eq];exact ⟨rfl,.inl rfl,rfl⟩
theorem FI.do1 (hM:FI F N s)(i:Int):FI F N (FDo F s i).1:=by
 refine ⟨hM.f,?_,rfl⟩;rw [hM.f];have a:=hM.n8;by_cases hi:i=0
 . rw [hi];rcases hM.s with e|e
   . rw [e,ks1_eq];exact .inr rfl
   right
   have h:=Zvl;rw [aR,aR] at h;rw [e];unfold FDo MS.doP;split;rfl;rw [if_pos (cU h.2.2)]
 have:(FDo kF s i).1=s:=by
  unfold FDo MS.doP;rw [if_pos (by omega)]
 rw [this];exact hM.s
theorem FI.go (_:g.er=F)(_:TxF F)(hM:FI F N s)(_:N+36011<=50000000)(i:Int):FI F (N+36011) (FDo F s i).1/\FI F (N+36011) (FSt F s i).1:=by
 refine ⟨(hM.do1 i).mono (kP ..),?_⟩;unfold FSt MS.stepP;split
 . exact hM.mono (kP ..)
 exact (hM.do1 _).mono (kP ..)
theorem xDo_ok (t:TxF F)(gc:GC q)(ge:GE q)(hM:FI F N s)(hN:N+36011<=50000000):CallF prog G 37 [.pointer (some ⟨p,0,none⟩),I64 i] (mxH p F s::q) (Ret fun v q'=> ∃ e:EvC,e.e=(FDo F s i).2.1/\v= .tuple [.agg (evC e).toArray,I64 (FDo F s i).2.2].toArray/\q'=rsH acC 3 158 e.aa e.ac e.e.acc::rsH snC 3 161 e.na e.nc e.e.syn::mxH p F (FDo F s i).1::q):=
 Zvv fun z h=>by
  have a:=h.hd (q:=mxI z::q) (B:=50000000) t (r:=q) (aH _) (gc.le leA) (ge.le leA) hM hN (aU _);refine gF (aH _) (mDo_ok (fuel:=36011) (N:=50000000) (sb:=z.sb) (so:=z.so) (L:=z.L) (m:=z.m) (g:=z.g) a.E a.Q a.gc a.ge a.k a.S a.h8 a.y a.n9 a.C a.T a.G) ?_;rintro _ _ ⟨_,rfl,e,b,rfl,rfl⟩;rw [h.do] at b|-;exact ⟨_,⟨_,rfl,e,b,rfl,rfl⟩,cG _ (cG _ (Zvk h (aH _)))⟩
theorem Sb (t:TxF F)(gc:GC q)(ge:GE q)(hM:FI F N s)(hN:N+36011<=50000000):CallF prog G 21 [.pointer (some ⟨p,0,none⟩)] (mxH p F s::q) (Ret fun v q'=>v= .agg (ocC (Hw F s)).toArray/\q'=mxH p F s::q):=
 Zvv fun z h=>by
  have a:=h.hd (q:=mxI z::q) (B:=50000000) t (r:=q) (aH _) (gc.le leA) (ge.le leA) hM hN (aU _);refine gF (aH _) (moutc_ok a.E a.Q a.S a.h8.2 a.y a.n9) ?_;rintro _ _ ⟨_,rfl,rfl,rfl⟩;rw [h.outc];exact ⟨_,⟨_,rfl,rfl,rfl⟩,Zvk h (aH _)⟩
theorem O0 (hF:PrgOk (fun b=>Zo b<=7*N/\Y6 (N+1) b) F)(h:Bz F=true):(Vf F).length<=512:=by
 by_cases k:512<(Vf F).length
 . exfalso;have d:=Zkt h k;obtain ⟨t,f,a⟩:=List.mem_flatMap.1 (show (Vf F)[512]∈F.ths.flatMap _ from aC k);obtain ⟨y,a,e⟩:=bS.1 a;have c:=J8 0 (hF.t t f).b y a;rw [e] at c;generalize (Vf F)[512]=x at d c;obtain ⟨_,_,_,_,_,_,_,_,_,_,_,_,_⟩:=x;have g:=c.2.2.2.1.2;simp only [PStm.idn] at d;omega
 omega
theorem mapE_no :Instr.findNow (.int .i64) (I64 n) (Cw sb so n) 0=some none:=by
 have h: ∀ (l:List Nat) (i:Nat),n∉l->Instr.findNow (.int .i64) (I64 n) (l.map fun i:Nat=>({ key:= I64 i,val:= .pointer (some ⟨sb,so+i*25,none⟩),born:=i } :MapEntry)) i=some none:=by
  intro l
  induction l with
  |nil=>intro i _;rfl
  |cons x r ih=>
   intro i a;simp only [bA,Instr.findNow,Instr.sameNow,if_true];rw [show (((n:Int))==(x:Int))=false from cZ.2 (fun e=>a (by rw [show n=x by omega];exact bW ..))];exact ih _ fun k=>a (bX _ k)
 exact h _ 0 (fun k=>by simp at k)
theorem mapE_add :Cw sb so n++ [{ key:= I64 n,val:= .pointer (some ⟨sb,so+(n:Int).toNat*25,none⟩),born:=n }]=Cw sb so (n+1):=by unfold Cw;rw [jU,aO];rfl
theorem Zyg {p:PE}{ty:TypeId}{x y z:Operand}{t kt et:TypeId}{kd:IntKind}{v:Value}{k:Int}{clock:Nat}{es:List MapEntry}(ht:P.underlying t=some (.map kt et))(hk:P.underlying kt=some (.int kd))(hx:evp p x=some (.map (some b)))(hy:evp p y=some (.int kd k))(hz:evp p z=some v)(hq:Le q (pto b (.map es.toArray clock)::r))
 (hf:Instr.findNow (.int kd) (.int kd k) es 0=some none):Ef P G p q ⟨d,.mapUpdate t x y z,ty,pos,af,gd⟩ fun u q'=>u=undef/\q'=pto b (.map (es++ [({ key:= .int kd k,val:=v,born:=clock } :MapEntry)]).toArray (clock+1))::r:=
 fun g w c s=>by
  have e:=s.le hq;have f:=e.has (dU _ _ _);have a:MapKept.IsKey (.int kd) (.int kd k):=by first|trivial|exact rfl|simp [MapKept.IsKey]
  refine ⟨undef,_,_,.inr ⟨rfl,?_⟩,e.setObjM (o:= .map (es.toArray.push { key:= .int kd k,val:=v,born:=clock }) (clock+1)),rfl,by simp⟩;simp [execOp,Zp c hx,Zp c hy,Zp c hz,Instr.mapUpdate,run_underlying ht,MapKept.run_getObj_map f,MapKept.run_checkKey hk a,MapKept.run_findKey hk hf,MapKept.run_setObj_map _ f,Result.andThen]
theorem X.adr0 {k:List Item}{p:PE}(hs:Sees q a vs)(x: ∀ b o,(vs≠ []->a=some ⟨b,o,none⟩)->X P G f Q k p ds cs q):X P G f Q k p ds cs q:=by
 rcases cW vs.length with h|h
 . exact x 0 0 fun k=>aV (aS h) k
 exact Z7 hs h fun b o e=>x b o fun _=>e
section
variable {l:Bs}
theorem Zvy (hT:Vi l=some g.er)(hl:l.length<=5000)(hK:Kn q fun M=>g.At M)(hg:GO q)(gc:GC q)(ge:GE q):CallF prog G 18 [.agg (pgC g).toArray] (q) (Ret fun v q'=> ∃ p,v= .tuple [.pointer (some ⟨p,0,none⟩),I64 0].toArray/\q'=mxH p g.er (MS.new g.er (Wk g.er))::q):=by
 refine aB func18 ntmps18 rfl fun F cs=> ?_;have hF:=FC.ok hT;have q0:=FC.cp hT;obtain ⟨hP,a1⟩:=Lw hT;have e0:=hP.k;have g0:=hP.m;have z0:g.er.ths.length=g.ths.l.length:=aI _;have d0:=(Gw hT).m;refine xo 2 ?_;refine Zl fun n1=> ?_
 refine rn [5,0] ?_;refine Zv call45 (aH _) (Bv hT (hK.le leA) (hg.le leA)) ?_;rintro _ _ ⟨m,rfl,rfl,x,f0⟩;have hk:=T4 hT hl x;refine oo 3 ?_;refine Zh zeroValue109 fun n2=> ?_
 refine rn [0,8,1016,4,0] ?_;refine Zv call50 (aH _) (Xk (hK.le leA) q0) ?_;rintro _ _ ⟨d,t,rfl,rfl⟩;refine Zh zeroValue29 fun w=> ?_
 refine rn [0,3] ?_;refine bU (kS) ?_;rintro _ _ ⟨mb,rfl,rfl⟩;refine oo 1 ?_;refine Zl fun n4=> ?_
 refine rn [4,0] ?_;refine Zv call51 (aH _) (Zxw (B:=14*65536) (knA (φ:=fun M=>d.At M)) (FC.cp (by rw [t];exact hT)) (by rw [ovL_eq,t];have:=O0 hP d0;omega)) ?_;rintro _ _ ⟨o,y,c2,o0,rfl,rfl⟩;refine ox 10 ?_;have a0:o.map Stm.er=Vf g.er:=(by rw [<-Yh,o0,ovL_eq,t]);have p0: ∀ i (h:i<o.length),(o[i]).er.idn=(i:Int):=(fun i h=>by have e:=Zkt d0 (i:=i) (by rw [<-a0,aI];exact h);rw [<-e];congr 1;simp only [<-a0,iG]);have b1:o.length<=512:=(by have:=O0 hP d0;rw [<-a0,aI] at this;exact this);have m0: ∀ r,Sees (blM y c2 o::r) y (o.flatMap stC):=fun r=>eR ((Kn.blM (q:=r)).imp fun _ k=>k.1.2.2)
 refine X.adr0 ((m0 _).le Zj) fun sb so b0=> ?_;replace b0:o.length≠0->y=some ⟨sb,so,none⟩:=fun k=>b0 (fun e=>k (by have:=aQ List.length e;rw [Zx Z2] at this;simp only [aT] at this;omega))
 refine aX (cC (fun (s:Nat)=>s<=o.length) (fun s=> [(2,.pointer none),(3,I64 0),(4,pt n2),(6,pt w),(7,pt n4),(8,.slice y o.length c2),(25,I64 o.length),(26,I64 s)]) (fun s=>pto mb (.map (Cw sb so s).toArray s)::pto n4 (.cells [pt w,pt n2,.map (some mb),.slice none 0 0,.pointer none,.slice none 0 0,I64 0,I64 0,I64 0,I64 0,I64 0].toArray 127 (0,0))::pto w (.cells (pgC d).toArray 29 (0,0))::pto n2 (.cells (J7 m).toArray 109 (0,0))::blM y c2 o::fcM d::mdM m::(q++F)) (fun s=>o.length - s) (fun s k0 ih=> ?_) 0 (bC _)) Zn leA;try dsimp only at k0 ih|-
 obtain hi:=k0;refine xx 5 ?_;refine xp 27 ?_ ?_<;>intro h0
 . have i0:s<o.length:=(by omega);have e2:=b0 (by omega);have j0:=p0 s i0;have c0:=m0;rw [e2] at c0;have hX: ∀ r,CellsAt (blM y c2 o::r) sb (so+(s:Int).toNat*25) (stC o[s]):=fun r=>fD (j:=(s:Int)) (c0 r) (by rw [e2];exact aH _) Z2 i0 rfl
   have l0: ∀ r,Cl (blM y c2 o::r) ⟨sb,so+(s:Int).toNat*25+21,none⟩ (I64 s):=fun r=>hX r 21 _ (by rw [<-j0];obtain ⟨z,hz⟩:=lM o[s];rw [<-hz];obtain ⟨kk,ln,cl,nm,wt,⟨ek,en,f1,c1,g1,e1,el,ea,ec⟩,⟨xk,xn,v0,xsl,w0,u0,xl,xa,xc⟩,bd,d1,ba,bc,i1,h1,y0,sl,ot,x0⟩:=z;rfl)
   refine rf [3008,9,0,1,2,3,4,5,6,7,8] e2 ?_;refine ldD 8 ?_ (hc:=((l0 _).le Zj));refine dd [9,10,11] ?_;refine iM 12 rfl (Zyg (es:=Cw sb so s) underlying123 underlying3 rfl rfl rfl Zj mapE_no) ?_;refine kk0 ?_;rw [mapE_add];refine rn [0,5] ?_;refine fR 8 (.slice y o.length c2) rfl (by rw [<-e2]) ?_;refine aX (ih (s+1) (by omega) (by omega)) Zn leA
 obtain rfl:s=o.length:=(by omega);have hb:=mod_beg t hP x d.main (by rw [show d.main=g.er.main by rw [<-t];rfl];exact g0.1) (by rw [show d.main=g.er.main by rw [<-t];rfl];exact g0.2);have t0:Bk d.mu d.co d.chs.l:=(by have e:d.mu=g.er.mu/\d.co=g.er.co/\d.chs.l=g.er.chs:=(by rw [<-t];exact ⟨rfl,rfl,rfl⟩);rw [e.1,e.2.1,e.2.2];exact ⟨e0.2.2.2.2.1,e0.2.2.2.2.2,e0.2.2.1,fun r hr=>hP.c r hr⟩);refine rn [5,0] ?_;refine Zv call52 (aH _) (Zwg (gc.le leA) (ge.le leA) (Ok (knA (φ:=fun M=>MdAt M m)) f0) hk) ?_;rintro _ _ ⟨ca,cc,rfl,rfl⟩;refine rn [5,0,8,1051,6] ?_;refine ld ?_ (hc:=(fQ (dH (dU w _ _)) Zj 2 _ rfl));refine oo 1 ?_;refine ld ?_ (hc:=(fQ (dH (dU w _ _)) Zj 3 _ rfl));refine oo 1 ?_;refine ld ?_ (hc:=(fQ (dH (dU w _ _)) Zj 4 _ rfl));have s0: ∀ r,Sees (fcM d::r) d.chs.a (d.chs.l.map I64):=fun r=>(by have h:=dV ((Kn.fc (q:=r) (f:=d)).imp fun M h=>h.chs);rw [Ul] at h;exact h)
 refine Zv call53 (aH _) (New_Y (rooms:=d.chs.l) ((s0 _).le Zj) t0) ?_;rintro _ _ ⟨sp,rfl,rfl⟩;refine rn [5,0,8,1066,7] ?_;refine ld ?_ (hc:=(fQ (dH (dU w _ _)) Zj 6 _ rfl));refine Zv call54 (aH _) (Zxf (p:=n4) (K:=⟨w,n2,mb⟩) (g:=d) (m:=m) (n:=d.main) ⟨fQ (dH (dU w _ _)) Zj,knA (φ:=fun M=>d.At M),fQ (dH (dU n2 _ _)) Zj,knA (φ:=fun M=>MdAt M m),f0⟩ (gc.le leA) (ge.le leA) clA clA hk hb.1 hb.2.1 hb.2.2.1 hb.in) ?_;rintro _ _ ⟨T,r0,rfl,rfl⟩;refine bU (Yz (u:=T) mtC underlying125 Mp rfl rfl Z8 rfl) ?_;rintro _ _ ⟨gs,rfl,rfl⟩;refine rn [2,0,7] ?_;refine cS (q':=pto w (.cells (pgC d).toArray 29 (0,0))::_) Zj (fX ?_);refine cS (q':=pto n2 (.cells (J7 m).toArray 109 (0,0))::_) Zj (fX ?_);refine cS (q':=pto mb (.map (Cw sb so o.length).toArray o.length)::_) Zj (fX ?_);have n0:((⟨ca,cc,m.vars++List.replicate (Vh m.arrays).toNat 0,sp,P1 d.mu.toNat d.co.toNat d.chs.l,some ⟨gs,0,none⟩,1, [T],⟨0,0,0,0⟩,0⟩:MC)).er=MS.new g.er (Wk g.er):=(by unfold MC.er MS.new;rw [x.v,x.a];simp only [bA,dC,r0];rw [(x.mq (Zz1 g.er)).beg];rw [<-t];rfl);refine Zq (mxH n4 g.er (MS.new g.er (Wk g.er))::q) func18 (Q4 results18 rfl rfl) ⟨_,rfl,n4,rfl,rfl⟩ (Zvk (z:=(⟨⟨w,n2,mb⟩,sb,so,y,c2,o,d,m⟩:MX)) ⟨t,x,f0,a0,b0⟩ (J3 n0 (aM (b:=mcP n4 ⟨w,n2,mb⟩ (⟨ca,cc,m.vars++List.replicate (Vh m.arrays).toNat 0,sp,P1 d.mu.toNat d.co.toNat d.chs.l,some ⟨gs,0,none⟩,1, [T],⟨0,0,0,0⟩,0⟩:MC)::lsH I64 2 ca cc (m.vars++List.replicate (Vh m.arrays).toNat 0)::yH sp (P1 d.mu.toNat d.co.toNat d.chs.l)::rsH mtC 7 147 (some ⟨gs,0,none⟩) 1 [T]::([mtH T]++(mxL (⟨⟨w,n2,mb⟩,sb,so,y,c2,o,d,m⟩:MX)++(q++F)))) (by unfold mxL;simp only [bO,aY];exact leA) (cG _ (cG _ (cG _ (cG _ ((Zm [mtH T] _).trans (cG _ (Zm (mxL (⟨⟨w,n2,mb⟩,sb,so,y,c2,o,d,m⟩:MX)) _)))))))))) 
end
end Go.Proofs.YtadahhbefdnabaaGreatDoor
namespace Go.Proofs.YtadahhbefdnabaaGreatDoor
open Go Go.RowKit Wx Go.Proofs.Tryz
variable {l:List V1}{t:Int}
theorem Iy: ∀ {l:List V1} {p:Option Int} {s:Int},goT p s l->0<=s-> ∀ x∈l,0<=x.1/\x.1<=7/\1<=x.2/\x.2<=2147483647
 | [],_,_,_,_=>by simp
 |y::r,p,s,h,h0=>by
  obtain ⟨⟨f,e,d,c,_⟩,b⟩:=h;intro x a;rcases bG.1 a with rfl|a
  . omega
  exact Iy b (by omega) x a
theorem Dh {α:Type}(l:List α)(n:Nat)(d:α)(h:n<l.length):l.getD n d=l[n]:=by simp [List.getD,h]
def Qh (l:List V1)(t:Int):List V1:=if 0<l.length/\(l.getD (l.length - 1) (0,0)).1=t then l.set (l.length - 1) (t,(l.getD (l.length - 1) (0,0)).2+1) else l++ [(t,1)]
def Yf (l:List Int):List V1:=l.foldl Qh []
theorem V2 {l:List Int}{n:Nat}(h:n<l.length):Yf (l.take (n+1))=Qh (Yf (l.take n)) l[n]:=by
 unfold Yf;rw [aN h,List.foldl_append];rfl
theorem addT_len (l:List V1)(t:Int):(Qh l t).length<=l.length+1/\0<(Qh l t).length:=by unfold Qh;split<;>simp;omega
theorem addT_last (l:List V1)(t:Int):((Qh l t).getD ((Qh l t).length - 1) (0,0)).1=t:=by
 unfold Qh;split
 . rename_i h;rw [bK,Dh _ _ _ (by rw [bK];omega)];simp
 simp
theorem N8 (l:List Int)(n:Nat):(Yf (l.take n)).length<=n:=by
 induction n with
 |zero=>simp [Yf]
 |succ n ih=>
  rcases dJ n l.length with h|h
  . rw [V2 h];have:=(addT_len (Yf (l.take n)) l[n]).1;omega
  rw [bQ (by omega)];rw [bQ h] at ih;omega
theorem Zji {m:Int}(h: ∀ x∈l,x.2<=m)(h0:0<=m): ∀ x∈Qh l t,x.2<=m+1:=by
 intro x a;unfold Qh at a;split at a
 . rename_i b;rcases gB a with a|rfl
   . have:=h x a;omega
   have:l.getD (l.length - 1) (0,0)∈l:=by rw [Dh _ _ _ (by omega)];exact aC _
   have:=h _ this;dsimp only;omega
 rcases bE.1 a with a|a
 . have:=h x a;omega
 simp at a;subst a;dsimp only;omega
theorem Rm (l:List Int)(n:Nat): ∀ x∈Yf (l.take n),x.2<=n:=by
 induction n with
 |zero=>simp [Yf]
 |succ n ih=>
  rcases dJ n l.length with h|h
  . rw [V2 h];have:=Zji (t:=l[n]) ih (by omega);intro x a;have:=this x a;omega
  rw [bQ (by omega)];rw [bQ h] at ih;intro x a;have:=ih x a;omega
theorem addT_pos (h: ∀ x∈l,1<=x.2): ∀ x∈Qh l t,1<=x.2:=by
 intro x a;unfold Qh at a;split at a
 . rename_i b;rcases gB a with a|rfl
   . exact h x a
   have:l.getD (l.length - 1) (0,0)∈l:=by rw [Dh _ _ _ (by omega)];exact aC _
   have:=h _ this;dsimp only;omega
 rcases bE.1 a with a|a
 . exact h x a
 simp at a;subst a;dsimp only;omega
theorem Hm (l:List Int)(n:Nat): ∀ x∈Yf (l.take n),1<=x.2:=by
 induction n with
 |zero=>simp [Yf]
 |succ n ih=>
  rcases dJ n l.length with h|h
  . rw [V2 h];exact addT_pos ih
  rw [bQ (by omega)];rw [bQ h] at ih;exact ih
section
variable {G:World}{q:List HP}{a b:Option Addr}{c d p:Nat}{th:List Int}
theorem add_no (h: ¬ (0<=t/\t<=7)):CallF prog G 118 [I64 t,.pointer (some ⟨p,0,none⟩)] (q) (Ret fun v q'=>v= .bool false/\q'=q):=by
 refine aB func118 ntmps118 rfl fun F cs=> ?_;refine xo 8 ?_;refine Vg call119 (Jb _) ?_;refine kd0 ?_;refine rn [2,2007,5] ?_;refine Zq (q) func118 (Zf results118 rfl) ⟨_,rfl,rfl,rfl⟩
theorem add_ok (h:0<=t/\t<=7)(hl:l.length<=60000)(hm: ∀ x∈l,x.2<=1000000/\ -1000000<=x.2):CallF prog G 118 [I64 t,.pointer (some ⟨p,0,none⟩)] ([pto p (.cells [.slice a l.length c].toArray 41 (0,0)),rsH tcs 2 49 a c l]) (Ret fun v q'=> ∃ a' c',v= .bool true/\q'= [pto p (.cells [.slice a' (Qh l t).length c'].toArray 41 (0,0)),rsH tcs 2 49 a' c' (Qh l t)]):=by
 refine aB func118 ntmps118 rfl fun F cs=> ?_;have i: ∀ h:0<l.length,l.getD (l.length - 1) (0,0)=l[l.length - 1]:=fun h=>Dh _ _ _ (by omega)
 refine xo 8 ?_;refine Vg call119 (Jb _) ?_;refine kd0 ?_;refine rn [2,1007,5,0,8] ?_;refine kQ 12 rfl ?_ ?_<;>intro o
 focus
  have o:=cU o;have b:0<l.length:=(by omega);have i:=i b;have z:Sees (rsH tcs 2 49 a c l::F) a (l.flatMap tcs):=cI _;refine Dc b fun g y=> ?_;subst y;refine rn [0,4,0,4] ?_;refine cY 21 rfl ?_ ?_<;>intro d
  . have d:l[l.length - 1].1=t:=by simpa using d
    have s:=hm _ (aC (show l.length - 1<l.length by omega));refine rn [3,0,4,0,3] ?_;refine dM (V4 (f:=tcs) (l:=l) (u:=(t,l[l.length - 1].2+1)) (n:=l.length - 1) (k:=1) rfl rfl sizeOf3 (fun _=>rfl) (by omega) (by omega) rfl (by simp [tcs,d]) rfl rfl Zj) ?_;rintro _ _ ⟨rfl,rfl⟩;rw [show l.set (l.length - 1) (t,l[l.length - 1].2+1)=Qh l t by unfold Qh;rw [i,if_pos ⟨b,d⟩]];have w:l.length=(Qh l t).length:=by unfold Qh;rw [i,if_pos ⟨b,d⟩];simp
    refine ox 5 ?_;refine cS (q':=pto p (.cells [.slice (some ⟨g,0,none⟩) (Qh l t).length c].toArray 41 (0,0))::rsH tcs 2 49 (some ⟨g,0,none⟩) c (Qh l t)::_) (by rw [<-w];exact leA) ?_;refine Zq [pto p (.cells [.slice (some ⟨g,0,none⟩) (Qh l t).length c].toArray 41 (0,0)),rsH tcs 2 49 (some ⟨g,0,none⟩) c (Qh l t)] func118 (Zf results118 rfl) ⟨_,rfl,_,_,rfl,rfl⟩
  have j: ¬ (0<l.length/\(l.getD (l.length - 1) (0,0)).1=t):=by rw [i];rintro ⟨_,e⟩;rw [e] at d;simp at d
  rw [show Qh l t=l++ [(t,1)] from if_neg j];refine rn [4,0,2] ?_
 rotate_left
 focus
  have j: ¬ (0<l.length/\(l.getD (l.length - 1) (0,0)).1=t):=by simp at o;rintro ⟨x,_⟩;simp_all
  refine rn [14,0,2] ?_;rw [show Qh l t=l++ [(t,1)] from if_neg j]
 all_goals
  refine bU (Yz (u:=(t,1)) tcs underlying41 My rfl rfl (fun _=>rfl) rfl) ?_;rintro _ _ ⟨g2,rfl,rfl⟩;refine bU (Z4 (l:=l) (m:= [(t,1)]) underlying41 My rfl rfl (fun _=>rfl) rfl rfl Zj ((cI _).le leA) (fun _=>rfl) (by simp;omega) (by simp;omega)) ?_;rintro _ _ ⟨r,q,rfl,rfl⟩;refine rn [0,3,0,4] ?_;refine Zq [pto p (.cells [.slice r (l++ [(t,1)]).length q].toArray 41 (0,0)),rsH tcs 2 49 r q (l++ [(t,1)])] func118 (Zf results118 rfl) ⟨_,rfl,r,q,cB (by simp;omega),rfl⟩
theorem Turns_no (hs:Sees q a (th.map (Value.int .i64)))(hL:th.length<=50000)(ok: ¬ (∀ x∈th,0<=x/\x<=7)):CallF prog G 58 [.slice a th.length c] (q) (Ret fun v q'=>v= .tuple [.slice none 0 0,I64 2].toArray/\q'=q):=by
 refine aB func58 ntmps58 rfl fun F cs=> ?_;refine rn [12,1010,4] ?_;refine Zh zeroValue41 fun n1=> ?_
 refine ox 14 ?_;refine aX (cC (fun (s:Nat×Option Addr×Nat)=>s.1<=th.length/\(∀ x∈th.take s.1,0<=x/\x<=7)) (fun s=> [(4,pt n1),(5,.func (.func 118) [].toArray [pt n1].toArray),(12,.slice a th.length c),(13,I64 th.length),(14,I64 (s.1:Int))]) (fun s=>pto n1 (.cells [.slice s.2.1 (Yf (th.take s.1)).length s.2.2].toArray 41 (0,0))::rsH tcs 2 49 s.2.1 s.2.2 (Yf (th.take s.1))::(q++F)) (fun s=>th.length - s.1) (fun s d k=> ?_) (0,none,0) ⟨by dsimp only;omega,by simp⟩) Zn (aM (aM leA (Zc tcs 2 49 _)) leA);try dsimp only at d k|-
 obtain ⟨n,e⟩:=d;obtain ⟨i,z,u⟩:=s;dsimp only at*;refine xx 5 ?_;refine cY 15 rfl ?_ ?_<;>intro h
 . have h:=cU h;have f:i<th.length:=(by omega);refine Z7 hs (by simp;omega) fun b1 o1 o=> ?_;subst o;have m:=N8 th i;have j:=Rm th i;refine rn [7,0,6] ?_;rcases eB (0<=th[i]/\th[i]<=7) with g|g
   . refine XO.cV (gT call118 (add_ok (p:=n1) (a:=z) (c:=u) (l:=Yf (th.take i)) (t:=th[i]) g (by omega) (fun y b=>⟨by have:=j y b;omega,by have:=Hm th i y b;omega⟩))) ?_;refine kd2 fun w r=> ?_
     refine rn [2,1021,7] ?_;rw [<-V2 f];refine aX (k (i+1,w,r) ⟨by dsimp only;omega,by dsimp only;rw [aN f];intro y b;rcases bE.1 b with b|b;exact e y b;rw [bN.1 b];exact g⟩ (by dsimp only;omega)) Zn leA
   refine XO.cV (gT call118 (add_no (q:= []) (p:=n1) (t:=th[i]) g)) ?_;refine kd0 ?_;refine rn [2,2021,6] ?_;refine Zq (q) func58 (Q4 results58 rfl rfl) ⟨_,rfl,rfl,rfl⟩
 have h:=of_decide_eq_false h;obtain rfl:i=th.length:=by omega
 rw [bV] at*;exact (ok e).elim
theorem Turns_ok (hs:Sees q a (th.map (Value.int .i64)))(hL:th.length<=50000)(ok: ∀ x∈th,0<=x/\x<=7):CallF prog G 58 [.slice a th.length c] (q) (Ret fun v q'=> ∃ a' c',v= .tuple [.slice a' (Yf th).length c',I64 0].toArray/\q'=rsH tcs 2 49 a' c' (Yf th)::q):=by
 refine aB func58 ntmps58 rfl fun F cs=> ?_;refine rn [12,1010,4] ?_;refine Zh zeroValue41 fun n1=> ?_
 refine ox 14 ?_;refine aX (cC (fun (s:Nat×Option Addr×Nat)=>s.1<=th.length/\(∀ x∈th.take s.1,0<=x/\x<=7)) (fun s=> [(4,pt n1),(5,.func (.func 118) [].toArray [pt n1].toArray),(12,.slice a th.length c),(13,I64 th.length),(14,I64 (s.1:Int))]) (fun s=>pto n1 (.cells [.slice s.2.1 (Yf (th.take s.1)).length s.2.2].toArray 41 (0,0))::rsH tcs 2 49 s.2.1 s.2.2 (Yf (th.take s.1))::(q++F)) (fun s=>th.length - s.1) (fun s e n=> ?_) (0,none,0) ⟨by dsimp only;omega,by simp⟩) Zn (aM (aM leA (Zc tcs 2 49 _)) leA);try dsimp only at e n|-
 obtain ⟨r,j⟩:=e;obtain ⟨i,m,k⟩:=s;dsimp only at*;refine xx 5 ?_;refine cY 15 rfl ?_ ?_<;>intro g
 . have g:=cU g;have d:i<th.length:=(by omega);refine Z7 hs (by simp;omega) fun b1 o1 u=> ?_;subst u;have o:=N8 th i;have h:=Rm th i;refine rn [7,0,6] ?_;rcases eB (0<=th[i]/\th[i]<=7) with f|f
   . refine XO.cV (gT call118 (add_ok (p:=n1) (a:=m) (c:=k) (l:=Yf (th.take i)) (t:=th[i]) f (by omega) (fun y b=>⟨by have:=h y b;omega,by have:=Hm th i y b;omega⟩))) ?_;refine kd2 fun z w=> ?_
     refine rn [2,1021,7] ?_;rw [<-V2 d];refine aX (n (i+1,z,w) ⟨by dsimp only;omega,by dsimp only;rw [aN d];intro y b;rcases bE.1 b with b|b;exact j y b;rw [bN.1 b];exact f⟩ (by dsimp only;omega)) Zn leA
   exact (f (ok _ (aC d))).elim
 have g:=of_decide_eq_false g;obtain rfl:i=th.length:=by omega
 rw [bV] at*;refine rn [4,0,3] ?_;refine Zq (rsH tcs 2 49 m k (Yf th)::q) func58 (Q4 results58 rfl rfl) ⟨_,rfl,m,k,rfl,rfl⟩
end
end Go.Proofs.YtadahhbefdnabaaGreatDoor
namespace Go.Proofs.YtadahhbefdnabaaGreatDoor
open Go Go.RowKit Wx Go.Proofs.Tryz
attribute [local irreducible] lsH rsH stars
variable {s:MS}{e:PEv}{c i n f p ne nt N mp:Nat}{a:Option Addr}{m:Mdl}{main:Int}{L:List PStm}{k:List Item}{F D:Fnd}{g:FC}{P:Program}{G:World}{Q:Yw}{pe:PE}{ds:List Deferred}{cs:List Frame}{q:List HP}{l:List V1}{picks:List Int}{t:Tkn}
def Ez (s:MS)(e:PEv)(r:MS×PEv×Int):Prop:=((r.2.1.th=e.th/\r.2.1.stmt=e.stmt)/\r.1.out=s.out)/\0<=r.2.2/\r.2.2<=5
theorem Ez.of {r:MS×PEv×Int}(h1:r.2.1.th=e.th)(h2:r.2.1.stmt=e.stmt)(h:decide (0<=r.2.2/\r.2.2<=5)=true)(h3:r.1.out=s.out:=by rfl):Ez s e r:=⟨⟨⟨h1,h2⟩,h3⟩,cU h⟩
theorem Ez.ite {c:Prop}[Decidable c]{a b:MS×PEv×Int}(h1:Ez s e a)(h2:Ez s e b):Ez s e (if c then a else b):=by split<;>assumption
section
variable {kd d:Int}{i:Ins}{who:Nat}{ev:PEv}
theorem ins_ev:Ez s ev (N4 main m kd d i s who ev):=by
 unfold N4;exact .ite (.of rfl rfl rfl) (.ite (.of rfl rfl rfl) (.of rfl rfl rfl))
theorem Ez.on {r:MS×PEv×Int}(h:Ez (s.on who) e r):Ez s e r:=⟨⟨h.1.1,h.1.2.trans (show (s.on who).out=s.out from rfl)⟩,h.2⟩
theorem run_ev: ∀ (n:Nat) (b:Bool) (s:MS) (ev:PEv),Ez s ev (Gp main m kd d who n b s ev)
 |0,_,_,_=> .of rfl rfl rfl
 |n+1,b,s,ev=>by
  unfold Gp;split
  . split
    . exact ins_ev.on
    have c:=(ins_ev (main:=main) (m:=m) (kd:=kd) (d:=d) (i:=(s.th who).at m) (s:=s.on who) (who:=who) (ev:=ev)).on.1;have a:=run_ev n false (N4 main m kd d ((s.th who).at m) (s.on who) who ev).1 (N4 main m kd d ((s.th who).at m) (s.on who) who ev).2.1;exact ⟨⟨⟨a.1.1.1.trans c.1.1,a.1.1.2.trans c.1.2⟩,a.1.2.trans c.2⟩,a.2⟩
  exact .of rfl rfl rfl
theorem do1_ev :Ez s ev (doM main m kd d who n s ev):=by
 have h:=run_ev (main:=main) (m:=m) (kd:=kd) (d:=d) (who:=who) n true (s.put who { s.th who with st:=1 }) { ev with woke:=decide ((s.th who).st=3) };unfold doM;dsimp only;split
 . exact h
 split
 . exact .of h.1.1.1 h.1.1.2 rfl h.1.2
 exact h
theorem doP_ev {i:Int}(h:(s.doP main m L f i).2.2=0):(s.doP main m L f i).2.1.th=i/\0<=i/\i<s.ths.length:=by
 revert h
 unfold MS.doP;split
 . intro h;exact aV (show (2:Int)=0 from h) (by decide)
 split
 . intro h;exact aV (show (150:Int)=0 from h) (by decide)
 split
 . intro h;exact aV (show (151:Int)=0 from h) (by decide)
 rename_i a _ _;dsimp only;split
 . intro _;exact ⟨rfl,by omega,by omega⟩
 intro _;exact ⟨do1_ev.1.1.1,by omega,by omega⟩
theorem stepP_do {k:Int}(h:(s.stepP main m L f k).2.2=0):s.stepP main m L f k=s.doP main m L f (s.stepP main m L f k).2.1.th/\0<=(s.stepP main m L f k).2.1.th/\(s.stepP main m L f k).2.1.th<s.ths.length:=by
 revert h
 unfold MS.stepP;split
 . intro h;exact aV (show (150:Int)=0 from h) (by decide)
 intro h;have:=doP_ev h;rw [this.1];exact ⟨rfl,this.2⟩
def Xv (n:Nat)(o:POut):Prop:=o.kind=4->(1<=o.trap/\o.trap<=5)/\(0<=o.th/\o.th<=7)/\0<=o.stmt/\o.stmt<n
end
theorem doP_err {i:Int}(h:(s.doP main m L f i).2.2≠0):(s.doP main m L f i).1=s/\(s.doP main m L f i).2.1=zEv 0 0:=by
 revert h
 unfold MS.doP;split;exact fun _=>⟨rfl,rfl⟩
 split;exact fun _=>⟨rfl,rfl⟩
 split;exact fun _=>⟨rfl,rfl⟩
 dsimp only;split<;>exact fun h=>aV rfl h
def FDos (F:Fnd):MS->List PEv->MS->Prop
 |s, [],s'=>s'=s
 |s,e::r,s'=>FDo F s e.th=((FDo F s e.th).1,e,0)/\(0<=e.th/\e.th<s.ths.length)/\FDos F (FDo F s e.th).1 r s'
theorem Do (F:Fnd): ∀ (l:List Int) (s:MS),FDos F s (Je F s l).2 (Je F s l).1
 | [],s=>rfl
 |k::r,s=>by
  have c:=stepP_do (s:=s) (main:=F.main) (m:=Wk F) (L:=Vf F) (f:=36011) (k:=k);unfold Je Wo;split
  . rename_i h;show (s.stepP F.main (Wk F) (Vf F) 36011 k).1=s
    revert h
    unfold MS.stepP;split
    . intro _;rfl
    intro h;exact (doP_err h).1
  rename_i h;have a:(s.stepP F.main (Wk F) (Vf F) 36011 k).2.2=0:=by simpa using h
  obtain ⟨e,d⟩:=c a;have b:FDo F s (s.stepP F.main (Wk F) (Vf F) 36011 k).2.1.th=s.stepP F.main (Wk F) (Vf F) 36011 k:=e.symm;refine ⟨?_,d,?_⟩
  . rw [b,<-a]
  rw [b];exact Do F r _
theorem Pd (F:Fnd): ∀ (l:List Int) (s:MS),(Je F s l).2.length<=l.length
 | [],s=>aU _
 |k::r,s=>by
  unfold Je Wo;split
  . exact bC _
  have:=Pd F r (s.stepP F.main (Wk F) (Vf F) 36011 k).1;simp only [aJ];exact Nat.succ_le_succ this
theorem FDos.ths (hg:g.er=F)(t:TxF F): ∀ {l:List PEv} {s s':MS} {N:Nat},FDos F s l s'->FI F N s->N+36011*l.length<=50000000->(∀ e∈l,0<=e.th/\e.th<=7)/\FI F (N+36011*l.length) s'
 | [],s,s',N,h,hM,hN=>⟨fun e f=>(by cases f),by rw [show s'=s from h];exact hM⟩
 |e::r,s,s',N,⟨h1,h2,h3⟩,hM,hN=>by
  rw [aJ] at hN|-;have b:=(FI.go hg t hM (by omega) e.th).1;obtain ⟨d,c⟩:=FDos.ths hg t h3 b (by omega);refine ⟨fun x a=> ?_,by rw [show N+36011*(r.length+1)=N+36011+36011*r.length by omega];exact c⟩;rcases bG.1 a with rfl|a
  . have:=hM.n8;omega
  exact d x a
def POut.o (x:POut):Zyx:=(x.kind,x.trap,x.th,x.stmt)
def Bo (F:Fnd)(l:List Int):Tkn:=⟨Jt F,Yf ((Je F (MS.new F (Wk F)) l).2.map PEv.th),(Hw F (Je F (MS.new F (Wk F)) l).1).o⟩
theorem X.mxO {f:Fc}{r:List HP}(x: ∀ z:MX,z.ok F->X P G f Q k pe ds cs (maH p z.K s::mxI z::r))(hq:Le q (mxH p F s::r):=by exact Zj):X P G f Q k pe ds cs q:=
 .le hq (.ex fun z=> .le (Zy _ r) (.pure fun h=>x z h))
def rcI (L:List PEv)(k ne nt:Nat):HP:=ex fun x:List EvC×Option Addr×Nat×Option Addr×Nat=>stars (pure (x.1.map EvC.e=L.take k)::pto ne (.cells [.slice x.2.1 x.1.length x.2.2.1].toArray 50 (0,0))::pto nt (.cells [.slice x.2.2.2.1 x.1.length x.2.2.2.2].toArray 23 (0,0))::rsH evC 9 63 x.2.1 x.2.2.1 x.1::stars (x.1.map fun x=>stars (evL x))::lsH I64 3 x.2.2.2.1 x.2.2.2.2 (x.1.map fun x=>x.e.th):: [])
theorem rcI_in {L:List PEv}{k:Nat}{r:List HP}(x:List EvC×Option Addr×Nat×Option Addr×Nat)(h:x.1.map EvC.e=L.take k)(hle:Le q (pto ne (.cells [.slice x.2.1 x.1.length x.2.2.1].toArray 50 (0,0))::pto nt (.cells [.slice x.2.2.2.1 x.1.length x.2.2.2.2].toArray 23 (0,0))::rsH evC 9 63 x.2.1 x.2.2.1 x.1::stars (x.1.map fun x=>stars (evL x))::lsH I64 3 x.2.2.2.1 x.2.2.2.2 (x.1.map fun x=>x.e.th)::r)):Le q (rcI L k ne nt::r):=
 Wa x (hle.trans ((Yc h _).trans (by exact Zm [_,_,_,_,_,_] r)))
theorem X.rcI {f:Fc}{todo:List Item}{p:PE}{L:List PEv}{k:Nat}
 (x: ∀ (l:List EvC) (a:Option Addr) (c:Nat) (ta:Option Addr) (tc:Nat),l.map EvC.e=L.take k->X P G f Q todo p ds cs (pto ne (.cells [.slice a l.length c].toArray 50 (0,0))::pto nt (.cells [.slice ta l.length tc].toArray 23 (0,0))::rsH evC 9 63 a c l::stars (l.map fun x=>stars (evL x))::lsH I64 3 ta tc (l.map fun x=>x.e.th)::q)):X P G f Q todo p ds cs (Go.Proofs.YtadahhbefdnabaaGreatDoor.rcI L k ne nt::q):=
 X.ex (fun s=>cS (Zy _ _) (X.pure (fun h=>x s.1 s.2.1 s.2.2.1 s.2.2.2.1 s.2.2.2.2 h)))
section
variable {l:Bs}{pa:Option Addr}{pc:Nat}
abbrev Aj :=((.cells [.int .u32 0,.slice none 0 0,I64 0,I64 0,I64 0,I64 0].toArray 47 (0,0)):Obj)
theorem Zzu (hT:Vi l=some g.er)(hl:l.length<=5000)(hK:Kn q fun M=>g.At M)(hg:GO q)(gc:GC q)(ge:GE q)(hs:Sees q pa (picks.map I64))(hk: ∀ k∈picks, -9223372036854775808<=k/\k<=9223372036854775807)(hp:picks.length<=1000)(kf:g.er=kF):CallF prog G 22 [.agg (pgC g).toArray,.slice pa picks.length pc] (q) (Ret fun v q'=> ∃ (l:List EvC) (a:Option Addr) (c:Nat) (ta:Option Addr) (tc:Nat),l.map EvC.e=(Je g.er (MS.new g.er (Wk g.er)) picks).2/\v= .tuple [(Bo g.er picks).v ta tc,.slice a l.length c,I64 0].toArray/\q'=evsL a c l (rsH tcs 2 49 ta tc (Bo g.er picks).turns::q)):=by
 refine aB func22 ntmps22 rfl fun F cs=> ?_;have h:TxF g.er:=⟨kf,l,hT,hl⟩;obtain ⟨w,o⟩:=lM (MS.new g.er (Wk g.er));have b0:FI g.er 0 w:=(by rw [o];exact FI.new rfl h);unfold Bo;rw [<-o];refine xo 2 ?_;refine Zl fun n1=> ?_
 refine Zh zeroValue47 fun n2=> ?_
 refine rn [5,0] ?_;refine Zv call18 (aH _) (Zvy hT hl (hK.le leA) (hg.le leA) (gc.le leA) (ge.le leA)) ?_;rintro _ _ ⟨p,rfl,rfl⟩;rw [<-o];refine rn [12,1020,4,0] ?_;refine bM call13 (Ov hT hl (hK.le leA) (hg.le leA) (gc.le leA)) ?_;refine rn [12,1029,4] ?_;refine Zh zeroValue50 fun n3=> ?_
 refine oo 3 ?_;refine Zh zeroValue23 fun n4=> ?_
 refine oo 6 ?_;refine Zv call57 (aH _) (steps_ok (p:=p) (pa:=pa) (pc:=pc) (picks:=picks)) ?_;rintro _ _ ⟨na,nb,rfl,rfl⟩;refine ox 2 ?_;refine cS (q':=pto na (AL p)::_) Zj (fX ?_);refine cS (q':=pto nb (Av pa picks pc)::_) Zj (fX ?_);refine X.mxO fun z hz=> ?_
 have n:=hz.run picks w;obtain ⟨R,hR⟩:=lM (Je g.er w picks);rw [<-hR] at n|-;have a0:=Do g.er picks w;have e0:=Pd g.er picks w;rw [<-hR] at a0 e0;obtain ⟨c0,g0⟩:=FDos.ths rfl h a0 b0 (by omega);have hI:Zwz prog G (.func (.func 117) [].toArray [.pointer (some ⟨nb,0,none⟩),.pointer (some ⟨na,0,none⟩)].toArray) EvR R.2 (maH p z.K w) (maH p z.K R.1) (im nb (Av pa picks pc)::im na (AL p)::mxI z::pto n2 Aj::q):=(by rw [<-n];exact Zzg (N:=49000000) (J:=fun j s=>j<=1000->FI g.er (36011*j) s) (dH (iT _ _ _) 0 _ rfl) (fQ (dH (iT na _ _)) Zj 0 _ rfl) (fun _=>b0) (fun j s k hj f0=>by rw [hz.step];exact (FI.go rfl h (hj (by omega)) (by omega) k).2) (fun j s hj f0=>hz.hd h (bD Zj (aH _)) (gc.le leA) (ge.le leA) (hj (by omega)) (by omega) (by omega)) (hs.le leA) hk (by omega));refine Zqy (xs:=R.2) (im nb (Av pa picks pc)::im na (AL p)::mxI z::pto n2 Aj::q) (fun k:Nat=> [rcI R.2 k n3 n4]) (F:=F) hI rfl ?_ (by rintro _ _ _ ⟨_,_,rfl,_⟩;rfl) rfl (by rw [func22];rfl) rfl (fun i hi vs A hA l9 rec F0 h0=> ?_) fun r=> ?_
 . simp only [bO,aY];refine rcI_in ([],none,0,none,0) rfl ?_;exact aM (Z1 I64 3 _) (aM (Yr _) (aM (Zc evC 9 63 _) leA))
 . obtain ⟨x,hx,rfl,rfl⟩:=hA;refine X.sub (p':= [(35,_),(34,_),(11,_),(10,_),(9,_),(7,_),(6,_),(5,_),(4,_)]) ⟨rfl,rfl,rfl,rfl,rfl,rfl,rfl,rfl,rfl,trivial⟩ ?_;simp only [bO,aY];refine cS (q':=rcI R.2 i n3 n4::_) Zj (X.rcI (fun d a1 c1 ta tc t=> ?_));have y:d.length<=1000:=(by have e1:=aQ List.length t;rw [aI,bI] at e1;omega);refine xo 1 ?_;refine Zh zeroValue63 fun n5=> ?_
   refine rn [0,1] ?_;refine fM rfl leA ?_;refine rn [3,0,0] ?_;refine bU (Yz (u:=x) evC underlying50 Dm rfl rfl Dn rfl) ?_;rintro _ _ ⟨g3,rfl,rfl⟩;refine bU (Z4 (f:=evC) (l:=d) (m:= [x]) underlying50 Dm rfl rfl Dn rfl rfl Zj ((cI _).le leA) Zvn (by simp;omega) (by simp;omega)) ?_;rintro _ _ ⟨a3,c3,rfl,rfl⟩;refine rn [0,2,0,1] ?_;refine ld ?_ (hc:=(fQ (dH (dU _ _ _)) Zj 0 (I64 x.e.th) rfl));refine bU (Yu I64 [x.e.th] underlying23 Bu rfl rfl rfl rfl rfl rfl (fun _=>rfl)) ?_;rintro _ _ ⟨g4,rfl,rfl⟩;refine aW 40 (.slice ta (d.map fun x=>x.e.th).length tc) rfl (by rw [aI]) ?_;refine bU (Yb (f:=I64) (l:=d.map fun x=>x.e.th) (m:= [x.e.th]) underlying23 Bu rfl rfl rfl Zj ((bY _).le leA) (fun _=>rfl) (by simp;omega) (by simp;omega)) ?_;rintro _ _ ⟨a4,c4,rfl,rfl⟩;refine rn [0,2] ?_;refine gC ⟨rfl,rfl,?_⟩;simp only [bO,aY];refine bD Zj (rcI_in (d++ [x],a3,c3,a4,c4) (by rw [aO,t,aN hi,<-hx];rfl) ?_);dsimp only;rw [show (d++ [x]).map (fun x=>x.e.th)=(d.map fun x=>x.e.th)++ [x.e.th] by rw [aO];rfl];exact aM (b:=stars (d.map fun x=>stars (evL x))::stars (evL x)::pto n3 (.cells [.slice a3 (d++ [x]).length c3].toArray 50 (0,0))::pto n4 (.cells [.slice a4 (d++ [x]).length c4].toArray 23 (0,0))::rsH evC 9 63 a3 c3 (d++ [x])::lsH I64 3 a4 c4 ((d.map fun x=>x.e.th)++ [x.e.th])::im nb (Av pa picks pc)::im na (AL p)::mxI z::pto n2 Aj::(q++F0)) (by simp only [aA,aI,aJ,aT];exact leA) (aM (U0 (fun x=>stars (evL x)) d x _) leA)
 simp only [bO,aY];refine cS (q':=rcI R.2 R.2.length n3 n4::_) Zj (X.rcI (fun d a1 c1 ta tc t=> ?_));rw [bV] at t;have d0:(d.map fun x=>x.e.th)=R.2.map PEv.th:=(by rw [<-t,fC];rfl);rw [d0];have y:d.length=R.2.length:=(by rw [<-t,aI]);refine rn [3,0] ?_;refine aW 46 (.slice ta (R.2.map PEv.th).length tc) rfl (by rw [aI,y]) ?_;refine Zv call58 (aH _) (Turns_ok (th:=R.2.map PEv.th) ((bY _).le leA) (by rw [aI];omega) (fun x hx=>by obtain ⟨e,he,rfl⟩:=bS.1 hx;exact c0 e he)) ?_;rintro _ _ ⟨a7,c7,rfl,rfl⟩;refine rn [12,1051,3,0,1,2,3,6] ?_;refine kK (q':=mxH p g.er R.1::_) (aM (b:=maH p z.K R.1::mxI z::_) (bD Zj (bD Zj (aH _))) (Zvk hz (aH _))) ?_;refine Wv 3 call21 Zj (Sb (F:=g.er) (s:=R.1) h (gc.le leA) (ge.le leA) g0 (by omega)) ?_;refine kk0 ?_;refine rn [5,7,8,9,0] ?_;exact jA ⟨rfl,Ke (q':=pto n2 (.cells [.int .u32 (Jt g.er),.slice a7 (Yf (R.2.map PEv.th)).length c7,I64 (Hw g.er R.1).kind,I64 (Hw g.er R.1).trap,I64 (Hw g.er R.1).th,I64 (Hw g.er R.1).stmt].toArray 47 (0,0))::rsH evC 9 63 a1 c1 d::stars (d.map fun x=>stars (evL x))::rsH tcs 2 49 a7 c7 (Yf (R.2.map PEv.th))::(q++F)) (gE (q':=evsL a1 c1 d (rsH tcs 2 49 a7 c7 (Yf (R.2.map PEv.th))::q)) func22 (Kf results22) ⟨_,rfl,d,a1,c1,a7,c7,t,rfl,rfl⟩ leA) (hq:=bD Zj leA)⟩
end
structure RS where
 t:Tkn
 s:MS
 pl:Nat
 ah:Nat
 dn:Nat
 df:Bool
 en:Nat
variable {r R:RS}
def RS.over (F:Fnd)(r:RS):Bool:=decide (r.pl=r.t.turns.length) && decide ((Hw F r.s).o=r.t.e)
def RS.step (F:Fnd)(r:RS):RS×PEv×Int×Int:=
 if r.df=true then (r,zEv 0 0,r.en,221)
 else if r.over F=true then (r,zEv 0 0,0,222)
 else if r.pl=r.t.turns.length then ({ r with df:=true,en:=r.pl },zEv 0 0,r.pl,221)
 else if (FDo F r.s (r.t.turns.getD r.pl (0,0)).1).2.2≠0 then ({ r with s:=(FDo F r.s (r.t.turns.getD r.pl (0,0)).1).1,df:=true,en:=r.pl },zEv 0 0,r.pl,221)
 else if ((r.ah+1:Nat):Int)=(r.t.turns.getD r.pl (0,0)).2 then ({ r with s:=(FDo F r.s (r.t.turns.getD r.pl (0,0)).1).1,dn:=r.dn+1,ah:=0,pl:=r.pl+1 },(FDo F r.s (r.t.turns.getD r.pl (0,0)).1).2.1,r.pl,0)
 else ({ r with s:=(FDo F r.s (r.t.turns.getD r.pl (0,0)).1).1,dn:=r.dn+1,ah:=r.ah+1 },(FDo F r.s (r.t.turns.getD r.pl (0,0)).1).2.1,r.pl,0)
structure RI (F:Fnd) (N:Nat) (r:RS):Prop where
 m:FI F N r.s
 n:N+36011<=50000000
 a:r.pl<=r.t.turns.length/\r.t.turns.length<=65536
 d:r.dn<=N/\r.ah<=N
theorem RI.step (hg:g.er=F)(t:TxF F)(h:RI F N r)(hN:N+36011+36011<=50000000):RI F (N+36011) (r.step F).1:=by
 have e:=h.m.mono (show N<=N+36011 by omega);have f:=(FI.go hg t h.m h.n (r.t.turns.getD r.pl (0,0)).1).1;have b:=h.a;have i:=h.d;have c:FI F (N+36011) (FDo F r.s (r.t.turns.getD r.pl (0,0)).1).1:=f;unfold RS.step;split;exact ⟨e,hN,b,by dsimp only;omega⟩;split;exact ⟨e,hN,b,by dsimp only;omega⟩;split;exact ⟨e,hN,b,by dsimp only;omega⟩;split;exact ⟨c,hN,b,by dsimp only;omega⟩;split
 . exact ⟨c,hN,by dsimp only;omega,by dsimp only;omega⟩
 exact ⟨c,hN,b,by dsimp only;omega⟩
def rpC (r:RS)(a:Option Addr)(c mp:Nat):List Value:= [.int .u32 r.t.hash,.slice a r.t.turns.length c,I64 r.t.e.1,I64 r.t.e.2.1,I64 r.t.e.2.2.1,I64 r.t.e.2.2.2,.pointer (some ⟨mp,0,none⟩),I64 r.pl,I64 r.ah,I64 r.dn,.bool r.df,I64 r.en]
abbrev rpP (p:Nat)(r:RS)(a:Option Addr)(c mp:Nat):HP:=pto p (.cells (rpC r a c mp).toArray 118 (0,0))
def rpH (p:Nat)(F:Fnd)(r:RS):HP:=ex fun x:Option Addr×Nat×Nat=>stars [rpP p r x.1 x.2.1 x.2.2,mxH x.2.2 F r.s,rsH tcs 2 49 x.1 x.2.1 r.t.turns]
section
variable {f:Fc}{r:List HP}
theorem Zv0 (x: ∀ a c mp,X P G f Q k pe ds cs (rpP p R a c mp::mxH mp F R.s::rsH tcs 2 49 a c R.t.turns::r))(hq:Le q (rpH p F R::r):=by exact Zj):X P G f Q k pe ds cs q:=
 .le hq (.ex fun z=> .le (Zy _ r) (x z.1 z.2.1 z.2.2))
theorem Eo (h:Le q (rpP p R a c mp::mxH mp F R.s::rsH tcs 2 49 a c R.t.turns::r)):Le q (rpH p F R::r):=h.trans (Wa (a,c,mp) (Zm [rpP p R a c mp,mxH mp F R.s,rsH tcs 2 49 a c R.t.turns] r))
end
theorem Lx (h6:Cl q ⟨p,0+6,none⟩ (AJ mp)):CallF prog G 62 (A3 p) (q) (AD q):=by
 refine aB func62 ntmps62 rfl fun F cs=> ?_;refine rn [9,2005,4] ?_;refine ld ?_ (hc:=(h6.le leA));refine ox 4 ?_;refine Zq (q) func62 (Zf results62 rfl) ⟨_,rfl,rfl,rfl⟩
theorem Gt (h7:Cl q ⟨p,0+7,none⟩ (Al i))(h1:Cl q ⟨p,0+1,none⟩ (.slice a n c)):CallF prog G 63 (A3 p) (q) (Ret fun v q'=>v= .bool (decide (i=n))/\q'=q):=by
 refine aB func63 ntmps63 rfl fun F cs=> ?_;refine rn [5,0,1,2,3,4] ?_;refine ldD 4 ?_ (hc:=(h7.le leA));refine dd [5,6,7,8,9] ?_;refine ldD 10 ?_ (hc:=(h1.le leA));refine rn [12,13,14,0] ?_;refine Zq (q) func63 (Zf results63 rfl) ⟨_,rfl,by first|rfl|(congr 1;rw [cN];simp;omega),rfl⟩
theorem Gm:CallF prog G 64 [.pointer (some ⟨p,0,none⟩)] (rpP p R a c mp::q) (Ret fun v q'=>v= .tuple [.agg (evC A2).toArray,I64 R.pl,I64 221].toArray/\q'=rpP p ({ R with df:=true,en:=R.pl } :RS) a c mp::q):=by
 refine aB func64 ntmps64 rfl fun F cs=> ?_;obtain ⟨t,s,e,k,j,df,en⟩:=R;obtain ⟨d,b,i,h,g,f⟩:=t;dsimp only;skip;refine xo 2 ?_;refine Zh zeroValue63 fun n1=> ?_
 refine rn [11,0,3,0,3,0,2,0,1,2,3,4,5,6,7,8,9,0] ?_;refine Zq (rpP p ({ (⟨⟨d,b,i,h,g,f⟩,s,e,k,j,df,en⟩:RS) with df:=true,en:=e } :RS) a c mp::q) func64 (Kf results64) ⟨_,rfl,rfl,rfl⟩
theorem rOver_ok (t:TxF D)(gc:GC q)(ge:GE q)(hI:RI D N R):CallF prog G 29 [.pointer (some ⟨p,0,none⟩)] (rpH p D R::q) (Ret fun v q'=>v= .bool (R.over D)/\q'=rpH p D R::q):=by
 refine aB func29 ntmps29 rfl fun F cs=> ?_;refine Zv0 fun a c mp=> ?_
 by_cases hb:R.pl=R.t.turns.length
 iterate 2
  focus
   refine rn [5,0,1] ?_;refine Ys 1 call62 (Lx (mp:=mp) clA) ?_;refine dd [2] ?_;refine XD.kt 5 ?_;refine dd [3] ?_;refine Ys 4 call63 (Gt (i:=R.pl) (n:=R.t.turns.length) (a:=a) (c:=c) clA clA) ?_
  rotate_left
 focus
  refine dY 7 bT rfl (by simp [hb]) ?_;refine dd [5,6] ?_;refine XD.kt 9 ?_;refine rn [8,9,10,11,12,14,15,16,17,18,19] ?_;refine Wv 12 call21 Zj (Sb (p:=mp) (s:=R.s) t (gc.le leA) (ge.le leA) hI.m hI.n) ?_;refine kk0 ?_;refine Fv 19 rfl (F7 rfl rfl (by kernel_rfl) (EqV.struct underlying45 (by kernel_rfl) (by kernel_rfl) ⟨_,_,_,_,rfl,rfl,isAgg42,(gJ underlying42 _ _),⟨_,_,_,_,rfl,rfl,isAgg43,(gJ underlying43 _ _),⟨_,_,_,_,rfl,rfl,isAgg3,(gJ underlying3 _ _),⟨_,_,_,_,rfl,rfl,isAgg3,(gJ underlying3 _ _),rfl,rfl⟩,rfl⟩,rfl⟩,rfl⟩)) ?_;refine dd [20,21] ?_
 rotate_left
 focus
  refine dY 7 bF rfl (by simp [hb]) ?_;refine dd [5,6] ?_;refine XD.kf 9 ?_;refine dd [7,8,9,10,11,12,13,14,15,16,17,18,19,20,21] ?_
 all_goals
  refine jV ?_;refine Zq (rpH p D R::q) func29 (Zf results29 rfl) ⟨_,rfl,cB (by unfold RS.over;rw [cN];simp [hb,Prod.ext_iff,POut.o]),rfl⟩ (Eo leA)
theorem rStep_ok (t:TxF D)(gc:GC q)(ge:GE q)(hI:RI D N R):CallF prog G 27 [.pointer (some ⟨p,0,none⟩)] (rpH p D R::q) (Ret fun v q'=> ∃ e:EvC,e.e=(R.step D).2.1/\v= .tuple [.agg (evC e).toArray,I64 (R.step D).2.2.1,I64 (R.step D).2.2.2].toArray/\q'=rsH acC 3 158 e.aa e.ac e.e.acc::rsH snC 3 161 e.na e.nc e.e.syn::rpH p D (R.step D).1::q):=by
 refine aB func27 ntmps27 rfl fun F cs=> ?_;obtain ⟨Z,h⟩:=lM (R.step D);rw [<-h];unfold RS.step at h;have hd:=hI.d;have ha:=hI.a;have hn:=hI.n;refine Zv0 fun a c mp=> ?_;obtain ⟨df,c0⟩:=lM R.df
 refine xo 2 ?_;refine Zh zeroValue63 fun n1=> ?_
 refine oo 8 ?_;refine bM call62 (Lx (p:=p) (mp:=mp) clA) ?_;refine rn [3,1009,7,0,2] ?_;refine cY 14 rfl ?_ ?_<;>intro h1
 . rw [if_pos h1] at h;refine rn [2,0,1,2,3,4,5,6,7,8,9,0] ?_;refine Zq (rsH acC 3 158 A2.aa A2.ac A2.e.acc::rsH snC 3 161 A2.na A2.nc A2.e.syn::rpH p D Z.1::q) func27 (Kf results27) ⟨_,rfl,A2,by rw [h],by rw [h];rfl,rfl⟩ (aM (b:=rpH p D Z.1::(q++F)) (by rw [h];exact Eo leA) (aM (Zc snC 3 161 _) (Zc acC 3 158 _)))
 rw [if_neg (by rw [h1];decide)] at h;refine xo 4 ?_;refine eP (q':=rpH p D R::pto n1 A9::(q++F)) (Eo leA) ?_;refine Zv call29 (aH _) (rOver_ok (R:=R) (q:=pto n1 A9::(q++F)) t (gc.le leA) (ge.le leA) hI) ?_;rintro _ _ ⟨rfl,rfl⟩;refine ox 2 ?_;refine cY 26 rfl ?_ ?_<;>intro h2
 . rw [if_pos h2] at h;refine rn [4,0,3] ?_;refine Zq (rsH acC 3 158 A2.aa A2.ac A2.e.acc::rsH snC 3 161 A2.na A2.nc A2.e.syn::rpH p D Z.1::q) func27 (Kf results27) ⟨_,rfl,A2,by rw [h],by rw [h];rfl,rfl⟩ (aM (b:=rpH p D Z.1::(q++F)) (by rw [h];exact leA) (aM (Zc snC 3 161 _) (Zc acC 3 158 _)))
 rw [if_neg (by rw [h2];decide)] at h;clear a c mp;refine Zv0 fun a c mp=> ?_
 refine xo 4 ?_;refine bM call63 (Gt (p:=p) (i:=R.pl) (n:=R.t.turns.length) (a:=a) (c:=c) clA clA) ?_;refine ox 2 ?_;refine cY 30 rfl ?_ ?_<;>intro y
 . replace y:R.pl=R.t.turns.length:=(by simpa using y);rw [if_pos y] at h;refine xo 4 ?_;refine Zv call64 Zj (Gm (p:=p) (R:=R) (c:=c) (mp:=mp)) ?_;rintro _ _ ⟨rfl,rfl⟩;refine rn [3,0,3] ?_;refine Zq (rsH acC 3 158 A2.aa A2.ac A2.e.acc::rsH snC 3 161 A2.na A2.nc A2.e.syn::rpH p D Z.1::q) func27 (Kf results27) ⟨_,rfl,A2,by rw [h],by rw [h];rfl,rfl⟩ (aM (b:=rpH p D Z.1::(q++F)) (by rw [h];exact Eo leA) (aM (Zc snC 3 161 _) (Zc acC 3 158 _)))
 replace y: ¬R.pl=R.t.turns.length:=(by simpa using y);rw [if_neg y] at h;have a0:R.pl<R.t.turns.length:=(by omega);obtain ⟨x,hx⟩:=lM R.t.turns[R.pl];rw [show R.t.turns.getD R.pl (0,0)=x by rw [gD a0,hx]] at h;refine U7 (l:=R.t.turns) (by omega) fun o b0=> ?_;subst b0;have z: ∀ r,CellsAt (rsH tcs 2 49 (some ⟨o,0,none⟩) c R.t.turns::r) o (0+(R.pl:Int).toNat*2) (tcs x):=fun r=>by rw [hx];exact fD (f:=tcs) (sz:=2) (j:=(R.pl:Int)) (cI r) (aH _) (fun _=>rfl) a0 rfl
 refine rn [9,0,9,0,2] ?_;refine Kr (us:=tcs x) isAgg49 sizeOf49 rfl ((z _).le Zj) ?_;refine Zh zeroValue49 fun n2=> ?_
 refine rn [0,2,0,1,2,3,4,5,6,7] ?_;refine Yd (fl:= [⟨11,7,fun g=> pt g,fun g=>pto g A9⟩]) ?_;refine Td 7 ⟨⟨_,rfl,rfl,rfl,rfl,rfl,rfl,fun q=>cD zeroValue63⟩,trivial⟩ call37 Zj (xDo_ok (p:=mp) (s:=R.s) (i:=x.1) t (gc.le leA) (ge.le leA) hI.m hI.n) ?_;rintro _ _ ⟨e,he,rfl,rfl⟩;refine ⟨trivial,?_⟩;skip;refine Qa 8 ⟨⟨_,rfl,rfl,rfl,rfl,rfl,rfl,fun q=>cD zeroValue63⟩,trivial⟩ (Pu.move rfl) ?_;refine Qa 9 ⟨⟨_,rfl,rfl,rfl,rfl,rfl,rfl,fun q=>cD zeroValue63⟩,trivial⟩ (fP rfl rfl) ?_;refine Qa 10 ⟨⟨_,rfl,rfl,rfl,rfl,rfl,rfl,fun q=>cD zeroValue63⟩,trivial⟩ (fP rfl rfl) ?_;refine Ws (e0:=⟨11,7,fun g=> pt g,fun g=>pto g A9⟩) (hnd:=by simp) 11 ⟨⟨_,rfl,rfl,rfl,rfl,rfl,rfl,fun q=>cD zeroValue63⟩,trivial⟩ fun nv=> ?_;change XF _ _ _ _ _ _ _ [] _ _ _ ((7,.pointer (some ⟨nv,0,none⟩))::_) _ _ (pto nv A9::_);refine eQ ?_;refine rn [13,14,0,6] ?_;refine cY 64 rfl ?_ ?_<;>intro w
 . replace w:(FDo D R.s x.1).2.2≠0:=sp w;rw [if_pos w] at h;refine xo 4 ?_;refine Zv call64 Zj (Gm (p:=p) (R:=R) (c:=c) (mp:=mp)) ?_;rintro _ _ ⟨rfl,rfl⟩;refine rn [3,0,3] ?_;refine Zq (rsH acC 3 158 A2.aa A2.ac A2.e.acc::rsH snC 3 161 A2.na A2.nc A2.e.syn::rpH p D Z.1::q) func27 (Kf results27) ⟨_,rfl,A2,by rw [h],by rw [h];rfl,rfl⟩ (aM (b:=rpH p D Z.1::(q++F)) (by rw [h];exact Eo (R:= { R with s:=(FDo D R.s x.1).1,df:=true,en:=R.pl }) (aM (b:=rpP p { R with df:=true,en:=R.pl } (some ⟨o,0,none⟩) c mp::mxH mp D (FDo D R.s x.1).1::rsH tcs 2 49 (some ⟨o,0,none⟩) c R.t.turns::(q++F)) leA (aH _))) (aM (Zc snC 3 161 _) (Zc acC 3 158 _)))
 replace w:(FDo D R.s x.1).2.2=0:=(by simpa using w);rw [if_neg (fun k=>k w)] at h;refine rn [8,0,4,0,7,0,4,0,3,0,1,2,3,4,5,6,7,8,0] ?_;refine cY 95 rfl ?_ ?_<;>intro u
 . replace u:((R.ah+1:Nat):Int)=x.2:=(by simpa using u);rw [if_pos u] at h;refine rn [8,0,4,0,3,0,3,0,1,0,3] ?_;refine Zq (rsH acC 3 158 e.aa e.ac e.e.acc::rsH snC 3 161 e.na e.nc e.e.syn::rpH p D Z.1::q) func27 (Kf results27) ⟨_,rfl,e,by rw [he,h],by rw [h];rfl,rfl⟩ (aM (b:=rsH acC 3 158 e.aa e.ac e.e.acc::rsH snC 3 161 e.na e.nc e.e.syn::pto p (.cells (J6 (J6 (J6 (J6 (rpC R (some ⟨o,0,none⟩) c mp) (0+0+9) (I64 ((R.dn:Int)+1))) (0+0+8) (I64 ((R.ah:Int)+1))) (0+0+7) (I64 ((R.pl:Int)+1))) (0+0+8) (I64 0)).toArray 118 (0,0))::mxH mp D (FDo D R.s x.1).1::rsH tcs 2 49 (some ⟨o,0,none⟩) c R.t.turns::(q++F)) leA (cG _ (cG _ (by rw [h];exact Eo (R:= { R with s:=(FDo D R.s x.1).1,dn:=R.dn+1,ah:=0,pl:=R.pl+1 }) (aH _)))))
 replace u: ¬ ((R.ah+1:Nat):Int)=x.2:=(by simpa using u);rw [if_neg u] at h;refine rn [4,0,1,0,3] ?_;refine Zq (rsH acC 3 158 e.aa e.ac e.e.acc::rsH snC 3 161 e.na e.nc e.e.syn::rpH p D Z.1::q) func27 (Kf results27) ⟨_,rfl,e,by rw [he,h],by rw [h];rfl,rfl⟩ (aM (b:=rsH acC 3 158 e.aa e.ac e.e.acc::rsH snC 3 161 e.na e.nc e.e.syn::pto p (.cells (J6 (J6 (rpC R (some ⟨o,0,none⟩) c mp) (0+0+9) (I64 ((R.dn:Int)+1))) (0+0+8) (I64 ((R.ah:Int)+1))).toArray 118 (0,0))::mxH mp D (FDo D R.s x.1).1::rsH tcs 2 49 (some ⟨o,0,none⟩) c R.t.turns::(q++F)) leA (cG _ (cG _ (by rw [h];exact Eo (R:= { R with s:=(FDo D R.s x.1).1,dn:=R.dn+1,ah:=R.ah+1 }) (aH _)))))
def Uj (l:List V1):List Int:=l.flatMap fun x=>List.replicate x.2.toNat x.1
theorem Eg (l m:List V1):Uj (l++m)=Uj l++Uj m:=by simp [Uj]
theorem Zxt {t:Int}(h: ∀ x∈l,1<=x.2):Uj (Qh l t)=Uj l++ [t]:=by
 unfold Qh;split
 . rename_i c;obtain ⟨i,a⟩:=c;have b:l.getD (l.length - 1) (0,0)=l[l.length - 1]'(by omega):=Dh _ _ _ (by omega);rw [b] at a|-;have g:=h _ (aC (show l.length - 1<l.length by omega))
   have f:l.set (l.length - 1) (t,(l[l.length - 1]'(by omega)).2+1)=l.take (l.length - 1)++ [(t,(l[l.length - 1]'(by omega)).2+1)]:=by
    rw [eX,if_pos (by omega),cL (by omega)]
   have e:l=l.take (l.length - 1)++ [l[l.length - 1]'(by omega)]:=by
    rw [<-aN (by omega),bQ (by omega)]
   rw [f,Eg]
   conv=>rhs;rw [e]
   rw [Eg,aK];congr 1;have d:((l[l.length - 1]'(by omega)).2+1).toNat=(l[l.length - 1]'(by omega)).2.toNat+1:=by omega
   simp only [Uj,bZ,kO,bR,d,a,lC]
 rw [Eg];simp [Uj]
theorem Ri (l:List Int):Uj (Yf l)=l:=by
 have a: ∀ n,Uj (Yf (l.take n))=l.take n:=by
  intro n
  induction n with
  |zero=>rfl
  |succ n ih=>
   rcases dJ n l.length with h|h
   . rw [V2 h,Zxt (Hm l n),ih,aN h]
   rw [bQ (by omega)];rwa [bQ h] at ih
 have:=a l.length;rwa [bV] at this
def Tx (F:Fnd)(t:Tkn):RS:=⟨t,MS.new F (Wk F),0,0,0,false,0⟩
def Rh (F:Fnd)(t:Tkn):Int:=if okT t then if t.hash=Jt F then 0 else 220 else 2
def rnewS (F:Fnd)(t:Tkn)(q:List HP)(v:Value)(q':List HP):Prop:=(Rh F t≠0/\v= .tuple [.pointer none,I64 (Rh F t)].toArray/\q'=q)\/(Rh F t=0/\ ∃ p,v= .tuple [.pointer (some ⟨p,0,none⟩),I64 0].toArray/\q'=rpH p F (Tx F t)::q)
section
variable {l:Bs}
theorem rNew_ok (hT:Vi l=some g.er)(hl:l.length<=5000)(hK:Kn q fun M=>g.At M)(hg:GO q)(gc:GC q)(ge:GE q)(hs:Sees q a (t.turns.flatMap tcs))(hL:t.turns.length<=1000000000):CallF prog G 26 [.agg (pgC g).toArray,t.v a c] (q) (Ret fun v q'=>rnewS g.er t q v q'):=by
 refine aB func26 ntmps26 rfl fun F cs=> ?_;unfold Tkn.v;refine xo 2 ?_;refine Zl fun n1=> ?_
 refine Zl fun n2=> ?_
 refine rn [5,0] ?_;refine Zv call18 (aH _) (Zvy hT hl (hK.le leA) (hg.le leA) (gc.le leA) (ge.le leA)) ?_;rintro _ _ ⟨p,rfl,rfl⟩;refine rn [12,1016,5] ?_;refine Kr (us:=t.cs a c) isAgg47 sizeOf47 rfl (fQ (dH (dU _ _ _)) Zj) ?_;refine bM call60 (Zxu (t:=t) (a:=a) (c:=c) (hs.le leA)) ?_;refine ox 7 ?_;refine cY 21 rfl ?_ ?_<;>intro f
 . have e: ¬okT t:=(fun k=>by rw [show chk t=0 from if_pos k] at f;simp at f);have o:chk t=2:=if_neg e;have d:Rh g.er t=2:=if_neg e;rw [o];refine xx 7 ?_;refine Zq (q) func26 (Q4 results26 rfl rfl) ⟨_,rfl,.inl ⟨by rw [d];decide,by rw [d],rfl⟩⟩
 have e:okT t:=(by by_cases k:okT t;exact k;exfalso;rw [show chk t=2 from if_neg k] at f;simp at f);refine rn [4,0] ?_;refine bM call13 (Ov hT hl (hK.le leA) (hg.le leA) (gc.le leA)) ?_;refine rn [12,1029,7] ?_;refine ld ?_ (hc:=(fQ (dH (dU n2 _ _)) Zj 0 (.int .u32 t.hash) rfl));refine ox 2 ?_;refine cY 34 rfl ?_ ?_<;>intro n
 . have m: ¬t.hash=Jt g.er:=(by have:=sp n;omega);have d:Rh g.er t=220:=(by unfold Rh;rw [if_pos e,if_neg m]);refine xx 6 ?_;refine Zq (q) func26 (Q4 results26 rfl rfl) ⟨_,rfl,.inl ⟨by rw [d];decide,by rw [d],rfl⟩⟩
 have m:t.hash=Jt g.er:=(by have:Jt g.er=t.hash:=(by simpa using n);exact this.symm);have d:Rh g.er t=0:=(by unfold Rh;rw [if_pos e,if_pos m]);refine xo 5 ?_;refine ld ?_ (hc:=(fQ (dH (dU n2 _ _)) Zj 1 (.slice a t.turns.length c) rfl));refine Zv call61 (aH _) (Zxp (l:=t.turns) (hs.le leA) hL) ?_;rintro _ _ ⟨i,h,rfl,rfl⟩;refine rn [1,0,3] ?_;refine eP (q':=pto n2 (.cells (t.cs i h).toArray 47 (0,0))::_) (aM (b:=pto n2 (.cells (J6 (t.cs a c) (0+1) (.slice i t.turns.length h)).toArray 47 (0,0))::_) Zj (aH _)) ?_;refine Kr (us:=t.cs i h) isAgg47 sizeOf47 rfl (fQ (dH (dU _ _ _)) Zj) ?_;refine oo 3 ?_;refine Zl fun j=> ?_
 refine ox 3 ?_;refine Zq (rpH j g.er (Tx g.er t)::q) func26 (Q4 results26 rfl rfl) ⟨_,rfl,.inr ⟨d,j,rfl,rfl⟩⟩ (aM (b:=pto j _::mxH p g.er (MS.new g.er (Wk g.er))::rsH tcs 2 49 i h t.turns::(q++F)) leA (Eo (R:=Tx g.er t) (aH _)))
end
def Q7 (l:List V1):Nat:=(l.map fun x=>x.2.toNat).sum
def RS.left (r:RS):Nat:=Q7 (r.t.turns.drop r.pl) - r.ah
structure RS.fit (r:RS):Prop where
 p: ∀ x∈r.t.turns,1<=x.2
 a:(r.pl=r.t.turns.length/\r.ah=0)\/(∃ h:r.pl<r.t.turns.length,(r.ah:Int)<(r.t.turns[r.pl]).2)
theorem Zz8 (h:i<l.length):Q7 (l.drop i)=(l[i]).2.toNat+Q7 (l.drop (i+1)):=by
 unfold Q7;rw [aP h,bA,kM]
theorem RS.go (h:r.fit)(h0:(r.step F).2.2.2=0):((r.step F).1.fit/\(r.step F).1.left+1=r.left)/\(r.step F).1.t=r.t:=by
 revert h0
 unfold RS.step;split;exact fun k=>aV (show (221:Int)=0 from k) (by decide)
 split;exact fun k=>aV (show (222:Int)=0 from k) (by decide)
 split;exact fun k=>aV (show (221:Int)=0 from k) (by decide)
 split;exact fun k=>aV (show (221:Int)=0 from k) (by decide)
 rename_i d _;obtain ⟨b,e⟩: ∃ h:r.pl<r.t.turns.length,(r.ah:Int)<(r.t.turns[r.pl]).2:=h.a.resolve_left fun k=>d k.1
 have c:=Zz8 b;have g:=h.p _ (aC b);rw [gD b];split
 . rename_i f;intro _;refine ⟨⟨⟨h.p,?_⟩,?_⟩,rfl⟩
   . dsimp only;by_cases h7:r.pl+1=r.t.turns.length
     . exact .inl ⟨h7,rfl⟩
     exact .inr ⟨by omega,by have:=h.p _ (aC (show r.pl+1<r.t.turns.length by omega));omega⟩
   unfold RS.left;dsimp only;rw [c];omega
 rename_i f;intro _;refine ⟨⟨⟨h.p,.inr ⟨b,by dsimp only;omega⟩⟩,?_⟩,rfl⟩;unfold RS.left;dsimp only;rw [c];omega
def RS.play (F:Fnd):Nat->RS->List PEv×POut×Int×Int
 |0,_=>([],Of,0,0)
 |n+1,r=>if (r.step F).2.2.2=0 then (if (RS.play F n (r.step F).1).2.2.2=0 then ((r.step F).2.1::(RS.play F n (r.step F).1).1,(RS.play F n (r.step F).1).2) else RS.play F n (r.step F).1) else if (r.step F).2.2.2=222 then ([],Hw F r.s,0,0) else ([],Of,(r.step F).2.2.1,(r.step F).2.2.2)
def Hu (F:Fnd)(t:Tkn):List PEv×POut×Int×Int:=(Tx F t).play F (Q7 t.turns+1)
def rplS (F:Fnd)(t:Tkn)(q:List HP)(v:Value)(q':List HP):Prop:=(Rh F t≠0/\v= .tuple [.slice none 0 0,.agg (ocC Of).toArray,I64 0,I64 (Rh F t)].toArray/\q'=q)\/(Rh F t=0/\ ∃ (l:List EvC) (a:Option Addr) (c:Nat),l.map EvC.e=(Hu F t).1/\v= .tuple [.slice a l.length c,.agg (ocC (Hu F t).2.1).toArray,I64 (Hu F t).2.2.1,I64 (Hu F t).2.2.2].toArray/\q'=evsL a c l q)
section
variable {l:Bs}
theorem O8 (hT:Vi l=some g.er)(hl:l.length<=5000)(hK:Kn q fun M=>g.At M)(hg:GO q)(gc:GC q)(ge:GE q)(hs:Sees q a (t.turns.flatMap tcs))(hL:t.turns.length<=1000000000)(hB:okT t->Q7 t.turns<=1300)(kf:g.er=kF):CallF prog G 16 [.agg (pgC g).toArray,t.v a c] (q) (Ret fun v q'=>rplS g.er t q v q'):=by
 refine aB func16 ntmps16 rfl fun F cs=> ?_;unfold Tkn.v;have i:TxF g.er:=⟨kf,l,hT,hl⟩;obtain ⟨R,hR⟩:=lM (Hu g.er t);unfold rplS;rw [<-hR];refine xo 2 ?_;refine Zl fun n1=> ?_
 refine Zl fun n2=> ?_
 refine oo 1 ?_;refine Zh zeroValue45 fun n3=> ?_
 refine rn [6,0] ?_;refine Kr (us:=t.cs a c) isAgg47 sizeOf47 rfl (fQ (dH (dU _ _ _)) Zj) ?_;refine Zv call26 (aH _) (rNew_ok (g:=g) (t:=t) (a:=a) (c:=c) hT hl (hK.le leA) (hg.le leA) (gc.le leA) (ge.le leA) (hs.le leA) hL) ?_;rintro _ _ (⟨b0,rfl,rfl⟩|⟨h0,p,rfl,rfl⟩)
 . refine ox 12 ?_;refine jC 21 ?_ rfl (by simp [b0]);refine rn [6,0,3] ?_;refine Zq (q) func16 (Bl results16 (fN rfl (dN rfl (LV.agg isAgg45 sizeOf45 Vb rfl) (fN rfl (fN rfl eT))))) ⟨_,rfl,.inl ⟨b0,rfl,rfl⟩⟩
 refine rn [12,1021,10] ?_;have y:okT t:=(by by_cases k:okT t;exact k;exfalso;rw [show Rh g.er t=2 from if_neg k] at h0;exact aV h0 (by decide));have l0:=hB y;have a0: ∀ x∈t.turns,1<=x.2:=fun x hx=>(Iy y.2.2 (bL 0) x hx).2.2.1;have i0:=y.1
 have g0:(Tx g.er t).fit:=⟨a0,by by_cases k:t.turns.length=0;exact .inl ⟨k.symm,rfl⟩;exact .inr ⟨jY k,by have:=a0 _ (aC (jY k));exact lJ (show ((0:Nat):Int)<1 by decide) this⟩⟩;have z:(Tx g.er t).left=Q7 t.turns:=rfl;refine aX (cC (fun (s:RS×List EvC×Option Addr×Nat)=>s.1.fit/\s.1.t=t/\s.1.left<=Q7 t.turns/\RI g.er (36011*(Q7 t.turns - s.1.left)) s.1/\s.2.1.length+s.1.left=Q7 t.turns/\R=if (s.1.play g.er (s.1.left+1)).2.2.2=0 then (s.2.1.map EvC.e++(s.1.play g.er (s.1.left+1)).1,(s.1.play g.er (s.1.left+1)).2) else (s.1.play g.er (s.1.left+1))) (fun s=> [(2,pt n1),(3,pt n2),(4,.slice none 0 0),(5,pt n3),(6,I64 0),(7,I64 0),(8,.pointer (some ⟨p,0,none⟩)),(10,.slice s.2.2.1 s.2.1.length s.2.2.2)]) (fun s=>rpH p g.er s.1::pto n3 AZ::rsH evC 9 63 s.2.2.1 s.2.2.2 s.2.1::stars (s.2.1.map fun x=>stars (evL x))::(q++F)) (fun s=>s.1.left) (fun s c0 ih=> ?_) (Tx g.er t, [],none,0) ⟨g0,rfl,aU _,⟨by rw [z,lA];exact FI.new rfl i,by rw [z];omega,⟨bC _,i0⟩,bC _,bC _⟩,by rw [z];simp,by rw [hR];show Hu g.er t=if (Hu g.er t).2.2.2=0 then ([]++(Hu g.er t).1,(Hu g.er t).2) else _;split<;>rfl⟩) Zn (aM (Zc evC 9 63 _) (aM (Yr _) leA));try dsimp only at c0 ih|-
 obtain ⟨hf,ht,k0,hI,j0,d⟩:=c0;obtain ⟨r,w,ea,ec⟩:=s;dsimp only at*;obtain ⟨Z,hZ⟩:=lM (r.step g.er);have d0:=fun h=>RS.go (F:=g.er) (r:=r) hf h;have e0:=hI.step rfl i (by omega);rw [<-hZ] at d0 e0;rw [RS.play,<-hZ] at d
 refine xo 4 ?_;refine Zv call27 Zj (rStep_ok (R:=r) i (gc.le leA) (ge.le leA) hI) ?_;rintro _ _ ⟨e,he,rfl,rfl⟩;rw [<-hZ] at he|-;refine oo 4 ?_;refine Zh zeroValue63 fun n4=> ?_
 refine rn [0,13] ?_;refine cY 34 rfl ?_ ?_<;>intro o
 . replace o:Z.2.2.2=0:=sp o;obtain ⟨⟨k1,k2⟩,k3⟩:=d0 o;rw [if_pos o] at d;refine rn [3,0] ?_;refine bU (Yz (u:=e) evC underlying50 Dm rfl rfl Dn rfl) ?_;rintro _ _ ⟨g3,rfl,rfl⟩;refine bU (Z4 (f:=evC) (l:=w) (m:= [e]) underlying50 Dm rfl rfl Dn rfl rfl Zj ((cI _).le leA) Zvn (by simp;omega) (by simp;omega)) ?_;rintro _ _ ⟨a3,c3,rfl,rfl⟩;refine ox 4 ?_;refine cS (q':=stars ((w++ [e]).map fun x=>stars (evL x))::_) (aM (b:=stars (w.map fun x=>stars (evL x))::rsH acC 3 158 e.aa e.ac e.e.acc::rsH snC 3 161 e.na e.nc e.e.syn::_) (bD Zj (bD Zj Zj)) (aM (cG _ (Zm (evL e) _)) (U0 (fun x=>stars (evL x)) w e _))) ?_;refine aX (ih (Z.1,w++ [e],a3,c3) ⟨k1,k3.trans ht,by dsimp only;omega,by dsimp only;rw [show Q7 t.turns - Z.1.left=Q7 t.turns - r.left+1 by omega,Nat.mul_add,iR];exact e0,by dsimp only;rw [aA];simp;omega,by dsimp only;rw [k2,aO,bA,dC,he,aK];rw [d];split<;>rename_i k9<;>simp only [k9,if_true,if_false,bO,aY]⟩ (by dsimp only;omega)) Zn leA
 replace o:Z.2.2.2≠0:=(by simpa using o);rw [if_neg o] at d;refine xx 6 ?_;refine cY 40 rfl ?_ ?_<;>intro j
 . replace j:Z.2.2.2=222:=sp j;rw [if_pos j] at d;simp only [if_true,bR] at d;have f0:Z.1=r:=(by rw [hZ] at j|-;revert j;unfold RS.step;split;exact fun _=>rfl;split;exact fun _=>rfl;split;exact fun k=>aV (show (221:Int)=222 from k) (by decide);split;exact fun k=>aV (show (221:Int)=222 from k) (by decide);split<;>exact fun k=>aV (show (0:Int)=222 from k) (by decide));rw [f0];refine Zv0 fun a c mp=> ?_
   refine rn [9,0] ?_;refine Zv call21 Zj (Sb (p:=mp) (s:=r.s) i (gc.le leA) (ge.le leA) hI.m hI.n) ?_;rintro _ _ ⟨rfl,rfl⟩;refine rn [1,0,3] ?_;refine Zq (evsL ea ec w q) func16 (Bl results16 (fN rfl (dN rfl (LV.agg isAgg45 sizeOf45 Vb rfl) (fN rfl (fN rfl eT))))) ⟨_,rfl,.inr ⟨h0,w,ea,ec,by rw [d],by rw [d];rfl,rfl⟩⟩
 replace j:Z.2.2.2≠222:=(by simpa using j);rw [if_neg j] at d;rw [if_neg o] at d;refine rn [7,0,3] ?_;refine Zq (evsL none 0 [] q) func16 (Bl results16 (fN rfl (dN rfl (LV.agg isAgg45 sizeOf45 Vb rfl) (fN rfl (fN rfl eT))))) ⟨_,rfl,.inr ⟨h0, [],none,0,by rw [d];rfl,by rw [d];rfl,rfl⟩⟩ (aM (b:=(q++F)) leA (aM (Yr _) (Zc evC 9 63 _)))
end
def H6 (l:List V1):Int:=(l.map Prod.snd).foldr (· + ·) 0
theorem N9 (l m:List V1):H6 (l++m)=H6 l+H6 m:=by
 induction l with
 |nil=>simp [H6]
 |cons x r ih=>simp only [H6,bO,bA,List.foldr_cons] at ih|-;omega
def Lr (p:Option Int)(l:List V1):Option Int:=(l.getLast?.map Prod.fst).or p
theorem Dg: ∀ {l:List V1} {p:Option Int} {s:Int} {x:V1},goT p s (l++ [x])↔goT p s l/\(0<=x.1/\x.1<=7/\1<=x.2/\s+H6 l+x.2<=2147483647/\Lr p l≠some x.1)
 | [],p,s,x=>by simp [goT,H6,Lr]
 |y::r,p,s,x=>by
  have a:=Dg (l:=r) (p:=some y.1) (s:=s+y.2) (x:=x)
  have c:Lr p (y::r)=Lr (some y.1) r:=by
   unfold Lr
   cases r with
   |nil=>rfl
   |cons z r=>rw [List.getLast?_cons_cons];cases h:(z::r).getLast? with
    |none=>simp at h
    |some w=>rfl
  have b:H6 (y::r)=y.2+H6 r:=rfl;simp only [bO,goT];rw [a,c,b,show s+y.2+H6 r=s+(y.2+H6 r) by omega];exact and_assoc.symm
theorem addT_go {t:Int}(h:goT none 0 l)(h1: ∀ x∈l,1<=x.2)(ht:0<=t/\t<=7)(hs:H6 l+1<=2147483647):goT none 0 (Qh l t)/\H6 (Qh l t)=H6 l+1:=by
 rcases List.eq_nil_or_concat l with rfl|⟨m,x,rfl⟩
 . have e:Qh [] t= [(t,1)]:=rfl;rw [e];exact ⟨⟨⟨ht.1,ht.2,by simp,by simp,by simp⟩,trivial⟩,rfl⟩
 rw [List.concat_eq_append] at h h1 hs|-;have d:(m++ [x]).length - 1=m.length:=by simp
 have f:(m++ [x]).getD m.length (0,0)=x:=by simp [List.getD]
 have c:=Dg.1 h;have i:=h1 x (by simp);unfold Qh;rw [d,f];rw [N9] at hs|-;have ex:H6 [x]=x.2:=by simp [H6]
 rw [ex] at hs|-;split
 . rename_i a;rw [List.set_append_right _ _ (aU _),lA];have g: [x].set 0 (t,x.2+1)= [(t,x.2+1)]:=rfl;rw [g,N9];have b:H6 [(t,x.2+1)]=x.2+1:=by simp [H6]
   rw [b];refine ⟨Dg.2 ⟨c.1,ht.1,ht.2,by dsimp only;omega,by dsimp only;omega,by dsimp only;rw [<-a.2];exact c.2.2.2.2.2⟩,by omega⟩
 rename_i a;rw [N9,N9,ex];have b:H6 [((t,1):V1)]=1:=by simp [H6]
 rw [b];refine ⟨Dg.2 ⟨h,ht.1,ht.2,by simp,by rw [N9,ex];dsimp only;omega,?_⟩,by omega⟩;unfold Lr;rw [List.getLast?_append];simp only [List.getLast?_singleton,Option.some_or,iL];intro k;exact a ⟨by simp,by simpa using k⟩
theorem Gj {l:List Int}(h: ∀ x∈l,0<=x/\x<=7)(hb:l.length<=1000000): ∀ n,n<=l.length->goT none 0 (Yf (l.take n))/\H6 (Yf (l.take n))=n
 |0,_=>by rw [gN];exact ⟨trivial,rfl⟩
 |n+1,hn=>by
  obtain ⟨b,d⟩:=Gj h hb n (by omega);rw [V2 (by omega)];obtain ⟨a,c⟩:=addT_go b (Hm l n) (h _ (aC (show n<l.length by omega))) (by omega);exact ⟨a,by omega⟩
theorem FDo_out (_:TxF F)(hM:FI F N s)(_:Xv 512 s.out)(i:Int):Xv 512 (FDo F s i).1.out:=fun k=>by
 have:=(hM.do1 i).n8.2;omega
theorem FDos.out (hg:g.er=F)(t:TxF F): ∀ {l:List PEv} {s s':MS} {N:Nat},FDos F s l s'->FI F N s->N+36011*l.length<=50000000->Xv 512 s.out->Xv 512 s'.out
 | [],s,s',N,h,hM,hN,ho=>by rw [show s'=s from h];exact ho
 |e::r,s,s',N,⟨h1,h2,h3⟩,hM,hN,ho=>by
  rw [aJ] at hN;exact FDos.out hg t h3 (FI.go hg t hM (by omega) e.th).1 (by omega) (FDo_out t hM ho e.th)
theorem FOut_ok (h:Xv 512 s.out):okE (Hw F s).o:=by
 unfold Hw MS.outc;split
 . rename_i a;have:=h a;exact .inr ⟨a,by dsimp only [POut.o];omega⟩
 split
 . exact .inl (by decide)
 split<;>exact .inl (by decide)
theorem recP_ok (hg:g.er=F)(t:TxF F)(hp:picks.length<=1000):okT (Bo F picks)/\(∀ x∈(Je F (MS.new F (Wk F)) picks).2,0<=x.th/\x.th<=7)/\(Je F (MS.new F (Wk F)) picks).2.length<=picks.length:=by
 have d:=Do F picks (MS.new F (Wk F));have l:=Pd F picks (MS.new F (Wk F));have f:=FI.new (F:=F) hg t;obtain ⟨h,o⟩:=FDos.ths hg t d f (by omega);have j:=FDos.out hg t d f (by omega) (fun k=>aV (show (0:Int)=4 from k) (by decide))
 have a: ∀ x∈(Je F (MS.new F (Wk F)) picks).2.map PEv.th,0<=x/\x<=7:=fun x i=>by
  obtain ⟨e,m,rfl⟩:=bS.1 i;exact h e m
 obtain ⟨c,n⟩:=Gj a (by rw [aI];omega) _ (aU _);have b:=N8 ((Je F (MS.new F (Wk F)) picks).2.map PEv.th) ((Je F (MS.new F (Wk F)) picks).2.map PEv.th).length;rw [bV] at c b;rw [aI] at b;exact ⟨⟨by show (Yf _).length<=65536;omega,FOut_ok j,c⟩,h,l⟩
theorem Cu (h:i<l.length):Uj (l.drop i)=List.replicate (l[i]).2.toNat (l[i]).1++Uj (l.drop (i+1)):=by
 unfold Uj;rw [aP h,bZ]
def RS.rest (r:RS):List Int:=(Uj (r.t.turns.drop r.pl)).drop r.ah
theorem Zqu (h:r.fit)(e:r.rest= []):r.pl=r.t.turns.length/\r.ah=0:=by
 rcases h.a with k|⟨b,c⟩
 . exact k
 exfalso;have:=aQ List.length e;unfold RS.rest at this;rw [Cu b,cE,aA,cO,aT] at this;omega
theorem I5 {i:Int}{l:List Int}(h:r.fit)(e:r.rest=i::l): ∃ hlt:r.pl<r.t.turns.length,(r.t.turns[r.pl]).1=i/\(r.ah:Int)<(r.t.turns[r.pl]).2/\(if ((r.ah+1:Nat):Int)=(r.t.turns[r.pl]).2 then Uj (r.t.turns.drop (r.pl+1)) else (Uj (r.t.turns.drop r.pl)).drop (r.ah+1))=l:=by
 rcases h.a with ⟨g,m⟩|⟨hlt,d⟩
 . unfold RS.rest at e;rw [g,dP] at e;simp [Uj] at e
 unfold RS.rest at e;have c:=Cu hlt;have b:r.ah<(Uj (r.t.turns.drop r.pl)).length:=by rw [c,aA,cO];omega
 rw [aP b] at e;obtain ⟨k,f⟩:=fW e
 have j:(Uj (r.t.turns.drop r.pl))[r.ah]=(r.t.turns[r.pl]).1:=by
  have:(Uj (r.t.turns.drop r.pl))[r.ah]? =some (r.t.turns[r.pl]).1:=by
   rw [c,dB (by rw [cO];omega),iJ,if_pos (by omega)]
  rw [aE b] at this;exact dT this
 refine ⟨hlt,by rw [<-k,j],d,?_⟩;split
 . rename_i n;rw [<-f,c,List.drop_append,show (List.replicate (r.t.turns[r.pl]).2.toNat (r.t.turns[r.pl]).1).drop (r.ah+1)= [] from cL (by rw [cO];omega),aY,cO,show r.ah+1 - (r.t.turns[r.pl]).2.toNat=0 by omega,fY]
 exact f
theorem RS.next {s1:MS}{l:List Int}(h:r.fit)(hf:r.df=false)(hr:r.rest=e.th::l)(hd:FDo F r.s e.th=(s1,e,0)):(r.step F).2=(e,(r.pl:Int),0)/\(r.step F).1.s=s1/\(r.step F).1.rest=l/\(r.step F).1.df=false/\(r.step F).1.dn=r.dn+1/\r.over F=false:=by
 obtain ⟨b,g,f,d⟩:=I5 h hr;have a:r.over F=false:=by unfold RS.over;rw [dQ (by omega)];rfl
 unfold RS.step;rw [hf,if_neg (by decide),a,if_neg (by decide),if_neg (by omega),gD b,g,hd];dsimp only;rw [if_neg (by decide)];split at d
 . rename_i c;rw [if_pos c];exact ⟨rfl,rfl,by unfold RS.rest;dsimp only;rw [fY];exact d,rfl,rfl,rfl⟩
 rename_i c;rw [if_neg c];exact ⟨rfl,rfl,d,rfl,rfl,rfl⟩
theorem RS.end (h:r.fit)(hf:r.df=false)(hr:r.rest= []):(r.step F).2.2=if (Hw F r.s).o=r.t.e then (0,222) else ((r.t.turns.length:Int),221):=by
 obtain ⟨a,b⟩:=Zqu h hr;unfold RS.step RS.over;rw [hf,if_neg (by decide),dA a];by_cases k:(Hw F r.s).o=r.t.e
 . rw [dA k,if_pos (show (true && true)=true from rfl),if_pos k]
 rw [dQ k,if_neg (show ¬ (true && false)=true by decide),if_pos a,if_neg k,a]
theorem Xz {F:Fnd}: ∀ {evs:List PEv} {s':MS} {r:RS} {n:Nat},FDos F r.s evs s'->r.df=false->r.fit->r.rest=evs.map PEv.th->evs.length<n->r.play F n=if (Hw F s').o=r.t.e then (evs,Hw F s',0,0) else ([],Of,(r.t.turns.length:Int),221)
 | [],s',r,0,_,_,_,_,hn=>aV hn (jT _)
 |_::_,_,_,0,_,_,_,_,hn=>aV hn (jT _)
 | [],s',r,n+1,hd,hf,h,hr,_=>by
  have a:=RS.end (F:=F) h hf hr;have m:s'=r.s:=hd;rw [m];unfold RS.play;by_cases k:(Hw F r.s).o=r.t.e
  . rw [if_pos k] at a|-;rw [a,if_neg (show ¬ (222:Int)=0 by decide),if_pos rfl]
  rw [if_neg k] at a|-;rw [a,if_neg (show ¬ (221:Int)=0 by decide),if_neg (show ¬ (221:Int)=222 by decide)]
 |e::evs,s',r,n+1,⟨hd1,_,hd2⟩,hf,h,hr,hn=>by
  obtain ⟨b,g,f,d,_,_⟩:=RS.next (F:=F) h hf hr hd1;have c:(r.step F).2.2.2=0:=by rw [b]
  obtain ⟨⟨l,_⟩,j⟩:=RS.go h c;have i:=Xz (evs:=evs) (s':=s') (r:=(r.step F).1) (n:=n) (by rw [g];exact hd2) d l f (by rw [aJ] at hn;omega);unfold RS.play;rw [if_pos c,i,j,b];by_cases k:(Hw F s').o=r.t.e
  . simp only [if_pos k,if_true]
  simp only [if_neg k];rw [if_neg (show ¬ (221:Int)=0 by decide)]
theorem newR_fit (h:okT t):(Tx F t).fit:=by
 have a: ∀ x∈t.turns,1<=x.2:=fun x b=>(Iy h.2.2 (bL 0) x b).2.2.1
 refine ⟨a,?_⟩;by_cases k:t.turns.length=0
 . exact .inl ⟨k.symm,rfl⟩
 exact .inr ⟨jY k,by have:=a _ (aC (jY k));exact lJ (show ((0:Nat):Int)<1 by decide) this⟩
theorem Cy (l:List V1):Q7 l=(Uj l).length:=by
 unfold Q7 Uj
 induction l with
 |nil=>rfl
 |cons x r ih=>simp only [bA,kM,bZ,aA,cO,ih]
theorem Zw3 {evs:List PEv}{s':MS}(h:okT t)(hd:FDos F (MS.new F (Wk F)) evs s')(hr:Uj t.turns=evs.map PEv.th):Hu F t=if (Hw F s').o=t.e then (evs,Hw F s',0,0) else ([],Of,(t.turns.length:Int),221):=by
 unfold Hu;exact Xz (r:=Tx F t) hd rfl (newR_fit h) hr (by rw [Cy,hr,aI];omega)
theorem newE_rec (h:okT (Bo F picks)):Rh F (Bo F picks)=0:=by unfold Rh;rw [if_pos h,if_pos (show (Bo F picks).hash=Jt F from rfl)]
theorem Zxg (F:Fnd)(picks:List Int):Q7 (Bo F picks).turns=(Je F (MS.new F (Wk F)) picks).2.length:=by
 rw [Cy];show (Uj (Yf _)).length=_;rw [Ri,aI]
theorem Zw2 (h:okT (Bo F picks)):Hu F (Bo F picks)=((Je F (MS.new F (Wk F)) picks).2,Hw F (Je F (MS.new F (Wk F)) picks).1,0,0):=by
 rw [Zw3 h (Do F picks _) (Ri _),if_pos (show (Hw F (Je F (MS.new F (Wk F)) picks).1).o=(Bo F picks).e from rfl)]
def Rc (s:ByteArray):Option Fnd:=if 5000<s.size then none else Vi (bs s)
theorem Gr {s:ByteArray}(h:Rc s=some F):Vi (bs s)=some F/\(bs s).length<=5000:=by
 unfold Rc at h;split at h
 . cases h
 rename_i k;have e:(bs s).length=s.size:=by show s.data.toList.length=s.data.size;exact gK
 exact ⟨h,by omega⟩
inductive PrIs (s:ByteArray) (g:FC):Bool->Prop
 |no (h:Rc s=none):PrIs s g false
 |yes (h:Rc s=some g.er):PrIs s g true
abbrev knB:ByteArray:=⟨#[116,104,114,101,97,100,32,109,97,105,110,32,123,32,112,114,105,110,116,32,55,59,32,125]⟩
def knE (F:Fnd):Bool:=
 let r:=Je F (MS.new F (Wk F)) [0]
 r.2.map (fun e=>(e.th,e.outv))== [(0,7)] && (Hw F r.1).kind==2
def knS:Bool:=match Rc knB with|none=>false|some F=>knE F
set_option maxRecDepth 1000000 in
theorem knS_ok:knS=true:=by decide+kernel
theorem knS_at: ∃ F,Rc knB=some F/\knE F=true:=by
 have h:=knS_ok;unfold knS at h;split at h
 . cases h
 rename_i F a;exact ⟨F,a,h⟩
theorem knE_at (h:knE F=true):(∃ e,(Je F (MS.new F (Wk F)) [0]).2= [e]/\e.th=0/\e.outv=7)/\(Hw F (Je F (MS.new F (Wk F)) [0]).1).kind=2:=by
 unfold knE at h;dsimp only at h;generalize Je F (MS.new F (Wk F)) [0]=r at h|-;obtain ⟨s,L⟩:=r;simp only [aR,eI] at h;refine ⟨?_,h.2⟩;have b:=h.1;obtain ⟨a,rfl⟩:=kJ.1 (show L.length=1 by have:=aQ List.length b;rwa [aI] at this);simp only [bA,dC,jR,and_true,jL] at b;exact ⟨a,rfl,b⟩
theorem play_bad (h:t.turns= [(1,1)]):Hu F t=([],Of,0,221):=by
 have f:(FDo F (MS.new F (Wk F)) 1).2.2≠0:=by
  unfold FDo MS.doP;rw [if_pos (.inr (show ((MS.new F (Wk F)).ths.length:Int)<=1 from bL 1))];exact show (2:Int)≠0 by decide
 have e:Q7 t.turns=1:=by rw [h];rfl
 have c:((Tx F t).step F).2.2=(0,221):=by
  unfold RS.step;rw [if_neg (show ¬ (Tx F t).df=true by exact Bool.false_ne_true)];have a: ¬ (Tx F t).pl=(Tx F t).t.turns.length:=by show ¬0=t.turns.length;rw [h];decide
  have d:(Tx F t).over F=false:=by unfold RS.over;rw [dQ a];rfl
  have b:((Tx F t).t.turns.getD (Tx F t).pl (0,0)).1=1:=by show (t.turns.getD 0 (0,0)).1=1;rw [h];rfl
  rw [d,if_neg Bool.false_ne_true,if_neg a,b,if_pos (show (FDo F (Tx F t).s 1).2.2≠0 from f)];rfl
 unfold Hu;rw [e];unfold RS.play;rw [c,if_neg (show ¬ (221:Int)=0 by decide),if_neg (show ¬ (221:Int)=222 by decide)]
section
variable {s:ByteArray}
theorem Zk7:CallF prog G 11 [.string s] (q) (Ret fun v q'=> ∃ (g:FC) (bb:Bool),v= .tuple [.agg (pgC g).toArray,.bool bb].toArray/\q'=fcM g::q/\PrIs s g bb):=by
 refine aB func11 ntmps11 rfl fun F cs=> ?_;refine xo 2 ?_;refine Zh zeroValue29 fun n1=> ?_
 refine ox 9 ?_;refine xp 9 ?_ ?_<;>intro d
 . have b:Rc s=none:=(by unfold Rc;rw [if_pos (by omega)]);refine rn [4,0,2] ?_;refine cS (q':=fcM FC.z::_) (dK (fun _ _ _=>De _)) ?_;refine Zq (fcM FC.z::q) func11 (N3 results11) ⟨_,rfl,FC.z,false,rfl,rfl,.no b⟩
 have b:Rc s=Vi (bs s):=(by unfold Rc;rw [if_neg (by omega)]);refine xo 5 ?_;refine Zv call44 (aH _) (text_ok (s:=s)) ?_;rintro _ _ ⟨g,y,z,e,rfl,rfl,a⟩;refine oo 4 ?_;refine Zh zeroValue29 fun n2=> ?_
 refine Zh zeroValue104 fun c=> ?_
 refine rn [0,0,4,0,2,0,2] ?_;refine Zq (fcM g::q) func11 (N3 results11) ⟨_,rfl,g,decide (e=0),rfl,rfl,by cases hx:Vi (bs s) with|none=>(rw [hx] at a;rw [dQ a];exact .no (b.trans hx))|some F=>(rw [hx] at a;rw [dA a.1];exact .yes (by rw [a.2];exact b.trans hx))⟩
theorem Og (hg:GO q)(gc:GC q)(ge:GE q):CallF prog G 12 [] (q) (AD q):=by
 refine aB func12 ntmps12 rfl fun F cs=> ?_;obtain ⟨F0,hF,hE⟩:=knS_at;obtain ⟨⟨e0,m,k0,j0⟩,b⟩:=knE_at hE;refine xo 6 ?_;refine Zv call11 (aH _) (Zk7 (s:=knB)) ?_;rintro _ _ ⟨g,bb,rfl,rfl,hP⟩;obtain ⟨rfl,g0⟩:bb=true/\g.er=F0:=(by cases hP with|no h=>(rw [hF] at h;cases h)|yes h=>(rw [hF] at h;exact ⟨rfl,(dT h).symm⟩));obtain ⟨w,hl⟩:=Gr hF;rw [<-g0] at w m b;have kf:g.er=kF:=(by unfold kF;rw [show Vi knL=some g.er from w]);have i0:TxF g.er:=⟨kf,_,w,hl⟩;obtain ⟨i, -, -⟩:=recP_ok rfl i0 (picks:= [0]) (by decide);have z:=newE_rec i;have d:=Zw2 i;have f0:=Zxg g.er [0];rw [m] at d f0;have b0:(Bo g.er [0]).turns= [(0,1)]:=(by show Yf ((Je g.er _ [0]).2.map PEv.th)=_;rw [m,bA,dC,k0];rfl);obtain ⟨v,d0⟩:=lM (Bo g.er [0]).e;have o:Bo g.er [0]=⟨Jt g.er, [(0,1)],v⟩:=(by rw [d0,<-b0];rfl);rw [o] at d z i;have y:okT ⟨Jt g.er, [(1,1)],v⟩:=⟨show ([(1,1)]:List V1).length<=65536 by decide,i.2.1,show goT none 0 [(1,1)] by decide⟩;have l0:Rh g.er ⟨Jt g.er, [(1,1)],v⟩=0:=(by unfold Rh;rw [if_pos y,if_pos rfl]);have c0:=play_bad (F:=g.er) (t:=⟨Jt g.er, [(1,1)],v⟩) rfl;refine oo 3 ?_;refine Zh zeroValue29 fun n1=> ?_
 refine rn [0,4,0] ?_;refine bU (Yu I64 [0] underlying23 Bu rfl rfl rfl rfl rfl rfl (fun _=>rfl)) ?_;rintro _ _ ⟨g3,rfl,rfl⟩;refine Zv call22 (aH _) (Zzu (picks:= [0]) w hl (knA (φ:=fun M=>g.At M)) (hg.le leA) (gc.le leA) (ge.le leA) ((bY _).le Zj) (fun k hk=>by rw [bN.1 hk];decide) (by decide) kf) ?_;rintro _ _ ⟨L,a1,c1,ta,tc,hL,rfl,rfl⟩;rw [m] at hL;obtain ⟨x0,rfl⟩:=kJ.1 (show L.length=1 by have:=aQ List.length hL;rwa [aI] at this);rw [o];refine oo 4 ?_;refine Zh zeroValue47 fun n2=> ?_
 refine rn [0,5,0,0] ?_;refine Zv call16 (aH _) (O8 (t:=(⟨Jt g.er, [(0,1)],v⟩:Tkn)) (a:=ta) (c:=tc) w hl (knA (φ:=fun M=>g.At M)) (hg.le leA) (gc.le leA) (ge.le leA) ((cI _).le Zj) (show ([(0,1)]:List V1).length<=1000000000 by decide) (fun _=>show Q7 [(0,1)]<=1300 by decide) kf) ?_;rintro _ _ (⟨p,rfl,rfl⟩|⟨h0,L2,a2,c2,r,rfl,rfl⟩)
 . exact aV z p
 rw [d] at r;obtain ⟨x,rfl⟩:=kJ.1 (show L2.length=1 by have:=aQ List.length r;rwa [aI] at this);have a0:x.e=e0:=(by simpa using r);rw [d];refine Dc (l:= [x]) (jI 0) fun gb e_=> ?_;subst e_;refine oo 5 ?_;refine Zh zeroValue45 fun n3=> ?_
 refine rn [1,0,9,1035,1] ?_;refine Vg call15 (Ew _) ?_;refine kd0 ?_;refine oo 1 ?_;refine Vg call15 (Ew _) ?_;refine kd0 ?_;refine oo 6 ?_;refine XO.kf 45 ?_ rfl (by first|rfl|simp [b]);refine oo 5 ?_;refine XO.kf 50 ?_ rfl (by first|rfl|simp [b]);refine oo 5 ?_;refine XO.kf 55 ?_ rfl (by first|rfl|simp [b]);refine oo 3 ?_;refine ld ?_ (hc:=(dW (n:=0) (f:=evC) (sz:=9) (l:= [x]) (cI (f:=evC) (sz:=9) (ty:=63) (a:=some ⟨gb,0,none⟩) (c:=c2) (l:= [x]) _) Zj Dn (jI 0) rfl 6 (I64 7) (by show some (Value.int .i64 x.e.outv)=_;rw [a0,j0])));refine oo 3 ?_;refine XO.kf 62 ?_ rfl (by first|rfl|simp [b]);refine rn [1,0,3] ?_;refine XO.kf 67 ?_ rfl (by first|rfl|simp [b]);refine rn [1,0,4,1072,5,0] ?_;refine Dc (l:= [((0,1):V1)]) (jI 0) fun gt m0=> ?_;subst m0;refine oo 2 ?_;refine dM (V4 (g:=gt) (f:=tcs) (l:= [((0,1):V1)]) (u:=((1,1):V1)) (n:=0) (k:=0) (j:=0) rfl rfl sizeOf3 (fun _=>rfl) rfl (jI 0) rfl rfl rfl rfl Zj) ?_;rintro _ _ ⟨rfl,rfl⟩;refine rn [3,0,0] ?_;rw [show ([((0,1):V1)].set 0 (1,1))= [(1,1)] from rfl];refine Zv call16 (aH _) (O8 (t:=(⟨Jt g.er, [(1,1)],v⟩:Tkn)) (a:=some ⟨gt,0,none⟩) (c:=tc) w hl (knA (φ:=fun M=>g.At M)) (hg.le leA) (gc.le leA) (ge.le leA) ((cI _).le Zj) (show ([(1,1)]:List V1).length<=1000000000 by decide) (fun _=>show Q7 [(1,1)]<=1300 by decide) kf) ?_;rintro _ _ (⟨p,rfl,rfl⟩|⟨h0,L3,a3,c3,n0,rfl,rfl⟩)
 . exact aV l0 p
 rw [c0];refine oo 5 ?_;refine Zh zeroValue45 fun n4=> ?_
 refine rn [1,0,8] ?_;refine XO.kt 87 ?_ rfl (by first|rfl|simp [b]);refine oo 1 ?_;refine Vg call15 (Ew _) ?_;refine kd0 ?_;refine ox 4 ?_;refine Zq (q) func12 (Zf results12 rfl) ⟨_,rfl,rfl,rfl⟩
end
section
variable {s:ByteArray}
theorem Fu (hg:GO q)(gc:GC q)(ge:GE q):CallF prog G 3 [.string s] (q) (AD q):=by
 refine aB func3 ntmps3 rfl fun F cs=> ?_;refine xo 7 ?_;refine Zv call11 (aH _) (Zk7 (s:=s)) ?_;rintro _ _ ⟨g,e,rfl,rfl,c⟩;refine oo 3 ?_;refine Zh zeroValue29 fun n1=> ?_
 refine rn [0,8] ?_;refine cY 15 rfl ?_ ?_<;>intro d
 . refine xo 3 ?_;refine Zv call12 (aH _) (Og (hg.le leA) (gc.le leA) (ge.le leA)) ?_;rintro _ _ ⟨rfl,rfl⟩;refine ox 2 ?_;refine Zq (q) func3 (Zf results3 rfl) ⟨_,rfl,rfl,rfl⟩
 obtain ⟨b,a⟩:Vi (bs s)=some g.er/\(bs s).length<=5000:=(by cases c with|no h=>(simp at d)|yes h=>exact Gr h);refine rn [4,0] ?_;refine bM call13 (Ov b a (knA (φ:=fun M=>g.At M)) (hg.le leA) (gc.le leA)) ?_;refine rn [8,0] ?_;refine bM call14 (lhash_ok b a (knA (φ:=fun M=>g.At M)) (hg.le leA) (gc.le leA)) ?_;refine rn [10,2028,1] ?_;refine Vg call15 (Ew _) ?_;refine kd0 ?_;refine rn [3,2033,5] ?_;refine aW 38 bT rfl (cB (by first|rfl|simp)) ?_;refine Zv call12 (aH _) (Og (hg.le leA) (gc.le leA) (ge.le leA)) ?_;rintro _ _ ⟨rfl,rfl⟩;refine ox 3 ?_;refine Zq (q) func3 (Zf results3 rfl) ⟨_,rfl,by first|rfl|simp,rfl⟩
end
end Go.Proofs.YtadahhbefdnabaaGreatDoor
