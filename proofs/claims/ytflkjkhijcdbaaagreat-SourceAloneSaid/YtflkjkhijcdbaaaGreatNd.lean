/- Contracts. -/
import Derived.Test.YtflkjkhijcdbaaaGreatNc
set_option maxHeartbeats 16000000
set_option maxRecDepth 100000
set_option linter.all false
namespace Go.Proofs.YtflkjkhijcdbaaaGreat
open Go Go.RowKit Wx Go.Proofs.Tryz
attribute [local irreducible] lsH rsH stars
variable {G w:World}{q q0:List HP}{k bc i g B:Nat}{p:PE}{s nm wt:ByteArray}{L r ts:List Tk}{e:Ex}{l:Bs}{ln cl:Int}{body:List Stm}{P:Program}{fr:Fc}{Q:Yn}{todo:List Item}{ds:List Deferred}{cs:List Frame}{d:PDec}{M M':Hp}
section
variable {pre:List HP}{a la A:Option Addr}{c lc p n:Nat}{bad:Bool}{r:Int}
variable {f:Nat}{l:List Stm}
theorem Ep {k n:Int}{ba:Option Addr}(h:Kn q fun M=>BlkAt M ba bc body:=by first|exact Of|exact knA):Kn q fun M=>(Dec.mk k ln cl nm n body ba bc).At M:=h
theorem Nx {p:PE}(s:Dec)(h:Kn q fun M=>s.At M)(K:X P G fr Q todo p ds cs (dcM s::q)):X P G fr Q todo p ds cs q:= .le (cZ h) K
theorem decl_ne: ∀ j,j<6->declL.getD (j+1) []≠ []:=by decide
theorem decl_ok (hL:Sees q la (L.flatMap tkC))(hn:L.length<=65536)(hnL:n<=L.length)(hT: ∀ t∈L,0<=t.n/\t.n<=2147483647)(hfu:10*(L.length - n)+13<=f+10):CallF prog G 114 [.pointer (some ⟨p,0,none⟩)] (rdH p la lc L n bad::q) (Ret fun v q'=> ∃ (d:Dec) (n':Nat) (bad':Bool),v= .agg (dcC d).toArray/\q'=rdH p la lc L n' bad'::dcM d::q/\(n<=n'/\(bad'=false->n<n'))/\n'<=L.length/\Out L bad (Ui f (L.drop n)) d.er n' bad'):=by
 refine aC func114 ntmps114 rfl fun F cs=> ?_;obtain ⟨K,hK⟩: ∃ K:Nat->Nat,K=fun j=>if bad=true then 0 else Jw declL (L.drop n) j:=⟨_,rfl⟩
 refine xo 2 ?_;refine bW zeroValue229 fun n1=> ?_
 refine oo 4 ?_;refine Zb call146 leA (pos_ok (hL.le leA) hn) ?_;rintro _ _ ⟨rfl,rfl⟩;refine oo 1 ?_;refine bW zeroValue229 fun n2=> ?_
 refine rn [0,3] ?_;refine bQ (Yp (fun w:Bs=>Value.string (ba w)) declL underlying25 Wh rfl rfl rfl rfl rfl rfl (fun _=>rfl)) ?_;rintro _ _ ⟨gk,rfl,rfl⟩;refine ox 8 ?_;have j0:K 0=0:=by rw [hK];cases bad<;>rfl
 refine aY (cG (fun (s:Nat)=>s<=6) (fun s=> [(0,.pointer (some ⟨p,0,none⟩)),(2,pt n1),(3,pt n2),(4,.slice (some ⟨gk,0,none⟩) 7 7),(5,I64 ((s+1:Nat):Int))]) (fun s=>rdH p la lc L n bad::pto n2 (.cells (dcC (.mk (K s) (Zc (L.drop n)).1 (Zc (L.drop n)).2 em 0 [] none 0)).toArray 229 (0,0))::pto n1 (.cells zz1.toArray 229 (0,0))::lsH (fun w:Bs=>Value.string (ba w)) 9 (some ⟨gk,0,none⟩) 7 declL::(q++F)) (fun s=>6 - s) (fun s e0 ih=> ?_) 0 (by omega)) Zu (by rw [j0];exact leA);try dsimp only at e0 ih|-
 obtain hs:=e0;refine xx 8 ?_;refine xp 14 ?_ ?_<;>intro h0
 . have b0:s+1<declL.length:=by show s+1<7;omega
   refine xo 10 ?_;refine ld ?_ (hc:=(jN (n:=s+1) (bR _) Zk b0 rfl));refine aO call147 (Px (n:=n) (bad:=bad) (s:=ba declL[s+1]) Qu (hL.le leA) hn) ?_;refine ox 1 ?_;refine xp 22 ?_ ?_<;>intro h1
   . refine rn [4,0,7] ?_;have g0:K (s+1)=s+1:=by rw [hK];dsimp only;rw [V3,<-gD (d:= []) b0] at h1;rw [if_neg (by rw [h1.1];decide),Jw,if_pos ⟨decl_ne s (by omega),h1.2⟩]
     refine aY (ih (s+1) (by omega) (by omega)) Zu (by rw [g0];exact leA)
   refine xx 8 ?_;have g0:K (s+1)=K s:=by rw [hK];dsimp only;rw [V3,<-gD (d:= []) b0] at h1;cases bad with|true=>rfl|false=>rw [if_neg (by decide),if_neg (by decide),Jw,if_neg (fun k=>by simp_all)]
   refine aY (ih (s+1) (by omega) (by omega)) Zu (by rw [g0];exact leA)
 obtain rfl:s=6:=by omega
 obtain ⟨k,hk⟩: ∃ k,K 6=k:=⟨_,rfl⟩;rw [hk];rw [hK] at hk;dsimp only at hk;clear ih hK j0 e0 h0;have n0:k<=6:=by rw [<-hk];cases bad;exact N5;exact bB _
 have l0:k≠0->bad=false/\dkS (L.drop n)=k/\n<L.length:=fun h=>by cases bad with|true=>exact aR hk.symm h|false=>exact ⟨rfl,hk,Dp (by rw [show Jw declL (L.drop n) 6=k from hk];exact h)⟩
 have i0:k=0\/k=1\/k=6\/k=2\/k=5\/(k=3\/k=4):=by omega
 rcases i0 with rfl|rfl|rfl|rfl|rfl|i0
 . refine rn [6,0,2,2027,6,0,3,0,0,1] ?_;refine Nx (.mk ((0:Nat):Int) (Zc (L.drop n)).1 (Zc (L.drop n)).2 em 0 [] none 0) Ep ?_;refine Zq (rdH p la lc L n true::dcM (.mk ((0:Nat):Int) (Zc (L.drop n)).1 (Zc (L.drop n)).2 em 0 [] none 0)::q) func114 (rA_ results114) ⟨_,rfl,(.mk ((0:Nat):Int) (Zc (L.drop n)).1 (Zc (L.drop n)).2 em 0 [] none 0),n,true,rfl,rfl,⟨aL _,fun h=>by cases h⟩,hnL,.inr ⟨rfl,by cases bad with|true=>exact .inl rfl|false=>exact .inr (by rw [Ui,if_pos (show dkS (L.drop n)=0 from hk)])⟩⟩
 iterate 5
  focus
   obtain ⟨rfl,l,p0⟩:=l0 (by omega);refine rn [6,0,2,1027,7,0,3,0,4] ?_;refine Zb call148 leA (Jl (n:=(n+1)) (hL.le leA) hn (by omega)) ?_;rintro _ _ ⟨nm,o,b2,rfl,rfl,⟨o0,_⟩,x,i⟩;refine rn [1,0,5,0,7] ?_
  rotate_left
 . refine rn [2044,4] ?_;refine Zb call149 leA (Ya (w:= [61]) (n:=o) (hL.le leA) hn x) ?_;rintro _ _ ⟨e,r,rfl,rfl,u,b,a⟩;refine oo 4 ?_;refine Zb call150 leA (Ug (w:= [45]) (n:=e) (hL.le leA) hn) ?_;rintro _ _ (⟨rfl,⟨hb,hw,m0⟩,rfl⟩|⟨rfl,hw,rfl⟩)
   . subst hb;refine oo 5 ?_;refine Zb call151 leA (Kw (n:=(e+1)) (hL.le leA) hn (by omega)) ?_;rintro _ _ ⟨z,m,y,rfl,rfl,⟨d0,hz⟩,g,c⟩;have a0:0<=z/\z<=2147483647:=by rcases hz with rfl|⟨t,ht,rfl⟩;omega;exact hT t ht
     refine rn [1,0,8,0,2,0,5] ?_;refine Zb call149 leA (Ya (w:= [59]) (n:=m) (hL.le leA) hn g) ?_;rintro _ _ ⟨m5,b5,rfl,rfl,k0,f0,c0⟩;refine rn [3,0,0,1] ?_;try rw [show IntKind.i64.wrap (0 - z)= -z from by rw [Uf (by omega) (by omega)];omega]
     refine Nx (.mk (1:Nat) (Zc (L.drop n)).1 (Zc (L.drop n)).2 nm (-z) [] none 0) Ep ?_;refine Zq (rdH p la lc L m5 b5::dcM (.mk (1:Nat) (Zc (L.drop n)).1 (Zc (L.drop n)).2 nm (-z) [] none 0)::q) func114 (rA_ results114) ⟨_,rfl,(.mk (1:Nat) (Zc (L.drop n)).1 (Zc (L.drop n)).2 nm (-z) [] none 0),m5,b5,rfl,rfl,⟨by omega,fun _=>by omega⟩,f0,by rw [Ui,l,if_neg (by omega),tail_drop];refine i.bnd ?_;rw [if_neg (by decide)];exact (show Out L b2 (Eo 1 (L.drop o)) (-z) m y from a.bnd (by rw [if_pos hw,tail_drop];exact c.bnd .ret)).bnd (c0.bnd .ret)⟩
   refine oo 5 ?_;refine Zb call151 leA (Kw (n:=e) (hL.le leA) hn b) ?_;rintro _ _ ⟨z,m,y,rfl,rfl,⟨d0,hz⟩,g,c⟩;have a0:0<=z/\z<=2147483647:=by rcases hz with rfl|⟨t,ht,rfl⟩;omega;exact hT t ht
   refine rn [1,0,11] ?_;refine Zb call149 leA (Ya (w:= [59]) (n:=m) (hL.le leA) hn g) ?_;rintro _ _ ⟨m5,b5,rfl,rfl,k0,f0,c0⟩;refine rn [3,0,0,1] ?_;refine Nx (.mk (1:Nat) (Zc (L.drop n)).1 (Zc (L.drop n)).2 nm z [] none 0) Ep ?_;refine Zq (rdH p la lc L m5 b5::dcM (.mk (1:Nat) (Zc (L.drop n)).1 (Zc (L.drop n)).2 nm z [] none 0)::q) func114 (rA_ results114) ⟨_,rfl,(.mk (1:Nat) (Zc (L.drop n)).1 (Zc (L.drop n)).2 nm z [] none 0),m5,b5,rfl,rfl,⟨by omega,fun _=>by omega⟩,f0,by rw [Ui,l,if_neg (by omega),tail_drop];refine i.bnd ?_;rw [if_neg (by decide)];exact (show Out L b2 (Eo 1 (L.drop o)) z m y from a.bnd (by cases r with|true=>have h:=c.isBad;subst h;exact .any|false=>rw [if_neg (by rw [hw.resolve_left (by decide)];decide)];exact c)).bnd (c0.bnd .ret)⟩
 . refine rn [1044,7,1058,5,1058,6,2064,4] ?_;refine Zb call152 leA ((Zqg hn f).2 (n:=o) (hL.le leA) (by omega) (by omega)) ?_;rintro _ _ ⟨a1,c1,t1,e,r,rfl,rfl,u,b,a⟩;refine rn [1,0,3,0,0,1] ?_;refine Nx (.mk (6:Nat) (Zc (L.drop n)).1 (Zc (L.drop n)).2 nm 0 t1 a1 c1) Ep ?_;refine Zq (rdH p la lc L e r::dcM (.mk (6:Nat) (Zc (L.drop n)).1 (Zc (L.drop n)).2 nm 0 t1 a1 c1)::q) func114 (rA_ results114) ⟨_,rfl,(.mk (6:Nat) (Zc (L.drop n)).1 (Zc (L.drop n)).2 nm 0 t1 a1 c1),e,r,rfl,rfl,⟨by omega,fun _=>by omega⟩,b,by rw [Ui,l,if_neg (by omega),tail_drop];refine i.bnd ?_;rw [if_pos (by decide)];exact a.bnd .ret⟩
 . refine rn [1044,7,2058,5] ?_;refine Zb call151 leA (Kw (n:=o) (hL.le leA) hn x) ?_;rintro _ _ ⟨z,e,r,rfl,rfl,⟨u,hz⟩,b,a⟩;have a0:0<=z/\z<=2147483647:=by rcases hz with rfl|⟨t,ht,rfl⟩;omega;exact hT t ht
   refine rn [1,0,5] ?_;refine Zb call149 leA (Ya (w:= [59]) (n:=e) (hL.le leA) hn b) ?_;rintro _ _ ⟨m,y,rfl,rfl,d0,g,c⟩;refine rn [3,0,0,1] ?_;refine Nx (.mk (2:Nat) (Zc (L.drop n)).1 (Zc (L.drop n)).2 nm z [] none 0) Ep ?_;refine Zq (rdH p la lc L m y::dcM (.mk (2:Nat) (Zc (L.drop n)).1 (Zc (L.drop n)).2 nm z [] none 0)::q) func114 (rA_ results114) ⟨_,rfl,(.mk (2:Nat) (Zc (L.drop n)).1 (Zc (L.drop n)).2 nm z [] none 0),m,y,rfl,rfl,⟨by omega,fun _=>by omega⟩,g,by rw [Ui,l,if_neg (by omega),tail_drop];refine i.bnd ?_;rw [if_neg (by omega)];exact (show Out L b2 (Eo _ (L.drop o)) z e r from by rw [Eo,if_neg (by omega),if_pos (by omega)];exact a).bnd (c.bnd .ret)⟩
 . refine rn [1044,7,1058,5,2058,3] ?_;refine Zb call151 leA (Kw (n:=o) (hL.le leA) hn x) ?_;rintro _ _ ⟨z,e,r,rfl,rfl,⟨u,hz⟩,b,a⟩;have a0:0<=z/\z<=2147483647:=by rcases hz with rfl|⟨t,ht,rfl⟩;omega;exact hT t ht
   refine rn [1,0,5] ?_;refine Zb call149 leA (Ya (w:= [59]) (n:=e) (hL.le leA) hn b) ?_;rintro _ _ ⟨m,y,rfl,rfl,d0,g,c⟩;refine rn [3,0,0,1] ?_;refine Nx (.mk (5:Nat) (Zc (L.drop n)).1 (Zc (L.drop n)).2 nm z [] none 0) Ep ?_;refine Zq (rdH p la lc L m y::dcM (.mk (5:Nat) (Zc (L.drop n)).1 (Zc (L.drop n)).2 nm z [] none 0)::q) func114 (rA_ results114) ⟨_,rfl,(.mk (5:Nat) (Zc (L.drop n)).1 (Zc (L.drop n)).2 nm z [] none 0),m,y,rfl,rfl,⟨by omega,fun _=>by omega⟩,g,by rw [Ui,l,if_neg (by omega),tail_drop];refine i.bnd ?_;rw [if_neg (by omega)];exact (show Out L b2 (Eo _ (L.drop o)) z e r from by rw [Eo,if_neg (by omega),if_pos (by omega)];exact a).bnd (c.bnd .ret)⟩
 refine rn [1044,7,1058,5,1058,6,1064,6] ?_;refine Zb call149 leA (Ya (w:= [59]) (n:=o) (hL.le leA) hn x) ?_;rintro _ _ ⟨e,r,rfl,rfl,u,b,a⟩;refine rn [3,0,0,1] ?_;refine Nx (.mk k (Zc (L.drop n)).1 (Zc (L.drop n)).2 nm 0 [] none 0) Ep ?_;refine Zq (rdH p la lc L e r::dcM (.mk k (Zc (L.drop n)).1 (Zc (L.drop n)).2 nm 0 [] none 0)::q) func114 (rA_ results114) ⟨_,rfl,(.mk k (Zc (L.drop n)).1 (Zc (L.drop n)).2 nm 0 [] none 0),e,r,rfl,rfl,⟨by omega,fun _=>by omega⟩,b,by rw [Ui,l,if_neg (by omega),tail_drop];refine i.bnd ?_;rw [if_neg (by omega)];exact (show Out L b2 (Eo k (L.drop o)) 0 o b2 from by rw [Eo,if_neg (by omega),if_neg (by omega)];exact .ret).bnd (a.bnd .ret)⟩
end
theorem G9 (a b:List PEx):Yb (a++b)=max (Yb a) (Yb b):=by
 induction a with
 |nil=>simp [Yb]
 |cons x r ih=>simp only [cM,Yb,ih];omega
theorem Tm {x:PEx}: ∀ {l:List PEx},x∈l->x.dep<=Yb l
 |y::r,h=>by
  rcases cE.1 h with rfl|h
  . simp only [Yb];omega
  have:=Tm h;simp only [Yb];omega
theorem Et (l m:List Ex):Z3 (l++m)=Z3 l++Z3 m:=by simp [Yy]
section
variable {ix:Ex}{args:List Ex}{els:List Stm}{k n:Int}{aa ba:Option Addr}{ac:Nat}{ea:Option Addr}{ec:Nat}{id slot other op:Int}{loc:Bool}
theorem Ov (h:Kn q fun M=>(Ex.mk k n nm slot loc op args aa ac).At M):Sees q aa (args.flatMap exC):=fM (h.imp fun M h=>h.1.2.2)
theorem Ok (h:Kn q fun M=>(Ex.mk k n nm slot loc op args aa ac).At M)(hi:i<args.length):Kn q fun M=>args[i].At M:=h.imp fun M h=>Ye.1 h.2 _ (aB hi)
theorem Kn.exL (h:Kn q fun M=>(Ex.mk k n nm slot loc op args aa ac).At M)(s:St G w q):args.length<=9223372036854775807:=h.fact (fun M h=>by have b:=h.1.1;have a:=h.1.2.1;simp [maxLen] at a;omega) s
theorem Oz (h:Kn q fun M=>(Stm.mk k ln cl nm wt e ix body els ba bc ea ec id slot other loc).At M):Kn q fun M=>e.At M:=h.imp fun _ h=>h.1
theorem I9 (h:Kn q fun M=>(Stm.mk k ln cl nm wt e ix body els ba bc ea ec id slot other loc).At M):Kn q fun M=>ix.At M:=h.imp fun _ h=>h.2.1
theorem Oj (h:Kn q fun M=>(Stm.mk k ln cl nm wt e ix body els ba bc ea ec id slot other loc).At M):Kn q fun M=>BlkAt M ba bc body:=h.imp fun _ h=>h.2.2.1
theorem Oq (h:Kn q fun M=>(Stm.mk k ln cl nm wt e ix body els ba bc ea ec id slot other loc).At M):Kn q fun M=>BlkAt M ea ec els:=h.imp fun _ h=>h.2.2.2
theorem Ob (h:Kn q fun M=>BlkAt M ba bc body):Sees q ba (body.flatMap stC):=fM (h.imp fun M h=>h.1.2.2)
theorem Oy (h:Kn q fun M=>BlkAt M ba bc body)(hi:i<body.length):Kn q fun M=>body[i].At M:=h.imp fun M h=>Vg.1 h.2 _ (aB hi)
theorem Ox (h:Kn q fun M=>BlkAt M ba bc body)(s:St G w q):body.length<=9223372036854775807:=h.fact (fun M h=>by have b:=h.1.1;have a:=h.1.2.1;simp [maxLen] at a;omega) s
end
section
variable {l:List Stm}{a:Option Addr}{c n:Nat}
theorem Iq (IH: ∀ x:Ex,x.sz<e.sz->x.er.dep<=1000000-> ∀ {q:List HP},(Kn q fun M=>x.At M)->CallF prog G 154 [.agg (exC x).toArray] q (Ret fun v q'=>v= I64 (x.er.dep:Nat)/\q'=q))(hb:e.er.dep<=1000000)(h:Kn q fun M=>e.At M):CallF prog G 154 [.agg (exC e).toArray] (q) (Ret fun v q'=>v= I64 (e.er.dep:Nat)/\q'=q):=by
 refine aC func154 ntmps154 rfl fun F cs=> ?_;obtain ⟨k,z,nm,j,lo,op,args,aa,ac⟩:=e;have i:=Ov h;have b:=Zx (f:=exC) (sz:=7) Z4 args;refine iR (fun w s=>Kn.exL (h.le leA) s) fun l=> ?_;replace hb:Yb (Z3 args)+1<=1000000:=hb;refine xo 2 ?_;refine Ww fun d=> ?_
 refine ox 12 ?_;refine aY (cG (fun (s:Nat)=>s<=args.length) (fun s=> [(3,I64 (Yb (Z3 (args.take s)):Nat)),(4,I64 s),(1,pt d),(2,I64 0)]) (fun s=>pto d (.cells (exC (.mk k z nm j lo op args aa ac)).toArray 124 (0,0))::(q++F)) (fun s=>args.length - s) (fun s c g=> ?_) 0 (bB _)) Zu leA;try dsimp only at c g|-
 obtain p:=c;refine rn [5,0,3] ?_;refine xp 9 ?_ ?_<;>intro t
 . have a:s<args.length:=by omega
   refine rn [7,0,1] ?_;refine K1 i (by rw [b];omega) fun u o m=> ?_;subst m;refine oo 1 ?_;refine Nw (n:=s) isAgg124 sizeOf124 i a ?_ (hf:=Z4);refine aO call154 (IH args[s] (by have:=Vx (aB a);simp only [Ex.sz];omega) (by have:=Tm (aP (f:=Ex.er) (aB a));rw [<-Yy] at this;omega) (Ok (h.le leA) a)) ?_;refine ox 9 ?_;have r:(Yb (Z3 (args.take (s+1))):Int)=max (Yb (Z3 (args.take s)):Int) (args[s].er.dep:Int):=by rw [aH a,Et,G9];simp only [Z3,Yb];omega
   refine aY (g (s+1) (by omega) (by omega)) Zu leA
 obtain rfl:s=args.length:=by omega
 rw [cD] at*;refine xx 8 ?_;refine Zq (q) func154 (Zn results154 rfl) ⟨_,rfl,by simp only [Ex.er,PEx.dep];congr 1,rfl⟩
theorem De: ∀ (k:Nat) (e:Ex),e.sz<=k->e.er.dep<=1000000-> ∀ {q:List HP},(Kn q fun M=>e.At M)->CallF prog G 154 [.agg (exC e).toArray] q (Ret fun v q'=>v= I64 (e.er.dep:Nat)/\q'=q)
 |0,e,hk,_,_,_=>by cases e;simp [Ex.sz] at hk
 |k+1,e,hk,hb,_,h=>Iq (fun x c a _ b=>De k x (by omega) a b) hb h
mutual
def PStm.bdd (B:Nat):PStm->Prop
 | .mk _ _ _ _ _ e ix body els _ _ _ _=>e.dep<=B/\ix.dep<=B/\Wg B body/\Wg B els
def Wg (B:Nat):List PStm->Prop
 | []=>True
 |s::r=>s.bdd B/\Wg B r
end
theorem Mi {B:Nat}{x:PStm}: ∀ {l:List PStm},Wg B l->x∈l->x.bdd B
 |y::r,⟨h1,h2⟩,h=>by
  rcases cE.1 h with rfl|h
  . exact h1
  exact Mi h2 h
abbrev As :=((.cells zz5.toArray 107 (0,0)):Obj)
abbrev Ar (v0:List Stm)(v1:Nat)(v2:List HP):=(Ret fun v q'=> ∃ pl pc:Int,v= .tuple [.agg [I64 pl,I64 pc].toArray,.bool (Yq (Zj v0) v1)].toArray/\q'=v2)
abbrev Ba (v0:Option Addr)(v1:List Stm)(v2:Nat)(v3:Nat):=([.slice v0 v1.length v2,I64 v3]:List Value)
theorem Zz4 (IH: ∀ (m:List Stm) (a:Option Addr) (c n:Nat),Zm m<Zm l->Wg 1000000 (Zj m)->n<=25-> ∀ {q:List HP},(Kn q fun M=>BlkAt M a c m)->CallF prog G 116 (Ba a m c n) q (Ar m n q))(hb:Wg 1000000 (Zj l))(hn25:n<=25)(h:Kn q fun M=>BlkAt M a c l):CallF prog G 116 (Ba a l c n) (q) (Ar l n q):=by
 refine aC func116 ntmps116 rfl fun F cs=> ?_;have hA:=Ob h;have t:=Zx (f:=stC) (sz:=25) Z8 l;refine iR (fun w s=>Ox (h.le leA) s) fun n0=> ?_;refine xo 2 ?_;refine bW zeroValue107 fun n1=> ?_
 refine ox 8 ?_;refine aY (cG (fun (s:Nat×Option Addr)=>s.1<=l.length/\s.2=a/\Yq (Zj l) n=Yq (Zj (l.drop s.1)) n) (fun s=> [(6,I64 (s.1:Int)),(0,.slice s.2 l.length c),(1,I64 n),(4,pt n1),(5,.bool false)]) (fun s=>pto n1 As::(q++F)) (fun s=>l.length - s.1) (fun s u ih=> ?_) (0,a) ⟨bB _,rfl,rfl⟩) Zu leA;try dsimp only at u ih|-
 obtain ⟨hs,ha,y⟩:=u;obtain ⟨s,a2⟩:=s;dsimp only at*;subst ha;refine xx 8 ?_;refine xp 13 ?_ ?_<;>intro h0
 . have d:s<l.length:=by omega
   have e:Yq (Zj (l.drop s)) n=(l[s].er.deep n||Yq (Zj (l.drop (s+1))) n):=by rw [aJ d];rfl
   have b:=Oy h d;have p:=Mi hb (by rw [Yf];exact aP (aB d));have o:=Ub (aB d);refine xo 8 ?_;refine K1 hA (by rw [t];omega) fun b1 z e1=> ?_;subst e1;refine oo 1 ?_;refine Nw (n:=s) isAgg126 sizeOf126 hA d ?_ (hf:=Z8);obtain ⟨x,hx⟩: ∃ x,l[s]=x:=⟨_,rfl⟩;rw [hx] at e b p o;refine bA 19 (.agg (stC x).toArray) rfl (by rw [hx]) ?_;obtain ⟨k,ln,cl,nm,wt,⟨k1,z1,s1,l1,z,p1,y1,u1,w1⟩,⟨k2,z2,s2,l2,o2,p2,y2,u2,w2⟩,body,els,ba,bc,ea,ec,id,slot,other,loc⟩:=x;obtain ⟨m0,l0,k0,j0⟩:=p;have i0:=Oz b;have g0:=I9 b;have f0:=Oj b;have e0:=Oq b;have hz:Zm body+Zm els+1<=Zm l:=o;refine bW zeroValue126 fun n2=> ?_
   refine rn [0,7] ?_;refine Zf [22,7,6,0,1,4,5] ?_;apply Zy 5 27 22 rfl
   . intro i j;have h1:=sp i;refine rn [1,0] ?_;refine aO call154 (De _ (.mk k1 z1 s1 l1 z p1 y1 u1 w1) (aL _) m0 (i0.le leA)) ?_;refine oo 2 ?_;exact Zz j ⟨orF i,Zv⟩
   . intro i j;have h1:=sp i;refine oo 5 ?_;exact Zz j ⟨orT i,Zv⟩
   refine oo 1 ?_;refine Zf [28,7,6,0,1,4,5] ?_;apply Zy 5 33 28 rfl
   . intro i j;have h1:=sp i;refine rn [1,0] ?_;refine aO call154 (De _ (.mk k2 z2 s2 l2 o2 p2 y2 u2 w2) (aL _) l0 (g0.le leA)) ?_;refine oo 2 ?_;exact Zz j ⟨orF i,Zv⟩
   . intro i j;have h1:=sp i;refine oo 5 ?_;exact Zz j ⟨orT i,Zv⟩
   refine ox 1 ?_;refine xp 33 ?_ ?_<;>intro h1
   . refine rn [4,0,0,2] ?_
     have v:Yq (Zj l) n=true:=by
      rw [y,e];have g:(24<n\/24<(Ex.mk k1 z1 s1 l1 z p1 y1 u1 w1).er.dep)\/24<(Ex.mk k2 z2 s2 l2 o2 p2 y2 u2 w2).er.dep:=by omega
      rcases g with (h|h)|h<;>simp [Stm.er,PStm.deep,h]
     refine Zq (q) func116 (N1 results116) ⟨_,rfl,ln,cl,by rw [v];rfl,rfl⟩
   refine rn [5,0,2] ?_;have r:n+1<=25:=by omega
   refine Zb call116 (aE _) (IH body ba bc (n+1) (by omega) k0 r (f0.le leA)) ?_;rintro _ _ ⟨b0,d0,rfl,rfl⟩;refine oo 3 ?_;refine bW zeroValue107 fun n3=> ?_
   refine rn [0,7] ?_;refine xp 44 ?_ ?_<;>intro h2
   . refine rn [3,0,0,2] ?_
     have v:Yq (Zj l) n=true:=by
      rw [y,e];simp [Stm.er,PStm.deep,h2]
     refine Zq (q) func116 (N1 results116) ⟨_,rfl,b0,d0,by rw [v];rfl,rfl⟩
   refine rn [5,0,2] ?_;refine Zb call116 (aE _) (IH els ea ec (n+1) (by omega) j0 r (e0.le leA)) ?_;rintro _ _ ⟨a0,c0,rfl,rfl⟩;refine rn [3,0,6] ?_;refine xp 54 ?_ ?_<;>intro h3
   . refine rn [3,0,0,2] ?_
     have v:Yq (Zj l) n=true:=by
      rw [y,e];simp [Stm.er,PStm.deep,h3]
     refine Zq (q) func116 (N1 results116) ⟨_,rfl,a0,c0,by rw [v];rfl,rfl⟩
   refine xx 8 ?_;have g: ¬24<n/\ ¬24<(Ex.mk k1 z1 s1 l1 z p1 y1 u1 w1).er.dep/\ ¬24<(Ex.mk k2 z2 s2 l2 o2 p2 y2 u2 w2).er.dep:=by omega
   refine aY (ih (s+1,_) ⟨by dsimp only;omega,rfl,by rw [y,e];simp [Stm.er,PStm.deep,g.1,g.2.1,g.2.2,h2,h3]⟩ (by dsimp only;omega)) Zu leA
 obtain rfl:s=l.length:=by omega
 rw [dP] at*;refine rn [5,0,2] ?_;refine Zq (q) func116 (N1 results116) ⟨_,rfl,0,0,by rw [y];rfl,rfl⟩
theorem X8: ∀ (k:Nat) (m:List Stm) (a:Option Addr) (c n:Nat),Zm m<=k->Wg 1000000 (Zj m)->n<=25-> ∀ {q:List HP},(Kn q fun M=>BlkAt M a c m)->CallF prog G 116 (Ba a m c n) q (Ar m n q)
 |k,m,a,c,n,hk,hb,hn,_,h=>Zz4 (fun f j i e l d b _ g=>by
  cases k with
  |zero=>omega
  |succ k=>exact X8 k f j i e (by omega) d b g) hb hn h
end
theorem lettI (c:UInt8):(decide (97<=(c.toNat:Int)) && decide ((c.toNat:Int)<=122))=Sr c:=by rw [cJ];simp [Sr];omega
theorem digI (c:UInt8):(decide (48<=(c.toNat:Int)) && decide ((c.toNat:Int)<=57))=Qo c:=by rw [cJ];simp [Qo];omega
theorem O4 {n:Nat}(h:n<l.length):Q2 (l.drop n)=if Nv (l.getD n 0)=true then Q2 (l.drop (n+1))+1 else 0:=by
 rw [aJ h,gD h];unfold Q2;rw [iJ];split<;>simp
theorem runS_end {n:Nat}(h:l.length<=n):Q2 (l.drop n)=0:=by rw [cO h];rfl
theorem Mq (l:Bs):Q2 l<=l.length:=by unfold Q2;exact (List.takeWhile_sublist _).length_le
section
variable {c:UInt8}{n:Nat}
theorem Ta:CallF prog G 182 [.int .u8 (c.toNat:Int)] (q) (Ret fun v q'=>v= .bool (Sr c)/\q'=q):=by
 refine aC func182 ntmps182 rfl fun F cs=> ?_;refine xo 9 ?_;refine Zf [5,2,0] ?_;apply Zp 3 8 5 rfl
 . intro a b;have d:=sp a;refine oo 3 ?_;exact Zz b ⟨Wq a,Zv⟩
 . intro a b;have d:=sp a;refine oo 3 ?_;exact Zz b ⟨Wz a,Zv⟩
 refine ox 2 ?_;refine Zq (q) func182 (Zn results182 rfl) ⟨_,rfl,cB (lettI c),rfl⟩
theorem Tq:CallF prog G 177 [.int .u8 (c.toNat:Int)] (q) (Ret fun v q'=>v= .bool (Qo c)/\q'=q):=by
 refine aC func177 ntmps177 rfl fun F cs=> ?_;refine xo 9 ?_;refine Zf [5,2,0] ?_;apply Zp 3 8 5 rfl
 . intro a b;have d:=sp a;refine oo 3 ?_;exact Zz b ⟨Wq a,Zv⟩
 . intro a b;have d:=sp a;refine oo 3 ?_;exact Zz b ⟨Wz a,Zv⟩
 refine ox 2 ?_;refine Zq (q) func177 (Zn results177 rfl) ⟨_,rfl,cB (digI c),rfl⟩
theorem run_ok (hn:n<=s.size)(h63:s.size<=65536):CallF prog G 176 [.string s,I64 n] (q) (Ret fun v q'=>v= I64 (Q2 ((bs s).drop n):Nat)/\q'=q):=by
 refine aC func176 ntmps176 rfl fun F cs=> ?_;refine xx 10 ?_;refine aY (cG (fun (k:Nat)=>n+k<=s.size/\Q2 ((bs s).drop n)=k+Q2 ((bs s).drop (n+k))) (fun k=> [(5,I64 k),(0,.string s),(1,I64 n),(4,I64 0)]) (fun k=>(q++F)) (fun k=>s.size - k) (fun k b i=> ?_) 0 ⟨hn,by rw [eC];rfl⟩) Zu leA;try dsimp only at b i|-
 obtain ⟨l,a⟩:=b;have m:=Ko s;refine xo 10 ?_;refine Zf [12,5,0,1,4] ?_;apply Zp 15 27 12 rfl
 . intro f h;have d:=sp f;refine oo 4 ?_;refine Zt (Wb rfl rfl underlying9 (by omega) (by omega)) ?_;refine bA 17 (.int .u8 (((bs s).getD (n+k) 0).toNat:Int)) rfl (rfl) ?_;refine aO call182 (Ta (c:=(bs s).getD (n+k) 0)) ?_;refine oo 1 ?_;refine Zf [19,12,5,0,1,4] ?_;apply Zy 7 26 19 rfl
   . intro e g;have p:=sp e;refine oo 4 ?_;refine Zt (Wb rfl rfl underlying9 (by omega) (by omega)) ?_;refine bA 24 (.int .u8 (((bs s).getD (n+k) 0).toNat:Int)) rfl (rfl) ?_;refine aO call177 (Tq (c:=(bs s).getD (n+k) 0)) ?_;refine oo 1 ?_;exact Zz g ⟨orF e,Zv⟩
   . intro e g;have p:=sp e;refine oo 7 ?_;exact Zz g ⟨orT e,Zv⟩
   refine oo 1 ?_;exact Zz h ⟨Wq f,Zv⟩
 . intro f h;have d:=sp f;refine oo 15 ?_;exact Zz h ⟨Wz f,Zv⟩
 refine ox 1 ?_;refine xp 27 ?_ ?_<;>intro d
 . refine xx 9 ?_;refine aY (i (k+1) ⟨by omega,by rw [a,O4 (n:=n+k) (by omega),if_pos (by unfold Nv;simp_all),show n+(k+1)=n+k+1 from rfl];omega⟩ (by omega)) Zu leA
 refine xx 7 ?_;refine Zq (q) func176 (Zn results176 rfl) ⟨_,rfl,by rw [a];rcases dQ (n+k) s.size with j|j;rw [O4 (n:=n+k) (by omega),if_neg (fun o=>by unfold Nv at o;rcases d with d|d;omega;simp_all)];rfl;rw [runS_end (by omega)];rfl,rfl⟩
theorem Zqk (h:i<l.length):Hu (l.take (i+1))=Hu (l.take i)*10+((l.getD i 0).toNat - 48):=by
 rw [aH h,gD h];unfold Hu;rw [List.foldl_append];rfl
theorem Oo (h:l.all Qo=true):0<=Hu l/\Hu l<10 ^ l.length:=by
 have b: ∀ (l:Bs) (a:Int),0<=a->l.all Qo=true->0<=l.foldl (fun n c=>n*10+((c.toNat:Int) - 48)) a/\l.foldl (fun n c=>n*10+((c.toNat:Int) - 48)) a<(a+1)*10 ^ l.length:=by
  intro l
  induction l with
  |nil=>intro a e _;exact ⟨e,by simp;omega⟩
  |cons c r ih=>
   intro a e h;rw [iB,aI] at h;have g:48<=c.toNat/\c.toNat<=57:=by have:=h.1;simp [Qo] at this;exact this
   obtain ⟨d,f⟩:=ih (a*10+((c.toNat:Int) - 48)) (by omega) h.2;refine ⟨d,Int.lt_of_lt_of_le f ?_⟩;rw [bG,Int.pow_succ,Int.mul_comm (10 ^ r.length) 10,<-Int.mul_assoc];exact Int.mul_le_mul_of_nonneg_right (by omega) (Int.pow_nonneg (by decide))
 have d:=b l 0 (by decide) h;simpa [Hu] using d
theorem Gf {w:Bs}(ha:w.all Qo=true)(hl:w.length<=10):C6 w=if (decide (Hu w<=2147483647) && (decide (w.length=1)||decide (((w.getD 0 0).toNat:Int)≠48)))=true then some (Hu w) else none:=by
 unfold C6;rw [if_pos (by rw [ha];simpa using hl)];have e:(w.getD 0 0≠48)↔((w.getD 0 0).toNat:Int)≠48:=by rw [Ne,Ne,<-UInt8.toNat_inj];simp;omega
 simp only [e,aI,dM,bN]
theorem numS_no {w:Bs}(hlt:k<w.length)(h:Qo (w.getD k 0)=false\/10<=k):C6 w=none:=by
 unfold C6;rw [if_neg];rw [aI,cC];rintro ⟨b,a⟩;rcases h with h|h
 . have:=b _ (aB hlt);rw [<-gD (d:=0) hlt,h] at this;cases this
 simp at a;omega
theorem all_take (h:i<l.length)(ha:(l.take i).all Qo=true):(l.take (i+1)).all Qo=Qo (l.getD i 0):=by
 rw [aH h,kB,ha,gD h];simp
abbrev AQ (v0:ByteArray)(v1):=((.int .u8 (((bs v0).getD v1 0).toNat:Int)):Value)
theorem Sg (h0s:0<s.size)(h63:s.size<=65536):CallF prog G 178 [.string s] (q) (Ret fun v q'=> ∃ (x:Int) (ok:Bool),v= .tuple [I64 x,.bool ok].toArray/\q'=q/\C6 (bs s)=(if ok=true then some x else none)):=by
 refine aC func178 ntmps178 rfl fun F cs=> ?_;have y:=Ko s;refine xx 15 ?_;refine aY (cG (fun (k:Nat)=>k<=s.size/\k<=10/\((bs s).take k).all Qo=true) (fun k=> [(5,I64 k),(0,.string s),(4,I64 (Hu ((bs s).take k))),(2,I64 0),(3,.bool false)]) (fun k=>(q++F)) (fun k=>s.size - k) (fun k g o=> ?_) 0 ⟨bB _,by omega,rfl⟩) Zu leA;try dsimp only at g o|-
 obtain ⟨u,t,b⟩:=g;have m:=Oo b;rw [bH] at m;have hp:(10:Int) ^ min k (bs s).length<=10 ^ 10:=by have:(10:Nat) ^ min k (bs s).length<=10 ^ 10:=Nat.pow_le_pow_right (by decide) (by omega);exact_mod_cast this
 refine xx 8 ?_;refine xp 9 ?_ ?_<;>intro h0
 . have d:k<(bs s).length:=by omega
   refine xo 9 ?_;refine Zt (Wb rfl rfl underlying9 (by omega) (by omega)) ?_;refine bA 14 (AQ s k) rfl (rfl) ?_;refine aO call177 (Tq (c:=(bs s).getD k 0)) ?_;refine Zt (bV rfl) ?_;refine oo 1 ?_;refine Zf [17,5,0,4,2,3] ?_;apply Zy 3 20 17 rfl
   . intro j n;have a:=sp j;refine oo 3 ?_;exact Zz n ⟨orF j,Zv⟩
   . intro j n;have a:=sp j;refine oo 3 ?_;exact Zz n ⟨orT j,Zv⟩
   refine ox 1 ?_;refine xp 20 ?_ ?_<;>intro a
   . refine xx 6 ?_;refine Zq (q) func178 (Wu results178 rfl rfl) ⟨_,rfl,0,false,rfl,rfl,by rw [if_neg (by decide)];exact numS_no d (by rcases a with a|a;exact .inl (by simpa using a);exact .inr (by omega))⟩
   refine xo 7 ?_;refine Zt (Wb rfl rfl underlying9 (by omega) (by omega)) ?_;refine bA 25 (AQ s k) rfl (rfl) ?_;have i:Qo ((bs s).getD k 0)=true:=by simpa using a.1
   have w:48<=((bs s).getD k 0).toNat/\((bs s).getD k 0).toNat<=57:=by have h:=i;simp only [Qo,aI,bN] at h;exact h
   have p:k<10:=by omega
   have r:Hu ((bs s).take k)<10 ^ 9*10:=by omega
   refine oo 1 ?_;refine bA 26 (.int .u8 ((((bs s).getD k 0).toNat:Int) - 48)) rfl (bK (Value.int .u8) (by rw [wu8];omega)) ?_;refine ox 10 ?_;have z:=Zqk d;refine aY (o (k+1) ⟨by omega,by omega,by rw [all_take d b];exact i⟩ (by omega)) Zu leA
 obtain rfl:k=s.size:=by omega
 have e:(bs s).take s.size=bs s:=eO (by omega);rw [e] at b;refine cQ 4 (I64 (Hu (bs s))) rfl (by rw [e]) ?_;refine rn [3,0,1,2,3,4] ?_;refine gT 32 rfl ?_ ?_<;>intro a
 . replace a:=sp a;refine dd [4,5,6,7,13] ?_;refine gT 36 rfl ?_ ?_<;>intro l
   . replace l:=sp l;refine rn [9,10,11,12,13,15,0] ?_;refine Zq (q) func178 (Wu results178 rfl rfl) ⟨_,rfl,Hu (bs s),_,rfl,rfl,by rw [Gf b (by omega)];have f:(bs s).length=1:=(by omega);simp [a,f]⟩
   replace l:=sp l;refine dd [8] ?_;refine Vz 9 rfl (Wb rfl rfl underlying9 (by omega) (by show 0<_;omega)) ?_;refine dS 38 (.int .u8 (((bs s).getD 0 0).toNat:Int)) rfl (rfl) ?_;refine rn [11,12,13,15,0] ?_;refine Zq (q) func178 (Wu results178 rfl rfl) ⟨_,rfl,Hu (bs s),_,rfl,rfl,by rw [Gf b (by omega)];have f: ¬ (bs s).length=1:=(by omega);simp [a,f]⟩
 replace a:=sp a;refine rn [5,6,7,8,14,9,10,11,12,13,15,0] ?_;refine Zq (q) func178 (Wu results178 rfl rfl) ⟨_,rfl,Hu (bs s),_,rfl,rfl,by rw [Gf b (by omega)];have f: ¬Hu (bs s)<=2147483647:=(by omega);simp [f]⟩
theorem words_ok:CallF prog G 199 [] ([]) (Ret fun v q'=> ∃ g,v= .slice (some ⟨g,0,none⟩) 20 20/\q'= [lsH (fun w:Bs=>Value.string (ba w)) 9 (some ⟨g,0,none⟩) 20 wordsS]):=by
 refine aC func199 ntmps199 rfl fun F cs=> ?_;refine xo 6 ?_;refine bQ (Yp (fun w:Bs=>Value.string (ba w)) wordsS underlying25 Wh rfl rfl rfl rfl rfl rfl (fun _=>rfl)) ?_;rintro _ _ ⟨g,rfl,rfl⟩;refine ox 2 ?_;refine Zq [lsH (fun w:Bs=>Value.string (ba w)) 9 (some ⟨g,0,none⟩) 20 wordsS] func199 (Zn results199 rfl) ⟨_,rfl,g,rfl,rfl⟩
theorem signs_ok:CallF prog G 180 [] ([]) (Ret fun v q'=> ∃ g,v= .slice (some ⟨g,0,none⟩) 20 20/\q'= [lsH (fun w:Bs=>Value.string (ba w)) 9 (some ⟨g,0,none⟩) 20 signsS]):=by
 refine aC func180 ntmps180 rfl fun F cs=> ?_;refine xo 6 ?_;refine bQ (Yp (fun w:Bs=>Value.string (ba w)) signsS underlying25 Wh rfl rfl rfl rfl rfl rfl (fun _=>rfl)) ?_;rintro _ _ ⟨g,rfl,rfl⟩;refine ox 2 ?_;refine Zq [lsH (fun w:Bs=>Value.string (ba w)) 9 (some ⟨g,0,none⟩) 20 signsS] func180 (Zn results180 rfl) ⟨_,rfl,g,rfl,rfl⟩
theorem Jx:CallF prog G 179 [.string s] (q) (Ret fun v q'=>v= .bool (kwS (bs s))/\q'=q):=by
 refine aC func179 ntmps179 rfl fun F cs=> ?_;refine xo 6 ?_;refine W3 call199 (words_ok) ?_;refine kd1 fun g=> ?_
 refine ox 8 ?_;refine aY (cG (fun (k:Nat)=>k<=20/\kwS (bs s)=(wordsS.drop k).any (· ==bs s)) (fun k=> [(4,I64 k),(3,.slice (some ⟨g,0,none⟩) 20 20),(0,.string s),(2,.bool false)]) (fun k=>lsH (fun w:Bs=>Value.string (ba w)) 9 (some ⟨g,0,none⟩) 20 wordsS::(q++F)) (fun k=>20 - k) (fun k c e=> ?_) 0 ⟨bB _,rfl⟩) Zu leA;try dsimp only at c e|-
 obtain ⟨h,b⟩:=c;refine xx 8 ?_;refine xp 9 ?_ ?_<;>intro i
 . have a:k<wordsS.length:=by show k<20;omega
   refine xo 9 ?_;refine ld ?_ (hc:=(jN (n:=k) (bR _) Zk a rfl));refine ox 3 ?_;refine xp 17 ?_ ?_<;>intro f
   . refine xx 5 ?_;have d:wordsS.drop k=wordsS[k]::wordsS.drop (k+1):=aJ a;refine Zq (q) func179 (Zn results179 rfl) ⟨_,rfl,by rw [b,d,iD,<-V3 wordsS[k],sTr f];rfl,rfl⟩
   refine xx 8 ?_;have d:wordsS.drop k=wordsS[k]::wordsS.drop (k+1):=aJ a;refine aY (e (k+1) ⟨by omega,by rw [b,d,iD,<-V3 wordsS[k],sNe f];rfl⟩ (by omega)) Zu leA
 obtain rfl:k=20:=by omega
 refine xx 6 ?_;refine Zq (q) func179 (Zn results179 rfl) ⟨_,rfl,by rw [b];rfl,rfl⟩
def OneOut (l:Bs)(v:Value):Prop:=(∃ k w z,M0 l=some (k,w,z)/\0<w.length/\w.length<=l.length/\v= .tuple [.agg [I64 k,.string (ba w),I64 z,I64 0,I64 0].toArray,I64 (w.length:Nat),I64 0].toArray)\/(M0 l=none/\ ∃ t z e,e≠0/\v= .tuple [.agg (tkC t).toArray,I64 z,I64 e].toArray)
theorem Zq8 (h:k<signsS.length):(signsS.drop k).find? (fun s=>s==l.take s.length)=if (signsS[k]==l.take signsS[k].length)=true then some signsS[k] else (signsS.drop (k+1)).find? (fun s=>s==l.take s.length):=by
 rw [aJ h,List.find?_cons];cases signsS[k]==l.take signsS[k].length<;>rfl
theorem oneW_eq {n r:Nat}{W:Bs}(hr:Q2 ((bs s).drop n)=r)(hW:((bs s).drop n).take r=W):M0 ((bs s).drop n)=if 0<r/\Qo ((bs s).getD n 0)=true then (match C6 W with|some x=>some ((2:Int),W,x)|none=>none) else if 0<r/\kwS W=true then some (3,W,0) else if 16<r then none else if 0<r then some (1,W,0) else match signsS.find? (fun z=>z==((bs s).drop n).take z.length) with|some z=>some (4,z,0)|none=>none:=by
 unfold M0;rw [hr,hW,show ((bs s).drop n).getD 0 0=(bs s).getD n 0 by simp [List.getD]]<;>rfl
theorem Zqu: ∀ k,(h:k<20)->0<(signsS[k]'h).length/\(signsS[k]'h).length<=2:=by decide
theorem extr {n m:Nat}:s.extract n (n+m)=ba (((bs s).drop n).take m):=by rw [<-ba_bs (s.extract n (n+m)),Iv];congr 2;omega
abbrev Aw (v0):=((I64 v0):Value)
theorem lxone_ok (hn:n<s.size)(h63:s.size<=65536):CallF prog G 145 [.string s,I64 n] (q) (Ret fun v q'=>OneOut ((bs s).drop n) v/\q'=q):=by
 refine aC func145 ntmps145 rfl fun F cs=> ?_;have e0:=Ko s;have y:=Mq ((bs s).drop n);rw [bS] at y;obtain ⟨r,hr⟩: ∃ r,Q2 ((bs s).drop n)=r:=⟨_,rfl⟩;rw [hr] at y;obtain ⟨W,hW⟩: ∃ W,((bs s).drop n).take r=W:=⟨_,rfl⟩;have t:W.length=r:=by rw [<-hW,bH,bS];omega
 have j:=oneW_eq hr hW;obtain ⟨O,f⟩: ∃ O,M0 ((bs s).drop n)=O:=⟨_,rfl⟩;rw [f] at j
 have a:(0<r/\Qo ((bs s).getD n 0)=true)\/(0<r/\Qo ((bs s).getD n 0)=false/\kwS W=true)\/(16<r/\Qo ((bs s).getD n 0)=false/\kwS W=false)\/((0<r/\r<=16)/\Qo ((bs s).getD n 0)=false/\kwS W=false)\/r=0:=by
  cases Qo ((bs s).getD n 0)<;>cases kwS W<;>simp<;>omega
 rcases a with a|a|a|a|a
 iterate 5
  focus
   refine xo 2 ?_;refine bW zeroValue234 fun n1=> ?_
   refine oo 7 ?_;refine aO call176 (run_ok (n:=n) (by omega) h63) ?_;refine bA 16 (Aw r) rfl (by rw [hr]) ?_;refine oo 9 ?_;refine Zt (Fe rfl rfl rfl underlying9 (by omega) (by omega) (by omega)) ?_;refine bA 22 (.string (ba W)) rfl (by rw [show ((n:Int)+r).toNat=n+r by omega,fB,extr,hW]) ?_;refine oo 9 ?_;refine Zf [26,8,7,6,5,4,0,1] ?_;apply Zp 5 31 26 rfl
   . intro b d;have i:=sp b;refine oo 2 ?_;refine Zt (Wb rfl rfl underlying9 (by omega) (by omega)) ?_;refine bA 29 (AQ s n) rfl (rfl) ?_;refine aO call177 (Tq (c:=(bs s).getD n 0)) ?_;refine oo 1 ?_;exact Zz d ⟨Wq b,Zv⟩
   . intro b d;have i:=sp b;refine oo 5 ?_;exact Zz d ⟨Wz b,Zv⟩
   refine ox 2 ?_
  rotate_left
 . refine X.kt 23 ?_ rfl (by rw [a.2];simp [a.1]);refine xo 4 ?_;have d0:(ba W).size=r:=t;refine Zb call178 (aE _) (Sg (s:=ba W) (by omega) (by omega)) ?_;rintro _ _ ⟨x,ok,rfl,rfl,m⟩;rw [V3] at m;refine oo 10 ?_;refine Zt (bV rfl) ?_;refine ox 1 ?_;refine xp 38 ?_ ?_<;>intro i
   . refine rn [4,0,3] ?_;rw [if_pos a,m] at j;refine Zq (q) func145 (Bo results145) ⟨_,rfl,.inr ⟨by rw [f,j,if_neg (by simp_all)],⟨0,⟨#[]⟩,0,0,0⟩,0,112,by decide,rfl⟩,rfl⟩
   refine rn [8,0,3] ?_;rw [if_pos a,m] at j;refine Zq (q) func145 (Bo results145) ⟨_,rfl,.inl ⟨2,W,x,by rw [f,j,if_pos (by simpa using i)],by omega,by rw [bS];omega,by rw [t];rfl⟩,rfl⟩
 . refine Jc 23 ?_ rfl (by rw [a.2.1];simp);refine xo 6 ?_;refine Zf [47,8,7,6,5,4,0,1] ?_;apply Zp 3 50 47 rfl
   . intro b d;have i:=sp b;refine oo 1 ?_;refine aO call179 (Jx (s:=ba W)) ?_;refine bA 49 (.bool (kwS W)) rfl (by rw [V3]) ?_;refine oo 1 ?_;exact Zz d ⟨Wq b,Zv⟩
   . intro b d;have i:=sp b;refine oo 3 ?_;exact Zz d ⟨Wz b,Zv⟩
   refine ox 2 ?_;refine X.kt 44 ?_ rfl (by rw [a.2.2];simp [a.1]);refine rn [6,0,3] ?_;rw [if_neg (by rw [a.2.1];simp),if_pos ⟨a.1,a.2.2⟩] at j;refine Zq (q) func145 (Bo results145) ⟨_,rfl,.inl ⟨3,W,0,by rw [f,j],by omega,by rw [bS];omega,by rw [t];rfl⟩,rfl⟩
 . refine Jc 23 ?_ rfl (by rw [a.2.1];simp);refine xo 6 ?_;refine Zf [47,8,7,6,5,4,0,1] ?_;apply Zp 3 50 47 rfl
   . intro b d;have i:=sp b;refine oo 1 ?_;refine aO call179 (Jx (s:=ba W)) ?_;refine bA 49 (.bool (kwS W)) rfl (by rw [V3]) ?_;refine oo 1 ?_;exact Zz d ⟨Wq b,Zv⟩
   . intro b d;have i:=sp b;refine oo 3 ?_;exact Zz d ⟨Wz b,Zv⟩
   refine ox 2 ?_;refine Jc 44 ?_ rfl (by rw [a.2.2];simp);refine rn [7,2054,4,0,3] ?_;rw [if_neg (by rw [a.2.1];simp),if_neg (by rw [a.2.2];simp),if_pos a.1] at j;refine Zq (q) func145 (Bo results145) ⟨_,rfl,.inr ⟨by rw [f,j],⟨0,⟨#[]⟩,0,0,0⟩,0,111,by decide,rfl⟩,rfl⟩
 . refine Jc 23 ?_ rfl (by rw [a.2.1];simp);refine xo 6 ?_;refine Zf [47,8,7,6,5,4,0,1] ?_;apply Zp 3 50 47 rfl
   . intro b d;have i:=sp b;refine oo 1 ?_;refine aO call179 (Jx (s:=ba W)) ?_;refine bA 49 (.bool (kwS W)) rfl (by rw [V3]) ?_;refine oo 1 ?_;exact Zz d ⟨Wq b,Zv⟩
   . intro b d;have i:=sp b;refine oo 3 ?_;exact Zz d ⟨Wz b,Zv⟩
   refine ox 2 ?_;refine Jc 44 ?_ rfl (by rw [a.2.2];simp);refine rn [7,1054,7] ?_;refine cQ 58 bT rfl (cB (by simp;omega)) ?_;refine rn [6,0,3] ?_;rw [if_neg (by rw [a.2.1];simp),if_neg (by rw [a.2.2];simp),if_neg (by omega),if_pos a.1.1] at j;refine Zq (q) func145 (Bo results145) ⟨_,rfl,.inl ⟨1,W,0,by rw [f,j],by omega,by rw [bS];omega,by rw [t];rfl⟩,rfl⟩
 refine Jc 23 ?_ rfl (by simp [a]);refine xo 6 ?_;refine Zf [47,8,7,6,5,4,0,1] ?_;apply Zp 3 50 47 rfl
 . intro b d;have i:=sp b;refine oo 1 ?_;refine aO call179 (Jx (s:=ba W)) ?_;refine bA 49 (.bool (kwS W)) rfl (by rw [V3]) ?_;refine oo 1 ?_;exact Zz d ⟨Wq b,Zv⟩
 . intro b d;have i:=sp b;refine oo 3 ?_;exact Zz d ⟨Wz b,Zv⟩
 refine ox 2 ?_;refine Jc 44 ?_ rfl (by simp [a]);refine xx 7 ?_;refine Jc 54 ?_ rfl (by simp [a]);refine xx 7 ?_;refine Jc 58 ?_ rfl (by simp [a]);refine xo 5 ?_;refine W3 call180 (signs_ok) ?_;refine kd1 fun g=> ?_
 refine ox 8 ?_;rw [if_neg (by omega),if_neg (by omega),if_neg (by omega),if_neg (by omega)] at j;refine aY (cG (fun (k:Nat)=>k<=20/\signsS.find? (fun z=>z==((bs s).drop n).take z.length)=(signsS.drop k).find? (fun z=>z==((bs s).drop n).take z.length)) (fun k=> [(12,I64 k),(11,.slice (some ⟨g,0,none⟩) 20 20),(0,.string s),(1,I64 n),(4,pt n1),(5,I64 0),(6,I64 0)]) (fun k=>lsH (fun w:Bs=>Value.string (ba w)) 9 (some ⟨g,0,none⟩) 20 signsS::pto n1 (.cells [I64 0,.string ⟨#[]⟩,I64 0,I64 0,I64 0].toArray 234 (0,0))::(q++F)) (fun k=>20 - k) (fun k a0 ih=> ?_) 0 ⟨bB _,rfl⟩) Zu leA;try dsimp only at a0 ih|-
 obtain ⟨c0,p⟩:=a0;refine xx 8 ?_;refine xp 68 ?_ ?_<;>intro h0
 . have o:k<signsS.length:=by show k<20;omega
   have hf:=Zq8 (l:=(bs s).drop n) o;have u:=Zqu k o;obtain ⟨Z,hZ⟩: ∃ Z,signsS[k]=Z:=⟨_,rfl⟩;rw [hZ] at hf u;have b0:(ba Z).size=Z.length:=rfl;refine xo 9 ?_;refine ld ?_ (hc:=(jN (n:=k) (bR _) Zk o rfl));refine bA 74 (.string (ba Z)) rfl (by rw [hZ]) ?_;refine rn [4,0,1,2,3,4,5,6,7] ?_;refine gT 82 rfl ?_ ?_<;>intro i
   . replace i:=sp i;refine dd [7,8,9,10,11] ?_;refine Vz 12 rfl (Fe rfl rfl rfl underlying9 (by omega) (by omega) (by omega)) ?_;refine dS 88 (.string (ba (((bs s).drop n).take Z.length))) rfl (by rw [show ((n:Int)+(ba Z).size).toNat=n+Z.length by omega,fB,extr]) ?_;refine dd [13,14,15] ?_;refine ldD 16 ?_ (hc:=(jN (n:=k) (bR _) Zk o rfl));refine dS 92 (.string (ba Z)) rfl (by rw [hZ]) ?_;refine rn [18,19,0] ?_;refine xp 94 ?_ ?_<;>intro h2
     . refine xo 6 ?_;refine ld ?_ (hc:=(jN (n:=k) (bR _) Zk o rfl));refine bA 98 (.string (ba Z)) rfl (by rw [hZ]) ?_;refine rn [2,0,3] ?_;refine Zq (q) func145 (Bo results145) ⟨_,rfl,.inl ⟨4,Z,0,by have h:=sTr h2;rw [V3,V3] at h;rw [f,j,p,hf,if_pos (by rw [dC] at h|-;exact h.symm)],u.1,by rw [bS];omega,rfl⟩,rfl⟩
     refine xx 8 ?_;refine aY (ih (k+1) ⟨by omega,by have h:=sNe h2;rw [V3,V3] at h;rw [p,hf,if_neg (by rw [dC];intro e;rw [<-e] at h;simp at h)]⟩ (by omega)) Zu leA
   replace i:=sp i;refine rn [8,9,10,11,12,13,14,15,16,17,18,19,0,8] ?_;refine aY (ih (k+1) ⟨by omega,by have h:=i;rw [p,hf,if_neg (by rw [dC];intro e;have:=bK List.length e;rw [bH,bS] at this;omega)]⟩ (by omega)) Zu leA
 obtain rfl:k=20:=by omega
 refine rn [5,0,3] ?_;refine Zq (q) func145 (Bo results145) ⟨_,rfl,.inr ⟨by rw [f,j,p];rfl,⟨0,⟨#[]⟩,0,0,0⟩,0,110,by decide,rfl⟩,rfl⟩
end
theorem lex_at (h:k<l.length):Ju (g+1) (l.drop k) ln cl=
 if l.getD k 0=10 then Ju g (l.drop (k+1)) (ln+1) 1
 else if l.getD k 0=32\/l.getD k 0=9\/l.getD k 0=13 then Ju g (l.drop (k+1)) ln (cl+1)
 else if l.getD k 0=35 then Ju g ((l.drop k).dropWhile (· !=10)) ln (cl+((l.drop k).takeWhile (· !=10)).length)
 else match M0 (l.drop k) with
  |none=>none
  |some (c,w,n)=>(Ju g (l.drop (k+w.length)) ln (cl+w.length)).map (⟨c,ba w,n,ln,cl⟩:: ·):=by
 rw [gD h,<-fK,aJ h,Ju];split;rfl;split;rfl;split;rfl
 cases M0 (l[k]::l.drop (k+1)) with
 |none=>rfl
 |some x=>
  have e:List.drop x.2.1.length (l[k]::l.drop (k+1))=l.drop (k+x.2.1.length):=by rw [<-aJ h,fK]
  simp only [e]
theorem lex_end (h:l.length<=k):Ju (g+1) (l.drop k) ln cl=some []:=by rw [cO h];rfl
theorem skip_at (h:k<l.length)(hc:l.getD k 0≠10):(l.drop k).dropWhile (· !=10)=(l.drop (k+1)).dropWhile (· !=10)/\((l.drop k).takeWhile (· !=10)).length=((l.drop (k+1)).takeWhile (· !=10)).length+1:=by
 rw [gD h] at hc;rw [aJ h,List.dropWhile_cons,iJ,if_pos (by simpa using hc),if_pos (by simpa using hc)];exact ⟨rfl,rfl⟩
theorem Cr (h:l.length<=k\/l.getD k 0=10):(l.drop k).dropWhile (· !=10)=l.drop k/\((l.drop k).takeWhile (· !=10)).length=0:=by
 rcases dQ k l.length with a|a
 . have b:=h.resolve_left (by omega);rw [gD a] at b;rw [aJ a,List.dropWhile_cons,iJ,if_neg (by simp [b]),if_neg (by simp [b])];exact ⟨rfl,rfl⟩
 rw [cO a];exact ⟨rfl,rfl⟩
theorem c8 {c d:UInt8}:((c.toNat:Int)=d.toNat)↔c=d:=by rw [<-UInt8.toNat_inj];omega
def Rt (l:Bs):Option (List Tk):=if 65536<l.length then none else Ju (l.length+1) l 1 1
theorem spT {x:UInt8}(h:x=32\/x=9\/x=13):((x.toNat:Int)==32||(x.toNat:Int)==9||(x.toNat:Int)==13)=true:=by rcases h with rfl|rfl|rfl<;>rfl
theorem spF {x:UInt8}(h: ¬ (x=32\/x=9\/x=13)):((x.toNat:Int)==32||(x.toNat:Int)==9||(x.toNat:Int)==13)=false:=by
 simp only [not_or] at h;rw [eK,eK,dB,dB,dB];exact ⟨⟨fun e=>h.1 (c8.1 e),fun e=>h.2.1 (c8.1 e)⟩,fun e=>h.2.2 (c8.1 e)⟩
theorem Cf:(prog.info? 234).map (fun i=>(i.zero,i.size,i.bytes))=some (some (.agg #[I64 0,.string ⟨#[]⟩,I64 0,I64 0,I64 0]),5,48):=by kernel_rfl
abbrev B3 (v0:Int)(v1:Int):=([I64 v0,I64 v1]:List Value)
theorem Lex_ok:CallF prog G 113 [.string s] (q) (Ret fun v q'=>(∃ ts a c,Rt (bs s)=some ts/\v= .tuple [.slice a ts.length c,.agg zz5.toArray,I64 0].toArray/\q'=rsH tkC 5 234 a c ts::q)\/(Rt (bs s)=none/\ ∃ (y z e:Int),e≠0/\v= .tuple [.slice none 0 0,.agg (B3 y z).toArray,I64 e].toArray/\q'=q)):=by
 refine aC func113 ntmps113 rfl fun F cs=> ?_;have m0:=Ko s;refine xo 3 ?_;refine bW zeroValue107 fun n1=> ?_
 refine ox 9 ?_;refine xp 14 ?_ ?_<;>intro h0
 . refine rn [5,0,2] ?_;refine Zq (q) func113 (T9 results113) ⟨_,rfl,.inr ⟨by unfold Rt;rw [if_pos (by omega)],0,0,3,by decide,rfl,rfl⟩⟩
 have o0:s.size<=65536:=by omega
 obtain ⟨S,hS⟩: ∃ S,Rt (bs s)=S:=⟨_,rfl⟩;have k0:S=(Ju (s.size+1) ((bs s).drop 0) 1 1).map ([]++ ·):=by rw [<-hS];unfold Rt;rw [if_neg (by omega),m0,gB];cases Ju (s.size+1) (bs s) 1 1<;>rfl
 rw [hS];refine xo 9 ?_;refine bW zeroValue107 fun n2=> ?_
 refine rn [0,7] ?_;refine aY (cG (fun (b:(Option Addr×Nat×List Tk)×Nat×Int×Int×Nat)=>b.2.1<=s.size/\s.size - b.2.1<b.2.2.2.2/\(1<=b.2.2.1/\b.2.2.1<=b.2.1+1/\1<=b.2.2.2.1/\b.2.2.2.1<=b.2.1+1/\b.1.2.2.length<=b.2.1)/\S=(Ju b.2.2.2.2 ((bs s).drop b.2.1) b.2.2.1 b.2.2.2.1).map (b.1.2.2++ ·)) (fun b=> [(5,.slice b.1.1 b.1.2.2.length b.1.2.1),(7,I64 (b.2.1:Int)),(0,.string s),(6,pt n2),(2,.slice none 0 0),(3,pt n1),(4,I64 0)]) (fun b=>pto n2 (.cells [I64 b.2.2.1,I64 b.2.2.2.1].toArray 107 (0,0))::pto n1 As::rsH tkC 5 234 b.1.1 b.1.2.1 (b.1.2.2)::(q++F)) (fun b=>s.size - b.2.1) (fun b d0 ih=> ?_) ((none,0, []),0,1,1,s.size+1) ⟨bB _,by dsimp only;omega,⟨by dsimp only;omega,by dsimp only;omega,by dsimp only;omega,by dsimp only;omega,aL _⟩,k0⟩) Zu (aS leA (aS (Zi tkC 5 234 _) leA));try dsimp only at d0 ih|-
 obtain ⟨y0,x0,⟨w0,v0,u0,t0,s0⟩,c0⟩:=d0;obtain ⟨⟨a,c,o⟩,k,ln,cl,g⟩:=b;dsimp only at*;obtain ⟨g,rfl⟩: ∃ g2,g=g2+1:=⟨g - 1,by omega⟩;clear k0;refine xx 8 ?_;refine xp 20 ?_ ?_<;>intro w
 . have l0:k<(bs s).length:=by omega
   have hL:=lex_at (g:=g) (ln:=ln) (cl:=cl) l0;obtain ⟨x,hx⟩: ∃ x,(bs s).getD k 0=x:=⟨_,rfl⟩;rw [hx] at hL;rcases Classical.em (x=10) with i|i
   . refine xo 7 ?_;refine Zt (Wb rfl rfl underlying9 (by omega) (by omega)) ?_;refine bA 23 (.int .u8 (x.toNat:Int)) rfl (by rw [<-hx];rfl) ?_;refine ox 8 ?_;refine X.kt 25 ?_ rfl (dC.2 (by rw [i];rfl));refine rn [4,0,4,0,1,0,3] ?_;refine aY (ih ((a,c,o),k+1,ln+1,1,g) ⟨by dsimp only;omega,by dsimp only;omega,⟨by dsimp only;omega,by dsimp only;omega,by dsimp only;omega,by dsimp only;omega,by dsimp only;omega⟩,by rw [c0,hL,if_pos i]⟩ (by dsimp only;omega)) Zu leA
   rcases Classical.em (x=32\/x=9\/x=13) with a0|a0
   . refine xo 7 ?_;refine Zt (Wb rfl rfl underlying9 (by omega) (by omega)) ?_;refine bA 23 (.int .u8 (x.toNat:Int)) rfl (by rw [<-hx];rfl) ?_;refine ox 8 ?_;refine Jc 25 ?_ rfl (dB.2 (fun e=>i (c8.1 e)));refine xo 8 ?_;refine Zf [35,8,5,7,0,6,2,3,4] ?_;apply Zy 3 38 35 rfl
     . intro d p;have w:=sp d;refine oo 3 ?_;exact Zz p ⟨orF d,Zv⟩
     . intro d p;have w:=sp d;refine oo 3 ?_;exact Zz p ⟨orT d,Zv⟩
     refine oo 1 ?_;refine Zf [39,8,5,7,0,6,2,3,4] ?_;apply Zy 3 42 39 rfl
     . intro d p;have w:=sp d;refine oo 3 ?_;exact Zz p ⟨orF d,Zv⟩
     . intro d p;have w:=sp d;refine oo 3 ?_;exact Zz p ⟨orT d,Zv⟩
     refine ox 1 ?_;refine X.kt 42 ?_ rfl (spT a0);refine rn [4,0,4,0,3] ?_;refine aY (ih ((a,c,o),k+1,ln,cl+1,g) ⟨by dsimp only;omega,by dsimp only;omega,⟨by dsimp only;omega,by dsimp only;omega,by dsimp only;omega,by dsimp only;omega,by dsimp only;omega⟩,by rw [c0,hL,if_neg i,if_pos a0]⟩ (by dsimp only;omega)) Zu leA
   rcases Classical.em (x=35) with b0|b0
   iterate 2
    focus
     refine xo 7 ?_;refine Zt (Wb rfl rfl underlying9 (by omega) (by omega)) ?_;refine bA 23 (.int .u8 (x.toNat:Int)) rfl (by rw [<-hx];rfl) ?_;refine ox 8 ?_;refine Jc 25 ?_ rfl (dB.2 (fun e=>i (c8.1 e)));refine xo 8 ?_;refine Zf [35,8,5,7,0,6,2,3,4] ?_;apply Zy 3 38 35 rfl
     . intro d p;have w:=sp d;refine oo 3 ?_;exact Zz p ⟨orF d,Zv⟩
     . intro d p;have w:=sp d;refine oo 3 ?_;exact Zz p ⟨orT d,Zv⟩
     refine oo 1 ?_;refine Zf [39,8,5,7,0,6,2,3,4] ?_;apply Zy 3 42 39 rfl
     . intro d p;have w:=sp d;refine oo 3 ?_;exact Zz p ⟨orF d,Zv⟩
     . intro d p;have w:=sp d;refine oo 3 ?_;exact Zz p ⟨orT d,Zv⟩
     refine ox 1 ?_;refine Jc 42 ?_ rfl (spF a0);refine xx 8 ?_
    rotate_left
   . refine X.kt 50 ?_ rfl (dC.2 (by rw [b0];rfl));refine xx 3 ?_;refine aY (cG (fun (j:Nat)=>k<=j/\j<=s.size/\((bs s).drop k).dropWhile (· !=10)=((bs s).drop j).dropWhile (· !=10)/\(((bs s).drop k).takeWhile (· !=10)).length=(j - k)+(((bs s).drop j).takeWhile (· !=10)).length) (fun j=> [(7,I64 j),(0,.string s),(5,.slice a o.length c),(6,pt n2),(2,.slice none 0 0),(3,pt n1),(4,I64 0)]) (fun j=>pto n2 (.cells [I64 ln,I64 (cl+(j - k:Nat))].toArray 107 (0,0))::pto n1 As::rsH tkC 5 234 a c (o)::(q++F)) (fun j=>s.size - j) (fun j d0 e0=> ?_) k ⟨aL _,by omega,rfl,by omega⟩) Zu (by rw [Nat.sub_self,show (cl+((0:Nat):Int))=cl by omega];exact leA);try dsimp only at d0 e0|-
     obtain ⟨r0,q0,j0,i0⟩:=d0;refine xo 8 ?_;refine Zf [55,7,0,5,6,2,3,4] ?_;apply Zp 5 60 55 rfl
     . intro d p;have w:=sp d;refine oo 2 ?_;refine Zt (Wb rfl rfl underlying9 (by omega) (by omega)) ?_;refine bA 58 (.int .u8 (((bs s).getD j 0).toNat:Int)) rfl (rfl) ?_;refine oo 2 ?_;exact Zz p ⟨Wq d,Zv⟩
     . intro d p;have w:=sp d;refine oo 5 ?_;exact Zz p ⟨Wz d,Zv⟩
     refine ox 1 ?_;refine xp 60 ?_ ?_<;>intro w
     . refine rn [5,0,4,0,3] ?_;have g0:=skip_at (l:=bs s) (k:=j) (by omega) (fun e=>w.2 (c8.2 e));refine aY (e0 (j+1) ⟨by omega,by omega,by rw [j0,g0.1],by rw [i0,g0.2];omega⟩ (by omega)) Zu (by rw [show (cl+((j+1 - k:Nat):Int))=cl+((j - k:Nat):Int)+1 by omega];exact leA)
     refine xx 3 ?_;have hj:(bs s).length<=j\/(bs s).getD j 0=10:=by rcases w with w|w;exact .inl (by omega);exact .inr (c8.1 (by first|exact w.2|exact w))
     have p0:k<j:=by rcases dQ k j with h|h;exact h;obtain rfl:j=k:=(by omega);rcases hj with h|h;omega;exact aR (hx.symm.trans h) i
     refine aY (ih ((a,c,o),j,ln,cl+(j - k:Nat),g) ⟨by dsimp only;omega,by dsimp only;omega,⟨by dsimp only;omega,by dsimp only;omega,by dsimp only;omega,by dsimp only;omega,by dsimp only;omega⟩,by rw [c0,hL,if_neg i,if_neg a0,if_pos b0,j0,(Cr hj).1,i0,(Cr hj).2,iS]⟩ (by dsimp only;omega)) Zu leA
   refine Jc 50 ?_ rfl (dB.2 (fun e=>b0 (c8.1 e)));refine xo 6 ?_;refine Zb call145 (aE _) (lxone_ok (n:=k) (by omega) o0) ?_;rintro _ _ ⟨⟨ck,W,z,hO,z0,n0,rfl⟩|⟨hO,t,z,e,he,rfl⟩,rfl⟩
   . refine oo 4 ?_;refine bW zeroValue234 fun n3=> ?_
     refine rn [0,9,1075,4,0,1,0,4,0] ?_;rw [bS] at n0;obtain ⟨tk,f0⟩: ∃ tk:Tk,tk=⟨ck,ba W,z,ln,cl⟩:=⟨_,rfl⟩;refine bA 81 (.agg (tkC tk).toArray) rfl (by rw [f0];rfl) ?_;refine bQ (Yz (u:=tk) tkC underlying221 Cf rfl rfl (fun _=>rfl) rfl) ?_;rintro _ _ ⟨g2,rfl,rfl⟩;refine bQ (Z9 (f:=tkC) (l:=o) (m:= [tk]) underlying221 Cf rfl rfl (fun _=>rfl) rfl rfl Zk ((bE _).le Zk) (fun _=>rfl) (by simp;omega) (by simp;omega)) ?_;rintro _ _ ⟨a3,c3,rfl,rfl⟩;refine rn [4,0,6,0,3] ?_;refine aY (ih ((a3,c3,o++ [tk]),k+W.length,ln,cl+W.length,g) ⟨by dsimp only;omega,by dsimp only;omega,⟨by dsimp only;omega,by dsimp only;omega,by dsimp only;omega,by dsimp only;omega,by simp;omega⟩,by rw [c0,hL,if_neg i,if_neg a0,if_neg b0,hO,f0];simp only [Option.map_map];congr 1;funext r;simp⟩ (by dsimp only;omega)) Zu leA
   refine oo 4 ?_;refine bW zeroValue234 fun n3=> ?_
   refine rn [0,9] ?_;refine X.kt 75 ?_ rfl (by simpa using he);refine rn [2,0,1,2,3,4,5,0] ?_;refine Zq (q) func113 (T9 results113) ⟨_,rfl,.inr ⟨by rw [c0,hL,if_neg i,if_neg a0,if_neg b0,hO];rfl,ln,cl,e,he,rfl,rfl⟩⟩
 obtain rfl:k=s.size:=by omega
 refine rn [7,0,2] ?_;refine Zq (rsH tkC 5 234 a c (o)::q) func113 (T9 results113) ⟨_,rfl,.inl ⟨o,a,c,by rw [c0,lex_end (by omega)];simp,rfl,rfl⟩⟩
mutual
def PEx.nd:PEx->Nat
 | .mk k _ _ _ _ _ args=>(if k=0 then 0 else 1)+Bq args
def Bq:List PEx->Nat
 | []=>0
 |e::r=>e.nd+Bq r
end
mutual
def PStm.nd:PStm->Nat
 | .mk _ _ _ _ _ e ix body els _ _ _ _=>1+e.nd+ix.nd+Zo body+Zo els
def Zo:List PStm->Nat
 | []=>0
 |s::r=>s.nd+Zo r
end
theorem Kl: ∀ {g:Nat} {l:Bs} {ln cl:Int} {ts:List Tk},Ju g l ln cl=some ts->ts.length<=l.length/\ ∀ t∈ts,0<=t.n/\t.n<=2147483647
 |0,_,_,_,_,h=>by cases h
 |g+1, [],_,_,ts,h=>by cases h;exact ⟨aL _,fun t d=>by cases d⟩
 |g+1,c::r,ln,cl,ts,h=>by
  rw [Ju] at h;split at h
  . have:=Kl h;exact ⟨by simp;omega,this.2⟩
  split at h
  . have:=Kl h;exact ⟨by simp;omega,this.2⟩
  split at h
  . have:=Kl h;refine ⟨cP this.1 ?_,this.2⟩;exact (List.dropWhile_sublist _).length_le
  split at h
  . cases h
  rename_i k w n a
  cases hl:Ju g ((c::r).drop w.length) ln (cl+w.length) with
  |none=>rw [hl] at h;cases h
  |some us=>
   rw [hl] at h;cases h
   have:=Kl hl
   have i:0<w.length/\0<=n/\n<=2147483647:=by
    unfold M0 at a;dsimp only at a;have j: ∀ s∈signsS,0<s.length:=by decide
    split at a
    . rename_i o;split at a
      . rename_i x b
        cases a
        refine ⟨by rw [bH];have:=Mq (c::r);omega,?_⟩;unfold C6 at b;split at b
        . rename_i e;split at b
          . cases b;rename_i p
            rw [aI] at e;exact ⟨(Oo e.1).1,p.1⟩
          cases b
        cases b
      cases a
    split at a
    . rename_i o;cases a;exact ⟨by rw [bH];have:=Mq (c::r);omega,by decide,by decide⟩
    split at a
    . cases a
    split at a
    . cases a;exact ⟨by rw [bH];have:=Mq (c::r);omega,by decide,by decide⟩
    split at a
    . rename_i m;cases a;exact ⟨j _ (iO m),by decide,by decide⟩
    cases a
   refine ⟨?_,?_⟩
   . have f:=this.1;rw [bS] at f;simp at f|-;omega
   intro t d;rcases cE.1 d with rfl|d
   . exact i.2
   exact this.2 t d
theorem Kt {s:Bs}(h:tkW s ts=some r):r.length+1<=ts.length:=by
 unfold tkW at h;split at h
 . cases h;rename_i a;cases ts with
   |nil=>cases a
   |cons t r=>simp
 cases h
theorem Wk {s:Bs}{u:Unit}(h:W2 s ts=some (u,r)):r.length+1<=ts.length:=Kt (Df.1 h)
theorem Mv {x:ByteArray}(h:Jk ts=some (x,r)):r.length+1<=ts.length:=by
 cases ts with
 |nil=>cases h
 |cons t l=>simp only [Jk] at h;split at h<;>cases h;simp
theorem Mk {x:Int}(h:Ji ts=some (x,r)):r.length+1<=ts.length:=by
 cases ts with
 |nil=>cases h
 |cons t l=>simp only [Ji] at h;split at h<;>cases h;simp
theorem Zq7 {n:Int}(h:Uh n ts≠0):ts.tail.length+1=ts.length:=by
 cases ts with
 |nil=>exact aR (by unfold Uh;simp [Rq,isW]) h
 |cons t r=>simp
theorem My: ∀ f,(∀ n ts e r,Vj f n ts=some (e,r)->e.nd+r.length<=ts.length/\e.dep+r.length<=ts.length)/\(∀ n x ts e r,Mu f n x ts=some (e,r)->e.nd+r.length<=ts.length+x.nd/\(∀ B,x.dep+ts.length<=B->ts.length<=B->e.dep+r.length<=B))/\
 (∀ ts e r,unS f ts=some (e,r)->e.nd+r.length<=ts.length/\e.dep+r.length<=ts.length)/\(∀ ts e r,Ut f ts=some (e,r)->e.nd+r.length<=ts.length/\e.dep+r.length<=ts.length):=by
 intro f
 induction f with
 |zero=>exact ⟨fun _ _ _ _ h=>(by cases h),fun _ _ _ _ _ h=>(by cases h),fun _ _ _ h=>(by cases h),fun _ _ _ h=>by cases h⟩
 |succ f ih=>
  obtain ⟨c,m,g,s⟩:=ih;refine ⟨fun n ts e r h=> ?_,fun n x ts e r h=> ?_,fun ts e r h=> ?_,fun ts e r h=> ?_⟩
  . rw [Vj] at h;split at h
    . exact g _ _ _ h
    split at h
    . cases h
    rename_i e1 i b;have j:=c _ _ _ _ b;have q:=m _ _ _ _ _ h;exact ⟨by omega,q.2 _ j.2 (by omega)⟩
  . rw [Mu] at h;split at h
    . cases h;exact ⟨by omega,fun B b _=>b⟩
    rename_i v;have o:=Zq7 v;split at h
    . cases h
    rename_i a i b;have j:=c _ _ _ _ b;have l:(PEx.mk 6 0 em 0 false (Uh n ts) [x,a]).nd=1+(x.nd+(a.nd+0)):=rfl;have k:(PEx.mk 6 0 em 0 false (Uh n ts) [x,a]).dep=max x.dep (max a.dep 0)+1:=rfl;split at h
    . cases h;exact ⟨by omega,fun B b d=>by omega⟩
    have q:=m _ _ _ _ _ h;exact ⟨by omega,fun B b d=>q.2 B (by omega) (by omega)⟩
  . rw [unS] at h;split at h
    . rename_i i b;have o:=Kt b;split at h
      . cases h
      rename_i a p d
      cases h
      have j:=g _ _ _ d;have l:(PEx.mk 4 0 em 0 false 0 [a]).nd=1+(a.nd+0):=rfl;have k:(PEx.mk 4 0 em 0 false 0 [a]).dep=max a.dep 0+1:=rfl;exact ⟨by omega,by omega⟩
    split at h
    . rename_i i b;have o:=Kt b;split at h
      . cases h
      rename_i a p d
      cases h
      have j:=g _ _ _ d;have l:(PEx.mk 5 0 em 0 false 0 [a]).nd=1+(a.nd+0):=rfl;have k:(PEx.mk 5 0 em 0 false 0 [a]).dep=max a.dep 0+1:=rfl;exact ⟨by omega,by omega⟩
    exact s _ _ _ h
  rw [Ut] at h;split at h
  . rename_i i b;have o:=Kt b;split at h
    . cases h
    rename_i a p d;have j:=c _ _ _ _ d;split at h
    . cases h
    rename_i u t
    cases h
    have:=Kt t;exact ⟨by omega,by omega⟩
  split at h
  . rename_i z i b
    cases h
    have:=Mk b;have l: ∀ z,(PEx.mk 1 z em 0 false 0 []).nd=1+0:=fun _=>rfl
    have k: ∀ z,(PEx.mk 1 z em 0 false 0 []).dep=0+1:=fun _=>rfl
    exact ⟨by rw [l];omega,by rw [k];omega⟩
  split at h
  . cases h
  rename_i nm i b;have o:=Mv b;split at h
  . cases h
    have l:(PEx.mk 2 0 nm 0 false 0 []).nd=1+0:=rfl;have k:(PEx.mk 2 0 nm 0 false 0 []).dep=0+1:=rfl;exact ⟨by omega,by omega⟩
  rename_i p d;have w:=Kt d;split at h
  . cases h
  rename_i a u t;have j:=c _ _ _ _ t;split at h
  . cases h
  rename_i r4 y
  cases h
  have:=Kt y;have l:(PEx.mk 3 0 nm 0 false 0 [a]).nd=1+(a.nd+0):=rfl;have k:(PEx.mk 3 0 nm 0 false 0 [a]).dep=max a.dep 0+1:=rfl;exact ⟨by omega,by omega⟩
theorem Zs {α β:Type}{A:Option (α×List Tk)}{K:α->List Tk->Option β}{y:β}(h:bnd A K=some y): ∃ x r,A=some (x,r)/\K x r=some y:=by
 cases A with
 |none=>cases h
 |some x=>exact ⟨x.1,x.2,rfl,h⟩
mutual
theorem Lm {B C:Nat}(h:B<=C): ∀ {s:PStm},s.bdd B->s.bdd C
 | .mk _ _ _ _ _ _ _ _ _ _ _ _ _,⟨h1,h2,h3,h4⟩=>⟨cP h1 h,cP h2 h,Q4 h h3,Q4 h h4⟩
theorem Q4 {B C:Nat}(h:B<=C): ∀ {l:List PStm},Wg B l->Wg C l
 | [],_=>trivial
 |_::_,⟨h1,h2⟩=>⟨Lm h h1,Q4 h h2⟩
end
theorem X9:PEx.z.nd=0:=rfl
theorem Bv:PEx.z.dep=1:=rfl
theorem Hi {k:Int}{e ix:PEx}{b l:List PStm}{i s o:Int}{lo:Bool}:(PStm.mk k ln cl nm wt e ix b l i s o lo).nd=1+e.nd+ix.nd+Zo b+Zo l:=rfl
theorem O6 {f:Nat}{k:Int}{p:Int×Int}{s:PStm}(hB:ts.length+1<=B)(h:Ud f k p nm ts=some (s,r)):s.nd+r.length<=ts.length/\s.bdd B:=by
 unfold Ud at h;split at h
 . split at h
   . rename_i n
     have y:ts.tail.length+1=ts.length:=by cases ts with
      |nil=>cases n
      |cons t r=>simp
     obtain ⟨ix,v,q,h⟩:=Zs h;obtain ⟨_,u,o,h⟩:=Zs h;obtain ⟨_,j,c,h⟩:=Zs h;obtain ⟨e,i,b,h⟩:=Zs h;obtain ⟨_,d,a,h⟩:=Zs h
     cases h
     have x:=(My _).1 _ _ _ _ q;have w:=Wk o;have m:=Wk c;have l:=(My _).1 _ _ _ _ b;have g:=Wk a;exact ⟨by rw [Hi];simp only [Zo];omega,by omega,by omega,trivial,trivial⟩
   obtain ⟨_,j,c,h⟩:=Zs h;obtain ⟨e,i,b,h⟩:=Zs h;obtain ⟨_,d,a,h⟩:=Zs h
   cases h
   have m:=Wk c;have l:=(My _).1 _ _ _ _ b;have g:=Wk a;exact ⟨by rw [Hi,X9];simp only [Zo];omega,by omega,by rw [Bv];omega,trivial,trivial⟩
 split at h
 . obtain ⟨_,j,c,h⟩:=Zs h;obtain ⟨e,i,b,h⟩:=Zs h;obtain ⟨_,d,a,h⟩:=Zs h
   cases h
   have m:=Wk c;have l:=(My _).1 _ _ _ _ b;have g:=Wk a;exact ⟨by rw [Hi,X9];simp only [Zo];omega,by omega,by rw [Bv];omega,trivial,trivial⟩
 split at h
 focus
  obtain ⟨wt,j,c,h⟩:=Zs h;obtain ⟨_,d,a,h⟩:=Zs h
  cases h
  have m:=Mv c;have g:=Wk a
 rotate_left
 focus
  split at h
  . obtain ⟨e,i,b,h⟩:=Zs h;obtain ⟨_,d,a,h⟩:=Zs h
    cases h
    have l:=(My _).1 _ _ _ _ b;have g:=Wk a;exact ⟨by rw [Hi,X9];simp only [Zo];omega,by omega,by rw [Bv];omega,trivial,trivial⟩
  obtain ⟨_,d,a,h⟩:=Zs h
  cases h
  have g:=Wk a
 all_goals
  exact ⟨by rw [Hi,X9];simp only [Zo];omega,by rw [Bv];omega,by rw [Bv];omega,trivial,trivial⟩
theorem Pv (h:Vc ts≠0):ts.tail.length+1=ts.length:=by
 cases ts with
 |nil=>exact aR (by decide) h
 |cons t r=>simp
theorem stmt_nd (B:Nat): ∀ f,(∀ ts s r,ts.length+1<=B->U8 f ts=some (s,r)->s.nd+r.length<=ts.length/\s.bdd B)/\(∀ ts l r,ts.length+1<=B->Ke f ts=some (l,r)->Zo l+r.length<=ts.length/\Wg B l)/\(∀ ts l r,ts.length+1<=B->We f ts=some (l,r)->Zo l+r.length<=ts.length/\Wg B l):=by
 intro f
 induction f with
 |zero=>exact ⟨fun _ _ _ _ h=>(by cases h),fun _ _ _ _ h=>(by cases h),fun _ _ _ _ h=>by cases h⟩
 |succ f ih=>
  obtain ⟨n,i,g⟩:=ih;refine ⟨fun ts s r o h=> ?_,fun ts l r o h=> ?_,fun ts l r o h=> ?_⟩
  . rw [U8] at h;split at h
    . rename_i z;have u:=Pv (ts:=ts) (by omega);obtain ⟨e,m,a,h⟩:=Zs h;obtain ⟨b,d,j,h⟩:=Zs h;have k:=(My _).1 _ _ _ _ a;have c:=i _ _ _ (by omega) j;split at h
      . rename_i x
        have y:d.tail.length+1=d.length:=by
         have:=x.2
         cases d with
         |nil=>cases this
         |cons t r=>simp
        obtain ⟨b2,v,p,h⟩:=Zs h
        cases h
        have q:=i _ _ _ (by omega) p;exact ⟨by rw [Hi,X9];omega,by omega,by rw [Bv];omega,c.2,q.2⟩
      cases h
      exact ⟨by rw [Hi,X9];simp only [Zo];omega,by omega,by rw [Bv];omega,c.2,trivial⟩
    split at h
    . rename_i z;have u:=Pv (ts:=ts) (by omega);have:=O6 (B:=B) (by omega) h;exact ⟨by omega,this.2⟩
    obtain ⟨nm,m,a,h⟩:=Zs h;have k:=Mv a;have u:(if 0<Vc ts then ts.tail else ts).length<=ts.length:=by split<;>simp
    have:=O6 (B:=B) (by omega) h;exact ⟨by omega,this.2⟩
  . rw [Ke] at h;obtain ⟨_,m,a,h⟩:=Zs h;obtain ⟨w,d,j,h⟩:=Zs h;obtain ⟨_,v,p,h⟩:=Zs h
    cases h
    have k:=Wk a;have c:=g _ _ _ (by omega) j;have q:=Wk p;exact ⟨by omega,c.2⟩
  rw [We] at h;split at h
  . cases h;exact ⟨by simp [Zo],trivial⟩
  obtain ⟨s,m,a,h⟩:=Zs h;obtain ⟨w,d,j,h⟩:=Zs h
  cases h
  have k:=n _ _ _ o a;have c:=g _ _ _ (by omega) j;exact ⟨by simp only [Zo];omega,k.2,c.2⟩
theorem decl_nd {f:Nat}(hB:ts.length+1<=B)(h:Ui f ts=some (d,r)):Zo d.body+r.length+1<=ts.length/\Wg B d.body/\(1<=d.k/\d.k<=6):=by
 have j:dkS ts<=6:=N5;unfold Ui at h;split at h
 . cases h
 rename_i q;obtain ⟨nm,i,p,h⟩:=Zs h;have w:=Mv p
 have x:ts.tail.length+1=ts.length:=by
  cases ts with
  |nil=>exact aR (show dkS []=0 by decide) q
  |cons t r=>simp
 split at h
 . obtain ⟨b,e,a,h⟩:=Zs h
   cases h
   have g:=(stmt_nd B f).2.1 _ _ _ (by omega) a;exact ⟨by dsimp only;omega,g.2,by dsimp only;omega⟩
 obtain ⟨n,e,a,h⟩:=Zs h;obtain ⟨_,u,o,h⟩:=Zs h
 cases h
 have v:=Wk o
 have g:e.length<=i.length:=by
  unfold Eo at a;split at a
  . obtain ⟨_,c,m,a⟩:=Zs a;have:=Wk m;split at a
    . obtain ⟨z,s,l,a⟩:=Zs a
      cases a
      have:=Mk l;have y:c.tail.length<=c.length:=by simp
      omega
    have:=Mk a;omega
  split at a
  . have:=Mk a;omega
  cases a;exact aL _
 exact ⟨by simp only [Zo];omega,trivial,by dsimp only;omega⟩
theorem Tz {G:Nat}: ∀ {f:Nat} {ts:List Tk} {ds:List PDec} {B:Nat},ts.length+1<=B->Vh G f ts=some ds->(ds.map fun d=>Zo d.body+1).sum<=ts.length/\ ∀ d∈ds,Wg B d.body/\(1<=d.k/\d.k<=6)
 |0,_,_,_,_,h=>by cases h
 |f+1,ts,ds,B,hB,h=>by
  rw [Vh] at h;split at h
  . cases h;exact ⟨by simp,fun d a=>by cases a⟩
  obtain ⟨d,r,e,h⟩:=Zs h
  cases h2:Vh G f r with
  |none=>rw [h2] at h;cases h
  |some us=>
   rw [h2] at h;cases h
   have c:=decl_nd hB e;have b:=Tz (B:=B) (by omega) h2;refine ⟨by simp only [bP,List.sum_cons];omega,fun d a=> ?_⟩;rcases cE.1 a with rfl|a
   . exact c.2
   exact b.2 d a
def MoreD (L:List Tk)(S:Option (List PDec))(G g:Nat)(l:List PDec)(n:Nat)(b:Bool):Prop:=(b=false/\S=(Vh G g (L.drop n)).map (l++ ·))\/(b=true/\S=none)
section
variable {S:Option (List PDec)}{G n m:Nat}{l:List PDec}{b:Bool}
theorem MoreD.go (h:MoreD L S G (g+1) l n false)(hn:n<L.length)(ho:Out L false (Ui G (L.drop n)) d m b):MoreD L S G g (l++ [d]) m b:=by
 rcases h with ⟨_,e⟩|⟨e,_⟩
 . have a:L.drop n≠ []:=by rw [aJ hn];exact gZ _ _
   rcases ho with ⟨c,_,f⟩|⟨c,i⟩
   . refine .inl ⟨c,?_⟩;rw [e,Vh,if_neg a,f];simp only [bnd];cases Vh G g (L.drop m)<;>simp
   refine .inr ⟨c,?_⟩;rw [e,Vh,if_neg a,i.resolve_left (by decide)];rfl
 cases e
theorem MoreD.over (h:MoreD L S G (g+1) l n false)(hn:L.length<=n):S=some l:=by
 rcases h with ⟨_,e⟩|⟨e,_⟩
 . rw [e,cO hn,Vh,if_pos rfl];simp
 cases e
theorem MoreD.bad (h:MoreD L S G g l n true):S=none:=by
 rcases h with ⟨e,_⟩|⟨_,e⟩
 . cases e
 exact e
end
theorem Sf (h:Rt l=none):Qz l=none:=by
 unfold Rt at h;unfold Qz;split
 . rfl
 rw [if_neg ‹_›] at h;rw [h]
theorem Sb (h:Rt l=some ts):Qz l=(match Vh (10*ts.length+20) (ts.length+1) ts with|none=>none|some ds=>if ds.any (fun d=>Yq d.body 1)=true then none else some ds):=by
 unfold Rt at h;unfold Qz;split
 . rw [if_pos ‹_›] at h;cases h
 rw [if_neg ‹_›] at h;simp only [h];rfl
theorem lexO_fin (h:Rt l=some ts):ts.length<=65536/\ ∀ t∈ts,0<=t.n/\t.n<=2147483647:=by
 unfold Rt at h;split at h
 . cases h
 have:=Kl h;exact ⟨by omega,this.2⟩
def DcsAt (M:Hp)(a:Option Addr)(c:Nat)(l:List Dec):Prop:=SlAt M a c l.length (l.flatMap dcC)/\Decs.At M l
theorem DcsAt.mono {a:Option Addr}{c:Nat}{l:List Dec}(e:Hle M M')(h:DcsAt M a c l):DcsAt M' a c l:=⟨h.1.mono e,h.2.mono e⟩
def dsM (a:Option Addr)(c:Nat)(l:List Dec):HP:=lst (fun M=>DcsAt M a c l) DcsAt.mono
theorem Ow {a:Option Addr}{c:Nat}{l:List Dec}(h:Kn q fun M=>DcsAt M a c l):Sees q a (l.flatMap dcC):=fM (h.imp fun M h=>h.1.2.2)
theorem Kn.dsI {a:Option Addr}{c:Nat}{l:List Dec}(h:Kn q fun M=>DcsAt M a c l)(hi:i<l.length):Kn q fun M=>BlkAt M l[i].ba l[i].bc l[i].body:=h.imp fun M h=>h.2 _ (aB hi)
theorem X.dcs {q1 q2:List HP}{l:List Dec}{s:Dec}(h1:Le q (dcsM l::q1))(h2:Le q1 (dcM s::q2))(K:X P G fr Q todo p ds cs (dcsM (l++ [s])::q2)):X P G fr Q todo p ds cs q:= .le (h1.trans ((dD _ h2).trans Lc)) K
theorem X.fzD {a:Option Addr}{c:Nat}{m:List Dec}(K:X P G fr Q todo p ds cs (dsM a c m::q0))(hq:Le q (rsH dcC 6 229 a c m::q0):=by exact Zk)(h:Kn q0 fun M=>Decs.At M m:=by exact knA):X P G fr Q todo p ds cs q:= .frzR (Kn.here.and h.there) K hq
section
variable {n:Nat}
theorem Cg:(prog.info? 229).map (fun i=>(i.zero,i.size,i.bytes))=some (some (.agg #[I64 0,I64 0,I64 0,.string ⟨#[]⟩,I64 0,.slice none 0 0]),6,72):=by kernel_rfl
abbrev Bd (v0:List HP):=(Ret fun v q'=> ∃ y z:Int,v= .agg (B3 y z).toArray/\q'=v0)
theorem Sc (hn:n<=s.size)(h63:s.size<=65536):CallF prog G 153 [.string s,I64 n] (q) (Bd q):=by
 refine aC func153 ntmps153 rfl fun F cs=> ?_;refine xo 2 ?_;refine bW zeroValue107 fun d=> ?_
 refine oo 4 ?_;refine bW zeroValue107 fun c=> ?_
 refine rn [0,7] ?_;refine aY (cG (fun (k:Nat×Int×Int)=>k.1<=n/\0<=k.2.1/\k.2.1<=k.1+1/\0<=k.2.2/\k.2.2<=k.1+1) (fun k=> [(6,I64 (k.1:Int)),(0,.string s),(1,I64 n),(4,pt d),(5,pt c)]) (fun k=>pto c (.cells [I64 k.2.1,I64 k.2.2].toArray 107 (0,0))::pto d As::(q++F)) (fun k=>n - k.1) (fun k a b=> ?_) (0,1,1) ⟨by omega,by decide,by decide,by decide,by decide⟩) Zu leA;try dsimp only at a b|-
 obtain ⟨i,h,g,f,e⟩:=a;obtain ⟨k,y,z⟩:=k;dsimp only at*;refine xx 7 ?_;refine xp 10 ?_ ?_<;>intro l
 . refine rn [7,0,2,0,5] ?_;refine Zt (Wb rfl rfl underlying9 (by omega) (by omega)) ?_;refine ox 2 ?_;refine xp 20 ?_ ?_<;>intro j
   . refine rn [3,0,2,0,1,0,7] ?_;refine aY (b (k+1,y+1,1) ⟨by dsimp only;omega,by dsimp only;omega,by dsimp only;omega,by dsimp only;omega,by dsimp only;omega⟩ (by dsimp only;omega)) Zu leA
   refine xx 8 ?_;refine aY (b (k+1,y,z+1) ⟨by dsimp only;omega,by dsimp only;omega,by dsimp only;omega,by dsimp only;omega,by dsimp only;omega⟩ (by dsimp only;omega)) Zu leA
 refine rn [4,0,0,1] ?_;refine Zq (q) func153 (rA_ results153) ⟨_,rfl,y,z,rfl,rfl⟩
theorem End_ok (h63:s.size<=65536):CallF prog G 115 [.string s] (q) (Bd q):=by
 refine aC func115 ntmps115 rfl fun F cs=> ?_;refine xo 2 ?_;refine bW zeroValue107 fun a=> ?_
 refine oo 6 ?_;refine Zb call153 (aE _) (Sc (n:=s.size) (aL _) h63) ?_;rintro _ _ ⟨y,z,rfl,rfl⟩;refine rn [0,1] ?_;refine Zq (q) func115 (rA_ results115) ⟨_,rfl,y,z,rfl,rfl⟩
theorem Parse_ok:CallF prog G 76 [.string s] (q) (Ret fun v q'=>(∃ ds a c,Qz (bs s)=some (ds.map Dec.er)/\v= .tuple [.slice a ds.length c,.agg zz5.toArray,I64 0].toArray/\q'=dsM a c ds::q)\/(Qz (bs s)=none/\ ∃ (y z e:Int),e≠0/\v= .tuple [.slice none 0 0,.agg (B3 y z).toArray,I64 e].toArray/\q'=q)):=by
 refine aC func76 ntmps76 rfl fun F cs=> ?_;refine xo 3 ?_;refine bW zeroValue107 fun n1=> ?_
 refine oo 5 ?_;refine Zb call113 (aE _) (Lex_ok) ?_;rintro _ _ (⟨L,la,lc,hx,rfl,rfl⟩|⟨hx,y,z,e,he,rfl,rfl⟩)
 . obtain ⟨hn,hT⟩:=lexO_fin hx;have r:=Sb hx;obtain ⟨S,hS⟩: ∃ S,Vh (10*L.length+20) (L.length+1) L=S:=⟨_,rfl⟩;rw [hS] at r;have b0:=Zx (f:=tkC) (sz:=5) (fun _=>rfl) L;refine oo 4 ?_;refine bW zeroValue107 fun n2=> ?_
   refine rn [1,0,8,1020,6] ?_;refine Ww fun n3=> ?_
   refine ox 8 ?_;have f0:MoreD L S (10*L.length+20) (L.length+1) [] 0 false:= .inl ⟨rfl,by rw [<-hS,gB];cases Vh (10*L.length+20) (L.length+1) L<;>rfl⟩;refine aY (cG (fun (h:(Option Addr×Nat×List Dec)×Nat×Bool×Nat)=>h.2.1<=L.length/\(h.2.2.1=false->L.length - h.2.1<h.2.2.2/\h.1.2.2.length<=h.2.1)/\h.1.2.2.length<=h.2.1+1/\MoreD L S (10*L.length+20) h.2.2.2 (h.1.2.2.map Dec.er) h.2.1 h.2.2.1) (fun h=> [(9,.slice h.1.1 h.1.2.2.length h.1.2.1),(8,pt n3),(5,.slice la L.length lc),(0,.string s),(2,.slice none 0 0),(3,pt n1),(4,I64 0)]) (fun h=>rdH n3 la lc L h.2.1 h.2.2.1::rsH dcC 6 229 h.1.1 h.1.2.1 (h.1.2.2)::dcsM h.1.2.2::rsH tkC 5 234 la lc L::pto n1 As::(q++F)) (fun h=>2*(L.length - h.2.1)+(if h.2.2.1=true then 0 else 1)) (fun h j ih=> ?_) ((none,0, []),0,false,L.length+1) ⟨bB _,fun _=>⟨by dsimp only;omega,aL _⟩,by simp,f0⟩) Zu (aS leA (aS (Zi dcC 6 229 _) (aS I8 leA)));try dsimp only at j ih|-
   obtain ⟨j0,d0,q0,o⟩:=j;obtain ⟨⟨a,c,l⟩,n,b,g⟩:=h;dsimp only at*;clear f0;refine rn [6,0] ?_;refine Zt (bV rfl) ?_;refine oo 1 ?_;refine Zf [31,9,8,5,0,2,3,4] ?_;apply Zp 8 39 31 rfl
   . intro g1 M1;have p:=sp g1;refine rn [3,0,4] ?_;exact Zz M1 ⟨Wq g1,Zv⟩
   . intro g1 M1;have p:=sp g1;refine oo 8 ?_;exact Zz M1 ⟨Wz g1,Zv⟩
   refine ox 1 ?_;refine xp 39 ?_ ?_<;>intro p
   . refine xo 6 ?_;obtain ⟨rfl,h2⟩:b=false/\n<L.length:=⟨p.1,by have:=p.2;omega⟩;obtain ⟨s0,r0⟩:=d0 rfl;obtain ⟨g,rfl⟩: ∃ g2,g=g2+1:=⟨g - 1,by omega⟩;refine Zb call114 leA (decl_ok (f:=10*L.length+20) (n:=n) (bad:=false) (L:=L) (Sees.le (bE _) Zk) hn j0 hT (by omega)) ?_;rintro _ _ ⟨d,m2,b2,rfl,rfl,⟨o0,w⟩,n0,h0⟩;refine bQ (Yz (u:=d) dcC underlying161 Cg rfl rfl (fun _=>rfl) rfl) ?_;rintro _ _ ⟨g2,rfl,rfl⟩;refine bQ (Z9 (f:=dcC) (l:=l) (m:= [d]) underlying161 Cg rfl rfl (fun _=>rfl) rfl rfl Zk ((bE _).le Zk) (fun _=>rfl) (by simp;omega) (by simp;omega)) ?_;rintro _ _ ⟨a3,c3,rfl,rfl⟩;refine ox 3 ?_;refine X.dcs (l:=l) (s:=d) Zk Zk ?_;refine aY (ih ((a3,c3,l++ [d]),m2,b2,g) ⟨n0,fun hb=>⟨by have:=w hb;dsimp only;omega,by have:=w hb;simp;omega⟩,by simp;omega,by rw [aM];exact o.go h2 h0⟩ (by dsimp only;cases b2 with|true=>simp;omega|false=>have:=w rfl;simp;omega)) Zu leA
   refine rn [8,0,1] ?_;refine xp 48 ?_ ?_<;>intro h2
   . refine rn [7,0,4] ?_;refine xp 55 ?_ ?_<;>intro h3
     . refine xo 4 ?_;refine Zb call115 (aE _) (End_ok (s:=s) (by have:=hx;unfold Rt at this;split at this;cases this;rw [<-Ko];omega)) ?_;rintro _ _ ⟨y,z,rfl,rfl⟩;refine rn [1,0,2] ?_;subst h2;have x:=o.bad;refine Zq (q) func76 (T9 results76) ⟨_,rfl,.inr ⟨by rw [r,x],y,z,120,by first|assumption|decide,rfl,rfl⟩⟩
     refine rn [3,0,1,2,3,4,5] ?_;have i:n<L.length:=by omega
     refine K5 (bE (f:=tkC) (sz:=5) (ty:=234) (a:=la) (c:=lc) (l:=L) []) (by rw [b0];omega) fun b1 o1 e1=> ?_;subst e1;refine dd [5,6] ?_;refine XD.rdCs 7 (us:= [I64 L[n].ln,I64 L[n].cl]) rfl rfl isAgg107 sizeOf107 rfl (fun k v hk=>by match k,hk with|0,hk=>cases hk;exact cT (n:=n) (bE (f:=tkC) (sz:=5) (ty:=234) (c:=lc) (l:=L) []) leA (fun _=>rfl) i rfl 3 _ rfl|1,hk=>cases hk;exact cT (n:=n) (bE (f:=tkC) (sz:=5) (ty:=234) (c:=lc) (l:=L) []) leA (fun _=>rfl) i rfl 4 _ rfl) ?_;refine rn [9,10,11,0] ?_;subst h2;have x:=o.bad;refine Zq (q) func76 (T9 results76) ⟨_,rfl,.inr ⟨by rw [r,x],L[n].ln,L[n].cl,120,by first|assumption|decide,rfl,rfl⟩⟩
   refine xx 8 ?_;subst h2;replace p:L.length<=n:=by rcases p with p|p;cases p;omega
   obtain ⟨g,rfl⟩: ∃ g2,g=g2+1:=⟨g - 1,by have:=(d0 rfl).1;omega⟩;have m0:=o.over p;rw [m0] at r hS;dsimp only at r;have l0: ∀ d∈l,Wg 1000000 (Zj d.body):=fun d hd=>Q4 (by omega) ((Tz (aL _) hS).2 d.er (aP hd)).1
   refine X.fzD (m:=l) ?_;have c0:Kn [dsM a c l] fun M=>DcsAt M a c l:=fL;have g0:=Ow c0;have k0:=Zx (f:=dcC) (sz:=6) (fun _=>rfl) l;clear ih o
   refine aY (cG (fun (k:Nat×Option Addr)=>k.1<=l.length/\k.2=a/\((l).map Dec.er).any (fun d=>Yq d.body 1)=((l.drop k.1).map Dec.er).any (fun d=>Yq d.body 1)) (fun k=> [(10,I64 (k.1:Int)),(9,.slice k.2 l.length c),(2,.slice none 0 0),(3,pt n1),(4,I64 0)]) (fun k=>dsM a c l::pto n1 As::(q++F)) (fun k=>l.length - k.1) (fun k j a0=> ?_) (0,a) ⟨bB _,rfl,rfl⟩) Zu leA;try dsimp only at j a0|-
   obtain ⟨p0,i0,t⟩:=j;obtain ⟨k,a2⟩:=k;dsimp only at*;subst i0;refine xx 8 ?_;refine xp 69 ?_ ?_<;>intro h3
   . have i:k<l.length:=by omega
     have e0:l.drop k=l[k]::l.drop (k+1):=aJ i;refine Yd g0 (by rw [k0];omega) fun b2 o2 e2=> ?_;subst e2;refine rn [10,0] ?_;refine Zb call116 (aE _) (X8 _ l[k].body l[k].ba l[k].bc 1 (aL _) (l0 _ (aB i)) (by decide) ((Kn.dsI c0 i).le leA)) ?_;rintro _ _ ⟨pl,pc,rfl,rfl⟩;refine oo 3 ?_;refine bW zeroValue107 fun n4=> ?_
     refine rn [0,6] ?_;refine xp 81 ?_ ?_<;>intro h4
     . refine rn [2,0,1,2,3,4,0] ?_;refine Zq (q) func76 (T9 results76) ⟨_,rfl,.inr ⟨by rw [r,t,e0,if_pos (by rw [bP,iD];simp only [Dec.er];rw [h4];rfl)],pl,pc,121,by first|assumption|decide,rfl,rfl⟩⟩
     refine xx 8 ?_;refine aY (a0 (k+1,_) ⟨by dsimp only;omega,rfl,by rw [t,e0,bP,iD];simp only [Dec.er];rw [h4];rfl⟩ (by dsimp only;omega)) Zu leA
   obtain rfl:k=l.length:=by omega
   refine rn [7,0,2] ?_;refine Zq (dsM a2 c l::q) func76 (T9 results76) ⟨_,rfl,.inl ⟨l,a2,c,by rw [r,t,dP,if_neg (by simp)],rfl,rfl⟩⟩
 have r:=Sf hx;refine oo 4 ?_;refine bW zeroValue107 fun n2=> ?_
 refine rn [1,0,8] ?_;refine X.kt 20 ?_ rfl (by simpa using he);refine rn [2,0,1,2,3,4,5,0] ?_;refine Zq (q) func76 (T9 results76) ⟨_,rfl,.inr ⟨r,y,z,e,by first|assumption|decide,rfl,rfl⟩⟩
end
def nmS (w:Bs):Bool:=if w.length<1\/16<w.length\/Sr (w.getD 0 0)=false\/kwS w=true then false else w.all Nv
def Xp (k:Int):Nat:=if k=3\/k=4\/k=5 then 1 else if k=6 then 2 else 0
def Xb (k n:Int)(nm:Bs)(op:Int):Bool:=if k=1 then decide (0<=n) && decide (n<=2147483647) else if k=2\/k=3 then nmS nm else if k=6 then decide (1<=op) && decide (op<=11) else true
def Rz (k n:Int)(nm:Bs)(op:Int)(d:Nat):Bool:=decide ((d:Int)<1)||(k !=1 && n !=0)||(k !=2 && k !=3 && !(nm== []))||(k !=6 && op !=0)
mutual
def PEx.right:PEx->Nat->Bool
 | .mk k n nm _ _ op args,d=>if Rz k n (bs nm) op d=true then false else if 1<=k/\k<=6 then Xb k n (bs nm) op && decide (args.length=Xp k) && Y4 args (d - 1) else false
def Y4:List PEx->Nat->Bool
 | [],_=>true
 |e::r,d=>e.right d && Y4 r d
end
def PEx.nil:PEx->Bool
 | .mk k n nm _ _ op args=>k==0 && n==0 && bs nm== [] && op==0 && decide (args.length=0)
def hasN (k:Int):Bool:=k !=4 && k !=5 && decide (k<14)
def hasW (k:Int):Bool:=k==8||k==12
def E0 (k:Int):Bool:=decide (k<=5)||k==11||k==15
def Su (k:Int)(n:Nat):Bool:=decide (k<1)||decide (15<k)||decide (24<(n:Int))
def may2 (k:Int)(nm wt:Bs):Bool:=(hasN k !=nmS nm)||(!hasN k && !(nm== []))||(hasW k !=nmS wt)||(!hasW k && !(wt== []))
def Pz (k:Int)(e ix:PEx):Bool:=(E0 k && !e.right 24)||(!E0 k && !e.nil)||(k==3 && !ix.right 24)||(k !=3 && !ix.nil)
def Sp (k:Int)(b l:Nat):Bool:=(k !=4 && k !=5 && decide (0<(b:Int)))||(k !=4 && decide (0<(l:Int)))
mutual
def PStm.may:PStm->Nat->Bool
 | .mk k _ _ nm wt e ix body els _ _ _ _,n=>
  if Su k n=true then false else if may2 k (bs nm) (bs wt)=true then false else if Pz k e ix=true then false else if Sp k body.length els.length=true then false
  else PStm.mays body (n+1) && PStm.mays els (n+1)
def PStm.mays:List PStm->Nat->Bool
 | [],_=>true
 |s::r,n=>s.may n && PStm.mays r n
end
def Sd (k n:Int)(nm:Bs)(b:Nat)(m:Bool):Bool:=decide (k<1)||decide (6<k)|| !nmS nm||(k !=6 && decide (0<(b:Int)))||decide (2147483647<n)||decide (n< -2147483647)||(k !=1 && decide (n<0))||(k !=1 && k !=2 && k !=5 && n !=0)|| !m
def PDec.bad (d:PDec):Bool:=Sd d.k d.n (bs d.nm) d.body.length (PStm.mays d.body 1)
theorem X.join {f:Fc}{a:Item}{k:List Item}{α:Type}(E:α->PE)(C:α->List HP)(I:α->Prop)(hK: ∀ x,I x->X P G f Q k (E x) ds cs (C x))(h:(∀ x,I x->X P G f Q k (E x) ds cs (C x))->X P G f Q (a::k) p ds cs q):X P G f Q (a::k) p ds cs q:=h hK
abbrev kC:=@X.join
theorem aln_all (h:i<l.length):l.all Nv=((l.take i).all Nv && (Nv (l.getD i 0) && (l.drop (i+1)).all Nv)):=by
 conv=>lhs;rw [<-eS i l,aJ h]
 rw [kB,iB,gD h]
section
variable {x:Stm}{l:List Stm}{a:Option Addr}{c n d:Nat}
theorem C7:CallF prog G 155 [.string s] (q) (Ret fun v q'=>v= .bool (nmS (bs s))/\q'=q):=by
 refine aC func155 ntmps155 rfl fun F cs=> ?_;have u:=Ko s;refine xo 11 ?_;refine Zf [7,2,0] ?_;apply Zy 4 11 7 rfl
 . intro a e;have b:=sp a;refine oo 4 ?_;exact Zz e ⟨orF a,Zv⟩
 . intro a e;have b:=sp a;refine oo 4 ?_;exact Zz e ⟨orT a,Zv⟩
 refine oo 1 ?_;refine Zf [12,2,0] ?_;apply Zy 5 17 12 rfl
 . intro a e;have b:=sp a;refine oo 1 ?_;refine Zt (Wb rfl rfl underlying9 (by omega) (by omega)) ?_;refine bA 14 (.int .u8 (((bs s).getD 0 0).toNat:Int)) rfl (rfl) ?_;refine aO call182 (Ta (c:=(bs s).getD 0 0)) ?_;refine Zt (bV rfl) ?_;refine oo 1 ?_;exact Zz e ⟨orF a,Zv⟩
 . intro a e;have b:=sp a;refine oo 5 ?_;exact Zz e ⟨orT a,Zv⟩
 refine oo 1 ?_;refine Zf [18,2,0] ?_;apply Zy 3 21 18 rfl
 . intro a e;have b:=sp a;refine oo 1 ?_;refine aO call179 (Jx) ?_;refine oo 1 ?_;exact Zz e ⟨orF a,Zv⟩
 . intro a e;have b:=sp a;refine oo 3 ?_;exact Zz e ⟨orT a,Zv⟩
 refine ox 1 ?_;refine xp 21 ?_ ?_<;>intro b
 . refine xx 5 ?_;refine Zq (q) func155 (Zn results155 rfl) ⟨_,rfl,by unfold nmS;rw [if_pos];rcases b with ((b|b)|b)|b;exact .inl (by omega);exact .inr (.inl (by omega));exact .inr (.inr (.inl (by simpa using b)));exact .inr (.inr (.inr b)),rfl⟩
 refine xx 8 ?_;have w:s.size<=16:=by have:=b.1.1.2;omega
 have r:nmS (bs s)=(bs s).all Nv:=by unfold nmS;rw [if_neg];rintro (h|h|h|h)<;>first|omega|simp_all
 refine aY (cG (fun (k:Nat)=>k<=s.size/\((bs s).take k).all Nv=true) (fun k=> [(3,I64 k),(0,.string s),(2,.bool false)]) (fun k=>(q++F)) (fun k=>s.size - k) (fun k j p=> ?_) 0 ⟨bB _,rfl⟩) Zu leA;try dsimp only at j p|-
 obtain ⟨t,g⟩:=j;refine xx 8 ?_;refine xp 25 ?_ ?_<;>intro x
 . refine xo 8 ?_;refine Zt (Wb rfl rfl underlying9 (by omega) (by omega)) ?_;refine bA 30 (AQ s k) rfl (rfl) ?_;refine aO call182 (Ta (c:=(bs s).getD k 0)) ?_;refine Zt (bV rfl) ?_;refine oo 1 ?_;refine Zf [33,3,0,2] ?_;apply Zp 6 39 33 rfl
   . intro l o;have m:=sp l;refine oo 2 ?_;refine Zt (Wb rfl rfl underlying9 (by omega) (by omega)) ?_;refine bA 36 (AQ s k) rfl (rfl) ?_;refine aO call177 (Tq (c:=(bs s).getD k 0)) ?_;refine Zt (bV rfl) ?_;refine oo 1 ?_;exact Zz o ⟨Wq l,Zv⟩
   . intro l o;have m:=sp l;refine oo 6 ?_;exact Zz o ⟨Wz l,Zv⟩
   refine ox 1 ?_;refine xp 39 ?_ ?_<;>intro m
   . refine xx 5 ?_;refine Zq (q) func155 (Zn results155 rfl) ⟨_,rfl,by rw [r,aln_all (i:=k) (by omega)];have n:Nv ((bs s).getD k 0)=false:=(by unfold Nv;revert m;cases Sr ((bs s).getD k 0)<;>cases Qo ((bs s).getD k 0)<;>simp);rw [n];simp,rfl⟩
   refine xx 8 ?_;have f:k<(bs s).length:=(by omega);have n:Nv ((bs s).getD k 0)=true:=by unfold Nv;revert m;cases Sr ((bs s).getD k 0)<;>cases Qo ((bs s).getD k 0)<;>simp
   refine aY (p (k+1) ⟨by omega,by rw [aH f,kB,g,<-gD (d:=0) f];simp only [iB,n,List.all_nil];rfl⟩ (by omega)) Zu leA
 refine xx 6 ?_;refine Zq (q) func155 (Zn results155 rfl) ⟨_,rfl,by rw [r,<-g,eO (by omega)],rfl⟩
theorem Sw (IH: ∀ x:Ex,x.sz<e.sz-> ∀ {d:Nat} {q:List HP},d<=9223372036854775807->(Kn q fun M=>x.At M)->CallF prog G 202 [.agg (exC x).toArray,I64 d] q (Ret fun v q'=>v= .bool (x.er.right d)/\q'=q))(hd:d<=9223372036854775807)(h:Kn q fun M=>e.At M):CallF prog G 202 [.agg (exC e).toArray,I64 d] (q) (Ret fun v q'=>v= .bool (e.er.right d)/\q'=q):=by
 refine aC func202 ntmps202 rfl fun F cs=> ?_;obtain ⟨k,z,nm,sl,lo,op,args,aa,ac⟩:=e;have hA:=Ov h;have a0:=Zx (f:=exC) (sz:=7) Z4 args;have d0:=W9 args;refine iR (fun w s=>Kn.exL (h.le leA) s) fun i0=> ?_;have j:(Ex.mk k z nm sl lo op args aa ac).er.right d=if Rz k z (bs nm) op d=true then false else if 1<=k/\k<=6 then Xb k z (bs nm) op && decide (args.length=Xp k) && Y4 (Z3 args) (d - 1) else false:=by simp only [Ex.er,PEx.right,d0]
 obtain ⟨R,e0⟩: ∃ R,(Ex.mk k z nm sl lo op args aa ac).er.right d=R:=⟨_,rfl⟩;rw [e0] at j|-;refine xo 2 ?_;refine Ww fun n1=> ?_
 refine oo 8 ?_;refine Zf [10,4,2,1] ?_;apply Zy 9 19 10 rfl
 . intro a g;have b:=sp a;refine rn [1,0,2] ?_;refine Zf [14,10,4,2,1] ?_;apply Zp 4 18 14 rfl
   . intro c i;have p:=sp c;refine rn [1,0,2] ?_;exact Zz i ⟨Wq c,Zv⟩
   . intro c i;have p:=sp c;refine oo 4 ?_;exact Zz i ⟨Wz c,Zv⟩
   refine oo 1 ?_;exact Zz g ⟨orF a,Zv⟩
 . intro a g;have b:=sp a;refine oo 9 ?_;exact Zz g ⟨orT a,Zv⟩
 refine oo 1 ?_;refine Zf [20,4,2,1] ?_;apply Zy 14 34 20 rfl
 . intro a g;have b:=sp a;refine rn [1,0,2] ?_;refine Zf [24,20,4,2,1] ?_;apply Zp 4 28 24 rfl
   . intro c i;have p:=sp c;refine rn [1,0,2] ?_;exact Zz i ⟨Wq c,Zv⟩
   . intro c i;have p:=sp c;refine oo 4 ?_;exact Zz i ⟨Wz c,Zv⟩
   refine oo 1 ?_;refine Zf [29,20,4,2,1] ?_;apply Zp 4 33 29 rfl
   . intro c i;have p:=sp c;refine rn [1,0,2] ?_;exact Zz i ⟨Wq c,Zv⟩
   . intro c i;have p:=sp c;refine oo 4 ?_;exact Zz i ⟨Wz c,Zv⟩
   refine oo 1 ?_;exact Zz g ⟨orF a,Zv⟩
 . intro a g;have b:=sp a;refine oo 14 ?_;exact Zz g ⟨orT a,Zv⟩
 refine oo 1 ?_;refine Zf [35,4,2,1] ?_;apply Zy 9 44 35 rfl
 . intro a g;have b:=sp a;refine rn [1,0,2] ?_;refine Zf [39,35,4,2,1] ?_;apply Zp 4 43 39 rfl
   . intro c i;have p:=sp c;refine rn [1,0,2] ?_;exact Zz i ⟨Wq c,Zv⟩
   . intro c i;have p:=sp c;refine oo 4 ?_;exact Zz i ⟨Wz c,Zv⟩
   refine oo 1 ?_;exact Zz g ⟨orF a,Zv⟩
 . intro a g;have b:=sp a;refine oo 9 ?_;exact Zz g ⟨orT a,Zv⟩
 refine ox 1 ?_;refine dR 44 rfl ?_ ?_<;>intro b
 . have l:Rz k z (bs nm) op d=true:=by rw [Sk] at b;unfold Rz;rw [<-b];simp only [eN,eG];rfl
   refine xx 5 ?_;refine Zq (q) func202 (Zn results202 rfl) ⟨_,rfl,by rw [j,if_pos l],rfl⟩
 have l: ¬Rz k z (bs nm) op d=true:=by rw [Sk] at b;intro l;rw [<-Bool.not_eq_true] at b;apply b;rw [<-l];unfold Rz;simp only [eN,eG];rfl
 rw [if_neg l] at j;have h0:1<=d:=by rcases dQ d 1 with hx|hx;exact aR (by unfold Rz;rw [show decide ((d:Int)<1)=true from aN (by omega)];rfl) l;exact hx
 refine rn [11,0,1] ?_;refine kC (fun (x:Nat×Bool)=> [(5,I64 (x.1:Nat)),(6,.bool x.2),(2,pt n1),(1,I64 d),(4,.bool false)]) (fun x=>pto n1 (.cells (exC (.mk k z nm sl lo op args aa ac)).toArray 124 (0,0))::(q++F)) (fun x=>R=(x.2 && decide (args.length=x.1) && Y4 (Z3 args) (d - 1))/\x.1<=2) (fun x y=> ?_) fun K=> ?_
 . obtain ⟨m,ok⟩:=x;dsimp only at y|-;obtain ⟨r,f0⟩:=y;refine xo 4 ?_;refine Zt (bV rfl) ?_;refine oo 1 ?_;refine Zf [82,5,2,1,4] ?_;apply Zy 6 88 82 rfl
   . intro a g;have b:=sp a;refine rn [1,0,4] ?_;exact Zz g ⟨orF a,Zv⟩
   . intro a g;have b:=sp a;refine oo 6 ?_;exact Zz g ⟨orT a,Zv⟩
   refine ox 1 ?_;refine xp 88 ?_ ?_<;>intro b
   . refine xx 5 ?_;refine Zq (q) func202 (Zn results202 rfl) ⟨_,rfl,by rw [r];rcases b with b|b;rw [b];rfl;rw [show decide (args.length=m)=false from aW (by omega)];simp,rfl⟩
   refine xx 8 ?_;obtain ⟨b,p⟩:=b;obtain rfl:m=args.length:=by omega
   rw [b,aN rfl,gI,gI] at r;refine aY (cG (fun (s:Nat×Option Addr)=>s.1<=args.length/\R=Y4 (Z3 (args.drop s.1)) (d - 1)) (fun s=> [(7,I64 (s.1:Int)),(5,I64 args.length),(2,pt n1),(1,I64 d),(4,.bool false)]) (fun s=>pto n1 (.cells (exC (.mk k z nm sl lo op args aa ac)).toArray 124 (0,0))::(q++F)) (fun s=>args.length - s.1) (fun s b0 ih=> ?_) (0,none) ⟨bB _,r⟩) Zu leA;try dsimp only at b0 ih|-
   obtain ⟨g0,t⟩:=b0;obtain ⟨s,sx⟩:=s;dsimp only at*;refine xx 7 ?_;refine xp 91 ?_ ?_<;>intro t1
   . refine rn [7,0,1] ?_;have o:s<args.length:=by omega
     have c0:Y4 (Z3 (args.drop s)) (d - 1)=(args[s].er.right (d - 1) && Y4 (Z3 (args.drop (s+1))) (d - 1)):=by rw [aJ o];rfl
     refine K1 hA (by rw [a0];omega) fun b1 o1 e1=> ?_;subst e1;refine oo 1 ?_;refine Nw (n:=s) isAgg124 sizeOf124 hA o ?_ (hf:=Z4);refine oo 2 ?_;refine bA 100 (I64 ((d - 1:Nat):Int)) rfl (bK (Value.int .i64) (by omega)) ?_;refine aO call202 (IH args[s] (by have:=Vx (aB o);simp only [Ex.sz];omega) (d:=d - 1) (by omega) (Ok (h.le leA) o)) ?_;refine Zt (bV rfl) ?_;refine ox 1 ?_;refine xp 102 ?_ ?_<;>intro t2
     . refine xx 5 ?_;refine Zq (q) func202 (Zn results202 rfl) ⟨_,rfl,by rw [t,c0,t2];rfl,rfl⟩
     refine xx 8 ?_;refine aY (ih (s+1,none) ⟨by dsimp only;omega,by rw [t,c0,t2];rfl⟩ (by dsimp only;omega)) Zu leA
   refine xx 6 ?_;refine Zq (q) func202 (Zn results202 rfl) ⟨_,rfl,by obtain rfl:s=args.length:=(by omega);rw [t,dP];rfl,rfl⟩
 have u:k=1\/k=2\/k=3\/k=4\/k=5\/k=6\/ ¬ (1<=k/\k<=6):=by omega
 rcases u with rfl|rfl|rfl|rfl|rfl|rfl|u
 . rw [if_pos (by decide)] at j;refine rn [6,2047,3,0,2] ?_;refine Zf [52,6,5,4,2,1] ?_;apply Zp 4 56 52 rfl
   . intro a g;have b:=sp a;refine rn [1,0,2] ?_;exact Zz g ⟨Wq a,Zv⟩
   . intro a g;have b:=sp a;refine oo 4 ?_;exact Zz g ⟨Wz a,Zv⟩
   refine ox 3 ?_;exact aY (K (0,(decide (0<=z) && decide (z<=2147483647))) ⟨j,show 0<=2 by decide⟩) Zu leA
 . rw [if_pos (by decide)] at j;refine rn [6,1047,6,2057,3,0] ?_;refine aO call155 (C7 (s:=nm)) ?_;refine ox 3 ?_;exact aY (K (0,nmS (bs nm)) ⟨j,show 0<=2 by decide⟩) Zu leA
 iterate 4
  focus
   rw [if_pos (by decide)] at j;refine rn [6,1047,6,1057,6] ?_
  rotate_left
 . rw [if_neg u] at j;refine rn [6,1047,6,1057,6,1062,7,1067,5,1067,6,1070,5] ?_;refine Zq (q) func202 (Zn results202 rfl) ⟨_,rfl,by rw [j],rfl⟩
 . refine rn [2062,3,0] ?_;refine aO call155 (C7 (s:=nm)) ?_;refine ox 4 ?_;exact aY (K (1,nmS (bs nm)) ⟨j,show 1<=2 by decide⟩) Zu leA
 . refine rn [1062,7,2067,7] ?_;exact aY (K (1,true) ⟨j,show 1<=2 by decide⟩) Zu leA
 . refine rn [1062,7,1067,5,2067,5] ?_;exact aY (K (1,true) ⟨j,show 1<=2 by decide⟩) Zu leA
 refine rn [1062,7,1067,5,1067,6,2070,1,0,1,2,3,4,9] ?_;refine D4 [5,75,4,2,1] ?_;apply Mb 1 [0,1,2,3,4,5,6,7,8] 79 75 rfl
 . intro a g;have b:=sp a;refine rn [5,6,7,8] ?_;exact Ul g ⟨Wq a,Zv⟩
 . intro a g;have b:=sp a;refine dd [4,5,6,7] ?_;exact Ul g ⟨Wz a,Zv⟩
 intro L_;refine rn [10,0,1] ?_;exact aY (K (2,(decide (1<=op) && decide (op<=11))) ⟨j,show 2<=2 by decide⟩) Zu leA
theorem Bt: ∀ (m:Nat) (e:Ex),e.sz<=m-> ∀ {d:Nat} {q:List HP},d<=9223372036854775807->(Kn q fun M=>e.At M)->CallF prog G 202 [.agg (exC e).toArray,I64 d] q (Ret fun v q'=>v= .bool (e.er.right d)/\q'=q)
 |m,e,hm,d,_,hd,h=>Sw (fun x c f _ a b=>by
  cases m with
  |zero=>omega
  |succ m=>exact Bt m x (by omega) a b) hd h
theorem Dv:CallF prog G 203 [.agg (exC e).toArray] (q) (Ret fun v q'=>v= .bool e.er.nil/\q'=q):=by
 refine aC func203 ntmps203 rfl fun F cs=> ?_;obtain ⟨k,z,nm,f,lo,op,args,aa,ac⟩:=e;have d:=W9 args;refine xo 2 ?_;refine Ww fun g=> ?_
 refine rn [5,0,2] ?_;refine Zf [6,2,1] ?_;apply Zp 4 10 6 rfl
 . intro a b;have c:=sp a;refine rn [1,0,2] ?_;exact Zz b ⟨Wq a,Zv⟩
 . intro a b;have c:=sp a;refine oo 4 ?_;exact Zz b ⟨Wz a,Zv⟩
 refine oo 1 ?_;refine Zf [11,2,1] ?_;apply Zp 4 15 11 rfl
 . intro a b;have c:=sp a;refine rn [1,0,2] ?_;exact Zz b ⟨Wq a,Zv⟩
 . intro a b;have c:=sp a;refine oo 4 ?_;exact Zz b ⟨Wz a,Zv⟩
 refine oo 1 ?_;refine Zf [16,2,1] ?_;apply Zp 4 20 16 rfl
 . intro a b;have c:=sp a;refine rn [1,0,2] ?_;exact Zz b ⟨Wq a,Zv⟩
 . intro a b;have c:=sp a;refine oo 4 ?_;exact Zz b ⟨Wz a,Zv⟩
 refine oo 1 ?_;refine Zf [21,2,1] ?_;apply Zp 5 26 21 rfl
 . intro a b;have c:=sp a;refine rn [1,0,3] ?_;exact Zz b ⟨Wq a,Zv⟩
 . intro a b;have c:=sp a;refine oo 5 ?_;exact Zz b ⟨Wz a,Zv⟩
 refine ox 2 ?_;refine Zq (q) func203 (Zn results203 rfl) ⟨_,rfl,by simp only [Ex.er,PEx.nil,d];rw [Sk];congr 1;rw [show decide (args.length=0)=((args.length:Int)==0) by rw [cJ];simp];rfl,rfl⟩
theorem L9 (IH: ∀ (m:List Stm) (a:Option Addr) (c n:Nat),Zm m<x.sz-> ∀ {q:List HP},(Kn q fun M=>BlkAt M a c m)->CallF prog G 156 [.slice a m.length c,I64 n] q (Ret fun v q'=>v= .bool (PStm.mays (Zj m) n)/\q'=q))(h:Kn q fun M=>x.At M):CallF prog G 183 [.agg (stC x).toArray,I64 n] (q) (Ret fun v q'=>v= .bool (x.er.may n)/\q'=q):=by
 refine aC func183 ntmps183 rfl fun F cs=> ?_;obtain ⟨k,ln,cl,nm,wt,⟨k1,t,s1,l1,o1,p1,w,u1,w1⟩,⟨k2,r,s2,l2,o2,p2,u,z,y⟩,body,els,ba,bc,ea,ec,id,slot,other,loc⟩:=x;have hE:=Oz h;have hX:=I9 h;have hB:=Oj h;have hL:=Oq h;have b0:=Zg body;have a0:=Zg els;obtain ⟨R,l⟩: ∃ R,(Stm.er (.mk k ln cl nm wt (.mk k1 t s1 l1 o1 p1 w u1 w1) (.mk k2 r s2 l2 o2 p2 u z y) body els ba bc ea ec id slot other loc)).may n=R:=⟨_,rfl⟩;rw [l];simp only [Stm.er,PStm.may,b0,a0] at l;refine xo 2 ?_;refine Ww fun n1=> ?_
 refine rn [5,0,8] ?_;refine Zf [13,5,4,2,1] ?_;apply Zy 3 16 13 rfl
 . intro b f;have g:=sp b;refine oo 3 ?_;exact Zz f ⟨orF b,Zv⟩
 . intro b f;have g:=sp b;refine oo 3 ?_;exact Zz f ⟨orT b,Zv⟩
 refine oo 1 ?_;refine Zf [17,5,4,2,1] ?_;apply Zy 3 20 17 rfl
 . intro b f;have g:=sp b;refine oo 3 ?_;exact Zz f ⟨orF b,Zv⟩
 . intro b f;have g:=sp b;refine oo 3 ?_;exact Zz f ⟨orT b,Zv⟩
 refine ox 1 ?_;refine dR 20 rfl ?_ ?_<;>intro c1
 . have d1:Su k n=true:=by unfold Su;first|exact c1|(rw [<-c1];simp only [eN,eG];rfl)
   rw [if_pos d1] at l;refine xx 5 ?_;refine Zq (q) func183 (Zn results183 rfl) ⟨_,rfl,by rw [l],rfl⟩
 have d1:Su k n=false:=by unfold Su;first|exact c1|(rw [<-c1];simp only [eN,eG];rfl)
 rw [if_neg (by rw [d1];decide)] at l;have e1:=sp c1;have c0:n<=24:=by omega
 refine xo 7 ?_;refine Zf [23,5,4,2,1] ?_;apply Zp 3 26 23 rfl
 . intro b f;have g:=sp b;refine oo 3 ?_;exact Zz f ⟨Wq b,Zv⟩
 . intro b f;have g:=sp b;refine oo 3 ?_;exact Zz f ⟨Wz b,Zv⟩
 refine oo 1 ?_;refine Zf [27,5,4,2,1] ?_;apply Zp 3 30 27 rfl
 . intro b f;have g:=sp b;refine oo 3 ?_;exact Zz f ⟨Wq b,Zv⟩
 . intro b f;have g:=sp b;refine oo 3 ?_;exact Zz f ⟨Wz b,Zv⟩
 refine oo 7 ?_;refine Zf [33,6,5,4,2,1] ?_;apply Zy 3 36 33 rfl
 . intro b f;have g:=sp b;refine oo 3 ?_;exact Zz f ⟨orF b,Zv⟩
 . intro b f;have g:=sp b;refine oo 3 ?_;exact Zz f ⟨orT b,Zv⟩
 refine oo 7 ?_;refine Zf [39,7,6,5,4,2,1] ?_;apply Zy 3 42 39 rfl
 . intro b f;have g:=sp b;refine oo 3 ?_;exact Zz f ⟨orF b,Zv⟩
 . intro b f;have g:=sp b;refine oo 3 ?_;exact Zz f ⟨orT b,Zv⟩
 refine oo 1 ?_;refine Zf [43,7,6,5,4,2,1] ?_;apply Zy 3 46 43 rfl
 . intro b f;have g:=sp b;refine oo 3 ?_;exact Zz f ⟨orF b,Zv⟩
 . intro b f;have g:=sp b;refine oo 3 ?_;exact Zz f ⟨orT b,Zv⟩
 refine rn [7,0] ?_;refine aO call155 (C7 (s:=nm)) ?_;refine oo 2 ?_;refine Zf [52,8,7,6,5,4,2,1] ?_;apply Zy 8 60 52 rfl
 . intro b f;have g:=sp b;refine oo 1 ?_;refine Zt (bV rfl) ?_;refine oo 1 ?_;refine Zf [55,52,8,7,6,5,4,2,1] ?_;apply Zp 4 59 55 rfl
   . intro i j;have o:=sp i;refine rn [1,0,2] ?_;exact Zz j ⟨Wq i,Zv⟩
   . intro i j;have o:=sp i;refine oo 4 ?_;exact Zz j ⟨Wz i,Zv⟩
   refine oo 1 ?_;exact Zz f ⟨orF b,Zv⟩
 . intro b f;have g:=sp b;refine oo 8 ?_;exact Zz f ⟨orT b,Zv⟩
 refine oo 1 ?_;refine Zf [61,8,7,5,4,2,1] ?_;apply Zy 6 67 61 rfl
 . intro b f;have g:=sp b;refine rn [2,0] ?_;refine aO call155 (C7 (s:=wt)) ?_;refine oo 2 ?_;exact Zz f ⟨orF b,Zv⟩
 . intro b f;have g:=sp b;refine oo 6 ?_;exact Zz f ⟨orT b,Zv⟩
 refine oo 1 ?_;refine Zf [68,8,7,5,4,2,1] ?_;apply Zy 8 76 68 rfl
 . intro b f;have g:=sp b;refine oo 1 ?_;refine Zt (bV rfl) ?_;refine oo 1 ?_;refine Zf [71,68,8,7,5,4,2,1] ?_;apply Zp 4 75 71 rfl
   . intro i j;have o:=sp i;refine rn [1,0,2] ?_;exact Zz j ⟨Wq i,Zv⟩
   . intro i j;have o:=sp i;refine oo 4 ?_;exact Zz j ⟨Wz i,Zv⟩
   refine oo 1 ?_;exact Zz f ⟨orF b,Zv⟩
 . intro b f;have g:=sp b;refine oo 8 ?_;exact Zz f ⟨orT b,Zv⟩
 refine ox 1 ?_;refine dR 76 rfl ?_ ?_<;>intro p
 . have d2:may2 k (bs nm) (bs wt)=true:=by rw [Sk,Sk] at p;unfold may2 hasN hasW;first|exact p|(rw [<-p];simp only [eN,eG];rfl)
   rw [if_pos d2] at l;refine xx 5 ?_;refine Zq (q) func183 (Zn results183 rfl) ⟨_,rfl,by rw [l],rfl⟩
 have d2:may2 k (bs nm) (bs wt)=false:=by rw [Sk,Sk] at p;unfold may2 hasN hasW;first|exact p|(rw [<-p];simp only [eN,eG];rfl)
 rw [if_neg (by rw [d2];decide)] at l;refine xo 7 ?_;refine Zf [78,8,5,4,2,1] ?_;apply Zp 5 83 78 rfl
 . intro b f;have g:=sp b;refine rn [1,0] ?_;refine aO call202 (Bt _ (.mk k1 t s1 l1 o1 p1 w u1 w1) (aL _) (d:=24) (by decide) (hE.le leA)) ?_;refine Zt (bV rfl) ?_;refine oo 1 ?_;exact Zz f ⟨Wq b,Zv⟩
 . intro b f;have g:=sp b;refine oo 5 ?_;exact Zz f ⟨Wz b,Zv⟩
 refine oo 1 ?_;refine Zf [84,8,5,4,2,1] ?_;apply Zy 9 93 84 rfl
 . intro b f;have g:=sp b;refine oo 1 ?_;refine Zt (bV rfl) ?_;refine oo 1 ?_;refine Zf [87,84,8,5,4,2,1] ?_;apply Zp 5 92 87 rfl
   . intro i j;have o:=sp i;refine rn [1,0] ?_;refine aO call203 (Dv (e:=(.mk k1 t s1 l1 o1 p1 w u1 w1))) ?_;refine Zt (bV rfl) ?_;refine oo 1 ?_;exact Zz j ⟨Wq i,Zv⟩
   . intro i j;have o:=sp i;refine oo 5 ?_;exact Zz j ⟨Wz i,Zv⟩
   refine oo 1 ?_;exact Zz f ⟨orF b,Zv⟩
 . intro b f;have g:=sp b;refine oo 9 ?_;exact Zz f ⟨orT b,Zv⟩
 refine oo 1 ?_;refine Zf [94,5,4,2,1] ?_;apply Zy 9 103 94 rfl
 . intro b f;have g:=sp b;refine oo 3 ?_;refine Zf [97,94,5,4,2,1] ?_;apply Zp 5 102 97 rfl
   . intro i j;have o:=sp i;refine rn [1,0] ?_;refine aO call202 (Bt _ (.mk k2 r s2 l2 o2 p2 u z y) (aL _) (d:=24) (by decide) (hX.le leA)) ?_;refine Zt (bV rfl) ?_;refine oo 1 ?_;exact Zz j ⟨Wq i,Zv⟩
   . intro i j;have o:=sp i;refine oo 5 ?_;exact Zz j ⟨Wz i,Zv⟩
   refine oo 1 ?_;exact Zz f ⟨orF b,Zv⟩
 . intro b f;have g:=sp b;refine oo 9 ?_;exact Zz f ⟨orT b,Zv⟩
 refine oo 1 ?_;refine Zf [104,5,4,2,1] ?_;apply Zy 9 113 104 rfl
 . intro b f;have g:=sp b;refine oo 3 ?_;refine Zf [107,104,5,4,2,1] ?_;apply Zp 5 112 107 rfl
   . intro i j;have o:=sp i;refine rn [1,0] ?_;refine aO call203 (Dv (e:=(.mk k2 r s2 l2 o2 p2 u z y))) ?_;refine Zt (bV rfl) ?_;refine oo 1 ?_;exact Zz j ⟨Wq i,Zv⟩
   . intro i j;have o:=sp i;refine oo 5 ?_;exact Zz j ⟨Wz i,Zv⟩
   refine oo 1 ?_;exact Zz f ⟨orF b,Zv⟩
 . intro b f;have g:=sp b;refine oo 9 ?_;exact Zz f ⟨orT b,Zv⟩
 refine ox 1 ?_;refine dR 113 rfl ?_ ?_<;>intro c3
 . have d3:Pz k (Ex.er (.mk k1 t s1 l1 o1 p1 w u1 w1)) (Ex.er (.mk k2 r s2 l2 o2 p2 u z y))=true:=by unfold Pz E0;first|exact c3|(rw [<-c3];simp only [eN,eG];rfl)
   rw [if_pos d3] at l;refine xx 5 ?_;refine Zq (q) func183 (Zn results183 rfl) ⟨_,rfl,by rw [l],rfl⟩
 have d3:Pz k (Ex.er (.mk k1 t s1 l1 o1 p1 w u1 w1)) (Ex.er (.mk k2 r s2 l2 o2 p2 u z y))=false:=by unfold Pz E0;first|exact c3|(rw [<-c3];simp only [eN,eG];rfl)
 rw [if_neg (by rw [d3];decide)] at l;refine xo 8 ?_;refine Zf [116,5,4,2,1] ?_;apply Zp 3 119 116 rfl
 . intro b f;have g:=sp b;refine oo 3 ?_;exact Zz f ⟨Wq b,Zv⟩
 . intro b f;have g:=sp b;refine oo 3 ?_;exact Zz f ⟨Wz b,Zv⟩
 refine oo 1 ?_;refine Zf [120,5,4,2,1] ?_;apply Zp 5 125 120 rfl
 . intro b f;have g:=sp b;refine rn [1,0,3] ?_;exact Zz f ⟨Wq b,Zv⟩
 . intro b f;have g:=sp b;refine oo 5 ?_;exact Zz f ⟨Wz b,Zv⟩
 refine oo 1 ?_;refine Zf [126,5,4,2,1] ?_;apply Zy 9 135 126 rfl
 . intro b f;have g:=sp b;refine oo 3 ?_;refine Zf [129,126,5,4,2,1] ?_;apply Zp 5 134 129 rfl
   . intro i j;have o:=sp i;refine rn [1,0,3] ?_;exact Zz j ⟨Wq i,Zv⟩
   . intro i j;have o:=sp i;refine oo 5 ?_;exact Zz j ⟨Wz i,Zv⟩
   refine oo 1 ?_;exact Zz f ⟨orF b,Zv⟩
 . intro b f;have g:=sp b;refine oo 9 ?_;exact Zz f ⟨orT b,Zv⟩
 refine ox 1 ?_;refine dR 135 rfl ?_ ?_<;>intro c4
 . have d4:Sp k body.length els.length=true:=by unfold Sp;first|exact c4|(rw [<-c4];simp only [eN,eG];rfl)
   rw [if_pos d4] at l;refine xx 5 ?_;refine Zq (q) func183 (Zn results183 rfl) ⟨_,rfl,by rw [l],rfl⟩
 have d4:Sp k body.length els.length=false:=by unfold Sp;first|exact c4|(rw [<-c4];simp only [eN,eG];rfl)
 rw [if_neg (by rw [d4];decide)] at l;refine rn [5,0,2] ?_;refine aO call156 (IH body ba bc (n+1) (by simp only [Stm.sz];omega) (hB.le leA)) ?_;refine oo 1 ?_;refine Zf [141,4,2,1] ?_;apply Zp 6 147 141 rfl
 . intro b f;have g:=sp b;refine rn [1,0,2] ?_;refine aO call156 (IH els ea ec (n+1) (by simp only [Stm.sz];omega) (hL.le leA)) ?_;refine oo 1 ?_;exact Zz f ⟨Wq b,Zv⟩
 . intro b f;have g:=sp b;refine oo 6 ?_;exact Zz f ⟨Wz b,Zv⟩
 refine ox 2 ?_;refine Zq (q) func183 (Zn results183 rfl) ⟨_,rfl,by rw [<-l],rfl⟩
abbrev B8 (v0:Stm)(v1:Nat)(v2:List HP):=(Ret fun v q'=>v= .bool (v0.er.may v1)/\q'=v2)
abbrev B4 (v0:Stm)(v1:Nat):=([.agg (stC v0).toArray,I64 v1]:List Value)
theorem T8 (IH: ∀ (x:Stm) (n:Nat),x.sz<=Zm l-> ∀ {q:List HP},(Kn q fun M=>x.At M)->CallF prog G 183 (B4 x n) q (B8 x n q))(h:Kn q fun M=>BlkAt M a c l):CallF prog G 156 (Ba a l c n) (q) (Ret fun v q'=>v= .bool (PStm.mays (Zj l) n)/\q'=q):=by
 refine aC func156 ntmps156 rfl fun F cs=> ?_;have k:=Ob h;have d:=Zx (f:=stC) (sz:=25) Z8 l;refine iR (fun w s=>Ox (h.le leA) s) fun o=> ?_;refine xx 10 ?_;refine aY (cG (fun (s:Nat×Option Addr)=>s.1<=l.length/\s.2=a/\PStm.mays (Zj l) n=PStm.mays (Zj (l.drop s.1)) n) (fun s=> [(5,I64 (s.1:Int)),(0,.slice s.2 l.length c),(1,I64 n),(4,.bool false)]) (fun s=>(q++F)) (fun s=>l.length - s.1) (fun s e j=> ?_) (0,a) ⟨bB _,rfl,rfl⟩) Zu leA;try dsimp only at e j|-
 obtain ⟨u,p,i⟩:=e;obtain ⟨s,a2⟩:=s;dsimp only at*;subst p;refine xx 8 ?_;refine xp 9 ?_ ?_<;>intro y
 . have b:s<l.length:=by omega
   have g:PStm.mays (Zj (l.drop s)) n=(l[s].er.may n && PStm.mays (Zj (l.drop (s+1))) n):=by rw [aJ b];rfl
   refine xo 8 ?_;refine K1 k (by rw [d];omega) fun z t r=> ?_;subst r;refine oo 1 ?_;refine Nw (n:=s) isAgg126 sizeOf126 k b ?_ (hf:=Z8);refine oo 1 ?_;refine aO call183 (IH l[s] n (Ub (aB b)) ((Oy h b).le leA)) ?_;refine Zt (bV rfl) ?_;refine ox 1 ?_;refine xp 18 ?_ ?_<;>intro m
   . refine xx 5 ?_;refine Zq (q) func156 (Zn results156 rfl) ⟨_,rfl,by rw [i,g,m];rfl,rfl⟩
   refine xx 8 ?_;refine aY (j (s+1,_) ⟨by dsimp only;omega,rfl,by rw [i,g,m];rfl⟩ (by dsimp only;omega)) Zu leA
 obtain rfl:s=l.length:=by omega
 refine xx 6 ?_;refine Zq (q) func156 (Zn results156 rfl) ⟨_,rfl,by rw [i,dP];rfl,rfl⟩
theorem may_ok: ∀ N:Nat,(∀ (x:Stm) (n:Nat),x.sz<=N-> ∀ {q:List HP},(Kn q fun M=>x.At M)->CallF prog G 183 (B4 x n) q (B8 x n q))/\
 (∀ (m:List Stm) (a:Option Addr) (c n:Nat),Zm m<=N-> ∀ {q:List HP},(Kn q fun M=>BlkAt M a c m)->CallF prog G 156 (Ba a m c n) q (Ret fun v q'=>v= .bool (PStm.mays (Zj m) n)/\q'=q)):=by
 intro N
 induction N with
 |zero=>
  have b: ∀ (x:Stm) (n:Nat),x.sz<=0-> ∀ {q:List HP},(Kn q fun M=>x.At M)->CallF prog G 183 (B4 x n) q (B8 x n q):=fun x n d=>by cases x;simp [Stm.sz] at d
  exact ⟨b,fun m a c n e _ h=>T8 (fun x n d=>b x n (by omega)) h⟩
 |succ N ih=>
  have b: ∀ (x:Stm) (n:Nat),x.sz<=N+1-> ∀ {q:List HP},(Kn q fun M=>x.At M)->CallF prog G 183 (B4 x n) q (B8 x n q):=fun x n d _ h=>L9 (fun m a c n e=>ih.2 m a c n (by omega)) h
  exact ⟨b,fun m a c n e _ h=>T8 (fun x n d=>b x n (by omega)) h⟩
theorem Kn.dsL {l:List Dec}(h:Kn q fun M=>DcsAt M a c l)(s:St G w q):l.length<=9223372036854775807:=h.fact (fun M h=>by have d:=h.1.1;have b:=h.1.2.1;simp [maxLen] at b;omega) s
variable {m:List Dec}
theorem mayD_ok (h:Kn q fun M=>DcsAt M a c m):CallF prog G 117 [.slice a m.length c] (q) (Ret fun v q'=>v= I64 (if (m.map Dec.er).any PDec.bad=true then 2 else 0)/\q'=q):=by
 refine aC func117 ntmps117 rfl fun F cs=> ?_;have hA:=Ow h;have p:=Zx (f:=dcC) (sz:=6) (fun _=>rfl) m;refine iR (fun w s=>Kn.dsL (h.le leA) s) fun a0=> ?_;refine xx 10 ?_;refine aY (cG (fun (s:Nat×Option Addr)=>s.1<=m.length/\s.2=a/\(m.map Dec.er).any PDec.bad=((m.drop s.1).map Dec.er).any PDec.bad) (fun s=> [(3,I64 (s.1:Int)),(0,.slice s.2 m.length c),(2,I64 0)]) (fun s=>(q++F)) (fun s=>m.length - s.1) (fun s r ih=> ?_) (0,a) ⟨bB _,rfl,rfl⟩) Zu leA;try dsimp only at r ih|-
 obtain ⟨hs,ha,y⟩:=r;obtain ⟨s,a2⟩:=s;dsimp only at*;subst ha;refine xx 8 ?_;refine xp 9 ?_ ?_<;>intro h0
 . have l:s<m.length:=by omega
   have o:((m.drop s).map Dec.er).any PDec.bad=(m[s].er.bad||((m.drop (s+1)).map Dec.er).any PDec.bad):=by rw [aJ l];rfl
   refine xo 8 ?_;refine K1 hA (by rw [p];omega) fun b1 o1 e1=> ?_;subst e1;refine oo 1 ?_;refine Nw (n:=s) isAgg229 sizeOf229 hA l ?_ (hf:=(fun _=>rfl));obtain ⟨x,hx⟩: ∃ x,m[s]=x:=⟨_,rfl⟩;have hK:=Kn.dsI h l;rw [hx] at o hK;refine bA 15 (.agg (dcC x).toArray) rfl (by rw [hx]) ?_;obtain ⟨k,ln,cl,nm,z,body,ba,bc⟩:=x;have t:=Zg body;refine bW zeroValue229 fun n1=> ?_
   refine rn [0,4,0,7] ?_;refine Zf [20,5,4,3,0,2] ?_;apply Zy 3 23 20 rfl
   . intro b d;have i:=sp b;refine oo 3 ?_;exact Zz d ⟨orF b,Zv⟩
   . intro b d;have i:=sp b;refine oo 3 ?_;exact Zz d ⟨orT b,Zv⟩
   refine oo 1 ?_;refine Zf [24,5,4,3,0,2] ?_;apply Zy 5 29 24 rfl
   . intro b d;have i:=sp b;refine rn [1,0] ?_;refine aO call155 (C7 (s:=nm)) ?_;refine Zt (bV rfl) ?_;refine oo 1 ?_;exact Zz d ⟨orF b,Zv⟩
   . intro b d;have i:=sp b;refine oo 5 ?_;exact Zz d ⟨orT b,Zv⟩
   refine oo 1 ?_;refine Zf [30,5,4,3,0,2] ?_;apply Zy 9 39 30 rfl
   . intro b d;have i:=sp b;refine oo 3 ?_;refine Zf [33,30,5,4,3,0,2] ?_;apply Zp 5 38 33 rfl
     . intro e g;have j:=sp e;refine rn [1,0,3] ?_;exact Zz g ⟨Wq e,Zv⟩
     . intro e g;have j:=sp e;refine oo 5 ?_;exact Zz g ⟨Wz e,Zv⟩
     refine oo 1 ?_;exact Zz d ⟨orF b,Zv⟩
   . intro b d;have i:=sp b;refine oo 9 ?_;exact Zz d ⟨orT b,Zv⟩
   refine oo 1 ?_;refine Zf [40,5,4,3,0,2] ?_;apply Zy 4 44 40 rfl
   . intro b d;have i:=sp b;refine rn [1,0,2] ?_;exact Zz d ⟨orF b,Zv⟩
   . intro b d;have i:=sp b;refine oo 4 ?_;exact Zz d ⟨orT b,Zv⟩
   refine oo 1 ?_;refine Zf [45,5,4,3,0,2] ?_;apply Zy 4 49 45 rfl
   . intro b d;have i:=sp b;refine rn [1,0,2] ?_;exact Zz d ⟨orF b,Zv⟩
   . intro b d;have i:=sp b;refine oo 4 ?_;exact Zz d ⟨orT b,Zv⟩
   refine oo 1 ?_;refine Zf [50,5,4,3,0,2] ?_;apply Zy 8 58 50 rfl
   . intro b d;have i:=sp b;refine oo 3 ?_;refine Zf [53,50,5,4,3,0,2] ?_;apply Zp 4 57 53 rfl
     . intro e g;have j:=sp e;refine rn [1,0,2] ?_;exact Zz g ⟨Wq e,Zv⟩
     . intro e g;have j:=sp e;refine oo 4 ?_;exact Zz g ⟨Wz e,Zv⟩
     refine oo 1 ?_;exact Zz d ⟨orF b,Zv⟩
   . intro b d;have i:=sp b;refine oo 8 ?_;exact Zz d ⟨orT b,Zv⟩
   refine oo 1 ?_;refine Zf [59,5,4,3,0,2] ?_;apply Zy 16 75 59 rfl
   . intro b d;have i:=sp b;refine oo 3 ?_;refine Zf [62,59,5,4,3,0,2] ?_;apply Zp 3 65 62 rfl
     . intro e g;have j:=sp e;refine oo 3 ?_;exact Zz g ⟨Wq e,Zv⟩
     . intro e g;have j:=sp e;refine oo 3 ?_;exact Zz g ⟨Wz e,Zv⟩
     refine oo 1 ?_;refine Zf [66,59,5,4,3,0,2] ?_;apply Zp 3 69 66 rfl
     . intro e g;have j:=sp e;refine oo 3 ?_;exact Zz g ⟨Wq e,Zv⟩
     . intro e g;have j:=sp e;refine oo 3 ?_;exact Zz g ⟨Wz e,Zv⟩
     refine oo 1 ?_;refine Zf [70,59,5,4,3,0,2] ?_;apply Zp 4 74 70 rfl
     . intro e g;have j:=sp e;refine rn [1,0,2] ?_;exact Zz g ⟨Wq e,Zv⟩
     . intro e g;have j:=sp e;refine oo 4 ?_;exact Zz g ⟨Wz e,Zv⟩
     refine oo 1 ?_;exact Zz d ⟨orF b,Zv⟩
   . intro b d;have i:=sp b;refine oo 16 ?_;exact Zz d ⟨orT b,Zv⟩
   refine oo 1 ?_;refine Zf [76,4,3,0,2] ?_;apply Zy 5 81 76 rfl
   . intro b d;have i:=sp b;refine rn [1,0] ?_;refine aO call156 ((may_ok _).2 body ba bc 1 (aL _) (hK.le leA)) ?_;refine Zt (bV rfl) ?_;refine oo 1 ?_;exact Zz d ⟨orF b,Zv⟩
   . intro b d;have i:=sp b;refine oo 5 ?_;exact Zz d ⟨orT b,Zv⟩
   refine ox 1 ?_;refine dR 81 rfl ?_ ?_<;>intro u
   . have d1:PDec.bad (Dec.er ⟨k,ln,cl,nm,z,body,ba,bc⟩)=true:=by unfold PDec.bad Sd;simp only [Dec.er,t];first|exact u|(rw [<-u];simp only [eN,eG];rfl)
     refine xx 5 ?_;refine Zq (q) func117 (Zn results117 rfl) ⟨_,rfl,by rw [y,o,d1];rfl,rfl⟩
   have d1:PDec.bad (Dec.er ⟨k,ln,cl,nm,z,body,ba,bc⟩)=false:=by unfold PDec.bad Sd;simp only [Dec.er,t];first|exact u|(rw [<-u];simp only [eN,eG];rfl)
   refine xx 8 ?_;refine aY (ih (s+1,_) ⟨by dsimp only;omega,rfl,by rw [y,o,d1];rfl⟩ (by dsimp only;omega)) Zu leA
 obtain rfl:s=m.length:=by omega
 refine xx 6 ?_;refine Zq (q) func117 (Zn results117 rfl) ⟨_,rfl,by rw [y,dP];rfl,rfl⟩
end
structure PTh where
 nm:ByteArray
 loc:Int
 body:List PStm
structure Nm where
 t:ByteArray
 k:Int
 s:Int
structure Fnd where
 vars:List Int
 arrs:List Int
 mu:Int
 co:Int
 chs:List Int
 ths:List PTh
 main:Int
 stm:Int
 nv:List ByteArray
 na:List ByteArray
 nm:List ByteArray
 nc:List ByteArray
 nh:List ByteArray
 names:List Nm
 cells:Int
 locals:Int
 most:Int
 flaw:Int
def Fnd.z:Fnd:=⟨[], [],0,0, [], [],0,0, [], [], [], [], [], [],0,0,0,0⟩
def Qd (l:List Nm)(s:ByteArray):Nat->Nat
 |0=>0
 |k+1=>if ((l.map fun x=>bs x.t).getD k []==bs s)=true then k+1 else Qd l s k
def Fnd.at (f:Fnd)(s:ByteArray):Nat:=Qd f.names s f.names.length
def Fnd.fl (f:Fnd)(why:Int):Fnd:=if f.flaw=0 then { f with flaw:=why } else f
def Fnd.decl1 (f:Fnd)(d:PDec):Fnd×Int×Bool:=
 if d.k=1 then (if d.n< -2147483648\/2147483647<d.n then (f.fl 134,0,false) else ({ f with vars:=f.vars++ [d.n],nv:=f.nv++ [d.nm] },f.vars.length,true))
 else if d.k=2 then (if (d.n<1\/256<d.n)\/256<f.cells+d.n then (f.fl 134,0,false) else ({ f with cells:=f.cells+d.n,arrs:=f.arrs++ [d.n],na:=f.na++ [d.nm] },f.arrs.length,true))
 else if d.k=3 then ({ f with mu:=f.mu+1,nm:=f.nm++ [d.nm] },f.mu,true)
 else if d.k=4 then ({ f with co:=f.co+1,nc:=f.nc++ [d.nm] },f.co,true)
 else if d.k=5 then (if d.n<1\/16<d.n then (f.fl 134,0,false) else ({ f with chs:=f.chs++ [d.n],nh:=f.nh++ [d.nm] },f.chs.length,true))
 else if d.k=6 then ({ f with ths:=f.ths++ [⟨d.nm,0, []⟩] },f.ths.length,true)
 else (f,0,true)
def Fnd.decl (f:Fnd)(d:PDec):Fnd:=
 if f.at d.nm≠0 then f.fl 130
 else if (f.decl1 d).2.2=false then (f.decl1 d).1
 else if 64<=(f.decl1 d).1.names.length then (f.decl1 d).1.fl 134
 else { (f.decl1 d).1 with names:=(f.decl1 d).1.names++ [⟨d.nm,d.k,(f.decl1 d).2.1⟩] }
def Fnd.wants (f:Fnd)(s:ByteArray)(a b:Int):Fnd×Int×Int:=
 match f.at s with
 |0=>(f.fl 131,0,0)
 |i+1=>let x:=(f.names.map fun x=>(x.k,x.s)).getD i (0,0)
  if (x.1 !=a && x.1 !=b)=true then (f.fl 132,0,0) else (f,x)
mutual
def Fnd.expr (f:Fnd):PEx->Fnd×PEx
 | .mk k n nm slot loc op args=>
  if k=2 then ((Fnd.exprs (f.wants nm 1 100).1 args).1,.mk k n nm (f.wants nm 1 100).2.2 ((f.wants nm 1 100).2.1==100) op (Fnd.exprs (f.wants nm 1 100).1 args).2)
  else if k=3 then ((Fnd.exprs (f.wants nm 2 2).1 args).1,.mk k n nm (f.wants nm 2 2).2.2 loc op (Fnd.exprs (f.wants nm 2 2).1 args).2)
  else ((Fnd.exprs f args).1,.mk k n nm slot loc op (Fnd.exprs f args).2)
def Fnd.exprs (f:Fnd):List PEx->Fnd×List PEx
 | []=>(f, [])
 |e::r=>((Fnd.exprs (f.expr e).1 r).1,(f.expr e).2::(Fnd.exprs (f.expr e).1 r).2)
end
def Jt (k:Int):Int×Int:=if k=2 then (1,100) else if k=3 then (2,2) else if k=6\/k=7 then (3,3) else if k=8\/k=9\/k=10 then (4,4) else if k=11\/k=12 then (5,5) else if k=13 then (6,6) else (0,0)
def Fnd.own1 (f:Fnd)(k:Int)(nm:ByteArray)(slot:Int)(loc:Bool):Fnd×Int×Bool:=
 if (Jt k).1≠0 then ((f.wants nm (Jt k).1 (Jt k).2).1,(f.wants nm (Jt k).1 (Jt k).2).2.2,(f.wants nm (Jt k).1 (Jt k).2).2.1==100) else (f,slot,loc)
def Fnd.loc1 (g:Fnd)(nm:ByteArray):Fnd:=if g.at nm≠0 then g.fl 130 else g
def Fnd.loc2 (g:Fnd):Fnd:=if 32<=g.locals then g.fl 134 else g
def Fnd.loc3 (g:Fnd)(nm:ByteArray):Fnd:= { g with names:=g.names++ [⟨nm,100,g.locals⟩],locals:=g.locals+1,most:=max g.most (g.locals+1) }
def Fnd.own2 (g:Fnd)(k:Int)(nm wt:ByteArray)(sl other:Int)(lo:Bool):Fnd×Int×Int×Bool:=
 if k=1 then ((g.loc1 nm).loc2.loc3 nm,(g.loc1 nm).loc2.locals,other,true)
 else if k=8 then ((g.wants wt 3 3).1,sl,(g.wants wt 3 3).2.2,lo)
 else if k=12 then ((g.wants wt 1 100).1,sl,(g.wants wt 1 100).2.2,(g.wants wt 1 100).2.1==100)
 else (g,sl,other,lo)
def Fnd.own (f:Fnd)(k:Int)(nm wt:ByteArray)(slot other:Int)(loc:Bool):Fnd×Int×Int×Bool:=
 Fnd.own2 (f.own1 k nm slot loc).1 k nm wt (f.own1 k nm slot loc).2.1 other (f.own1 k nm slot loc).2.2
mutual
def Fnd.stmt (f:Fnd):PStm->Fnd×PStm
 | .mk k ln cl nm wt e ix body els id slot other loc=>
  if 512<=f.stm then (f.fl 134,.mk k ln cl nm wt e ix body els id slot other loc)
  else
   let f1:=Fnd.expr { f with stm:=f.stm+1 } ix
   let f2:=Fnd.expr f1.1 e
   let f3:=Fnd.own f2.1 k nm wt slot other loc
   let f4:=Fnd.blk f3.1 body
   let f5:=Fnd.blk { f4.1 with names:=f3.1.names,locals:=f3.1.locals } els
   ({ f5.1 with names:=f3.1.names,locals:=f3.1.locals },.mk k ln cl nm wt f2.2 f1.2 f4.2 f5.2 f.stm f3.2.1 f3.2.2.1 f3.2.2.2)
/-- The statements of a block, as long as there is no flaw (names are not let go of here). -/
def Fnd.blk (f:Fnd):List PStm->Fnd×List PStm
 | []=>(f, [])
 |s::r=>if f.flaw=0 then ((Fnd.blk (f.stmt s).1 r).1,(f.stmt s).2::(Fnd.blk (f.stmt s).1 r).2) else (f, [])
end
def Fnd.block (f:Fnd)(l:List PStm):Fnd×List PStm:=({ (f.blk l).1 with names:=f.names,locals:=f.locals },(f.blk l).2)
def Fnd.decls (f:Fnd):List PDec->Fnd
 | []=>f
 |d::r=>if f.flaw=0 then Fnd.decls (f.decl d) r else f
def Fnd.bodies (f:Fnd)(i:Nat):List (List PStm)->Fnd
 | []=>f
 |b::r=>if f.flaw=0 then
  let g:=Fnd.block { f with most:=0 } b
  Fnd.bodies { g.1 with ths:=g.1.ths.set i ⟨(g.1.ths.getD i ⟨em,0, []⟩).nm,g.1.most,g.2⟩ } (i+1) r
  else f
def Um:ByteArray:=⟨#[109,97,105,110]⟩
def N9 (ds:List PDec):Option Fnd:=
 if ds.any PDec.bad=true then none else
 let f:=Fnd.decls .z ds
 let f1:=if f.flaw=0/\(f.at Um=0\/((f.names.map (·.k)).getD (f.at Um - 1) 0)≠6) then f.fl 133 else f
 let f2:=Fnd.bodies f1 0 ((ds.filter fun d=>d.k==6).map (·.body))
 if f2.flaw≠0 then none else some { f2 with main:=(f2.names.map (·.s)).getD (f.at Um - 1) 0 }
def Jj (l:Bs):Option Fnd:=match Qz l with
 |none=>none
 |some ds=>N9 ds
structure Sv (α:Type) where
 l:List α
 a:Option Addr
 c:Nat
variable {x:Sv Int}{y:Sv ByteArray}
def Sv.v {α:Type}(x:Sv α):Value:= .slice x.a x.l.length x.c
def Sv.z {α:Type}:Sv α:=⟨[],none,0⟩
structure Th where
 nm:ByteArray
 loc:Int
 body:List Stm
 a:Option Addr
 c:Nat
def nmC (x:Nm):List Value:= [.string x.t,I64 x.k,I64 x.s]
def thC (x:Th):List Value:= [.string x.nm,I64 x.loc,.slice x.a x.body.length x.c]
def Th.er (x:Th):PTh:=⟨x.nm,x.loc,Zj x.body⟩
structure FC where
 vars:Sv Int
 arrs:Sv Int
 mu:Int
 co:Int
 chs:Sv Int
 ths:Sv Th
 main:Int
 stm:Int
 nv:Sv ByteArray
 na:Sv ByteArray
 nm:Sv ByteArray
 nc:Sv ByteArray
 nh:Sv ByteArray
 names:Sv Nm
 cells:Int
 locals:Int
 most:Int
 pl:Int
 pc:Int
 flaw:Int
variable {f:FC}
def fcC (f:FC):List Value:= [f.vars.v,f.arrs.v,I64 f.mu,I64 f.co,f.chs.v,f.ths.v,I64 f.main,I64 f.stm,f.nv.v,f.na.v,f.nm.v,f.nc.v,f.nh.v,f.names.v,I64 f.cells,I64 f.locals,I64 f.most,I64 f.pl,I64 f.pc,I64 f.flaw]
def FC.er (f:FC):Fnd:=⟨f.vars.l,f.arrs.l,f.mu,f.co,f.chs.l,f.ths.l.map Th.er,f.main,f.stm,f.nv.l,f.na.l,f.nm.l,f.nc.l,f.nh.l,f.names.l,f.cells,f.locals,f.most,f.flaw⟩
def iC (x:Int):List Value:= [I64 x]
def sC (x:ByteArray):List Value:= [.string x]
def Sv.At {α:Type}(M:Hp)(f:α->List Value)(x:Sv α):Prop:=SlAt M x.a x.c x.l.length (x.l.flatMap f)
theorem Sv.At.mono {α:Type}{f:α->List Value}{x:Sv α}(e:Hle M M')(h:x.At M f):x.At M' f:=gM e h
def Ths.At (M:Hp)(l:List Th):Prop:= ∀ x∈l,BlkAt M x.a x.c x.body
structure FC.At (M:Hp) (f:FC):Prop where
 vars:f.vars.At M iC
 arrs:f.arrs.At M iC
 chs:f.chs.At M iC
 ths:f.ths.At M thC
 bod:Ths.At M f.ths.l
 nv:f.nv.At M sC
 na:f.na.At M sC
 nm:f.nm.At M sC
 nc:f.nc.At M sC
 nh:f.nh.At M sC
 names:f.names.At M nmC
theorem FC.At.mono (e:Hle M M')(h:f.At M):f.At M':=⟨h.vars.mono e,h.arrs.mono e,h.chs.mono e,h.ths.mono e,fun x hx=>(h.bod x hx).mono e,h.nv.mono e,h.na.mono e,h.nm.mono e,h.nc.mono e,h.nh.mono e,h.names.mono e⟩
def fcM (f:FC):HP:=lst (fun M=>f.At M) fun e h=>FC.At.mono e h
def svM {α:Type}(f:α->List Value)(x:Sv α):HP:=lst (fun M=>x.At M f) fun e h=>Sv.At.mono e h
section
variable {α:Type}{g:α->List Value}{x:Sv α}
theorem Kn.fc:Kn (fcM f::q) fun M=>f.At M:=fL
theorem Sv.sees (h:Kn q fun M=>x.At M g):Sees q x.a (x.l.flatMap g):=fM (h.imp fun M h=>h.2.2)
abbrev dT:=@Sv.sees
theorem Sv.len (h:Kn q fun M=>x.At M g)(s:St G w q):x.l.length<=9223372036854775807:=h.fact (fun M h=>by have b:=h.1;have a:=h.2.1;simp [maxLen] at a;omega) s
theorem Ei (M:Hp):(Sv.z:Sv α).At M g:=SlAt.nil M
theorem Qv (l:List Int):l.flatMap iC=l.map (Value.int .i64):=by induction l with
 |nil=>rfl
 |cons x r ih=>rw [cH,ih];rfl
theorem V6 (l:List ByteArray):l.flatMap sC=l.map Value.string:=by induction l with
 |nil=>rfl
 |cons x r ih=>rw [cH,ih];rfl
end
def Fnd.le (N:Nat)(f:Fnd):Prop:=f.vars.length<=N/\f.arrs.length<=N/\f.chs.length<=N/\f.ths.length<=N/\f.nv.length<=N/\f.na.length<=N/\f.nm.length<=N/\f.nc.length<=N/\f.nh.length<=N/\f.names.length<=N/\(0<=f.mu/\f.mu<=N)/\(0<=f.co/\f.co<=N)/\(0<=f.cells/\f.cells<=256)
theorem Kx {l:List Nm}{s:ByteArray}: ∀ {k:Nat},Qd l s k<=k
 |0=>aL _
 |k+1=>by unfold Qd;split;exact aL _;exact Nat.le_succ_of_le Kx
section
variable {k:List Item}{r:List HP}{ops lo:List Oper}{α:Type}{f:α->List Value}{fe:α->Value}{sz ty:Nat}{a b:Option Addr}{c c':Nat}{l m:List α}{f':α->List Value}
theorem Er {d:Option Tmp}{ty':TypeId}{pos:String}{af:Array Edge}{gd:Option (Nat×Bool)}{x y:Operand}{t:TypeId}{z:Value}{bytes:Nat}(ht:P.underlying t=some (.slice ty))(hi:(P.info? ty).map (fun i=>(i.zero,i.size,i.bytes))=some (some z,sz,bytes))(hz:z.cells.size=sz)(hsz:Nat.blt 0 sz=true)(hf: ∀ x,(f x).length=sz)
 (hx:evp p x=some (.slice a l.length c)) (hy:evp p y=some (.slice b m.length c')) (hq:Le q (Wx.rsH f sz ty a c l::r)) (hs:Sees q b (m.flatMap f)) (h1: ∀ x,(f x).all (·.oneCell')=true)
 (h63:l.length+m.length<=9223372036854775807) (hby:(l.length+m.length)*bytes<=140737488355328) (E:List HP):
 Ef P G p (q++E) ⟨d,.call ⟨.builtin .append, [x,y].toArray, [t,t].toArray⟩,ty',pos,af,gd⟩ fun v q'=> ∃ q1,(∃ a' c',v= .slice a' (l++m).length c'/\q1=Wx.rsH f sz ty a' c' (l++m)::r)/\q'=q1++E:=by
 intro k w u s;obtain ⟨v,j,q',g,e,a',h,o,n⟩:=Z9 (P:=P) (G:=G) (d:=d) (ty':=ty') (pos:=pos) (af:=af) (gd:=gd) (r:=r++E) ht hi hz hsz hf hx hy (hq.liftR E) (hs.le (Y1 q E)) h1 h63 hby k w u s;exact ⟨v,j,q',g,e,_,⟨a',h,o,rfl⟩,n⟩
theorem Q0 (hm: ∀ l:List α,l.flatMap f'=l.map fe)(K:X P G fr Q todo p ds cs (svM f' ⟨l,a,c⟩::q0))(hq:Le q (Wx.lsH fe ty a c l::q0):=by exact Zk):X P G fr Q todo p ds cs q:=by
 unfold Wx.lsH at hq;exact .frz (sz:=1) (ty:=ty) (n:=l.length) (vs:=l.map fe) (Kn.here.imp fun M h=>by show SlAt M a c l.length (l.flatMap f');rw [hm];exact h) K hq
theorem P6 (K:X P G fr Q todo p ds cs (svM f ⟨l,a,c⟩::q0))(hq:Le q (Wx.rsH f sz ty a c l::q0):=by exact Zk):X P G fr Q todo p ds cs q:= .frzR fL K hq
theorem svK {x:Sv α}(h:Kn q fun M=>x.At M f:=by exact knA):Kn q fun M=>x.At M f:=h
end
section
variable {why pl pc a b k:Int}
theorem Xs (h:Kn q fun M=>f.At M):CallF prog G 119 [.agg (fcC f).toArray,.string s] (q) (Ret fun v q'=>v= I64 ((f.er.at s:Int) - 1)/\q'=q):=by
 refine aC func119 ntmps119 rfl fun F cs=> ?_;have u:Kn q fun M=>f.names.At M nmC:=h.imp fun M h=>h.names
 have n:=dT u;have b:=Zx (f:=nmC) (sz:=3) (fun _=>rfl) f.names.l;refine iR (fun w s=>Sv.len (u.le leA) s) fun i=> ?_;obtain ⟨⟨a,na,o⟩,g⟩: ∃ x,f.names=x:=⟨_,rfl⟩;rw [g] at n b i;dsimp only at n b i;refine xo 2 ?_;refine Ww fun p=> ?_
 refine rn [6,0] ?_;refine bA 7 (.slice na a.length o) rfl (by show f.names.v=_;rw [g];rfl) ?_;refine ox 5 ?_;refine aY (cG (fun (k:Nat×Option Addr)=>k.1<=a.length/\Qd a s a.length=Qd a s k.1) (fun k=> [(5,I64 ((k.1:Int) - 1)),(2,pt p),(1,.string s),(4,I64 0)]) (fun k=>pto p (.cells (fcC f).toArray 240 (0,0))::(q++F)) (fun k=>k.1) (fun k e r=> ?_) (a.length,none) ⟨aL _,rfl⟩) Zu leA;try dsimp only at e r|-
 obtain ⟨z,c⟩:=e;obtain ⟨k,kx⟩:=k;dsimp only at*;refine xx 6 ?_;refine xp 11 ?_ ?_<;>intro h0
 . obtain ⟨k,rfl⟩: ∃ j,k=j+1:=⟨k - 1,by omega⟩;have m:k<a.length:=by omega
   refine cQ 5 (Aw k) rfl (bK (Value.int .i64) (by omega)) ?_;have d:Qd a s (k+1)=if (bs a[k].t==bs s)=true then k+1 else Qd a s k:=by rw [Qd,gD (by simpa using m)];simp
   refine rn [7,0] ?_;refine bA 15 (.slice na a.length o) rfl (by show f.names.v=_;rw [g];rfl) ?_;refine oo 1 ?_;refine K1 n (by rw [b];omega) fun b1 o1 e1=> ?_;subst e1;refine rn [2,0,3] ?_;refine xp 21 ?_ ?_<;>intro y
   . refine xx 6 ?_;refine Zq (q) func119 (Zn results119 rfl) ⟨_,rfl,by rw [show f.er.at s=Qd a s a.length by simp only [Fnd.at,FC.er,g],c,d,if_pos (sTr y)];congr 1;omega,rfl⟩
   refine xx 8 ?_;refine aY (r (k,none) ⟨by dsimp only;omega,by rw [c,d,if_neg (by rw [sNe y];decide)]⟩ (by dsimp only;omega)) Zu leA
 obtain rfl:k=0:=by omega
 refine xx 6 ?_;refine Zq (q) func119 (Zn results119 rfl) ⟨_,rfl,by rw [show f.er.at s=Qd a s a.length by simp only [Fnd.at,FC.er,g],c];rfl,rfl⟩
theorem Uv (h:Kn q fun M=>f.At M):CallF prog G 120 [.agg (fcC f).toArray,I64 why,.agg (B3 pl pc).toArray] (q) (Ret fun v q'=> ∃ g:FC,v= .agg (fcC g).toArray/\q'=fcM g::q/\g.er=f.er.fl why):=by
 refine aC func120 ntmps120 rfl fun F cs=> ?_;refine xo 2 ?_;refine Ww fun d=> ?_
 refine Ww fun c=> ?_
 refine bW zeroValue240 fun b=> ?_
 refine rn [5,0,2] ?_;refine xp 9 ?_ ?_<;>intro a
 . replace a:f.flaw=0:=a;refine rn [1,0,1,2,3,4,5,6,0,2,0,0,1] ?_;refine bY (q':=fcM { f with flaw:=why,pl:=pl,pc:=pc } ::_) (cZ ((dW h).imp fun M h=>⟨h.vars,h.arrs,h.chs,h.ths,h.bod,h.nv,h.na,h.nm,h.nc,h.nh,h.names⟩)) ?_;refine Zq (fcM { f with flaw:=why,pl:=pl,pc:=pc } ::q) func120 (rA_ results120) ⟨_,rfl, { f with flaw:=why,pl:=pl,pc:=pc },rfl,rfl,by unfold Fnd.fl;rw [if_pos (show f.er.flaw=0 from a)];rfl⟩
 replace a: ¬f.flaw=0:=a;refine rn [4,0,0,1] ?_;refine bY (q':=fcM f::_) (cZ (dW h)) ?_;refine Zq (fcM f::q) func120 (rA_ results120) ⟨_,rfl,f,rfl,rfl,by unfold Fnd.fl;rw [if_neg (show ¬f.er.flaw=0 from a)]⟩
theorem F7:(prog.info? 2).map (fun i=>(i.zero,i.size,i.bytes))=some (some (I64 0),1,8):=by kernel_rfl
theorem Qp:(prog.info? 245).map (fun i=>(i.zero,i.size,i.bytes))=some (some (.agg #[.string ⟨#[]⟩,I64 0,I64 0]),3,32):=by kernel_rfl
theorem Nr:(prog.info? 55).map (fun i=>(i.zero,i.size,i.bytes))=some (some (.agg #[.string ⟨#[]⟩,I64 0,.slice none 0 0]),3,48):=by kernel_rfl
theorem wants_ok (h:Kn q fun M=>f.At M):CallF prog G 186 [.agg (fcC f).toArray,.string s,I64 a,I64 b,.agg [I64 pl,I64 pc].toArray] (q) (Ret fun v q'=> ∃ (g:FC) (x:Nm),v= .tuple [.agg (fcC g).toArray,.agg (nmC x).toArray].toArray/\q'=fcM g::q/\(g.er,x.k,x.s)=f.er.wants s a b):=by
 refine aC func186 ntmps186 rfl fun F cs=> ?_;have hN:Kn q fun M=>f.names.At M nmC:=h.imp fun M h=>h.names
 have p:=dT hN;have e:=Zx (f:=nmC) (sz:=3) (fun _=>rfl) f.names.l;obtain ⟨⟨d,na,r⟩,n⟩: ∃ x,f.names=x:=⟨_,rfl⟩;rw [n] at p e;dsimp only at p e;have a0:f.er.at s=Qd d s d.length:=by simp only [Fnd.at,FC.er,n]
 obtain ⟨W,c⟩: ∃ W,f.er.wants s a b=W:=⟨_,rfl⟩;rw [c];unfold Fnd.wants at c;refine xo 2 ?_;refine Ww fun n1=> ?_
 refine Ww fun n2=> ?_
 refine bW zeroValue240 fun n3=> ?_
 refine bW zeroValue245 fun n4=> ?_
 refine rn [3,0,1] ?_;refine aO call119 (Xs (f:=f) (h.le leA)) ?_;refine ox 8 ?_;refine xp 17 ?_ ?_<;>intro h0
 . replace h0:f.er.at s=0:=by omega
   refine rn [3,0,0] ?_;refine Zb call120 (aE _) (Uv (f:=f) (h.le leA)) ?_;rintro _ _ ⟨g,rfl,rfl,t⟩;refine rn [1,0,0,1] ?_;rw [h0] at c;dsimp only at c;refine Zq (fcM g::q) func186 (Zqa results186) ⟨_,rfl,g,⟨⟨#[]⟩,0,0⟩,rfl,rfl,by rw [<-c,t]⟩
 obtain ⟨i,z⟩: ∃ i,f.er.at s=i+1:=⟨f.er.at s - 1,by omega⟩;have j:i<d.length:=by have:=Kx (l:=d) (s:=s) (k:=d.length);omega
 refine cQ 12 (I64 i) rfl (bK (Value.int .i64) (by omega)) ?_;refine rn [6,0] ?_;refine bA 23 (.slice na d.length r) rfl (by show f.names.v=_;rw [n];rfl) ?_;refine oo 1 ?_;refine K1 p (by rw [e];omega) fun b1 y e1=> ?_;subst e1;refine rn [2,0,3] ?_;refine Zf [30,12,11,10,9,5,3] ?_;apply Zp 9 39 30 rfl
 . intro o w;have u:=sp o;refine rn [1,0] ?_;refine bA 32 (.slice (some ⟨b1,y,none⟩) d.length r) rfl (by show f.names.v=_;rw [n];rfl) ?_;refine rn [3,0,3] ?_;exact Zz w ⟨Wq o,Zv⟩
 . intro o w;have u:=sp o;refine oo 9 ?_;exact Zz w ⟨Wz o,Zv⟩
 refine ox 1 ?_;refine xp 39 ?_ ?_<;>intro u
 . refine rn [3,0,0] ?_;refine Zb call120 (aE _) (Uv (f:=f) (h.le leA)) ?_;rintro _ _ ⟨g,rfl,rfl,t⟩;refine rn [1,0,0,1] ?_;rw [z] at c;dsimp only at c;rw [show ((f.er.names.map fun x=>(x.k,x.s)).getD i (0,0))=(d[i].k,d[i].s) by rw [show f.er.names=d by simp only [FC.er,n],gD (by simpa using j)];simp] at c;dsimp only at c;rw [if_pos (by simpa using u)] at c;refine Zq (fcM g::q) func186 (Zqa results186) ⟨_,rfl,g,⟨⟨#[]⟩,0,0⟩,rfl,rfl,by rw [<-c,t]⟩
 refine rn [3,0,1,2,3] ?_;refine dS 46 (.slice (some ⟨b1,y,none⟩) d.length r) rfl (by show f.names.v=_;rw [n];rfl) ?_;refine dd [3,4] ?_;refine XD.ldS 5 (m:=i) isAgg245 sizeOf245 p j ?_;refine stAD 6 ?_ (hh:=hlR);refine rn [8,0] ?_;rw [z] at c;dsimp only at c;rw [show ((f.er.names.map fun x=>(x.k,x.s)).getD i (0,0))=(d[i].k,d[i].s) by rw [show f.er.names=d by simp only [FC.er,n],gD (by simpa using j)];simp] at c;dsimp only at c;rw [if_neg (fun hx=>by simp at hx;omega)] at c;refine bY (q':=fcM f::_) (cZ (dW h)) ?_;refine Zq (fcM f::q) func186 (Zqa results186) ⟨_,rfl,f,d[i],rfl,rfl,c⟩
theorem want_ok:CallF prog G 185 [I64 k] (q) (Ret fun v q'=>v= .tuple [I64 (Jt k).1,I64 (Jt k).2].toArray/\q'=q):=by
 refine aC func185 ntmps185 rfl fun F cs=> ?_;refine xx 16 ?_;refine xp 5 ?_ ?_<;>intro j
 focus
  refine xx 6 ?_
 rotate_left
 focus
  refine xx 6 ?_;refine xp 7 ?_ ?_<;>intro i
  focus
   refine xx 6 ?_
  rotate_left
  focus
   refine xx 7 ?_;refine xp 9 ?_ ?_<;>intro h
   focus
    refine xx 8 ?_
   rotate_left
   focus
    refine xx 5 ?_;refine xp 9 ?_ ?_<;>intro g
    focus
     refine xx 6 ?_
    rotate_left
    focus
     refine xx 7 ?_;refine xp 12 ?_ ?_<;>intro f
     focus
      refine xx 8 ?_
     rotate_left
     focus
      refine xx 6 ?_;refine xp 12 ?_ ?_<;>intro e
      focus
       refine xx 8 ?_
      rotate_left
      focus
       refine xx 5 ?_;refine xp 12 ?_ ?_<;>intro d
       focus
        refine xx 6 ?_
       rotate_left
       focus
        refine xx 7 ?_;refine xp 16 ?_ ?_<;>intro c
        focus
         refine xx 8 ?_
        rotate_left
        focus
         refine xx 5 ?_;refine xp 16 ?_ ?_<;>intro b
         focus
          refine xx 6 ?_
         rotate_left
         focus
          refine xx 6 ?_;refine xp 19 ?_ ?_<;>intro a
          focus
           refine xx 6 ?_
          rotate_left
          focus
           refine xx 8 ?_
 all_goals
  refine Zq (q) func185 (Wu results185 rfl rfl) ⟨_,rfl,by unfold Jt;repeat (first|rw [if_pos (by omega)]|rw [if_neg (by omega)]),rfl⟩
end
theorem FC.At.v (h:f.At M)(h1:x.At M iC)(h2:y.At M sC):({ f with vars:=x,nv:=y } :FC).At M:=⟨h1,h.arrs,h.chs,h.ths,h.bod,h2,h.na,h.nm,h.nc,h.nh,h.names⟩
theorem FC.At.a {c:Int}(h:f.At M)(h1:x.At M iC)(h2:y.At M sC):({ f with cells:=c,arrs:=x,na:=y } :FC).At M:=⟨h.vars,h1,h.chs,h.ths,h.bod,h.nv,h2,h.nm,h.nc,h.nh,h.names⟩
theorem FC.At.m {c:Int}(h:f.At M)(h2:y.At M sC):({ f with mu:=c,nm:=y } :FC).At M:=⟨h.vars,h.arrs,h.chs,h.ths,h.bod,h.nv,h.na,h2,h.nc,h.nh,h.names⟩
theorem FC.At.c {M:Hp}{f:FC}{y:Sv ByteArray}{c:Int}(h:f.At M)(h2:y.At M sC):({ f with co:=c,nc:=y } :FC).At M:=⟨h.vars,h.arrs,h.chs,h.ths,h.bod,h.nv,h.na,h.nm,h2,h.nh,h.names⟩
theorem FC.At.h {M:Hp}{f:FC}{x:Sv Int}{y:Sv ByteArray}(h:f.At M)(h1:x.At M iC)(h2:y.At M sC):({ f with chs:=x,nh:=y } :FC).At M:=⟨h.vars,h.arrs,h1,h.ths,h.bod,h.nv,h.na,h.nm,h.nc,h2,h.names⟩
theorem FC.At.t {x:Sv Th}(h:f.At M)(h1:x.At M thC)(h2:Ths.At M x.l):({ f with ths:=x } :FC).At M:=⟨h.vars,h.arrs,h.chs,h1,h2,h.nv,h.na,h.nm,h.nc,h.nh,h.names⟩
theorem FC.At.n {x:Sv Nm}(h:f.At M)(h1:x.At M nmC):({ f with names:=x } :FC).At M:=⟨h.vars,h.arrs,h.chs,h.ths,h.bod,h.nv,h.na,h.nm,h.nc,h.nh,h1⟩
theorem svI (h:Kn q fun M=>x.At M iC):Sees q x.a (x.l.map I64):=by rw [<-Qv];exact dT h
theorem svS {x:Sv ByteArray}(h:Kn q fun M=>x.At M sC):Sees q x.a (x.l.map Value.string):=by rw [<-V6];exact dT h
section
variable {d:Dec}
abbrev Av :=((.cells zz6.toArray 240 (0,0)):Obj)
theorem Iz (h:Kn q fun M=>f.At M)(hb:f.er.le 100000)(hk:1<=d.k/\d.k<=6)(hd: -2147483647<=d.n/\d.n<=2147483647):CallF prog G 118 [.agg (fcC f).toArray,.agg (dcC d).toArray] (q) (Ret fun v q'=> ∃ g:FC,v= .agg (fcC g).toArray/\q'=fcM g::q/\g.er=f.er.decl d.er):=by
 refine aC func118 ntmps118 rfl fun F cs=> ?_;obtain ⟨k,ln,cl,nm,z,body,ba,bc⟩:=d;dsimp only at hk hd;obtain ⟨a1,z0,y0,i0,x0,w0,v0,u0,t0,r,⟨o0,n0⟩,⟨m0,l0⟩,k0,j0⟩:=hb;dsimp only [FC.er] at a1 z0 y0 i0 x0 w0 v0 u0 t0 r o0 n0 m0 l0 k0 j0;rw [aU] at i0;obtain ⟨R,w⟩: ∃ R,f.er.decl (Dec.er ⟨k,ln,cl,nm,z,body,ba,bc⟩)=R:=⟨_,rfl⟩;rw [w];obtain ⟨D,i⟩: ∃ D,f.er.decl1 ⟨k,ln,cl,nm,z,Zj body⟩=D:=⟨_,rfl⟩;replace w:(if f.er.at nm≠0 then f.er.fl 130 else if D.2.2=false then D.1 else if 64<=D.1.names.length then D.1.fl 134 else { D.1 with names:=D.1.names++ [⟨nm,k,D.2.1⟩] })=R:=by rw [<-i];exact w
 refine xo 2 ?_;refine Ww fun n1=> ?_
 refine Ww fun n2=> ?_
 refine bW zeroValue240 fun n3=> ?_
 refine rn [4,0,1,0] ?_;refine aO call119 (Xs (f:=f) (h.le leA)) ?_;refine ox 2 ?_;refine xp 10 ?_ ?_<;>intro h0
 . rw [if_pos (show f.er.at nm≠0 by omega)] at w;refine rn [3,0,1,0] ?_;refine Zb call120 (aE _) (Uv (f:=f) (h.le leA)) ?_;rintro _ _ ⟨g,rfl,rfl,hg⟩;refine rn [0,1] ?_;refine Zq (fcM g::q) func118 (rA_ results118) ⟨_,rfl,g,rfl,rfl,hg.trans w⟩
 rw [if_neg (show ¬f.er.at nm≠0 by omega)] at w;unfold Fnd.decl1 at i;dsimp only at i;refine rn [10,0,1] ?_;refine kC (fun (x:FC×Int)=> [(5,I64 x.2),(2,pt n1),(3,pt n2),(4,pt n3)]) (fun x=>fcM x.1::pto n1 (.cells (fcC x.1).toArray 240 (0,0))::pto n2 (.cells (dcC ⟨k,ln,cl,nm,z,body,ba,bc⟩).toArray 229 (0,0))::pto n3 Av::(q++F)) (fun x=>D=(x.1.er,x.2,true)/\x.1.names.l.length<=100000) (fun x g0=> ?_) fun K=> ?_
 . obtain ⟨g,n⟩:=x;dsimp only at g0|-;obtain ⟨r0,b1⟩:=g0;rw [r0] at w;dsimp only at w;rw [if_neg (show ¬true=false by decide)] at w;refine rn [4,0,3] ?_;refine xp 217 ?_ ?_<;>intro h1
   . rw [if_pos (show 64<=g.er.names.length by simp only [FC.er];omega)] at w;refine rn [3,0,1,0] ?_;refine Zb call120 (aE _) (Uv (f:=g) knA) ?_;rintro _ _ ⟨g2,rfl,rfl,hg⟩;refine rn [0,1] ?_;refine Zq (fcM g2::q) func118 (rA_ results118) ⟨_,rfl,g2,rfl,rfl,hg.trans w⟩
   rw [if_neg (show ¬64<=g.er.names.length by simp only [FC.er];omega)] at w;refine rn [3,0,1,2,4,5,6,7,8,9] ?_;refine jL (q':=rsH nmC 3 245 none 0 ([])::_) (Zi nmC 3 245 _) ?_;refine Yo (fl:= [⟨9,231,fun g=> .slice (some ⟨g,0,none⟩) 1 1,fun g=>rsH nmC 3 245 (some ⟨g,0,none⟩) 1 ([⟨nm,k,n⟩])⟩]) ?_;refine iX 2 ⟨⟨_,rfl,rfl,rfl,rfl,rfl,rfl,fun q=>Yz (u:=⟨nm,k,n⟩) nmC underlying238 Qp rfl rfl (fun _=>rfl) rfl⟩,trivial⟩ (Er (f:=nmC) (sz:=3) (l:= []) (m:=g.names.l) underlying238 Qp rfl rfl (fun _=>rfl) rfl rfl Zk (dT (kA (φ:=fun M=>g.At M) knA fun M h=>h.names)) (fun _=>rfl) (by simp;omega) (by simp;omega)) ?_;refine kk2 fun aa ac=> ?_
   refine Vv (e0:=⟨9,231,fun g=> .slice (some ⟨g,0,none⟩) 1 1,fun g=>rsH nmC 3 245 (some ⟨g,0,none⟩) 1 ([⟨nm,k,n⟩])⟩) (hnd:=by simp) 9 ⟨⟨_,rfl,rfl,rfl,rfl,rfl,rfl,fun q=>Yz (u:=⟨nm,k,n⟩) nmC underlying238 Qp rfl rfl (fun _=>rfl) rfl⟩,trivial⟩ fun gl=> ?_;change XF _ _ _ _ _ _ _ [] _ _ _ ((231,.slice (some ⟨gl,0,none⟩) 1 1)::_) _ _ (rsH nmC 3 245 (some ⟨gl,0,none⟩) 1 ([⟨nm,k,n⟩])::_);refine eT ?_;try rw [aT]
   refine fC 10 rfl (Z9 (f:=nmC) (l:=g.names.l) (m:= [⟨nm,k,n⟩]) underlying238 Qp rfl rfl (fun _=>rfl) rfl rfl Zk ((bE _).le Zk) (fun _=>rfl) (by simp;omega) (by simp;omega)) ?_;refine kk2 fun f0 d0=> ?_
   refine rn [12,13,0,2,0,0,1] ?_;refine P6 ?_;refine bY (q':=fcM ({ g with names:=⟨g.names.l++ [⟨nm,k,n⟩],f0,d0⟩ } :FC)::_) (cZ ((gL (φ:=fun M=>g.At M) knA (svK (x:=⟨_,f0,d0⟩) (f:=nmC))).imp fun M h=>FC.At.n h.1 h.2)) ?_;refine Zq (fcM ({ g with names:=⟨g.names.l++ [⟨nm,k,n⟩],f0,d0⟩ } :FC)::q) func118 (rA_ results118) ⟨_,rfl, { g with names:=⟨g.names.l++ [⟨nm,k,n⟩],f0,d0⟩ },rfl,rfl,w⟩
 have s0:k=1\/k=2\/k=3\/k=4\/k=5\/k=6:=by omega
 rcases s0 with rfl|rfl|rfl|rfl|rfl|rfl
 . rw [if_pos rfl] at i;refine rn [6,2017,5,0,7,0,2] ?_;refine Zf [26,5,4,3,2] ?_;apply Zy 4 30 26 rfl
   . intro s M1;have h1:=sp s;refine rn [1,0,2] ?_;exact Zz M1 ⟨orF s,Zv⟩
   . intro s M1;have h1:=sp s;refine oo 4 ?_;exact Zz M1 ⟨orT s,Zv⟩
   refine ox 1 ?_;refine xp 30 ?_ ?_<;>intro h1
   . refine rn [3,0,1,0] ?_;refine Zb call120 (aE _) (Uv (f:=f) (h.le leA)) ?_;rintro _ _ ⟨g,rfl,rfl,hg⟩;refine rn [0,1] ?_;rw [if_pos (by omega)] at i;rw [<-i,if_pos rfl] at w;refine Zq (fcM g::q) func118 (rA_ results118) ⟨_,rfl,g,rfl,rfl,hg.trans w⟩
   refine rn [3,0,1,2,3,5,6] ?_;refine jL (q':=lsH I64 2 none 0 ([])::_) (Za _ _ _) ?_;refine Yo (fl:= [⟨6,41,fun g=> .slice (some ⟨g,0,none⟩) 1 1,fun g=>lsH I64 2 (some ⟨g,0,none⟩) 1 ([z])⟩]) ?_;refine iX 3 ⟨⟨_,rfl,rfl,rfl,rfl,rfl,rfl,fun q=>Yp I64 [z] underlying23 F7 rfl rfl rfl rfl rfl rfl (fun _=>rfl)⟩,trivial⟩ (J5 (fe:=I64) (l:= []) (m:=f.vars.l) underlying23 F7 rfl rfl rfl Zk (svI (dW (h.imp fun M h=>h.vars))) (fun _=>rfl) (by simp;omega) (by simp;omega)) ?_;refine kk2 fun c0 b0=> ?_
   refine Vv (e0:=⟨6,41,fun g=> .slice (some ⟨g,0,none⟩) 1 1,fun g=>lsH I64 2 (some ⟨g,0,none⟩) 1 ([z])⟩) (hnd:=by simp) 6 ⟨⟨_,rfl,rfl,rfl,rfl,rfl,rfl,fun q=>Yp I64 [z] underlying23 F7 rfl rfl rfl rfl rfl rfl (fun _=>rfl)⟩,trivial⟩ fun j=> ?_;change XF _ _ _ _ _ _ _ [] _ _ _ ((41,.slice (some ⟨j,0,none⟩) 1 1)::_) _ _ (lsH I64 2 (some ⟨j,0,none⟩) 1 ([z])::_);refine eT ?_;try rw [aT]
   refine fC 7 rfl (Yx (f:=I64) (l:=f.vars.l) (m:= [z]) underlying23 F7 rfl rfl rfl Zk ((bR _).le Zk) (fun _=>rfl) (by simp;omega) (by simp;omega)) ?_;refine kk2 fun e b=> ?_
   refine rn [9,10,11,0,0,1,2,3,4,6,7] ?_;refine jL (q':=lsH Value.string 9 none 0 ([])::_) (Za _ _ _) ?_;refine Yo (fl:= [⟨7,52,fun g=> .slice (some ⟨g,0,none⟩) 1 1,fun g=>lsH Value.string 9 (some ⟨g,0,none⟩) 1 ([nm])⟩]) ?_;refine iX 4 ⟨⟨_,rfl,rfl,rfl,rfl,rfl,rfl,fun q=>Yp Value.string [nm] underlying25 Wh rfl rfl rfl rfl rfl rfl (fun _=>rfl)⟩,trivial⟩ (J5 (fe:=Value.string) (l:= []) (m:=f.nv.l) underlying25 Wh rfl rfl rfl Zk (svS (dW (h.imp fun M h=>h.nv))) (fun _=>rfl) (by simp;omega) (by simp;omega)) ?_;refine kk2 fun q0 p0=> ?_
   refine Vv (e0:=⟨7,52,fun g=> .slice (some ⟨g,0,none⟩) 1 1,fun g=>lsH Value.string 9 (some ⟨g,0,none⟩) 1 ([nm])⟩) (hnd:=by simp) 7 ⟨⟨_,rfl,rfl,rfl,rfl,rfl,rfl,fun q=>Yp Value.string [nm] underlying25 Wh rfl rfl rfl rfl rfl rfl (fun _=>rfl)⟩,trivial⟩ fun a0=> ?_;change XF _ _ _ _ _ _ _ [] _ _ _ ((52,.slice (some ⟨a0,0,none⟩) 1 1)::_) _ _ (lsH Value.string 9 (some ⟨a0,0,none⟩) 1 ([nm])::_);refine eT ?_;try rw [aT]
   refine fC 8 rfl (Yx (f:=Value.string) (l:=f.nv.l) (m:= [nm]) underlying25 Wh rfl rfl rfl Zk ((bR _).le Zk) (fun _=>rfl) (by simp;omega) (by simp;omega)) ?_;refine kk2 fun p o=> ?_
   refine rn [10,11,12,13,0,1] ?_;rw [if_neg (by omega)] at i;refine Q0 (f':=iC) (fe:=I64) Qv ?_;refine Q0 (f':=sC) (fe:=Value.string) V6 ?_;refine bY (q':=fcM ({ f with vars:=⟨f.vars.l++ [z],e,b⟩,nv:=⟨f.nv.l++ [nm],p,o⟩ } :FC)::_) (cZ ((gL (dW h) (gL (svK (x:=⟨f.vars.l++ [z],e,b⟩) (f:=iC)) (svK (x:=⟨f.nv.l++ [nm],p,o⟩) (f:=sC)))).imp fun M h=>FC.At.v h.1 h.2.1 h.2.2)) ?_;exact aY (K (({ f with vars:=⟨f.vars.l++ [z],e,b⟩,nv:=⟨f.nv.l++ [nm],p,o⟩ } :FC),(f.vars.l.length:Int)) ⟨by first|(rw [<-i];done)|(rw [<-i];rfl)|(rw [<-i];simp only [FC.er,aM,aU];done)|(rw [<-i];simp only [FC.er,aM,aU];rfl),r⟩) Zu leA
 . rw [if_neg (by decide),if_pos rfl] at i;rw [show f.er.cells=f.cells from rfl] at i;refine rn [6,1017,6,2057,5,0,7,0,2] ?_;refine Zf [66,5,4,3,2] ?_;apply Zy 4 70 66 rfl
   . intro s M1;have h1:=sp s;refine rn [1,0,2] ?_;exact Zz M1 ⟨orF s,Zv⟩
   . intro s M1;have h1:=sp s;refine oo 4 ?_;exact Zz M1 ⟨orT s,Zv⟩
   refine oo 1 ?_;refine Zf [71,5,4,3,2] ?_;apply Zy 7 78 71 rfl
   . intro s M1;have h1:=sp s;refine rn [1,0,1,0,3] ?_;exact Zz M1 ⟨orF s,Zv⟩
   . intro s M1;have h1:=sp s;refine oo 7 ?_;exact Zz M1 ⟨orT s,Zv⟩
   refine ox 1 ?_;refine xp 78 ?_ ?_<;>intro h1
   . refine rn [3,0,1,0] ?_;refine Zb call120 (aE _) (Uv (f:=f) (h.le leA)) ?_;rintro _ _ ⟨g,rfl,rfl,hg⟩;refine rn [0,1] ?_;rw [if_pos (by omega)] at i;rw [<-i,if_pos rfl] at w;refine Zq (fcM g::q) func118 (rA_ results118) ⟨_,rfl,g,rfl,rfl,hg.trans w⟩
   refine rn [5,0,1,0,2,0,2,0,1,2,3,5,6] ?_;refine jL (q':=lsH I64 3 none 0 ([])::_) (Za _ _ _) ?_;refine Yo (fl:= [⟨6,95,fun g=> .slice (some ⟨g,0,none⟩) 1 1,fun g=>lsH I64 3 (some ⟨g,0,none⟩) 1 ([z])⟩]) ?_;refine iX 3 ⟨⟨_,rfl,rfl,rfl,rfl,rfl,rfl,fun q=>Yp I64 [z] underlying22 Kr rfl rfl rfl rfl rfl rfl (fun _=>rfl)⟩,trivial⟩ (J5 (fe:=I64) (l:= []) (m:=f.arrs.l) underlying22 Kr rfl rfl rfl Zk (svI (dW (h.imp fun M h=>h.arrs))) (fun _=>rfl) (by simp;omega) (by simp;omega)) ?_;refine kk2 fun c0 b0=> ?_
   refine Vv (e0:=⟨6,95,fun g=> .slice (some ⟨g,0,none⟩) 1 1,fun g=>lsH I64 3 (some ⟨g,0,none⟩) 1 ([z])⟩) (hnd:=by simp) 6 ⟨⟨_,rfl,rfl,rfl,rfl,rfl,rfl,fun q=>Yp I64 [z] underlying22 Kr rfl rfl rfl rfl rfl rfl (fun _=>rfl)⟩,trivial⟩ fun j=> ?_;change XF _ _ _ _ _ _ _ [] _ _ _ ((95,.slice (some ⟨j,0,none⟩) 1 1)::_) _ _ (lsH I64 3 (some ⟨j,0,none⟩) 1 ([z])::_);refine eT ?_;try rw [aT]
   refine fC 7 rfl (Yx (f:=I64) (l:=f.arrs.l) (m:= [z]) underlying22 Kr rfl rfl rfl Zk ((bR _).le Zk) (fun _=>rfl) (by simp;omega) (by simp;omega)) ?_;refine kk2 fun e b=> ?_
   refine rn [9,10,11,0,0,1,2,3,4,6,7] ?_;refine jL (q':=lsH Value.string 9 none 0 ([])::_) (Za _ _ _) ?_;refine Yo (fl:= [⟨7,106,fun g=> .slice (some ⟨g,0,none⟩) 1 1,fun g=>lsH Value.string 9 (some ⟨g,0,none⟩) 1 ([nm])⟩]) ?_;refine iX 4 ⟨⟨_,rfl,rfl,rfl,rfl,rfl,rfl,fun q=>Yp Value.string [nm] underlying25 Wh rfl rfl rfl rfl rfl rfl (fun _=>rfl)⟩,trivial⟩ (J5 (fe:=Value.string) (l:= []) (m:=f.na.l) underlying25 Wh rfl rfl rfl Zk (svS (dW (h.imp fun M h=>h.na))) (fun _=>rfl) (by simp;omega) (by simp;omega)) ?_;refine kk2 fun q0 p0=> ?_
   refine Vv (e0:=⟨7,106,fun g=> .slice (some ⟨g,0,none⟩) 1 1,fun g=>lsH Value.string 9 (some ⟨g,0,none⟩) 1 ([nm])⟩) (hnd:=by simp) 7 ⟨⟨_,rfl,rfl,rfl,rfl,rfl,rfl,fun q=>Yp Value.string [nm] underlying25 Wh rfl rfl rfl rfl rfl rfl (fun _=>rfl)⟩,trivial⟩ fun a0=> ?_;change XF _ _ _ _ _ _ _ [] _ _ _ ((106,.slice (some ⟨a0,0,none⟩) 1 1)::_) _ _ (lsH Value.string 9 (some ⟨a0,0,none⟩) 1 ([nm])::_);refine eT ?_;try rw [aT]
   refine fC 8 rfl (Yx (f:=Value.string) (l:=f.na.l) (m:= [nm]) underlying25 Wh rfl rfl rfl Zk ((bR _).le Zk) (fun _=>rfl) (by simp;omega) (by simp;omega)) ?_;refine kk2 fun p o=> ?_
   refine rn [10,11,12,13,0,1] ?_;rw [if_neg (by omega)] at i;refine Q0 (f':=iC) (fe:=I64) Qv ?_;refine Q0 (f':=sC) (fe:=Value.string) V6 ?_;refine bY (q':=fcM ({ f with cells:=f.cells+z,arrs:=⟨f.arrs.l++ [z],e,b⟩,na:=⟨f.na.l++ [nm],p,o⟩ } :FC)::_) (cZ ((gL (dW h) (gL (svK (x:=⟨f.arrs.l++ [z],e,b⟩) (f:=iC)) (svK (x:=⟨f.na.l++ [nm],p,o⟩) (f:=sC)))).imp fun M h=>FC.At.a h.1 h.2.1 h.2.2)) ?_;exact aY (K (({ f with cells:=f.cells+z,arrs:=⟨f.arrs.l++ [z],e,b⟩,na:=⟨f.na.l++ [nm],p,o⟩ } :FC),(f.arrs.l.length:Int)) ⟨by first|(rw [<-i];done)|(rw [<-i];rfl)|(rw [<-i];simp only [FC.er,aM,aU];done)|(rw [<-i];simp only [FC.er,aM,aU];rfl),r⟩) Zu leA
 . rw [if_neg (by decide),if_neg (by decide),if_pos rfl] at i;refine rn [6,1017,6,1057,6,2111,5,0,6,0,3,0,1,0,1,2,3,4,6,7] ?_;refine jL (q':=lsH Value.string 9 none 0 ([])::_) (Za _ _ _) ?_;refine Yo (fl:= [⟨7,129,fun g=> .slice (some ⟨g,0,none⟩) 1 1,fun g=>lsH Value.string 9 (some ⟨g,0,none⟩) 1 ([nm])⟩]) ?_;refine iX 4 ⟨⟨_,rfl,rfl,rfl,rfl,rfl,rfl,fun q=>Yp Value.string [nm] underlying25 Wh rfl rfl rfl rfl rfl rfl (fun _=>rfl)⟩,trivial⟩ (J5 (fe:=Value.string) (l:= []) (m:=f.nm.l) underlying25 Wh rfl rfl rfl Zk (svS (dW (h.imp fun M h=>h.nm))) (fun _=>rfl) (by simp;omega) (by simp;omega)) ?_;refine kk2 fun c0 b0=> ?_
   refine Vv (e0:=⟨7,129,fun g=> .slice (some ⟨g,0,none⟩) 1 1,fun g=>lsH Value.string 9 (some ⟨g,0,none⟩) 1 ([nm])⟩) (hnd:=by simp) 7 ⟨⟨_,rfl,rfl,rfl,rfl,rfl,rfl,fun q=>Yp Value.string [nm] underlying25 Wh rfl rfl rfl rfl rfl rfl (fun _=>rfl)⟩,trivial⟩ fun j=> ?_;change XF _ _ _ _ _ _ _ [] _ _ _ ((129,.slice (some ⟨j,0,none⟩) 1 1)::_) _ _ (lsH Value.string 9 (some ⟨j,0,none⟩) 1 ([nm])::_);refine eT ?_;try rw [aT]
   refine fC 8 rfl (Yx (f:=Value.string) (l:=f.nm.l) (m:= [nm]) underlying25 Wh rfl rfl rfl Zk ((bR _).le Zk) (fun _=>rfl) (by simp;omega) (by simp;omega)) ?_;refine kk2 fun e b=> ?_
   refine rn [10,11,12,13,0,1] ?_;refine Q0 (f':=sC) (fe:=Value.string) V6 ?_;refine bY (q':=fcM ({ f with mu:=f.mu+1,nm:=⟨f.nm.l++ [nm],e,b⟩ } :FC)::_) (cZ ((gL (dW h) (svK (x:=⟨f.nm.l++ [nm],e,b⟩) (f:=sC))).imp fun M h=>FC.At.m h.1 h.2)) ?_;exact aY (K (({ f with mu:=f.mu+1,nm:=⟨f.nm.l++ [nm],e,b⟩ } :FC),(f.mu:Int)) ⟨by first|(rw [<-i];done)|(rw [<-i];rfl)|(rw [<-i];simp only [FC.er,aM,aU];done)|(rw [<-i];simp only [FC.er,aM,aU];rfl),r⟩) Zu leA
 . rw [if_neg (by decide),if_neg (by decide),if_neg (by decide),if_pos rfl] at i;refine rn [6,1017,6,1057,6,1111,6,2134,5,0,6,0,3,0,1,0,1,2,3,4,6,7] ?_;refine jL (q':=lsH Value.string 9 none 0 ([])::_) (Za _ _ _) ?_;refine Yo (fl:= [⟨7,152,fun g=> .slice (some ⟨g,0,none⟩) 1 1,fun g=>lsH Value.string 9 (some ⟨g,0,none⟩) 1 ([nm])⟩]) ?_;refine iX 4 ⟨⟨_,rfl,rfl,rfl,rfl,rfl,rfl,fun q=>Yp Value.string [nm] underlying25 Wh rfl rfl rfl rfl rfl rfl (fun _=>rfl)⟩,trivial⟩ (J5 (fe:=Value.string) (l:= []) (m:=f.nc.l) underlying25 Wh rfl rfl rfl Zk (svS (dW (h.imp fun M h=>h.nc))) (fun _=>rfl) (by simp;omega) (by simp;omega)) ?_;refine kk2 fun c0 b0=> ?_
   refine Vv (e0:=⟨7,152,fun g=> .slice (some ⟨g,0,none⟩) 1 1,fun g=>lsH Value.string 9 (some ⟨g,0,none⟩) 1 ([nm])⟩) (hnd:=by simp) 7 ⟨⟨_,rfl,rfl,rfl,rfl,rfl,rfl,fun q=>Yp Value.string [nm] underlying25 Wh rfl rfl rfl rfl rfl rfl (fun _=>rfl)⟩,trivial⟩ fun j=> ?_;change XF _ _ _ _ _ _ _ [] _ _ _ ((152,.slice (some ⟨j,0,none⟩) 1 1)::_) _ _ (lsH Value.string 9 (some ⟨j,0,none⟩) 1 ([nm])::_);refine eT ?_;try rw [aT]
   refine fC 8 rfl (Yx (f:=Value.string) (l:=f.nc.l) (m:= [nm]) underlying25 Wh rfl rfl rfl Zk ((bR _).le Zk) (fun _=>rfl) (by simp;omega) (by simp;omega)) ?_;refine kk2 fun e b=> ?_
   refine rn [10,11,12,13,0,1] ?_;refine Q0 (f':=sC) (fe:=Value.string) V6 ?_;refine bY (q':=fcM ({ f with co:=f.co+1,nc:=⟨f.nc.l++ [nm],e,b⟩ } :FC)::_) (cZ ((gL (dW h) (svK (x:=⟨f.nc.l++ [nm],e,b⟩) (f:=sC))).imp fun M h=>FC.At.c h.1 h.2)) ?_;exact aY (K (({ f with co:=f.co+1,nc:=⟨f.nc.l++ [nm],e,b⟩ } :FC),(f.co:Int)) ⟨by first|(rw [<-i];done)|(rw [<-i];rfl)|(rw [<-i];simp only [FC.er,aM,aU];done)|(rw [<-i];simp only [FC.er,aM,aU];rfl),r⟩) Zu leA
 . rw [if_neg (by decide),if_neg (by decide),if_neg (by decide),if_neg (by decide),if_pos rfl] at i;refine rn [6,1017,6,1057,6,1111,6,1134,6,2157,5,0,7,0,2] ?_;refine Zf [166,5,4,3,2] ?_;apply Zy 4 170 166 rfl
   . intro s M1;have h1:=sp s;refine rn [1,0,2] ?_;exact Zz M1 ⟨orF s,Zv⟩
   . intro s M1;have h1:=sp s;refine oo 4 ?_;exact Zz M1 ⟨orT s,Zv⟩
   refine ox 1 ?_;refine xp 170 ?_ ?_<;>intro h1
   . refine rn [3,0,1,0] ?_;refine Zb call120 (aE _) (Uv (f:=f) (h.le leA)) ?_;rintro _ _ ⟨g,rfl,rfl,hg⟩;refine rn [0,1] ?_;rw [if_pos (by omega)] at i;rw [<-i,if_pos rfl] at w;refine Zq (fcM g::q) func118 (rA_ results118) ⟨_,rfl,g,rfl,rfl,hg.trans w⟩
   refine rn [3,0,1,2,3,5,6] ?_;refine jL (q':=lsH I64 3 none 0 ([])::_) (Za _ _ _) ?_;refine Yo (fl:= [⟨6,181,fun g=> .slice (some ⟨g,0,none⟩) 1 1,fun g=>lsH I64 3 (some ⟨g,0,none⟩) 1 ([z])⟩]) ?_;refine iX 3 ⟨⟨_,rfl,rfl,rfl,rfl,rfl,rfl,fun q=>Yp I64 [z] underlying22 Kr rfl rfl rfl rfl rfl rfl (fun _=>rfl)⟩,trivial⟩ (J5 (fe:=I64) (l:= []) (m:=f.chs.l) underlying22 Kr rfl rfl rfl Zk (svI (dW (h.imp fun M h=>h.chs))) (fun _=>rfl) (by simp;omega) (by simp;omega)) ?_;refine kk2 fun c0 b0=> ?_
   refine Vv (e0:=⟨6,181,fun g=> .slice (some ⟨g,0,none⟩) 1 1,fun g=>lsH I64 3 (some ⟨g,0,none⟩) 1 ([z])⟩) (hnd:=by simp) 6 ⟨⟨_,rfl,rfl,rfl,rfl,rfl,rfl,fun q=>Yp I64 [z] underlying22 Kr rfl rfl rfl rfl rfl rfl (fun _=>rfl)⟩,trivial⟩ fun j=> ?_;change XF _ _ _ _ _ _ _ [] _ _ _ ((181,.slice (some ⟨j,0,none⟩) 1 1)::_) _ _ (lsH I64 3 (some ⟨j,0,none⟩) 1 ([z])::_);refine eT ?_;try rw [aT]
   refine fC 7 rfl (Yx (f:=I64) (l:=f.chs.l) (m:= [z]) underlying22 Kr rfl rfl rfl Zk ((bR _).le Zk) (fun _=>rfl) (by simp;omega) (by simp;omega)) ?_;refine kk2 fun e b=> ?_
   refine rn [9,10,11,0,0,1,2,3,4,6,7] ?_;refine jL (q':=lsH Value.string 9 none 0 ([])::_) (Za _ _ _) ?_;refine Yo (fl:= [⟨7,192,fun g=> .slice (some ⟨g,0,none⟩) 1 1,fun g=>lsH Value.string 9 (some ⟨g,0,none⟩) 1 ([nm])⟩]) ?_;refine iX 4 ⟨⟨_,rfl,rfl,rfl,rfl,rfl,rfl,fun q=>Yp Value.string [nm] underlying25 Wh rfl rfl rfl rfl rfl rfl (fun _=>rfl)⟩,trivial⟩ (J5 (fe:=Value.string) (l:= []) (m:=f.nh.l) underlying25 Wh rfl rfl rfl Zk (svS (dW (h.imp fun M h=>h.nh))) (fun _=>rfl) (by simp;omega) (by simp;omega)) ?_;refine kk2 fun q0 p0=> ?_
   refine Vv (e0:=⟨7,192,fun g=> .slice (some ⟨g,0,none⟩) 1 1,fun g=>lsH Value.string 9 (some ⟨g,0,none⟩) 1 ([nm])⟩) (hnd:=by simp) 7 ⟨⟨_,rfl,rfl,rfl,rfl,rfl,rfl,fun q=>Yp Value.string [nm] underlying25 Wh rfl rfl rfl rfl rfl rfl (fun _=>rfl)⟩,trivial⟩ fun a0=> ?_;change XF _ _ _ _ _ _ _ [] _ _ _ ((192,.slice (some ⟨a0,0,none⟩) 1 1)::_) _ _ (lsH Value.string 9 (some ⟨a0,0,none⟩) 1 ([nm])::_);refine eT ?_;try rw [aT]
   refine fC 8 rfl (Yx (f:=Value.string) (l:=f.nh.l) (m:= [nm]) underlying25 Wh rfl rfl rfl Zk ((bR _).le Zk) (fun _=>rfl) (by simp;omega) (by simp;omega)) ?_;refine kk2 fun p o=> ?_
   refine rn [10,11,12,13,0,1] ?_;rw [if_neg (by omega)] at i;refine Q0 (f':=iC) (fe:=I64) Qv ?_;refine Q0 (f':=sC) (fe:=Value.string) V6 ?_;refine bY (q':=fcM ({ f with chs:=⟨f.chs.l++ [z],e,b⟩,nh:=⟨f.nh.l++ [nm],p,o⟩ } :FC)::_) (cZ ((gL (dW h) (gL (svK (x:=⟨f.chs.l++ [z],e,b⟩) (f:=iC)) (svK (x:=⟨f.nh.l++ [nm],p,o⟩) (f:=sC)))).imp fun M h=>FC.At.h h.1 h.2.1 h.2.2)) ?_;exact aY (K (({ f with chs:=⟨f.chs.l++ [z],e,b⟩,nh:=⟨f.nh.l++ [nm],p,o⟩ } :FC),(f.chs.l.length:Int)) ⟨by first|(rw [<-i];done)|(rw [<-i];rfl)|(rw [<-i];simp only [FC.er,aM,aU];done)|(rw [<-i];simp only [FC.er,aM,aU];rfl),r⟩) Zu leA
 rw [if_neg (by decide),if_neg (by decide),if_neg (by decide),if_neg (by decide),if_neg (by decide),if_pos rfl] at i;refine rn [6,1017,6,1057,6,1111,6,1134,6,1157,6,2197,5,0,3,0,1,2,3,5,6,7] ?_;refine jL (q':=rsH thC 3 55 none 0 ([])::_) (Zi thC 3 55 _) ?_;refine Yo (fl:= [⟨7,210,fun g=> .slice (some ⟨g,0,none⟩) 1 1,fun g=>rsH thC 3 55 (some ⟨g,0,none⟩) 1 ([⟨nm,0, [],none,0⟩])⟩]) ?_;refine iX 3 ⟨⟨_,rfl,rfl,rfl,rfl,rfl,rfl,fun q=>Yz (u:=⟨nm,0, [],none,0⟩) thC underlying24 Nr rfl rfl (fun _=>rfl) rfl⟩,trivial⟩ (Er (f:=thC) (sz:=3) (l:= []) (m:=f.ths.l) underlying24 Nr rfl rfl (fun _=>rfl) rfl rfl Zk (dT (dW (h.imp fun M h=>h.ths))) (fun _=>rfl) (by simp;omega) (by simp;omega)) ?_;refine kk2 fun c0 b0=> ?_
 refine Vv (e0:=⟨7,210,fun g=> .slice (some ⟨g,0,none⟩) 1 1,fun g=>rsH thC 3 55 (some ⟨g,0,none⟩) 1 ([⟨nm,0, [],none,0⟩])⟩) (hnd:=by simp) 7 ⟨⟨_,rfl,rfl,rfl,rfl,rfl,rfl,fun q=>Yz (u:=⟨nm,0, [],none,0⟩) thC underlying24 Nr rfl rfl (fun _=>rfl) rfl⟩,trivial⟩ fun j=> ?_;change XF _ _ _ _ _ _ _ [] _ _ _ ((210,.slice (some ⟨j,0,none⟩) 1 1)::_) _ _ (rsH thC 3 55 (some ⟨j,0,none⟩) 1 ([⟨nm,0, [],none,0⟩])::_);refine eT ?_;try rw [aT]
 refine fC 8 rfl (Z9 (f:=thC) (l:=f.ths.l) (m:= [⟨nm,0, [],none,0⟩]) underlying24 Nr rfl rfl (fun _=>rfl) rfl rfl Zk ((bE _).le Zk) (fun _=>rfl) (by simp;omega) (by simp;omega)) ?_;refine kk2 fun e b=> ?_
 refine rn [10,11,12,0,1] ?_;refine P6 ?_;refine bY (q':=fcM ({ f with ths:=⟨f.ths.l++ [⟨nm,0, [],none,0⟩],e,b⟩ } :FC)::_) (cZ ((gL (dW h) (svK (x:=⟨f.ths.l++ [⟨nm,0, [],none,0⟩],e,b⟩) (f:=thC))).imp fun M h=>FC.At.t h.1 h.2 (fun y hy=>by rcases aQ.1 hy with hy|hy;exact h.1.bod y hy;rw [aZ.1 hy];exact ⟨SlAt.nil M,trivial⟩))) ?_;exact aY (K (({ f with ths:=⟨f.ths.l++ [⟨nm,0, [],none,0⟩],e,b⟩ } :FC),(f.ths.l.length:Int)) ⟨by first|(rw [<-i];done)|(rw [<-i];rfl)|(rw [<-i];simp only [FC.er,aM,aU];done)|(rw [<-i];simp only [FC.er,aM,aU];rfl),r⟩) Zu leA
end
end Go.Proofs.YtflkjkhijcdbaaaGreat
