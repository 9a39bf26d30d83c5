/- Contracts. -/
import Derived.Test.YtflkjkhijcdbaaaGreatNd
set_option maxHeartbeats 16000000
set_option maxRecDepth 100000
set_option linter.all false
namespace Go.Proofs.YtflkjkhijcdbaaaGreat
open Go Go.RowKit Wx Go.Proofs.Tryz
attribute [local irreducible] lsH rsH stars
variable {M:Hp}{m:List Stm}{G:World}{q:List HP}{a:Option Addr}{c N k:Nat}{e:Ex}{n slot:Int}{nm:ByteArray}{loc:Bool}{f g:Fnd}{x:Stm}{d:PDec}
mutual
def PEx.thin:PEx->Prop
 | .mk _ _ _ _ _ _ args=>args.length<=2/\Km args
def Km:List PEx->Prop
 | []=>True
 |e::r=>e.thin/\Km r
end
theorem Ml {x:PEx}: ∀ {l:List PEx},Km l->x∈l->x.thin
 |y::r,⟨h1,h2⟩,h=>by
  rcases cE.1 h with rfl|h
  . exact h1
  exact Ml h2 h
mutual
theorem Jh: ∀ {e:PEx} {d:Nat},e.right d=true->e.thin
 | .mk k n nm _ _ op args,d,h=>by
  simp only [PEx.right] at h;split at h
  . cases h
  split at h
  . rw [aI,aI,bN] at h;refine ⟨?_,Hh h.2⟩;have:=h.1.2;unfold Xp at this;split at this<;>(try split at this)<;>omega
  cases h
theorem Hh: ∀ {l:List PEx} {d:Nat},Y4 l d=true->Km l
 | [],_,_=>trivial
 |e::r,d,h=>by
  simp only [Y4,aI] at h;exact ⟨Jh h.1,Hh h.2⟩
end
theorem Tf: ∀ {e:PEx},e.nil=true->e.thin
 | .mk k n nm _ _ op args,h=>by
  simp only [PEx.nil,aI,bN] at h;have a:=aK h.2;subst a;exact ⟨bB _,trivial⟩
theorem Oh {l m:List Ex}(h:Ex.Ats M l)(k:Ex.Ats M m):Ex.Ats M (l++m):=Ye.2 fun x hx=>(aQ.1 hx).elim (Ye.1 h x) (Ye.1 k x)
section
variable {P:Program}{fr:Fc}{Q:Yn}{todo:List Item}{p:PE}{ds:List Deferred}{cs:List Frame}{q0 q1 q2:List HP}{l:List Ex}{kd:Int}{op:Int}
theorem X.exs (h1:Le q (exsM l::q1))(h2:Le q1 (exM e::q2))(K:X P G fr Q todo p ds cs (exsM (l++ [e])::q2)):X P G fr Q todo p ds cs q:=by
 have a:Kn (exsM l::exM e::q2) fun M=>Ex.Ats M (l++ [e]):=((show Kn (exsM l::exM e::q2) fun M=>Ex.Ats M l from fL).and (Kn.there (show Kn (exM e::q2) fun M=>e.At M from fL))).imp fun M h=>Oh h.1 ⟨h.2,trivial⟩
 exact .le ((h1.trans (dD _ h2)).trans ((cZ (mn:=fun e h=>iF e h) a).trans (dD _ ((eD _ _).trans (eD _ _))))) K
theorem X.fzEs (K:X P G fr Q todo p ds cs (exM (.mk kd n nm slot loc op l a c)::q0))(hq:Le q (rsH exC 7 124 a c l::q0):=by exact Zk)(h:Kn q0 fun M=>Ex.Ats M l:=by exact knA):X P G fr Q todo p ds cs q:= .frzR (Kn.here.and h.there) K hq
end
section
variable {f:FC}{pl pc:Int}
theorem S9 (IH: ∀ (x:Ex),x.sz<e.sz->x.er.thin-> ∀ {f:FC} {pl pc:Int} {q:List HP},(Kn q fun M=>f.At M)->(Kn q fun M=>x.At M)->CallF prog G 184 [.agg (fcC f).toArray,.agg (exC x).toArray,.agg [I64 pl,I64 pc].toArray] q (Ret fun v q'=> ∃ (g:FC) (y:Ex),v= .tuple [.agg (fcC g).toArray,.agg (exC y).toArray].toArray/\q'=fcM g::exM y::q/\(g.er,y.er)=f.er.expr x.er))(hf:Kn q fun M=>f.At M)(h:Kn q fun M=>e.At M)(ht:e.er.thin):CallF prog G 184 [.agg (fcC f).toArray,.agg (exC e).toArray,.agg [I64 pl,I64 pc].toArray] (q) (Ret fun v q'=> ∃ (g:FC) (x:Ex),v= .tuple [.agg (fcC g).toArray,.agg (exC x).toArray].toArray/\q'=fcM g::exM x::q/\(g.er,x.er)=f.er.expr e.er):=by
 refine aC func184 ntmps184 rfl fun F cs=> ?_;obtain ⟨k,z,nm,sl,lo,op,d,aa,ac⟩:=e;have hA:=Ov h;have b0:=Zx (f:=exC) (sz:=7) Z4 d;have k0:d.length<=2:=by have:=ht.1;rw [W9] at this;exact this
 have f0:Km (Z3 d):=ht.2;obtain ⟨R,r⟩: ∃ R,f.er.expr (Ex.er (.mk k z nm sl lo op d aa ac))=R:=⟨_,rfl⟩;rw [r];simp only [Ex.er,Fnd.expr] at r;refine xo 2 ?_;refine Ww fun n1=> ?_
 refine Ww fun n2=> ?_
 refine Ww fun n3=> ?_
 refine bW zeroValue240 fun n4=> ?_
 refine bW zeroValue124 fun n5=> ?_
 refine rn [5,0,1] ?_;refine kC (fun (x:FC×Int×Bool)=> [(3,pt n1),(4,pt n2),(5,pt n3),(6,pt n4),(7,pt n5)]) (fun x=>fcM x.1::pto n1 (.cells (fcC x.1).toArray 240 (0,0))::pto n2 (.cells (exC (.mk k z nm x.2.1 x.2.2 op d aa ac)).toArray 124 (0,0))::pto n3 (.cells [I64 pl,I64 pc].toArray 107 (0,0))::pto n4 (.cells zz6.toArray 240 (0,0))::pto n5 (.cells zz4.toArray 124 (0,0))::(q++F)) (fun x=>R=((Fnd.exprs x.1.er (Z3 d)).1,.mk k z nm x.2.1 x.2.2 op (Fnd.exprs x.1.er (Z3 d)).2)) (fun x a0=> ?_) fun K=> ?_
 . obtain ⟨g,o,p⟩:=x;dsimp only at a0|-;clear r;refine xx 10 ?_;refine aY (cG (fun (s:FC×(Option Addr×Nat×List Ex)×Option Addr)=>s.2.1.2.2.length<=d.length/\s.2.2=aa/\R=((Fnd.exprs s.1.er (Z3 (d.drop s.2.1.2.2.length))).1,.mk k z nm o p op (Z3 s.2.1.2.2++(Fnd.exprs s.1.er (Z3 (d.drop s.2.1.2.2.length))).2))) (fun s=> [(12,.slice s.2.1.1 s.2.1.2.2.length s.2.1.2.1),(13,I64 (s.2.1.2.2.length:Int)),(3,pt n1),(4,pt n2),(5,pt n3),(6,pt n4),(7,pt n5)]) (fun s=>rsH exC 7 124 s.2.1.1 s.2.1.2.1 s.2.1.2.2::exsM s.2.1.2.2::fcM s.1::pto n1 (.cells (fcC s.1).toArray 240 (0,0))::pto n2 (.cells (exC (.mk k z nm o p op d s.2.2 ac)).toArray 124 (0,0))::pto n3 (.cells [I64 pl,I64 pc].toArray 107 (0,0))::pto n4 (.cells zz6.toArray 240 (0,0))::pto n5 (.cells zz4.toArray 124 (0,0))::(q++F)) (fun s=>d.length - s.2.1.2.2.length) (fun s c0 ih=> ?_) (g,(none,0, []),aa) ⟨bB _,rfl,a0⟩) Zu (aS leA (aS (Zi exC 7 124 _) (aS (cZ (φ:=fun M=>Ex.Ats M []) (mn:=fun e h=>iF e h) (fun _ _ _=>trivial)) leA)));try dsimp only at c0 ih|-
   obtain ⟨l0,i0,d0⟩:=c0;obtain ⟨g,⟨a,c,i⟩,m0⟩:=s;dsimp only at*;subst i0;clear a0;refine rn [5,0,3] ?_;refine xp 54 ?_ ?_<;>intro h0
   . have t:i.length<d.length:=by omega
     obtain ⟨y,hy⟩: ∃ y,d[i.length]=y:=⟨_,rfl⟩;obtain ⟨k3,z3,s3,l3,o3,p3,y3,u3,w3⟩:=y;refine rn [5,0,1,2,3,4] ?_;refine K5 hA (by rw [b0];omega) fun b1 o1 e1=> ?_;subst e1;have b: ∀ (Q:List HP),Le Q q-> ∀ (j:Nat) (v:Value),nth (exC (.mk k3 z3 s3 l3 o3 p3 y3 u3 w3)) j=some v->Cl Q ⟨b1,o1+(i.length:Int).toNat*7+j,none⟩ v:=fun Q hQ j v hv=>cT hA hQ Z4 t rfl j v (by rw [hy,<-Uy];exact hv)
     refine dd [4] ?_;refine XD.rdCs 5 (us:=exC (.mk k3 z3 s3 l3 o3 p3 y3 u3 w3)) rfl rfl isAgg124 sizeOf124 rfl (fun k v hk=>b _ leA k v (by rw [Uy];exact hk)) ?_;refine ldAD 6 ?_;refine Yo (fl:= [⟨11,14,fun g=> pt g,fun g=>pto g (.cells zz6.toArray 240 (0,0))⟩,⟨12,15,fun g=> pt g,fun g=>pto g (.cells zz4.toArray 124 (0,0))⟩]) ?_;refine Fi 7 ⟨⟨_,rfl,rfl,rfl,rfl,rfl,rfl,fun q=>bX zeroValue240⟩,⟨_,rfl,rfl,rfl,rfl,rfl,rfl,fun q=>bX zeroValue124⟩,trivial⟩ call184 (aE _) (IH (.mk k3 z3 s3 l3 o3 p3 y3 u3 w3) (by have:=Vx (aB t);rw [hy] at this;simp only [Ex.sz] at this|-;omega) (by have:=Ml f0 (by rw [Yy];exact aP (aB t));rw [hy] at this;exact this) (f:=g) knA (dW (by have:=Ok h t;rw [hy] at this;exact this) leA)) ?_ (hL:=(hlA (h:=by repeat first|exact trivial|refine ⟨clA,?_⟩|refine ⟨b _ leA 0 _ rfl,?_⟩|refine ⟨b _ leA 1 _ rfl,?_⟩|refine ⟨b _ leA 2 _ rfl,?_⟩|refine ⟨b _ leA 3 _ rfl,?_⟩|refine ⟨b _ leA 4 _ rfl,?_⟩|refine ⟨b _ leA 5 _ rfl,?_⟩|refine ⟨b _ leA 6 _ rfl,?_⟩)));rintro _ _ ⟨g2,⟨k2,z2,s2,l2,o2,p2,y2,u2,w2⟩,rfl,rfl,j0⟩;refine ⟨(hlA (h:=by repeat first|exact trivial|refine ⟨clA,?_⟩|refine ⟨b _ leA 0 _ rfl,?_⟩|refine ⟨b _ leA 1 _ rfl,?_⟩|refine ⟨b _ leA 2 _ rfl,?_⟩|refine ⟨b _ leA 3 _ rfl,?_⟩|refine ⟨b _ leA 4 _ rfl,?_⟩|refine ⟨b _ leA 5 _ rfl,?_⟩|refine ⟨b _ leA 6 _ rfl,?_⟩)),?_⟩;refine V4 8 ⟨⟨_,rfl,rfl,rfl,rfl,rfl,rfl,fun q=>bX zeroValue240⟩,⟨_,rfl,rfl,rfl,rfl,rfl,rfl,fun q=>bX zeroValue124⟩,trivial⟩ (Pu.move rfl) ?_ (hL:=(hlA (h:=by repeat first|exact trivial|refine ⟨clA,?_⟩|refine ⟨b _ leA 0 _ rfl,?_⟩|refine ⟨b _ leA 1 _ rfl,?_⟩|refine ⟨b _ leA 2 _ rfl,?_⟩|refine ⟨b _ leA 3 _ rfl,?_⟩|refine ⟨b _ leA 4 _ rfl,?_⟩|refine ⟨b _ leA 5 _ rfl,?_⟩|refine ⟨b _ leA 6 _ rfl,?_⟩)));refine V4 9 ⟨⟨_,rfl,rfl,rfl,rfl,rfl,rfl,fun q=>bX zeroValue240⟩,⟨_,rfl,rfl,rfl,rfl,rfl,rfl,fun q=>bX zeroValue124⟩,trivial⟩ (eZ rfl rfl) ?_ (hL:=(hlA (h:=by repeat first|exact trivial|refine ⟨clA,?_⟩|refine ⟨b _ leA 0 _ rfl,?_⟩|refine ⟨b _ leA 1 _ rfl,?_⟩|refine ⟨b _ leA 2 _ rfl,?_⟩|refine ⟨b _ leA 3 _ rfl,?_⟩|refine ⟨b _ leA 4 _ rfl,?_⟩|refine ⟨b _ leA 5 _ rfl,?_⟩|refine ⟨b _ leA 6 _ rfl,?_⟩)));refine V4 10 ⟨⟨_,rfl,rfl,rfl,rfl,rfl,rfl,fun q=>bX zeroValue240⟩,⟨_,rfl,rfl,rfl,rfl,rfl,rfl,fun q=>bX zeroValue124⟩,trivial⟩ (eZ rfl rfl) ?_ (hL:=(hlA (h:=by repeat first|exact trivial|refine ⟨clA,?_⟩|refine ⟨b _ leA 0 _ rfl,?_⟩|refine ⟨b _ leA 1 _ rfl,?_⟩|refine ⟨b _ leA 2 _ rfl,?_⟩|refine ⟨b _ leA 3 _ rfl,?_⟩|refine ⟨b _ leA 4 _ rfl,?_⟩|refine ⟨b _ leA 5 _ rfl,?_⟩|refine ⟨b _ leA 6 _ rfl,?_⟩)));refine Vv (e0:=⟨11,14,fun g=> pt g,fun g=>pto g (.cells zz6.toArray 240 (0,0))⟩) (hnd:=by simp) 11 ⟨⟨_,rfl,rfl,rfl,rfl,rfl,rfl,fun q=>bX zeroValue240⟩,⟨_,rfl,rfl,rfl,rfl,rfl,rfl,fun q=>bX zeroValue124⟩,trivial⟩ (fun ga=> ?_) (hL:=(hlA (h:=by repeat first|exact trivial|refine ⟨clA,?_⟩|refine ⟨b _ leA 0 _ rfl,?_⟩|refine ⟨b _ leA 1 _ rfl,?_⟩|refine ⟨b _ leA 2 _ rfl,?_⟩|refine ⟨b _ leA 3 _ rfl,?_⟩|refine ⟨b _ leA 4 _ rfl,?_⟩|refine ⟨b _ leA 5 _ rfl,?_⟩|refine ⟨b _ leA 6 _ rfl,?_⟩)));change XF _ _ _ _ _ _ _ [⟨12,15,fun g=> pt g,fun g=>pto g (.cells zz4.toArray 124 (0,0))⟩] _ _ _ ((14,pt ga)::_) _ _ (pto ga (.cells zz6.toArray 240 (0,0))::_);refine Vv (e0:=⟨12,15,fun g=> pt g,fun g=>pto g (.cells zz4.toArray 124 (0,0))⟩) (hnd:=by simp) 12 ⟨⟨_,rfl,rfl,rfl,rfl,rfl,rfl,fun q=>bX zeroValue124⟩,trivial⟩ (fun gb=> ?_) (hL:=(hlA (h:=by repeat first|exact trivial|refine ⟨clA,?_⟩|refine ⟨b _ leA 0 _ rfl,?_⟩|refine ⟨b _ leA 1 _ rfl,?_⟩|refine ⟨b _ leA 2 _ rfl,?_⟩|refine ⟨b _ leA 3 _ rfl,?_⟩|refine ⟨b _ leA 4 _ rfl,?_⟩|refine ⟨b _ leA 5 _ rfl,?_⟩|refine ⟨b _ leA 6 _ rfl,?_⟩)));change XF _ _ _ _ _ _ _ [] _ _ _ ((15,pt gb)::_) _ _ (pto gb (.cells zz4.toArray 124 (0,0))::_);refine eT ?_ (hL:=(hlA (h:=by repeat first|exact trivial|refine ⟨clA,?_⟩|refine ⟨b _ leA 0 _ rfl,?_⟩|refine ⟨b _ leA 1 _ rfl,?_⟩|refine ⟨b _ leA 2 _ rfl,?_⟩|refine ⟨b _ leA 3 _ rfl,?_⟩|refine ⟨b _ leA 4 _ rfl,?_⟩|refine ⟨b _ leA 5 _ rfl,?_⟩|refine ⟨b _ leA 6 _ rfl,?_⟩)));refine rn [14,15,0,2,0,0,3,0] ?_;refine bQ (Yz (u:=(.mk k2 z2 s2 l2 o2 p2 y2 u2 w2)) exC underlying122 Uu rfl rfl Z4 rfl) ?_;rintro _ _ ⟨gl,rfl,rfl⟩;refine bQ (Z9 (f:=exC) (l:=i) (m:= [(.mk k2 z2 s2 l2 o2 p2 y2 u2 w2)]) underlying122 Uu rfl rfl Z4 rfl rfl Zk ((bE _).le Zk) Gc (by simp;omega) (by simp;omega)) ?_;rintro _ _ ⟨a3,c3,rfl,rfl⟩;refine ox 8 ?_;refine X.exs (l:=i) (e:=(.mk k2 z2 s2 l2 o2 p2 y2 u2 w2)) Zk Zk ?_
     have g0:R=((Fnd.exprs g2.er (Z3 (d.drop (i.length+1)))).1,.mk k z nm o p op (Z3 (i++ [(.mk k2 z2 s2 l2 o2 p2 y2 u2 w2)])++(Fnd.exprs g2.er (Z3 (d.drop (i.length+1)))).2)):=by
      rw [d0,aJ t,hy,Et];simp only [Z3,Fnd.exprs,<-j0,aA,fS]
     refine aY (ih (g2,(a3,c3,i++ [(.mk k2 z2 s2 l2 o2 p2 y2 u2 w2)]),_) ⟨by simp;omega,rfl,by rw [aG];exact g0⟩ (by simp;omega)) Zu leA
   have hl:i.length=d.length:=by omega
   refine rn [6,0,2,0,1,2,3,4,0] ?_;refine X.fzEs (kd:=k) (n:=z) (nm:=nm) (slot:=o) (loc:=p) (op:=op) ?_;refine Zq (fcM g::exM (.mk k z nm o p op i a c)::q) func184 (Zqa results184) ⟨_,rfl,g,(.mk k z nm o p op i a c),rfl,rfl,by rw [d0,hl,dP];simp only [Z3,Fnd.exprs,cA,Ex.er]⟩
 have w:k=2\/k=3\/ ¬ (k=2\/k=3):=by omega
 rcases w with rfl|rfl|w
 . rw [if_pos rfl] at r;refine rn [6,2018,3,0,1,0,0] ?_;refine Zb call186 (aE _) (wants_ok (f:=f) (dW hf)) ?_;rintro _ _ ⟨g,x,rfl,rfl,hw⟩;refine oo 3 ?_;refine bW zeroValue240 fun n6=> ?_
   refine bW zeroValue245 fun n7=> ?_
   refine rn [0,0,3,0,0,1,0,1,2,3,4,5,6,7,8,9,0,1] ?_;rw [<-hw] at r;dsimp only at r;exact aY (K (g,x.s,x.k==100) r.symm) Zu leA
 . rw [if_neg (by decide),if_pos rfl] at r;refine rn [6,1018,6,2036,3,0,1,0,0] ?_;refine Zb call186 (aE _) (wants_ok (f:=f) (dW hf)) ?_;rintro _ _ ⟨g,x,rfl,rfl,hw⟩;refine oo 3 ?_;refine bW zeroValue240 fun n6=> ?_
   refine bW zeroValue245 fun n7=> ?_
   refine rn [0,0,3,0,0,3,0,1,0,2] ?_;rw [<-hw] at r;dsimp only at r;exact aY (K (g,x.s,lo) r.symm) Zu leA
 rw [if_neg (fun e=>w (.inl e)),if_neg (fun e=>w (.inr e))] at r;refine rn [6,1018,6] ?_;refine cQ 36 bF rfl (cB (dB.2 (by omega))) ?_;refine xx 3 ?_;refine bY (q':=fcM f::_) (cZ (dW hf)) ?_;exact aY (K (f,sl,lo) r.symm) Zu leA
theorem Dl: ∀ (N:Nat) (x:Ex),x.sz<=N->x.er.thin-> ∀ {f:FC} {pl pc:Int} {q:List HP},(Kn q fun M=>f.At M)->(Kn q fun M=>x.At M)->CallF prog G 184 [.agg (fcC f).toArray,.agg (exC x).toArray,.agg (B3 pl pc).toArray] q (Ret fun v q'=> ∃ (g:FC) (y:Ex),v= .tuple [.agg (fcC g).toArray,.agg (exC y).toArray].toArray/\q'=fcM g::exM y::q/\(g.er,y.er)=f.er.expr x.er)
 |N,x,hN,ht,_,_,_,_,hf,hx=>S9 (fun y d a _ _ _ _ c b=>by
  cases N with
  |zero=>omega
  |succ N=>exact Dl N y (by omega) a c b) hf hx ht
end
theorem Fnd.fl_eq (f:Fnd)(w:Int): ∃ x,f.fl w= { f with flaw:=x } :=by unfold Fnd.fl;split;exact ⟨_,rfl⟩;exact ⟨f.flaw,rfl⟩
theorem Fnd.wants_eq (f:Fnd)(s:ByteArray)(a b:Int): ∃ x,(f.wants s a b).1= { f with flaw:=x } :=by
 unfold Fnd.wants;split
 . exact f.fl_eq 131
 dsimp only;split
 . exact f.fl_eq 132
 exact ⟨f.flaw,rfl⟩
mutual
theorem Rn: ∀ (e:PEx) (f:Fnd),∃ x,(f.expr e).1= { f with flaw:=x }
 | .mk k n nm slot loc op args,f=>by
  simp only [Fnd.expr];split
  . obtain ⟨x,b⟩:=f.wants_eq nm 1 100;obtain ⟨y,a⟩:=Q6 args (f.wants nm 1 100).1;exact ⟨y,by rw [a,b]⟩
  split
  . obtain ⟨x,b⟩:=f.wants_eq nm 2 2;obtain ⟨y,a⟩:=Q6 args (f.wants nm 2 2).1;exact ⟨y,by rw [a,b]⟩
  exact Q6 args f
theorem Q6: ∀ (l:List PEx) (f:Fnd),∃ x,(f.exprs l).1= { f with flaw:=x }
 | [],f=>⟨f.flaw,rfl⟩
 |e::r,f=>by
  simp only [Fnd.exprs];obtain ⟨x,b⟩:=Rn e f;obtain ⟨y,a⟩:=Q6 r (f.expr e).1;exact ⟨y,by rw [a,b]⟩
end
structure Fnd.To (f g:Fnd) (N:Nat):Prop where
 n:g.names.length<=f.names.length+N
 l:f.locals<=g.locals/\g.locals<=f.locals+N
 s:f.stm<=g.stm
 e:g.vars=f.vars/\g.arrs=f.arrs/\g.mu=f.mu/\g.co=f.co/\g.chs=f.chs/\g.ths=f.ths/\g.main=f.main/\g.nv=f.nv/\g.na=f.na/\g.nm=f.nm/\g.nc=f.nc/\g.nh=f.nh/\g.cells=f.cells
theorem Fnd.To.flaw (f:Fnd)(x:Int):f.To { f with flaw:=x } 0:=⟨aL _,⟨bL _,by dsimp only;omega⟩,bL _,rfl,rfl,rfl,rfl,rfl,rfl,rfl,rfl,rfl,rfl,rfl,rfl,rfl⟩
theorem Fnd.To.refl (f:Fnd):f.To f 0:=Fnd.To.flaw f f.flaw
theorem Fnd.To.trans {h:Fnd}{M:Nat}(a:f.To g N)(b:g.To h M):f.To h (N+M):=by
 obtain ⟨a1,a2,a3,a4⟩:=a;obtain ⟨b1,b2,b3,b4⟩:=b;refine ⟨by omega,by omega,by omega,?_⟩;obtain ⟨x1,x2,x3,x4,x5,z,y,x,w,m,l,k,j⟩:=a4;obtain ⟨v,u,t,s,r,q,p,o,n,i,e,d,c⟩:=b4;exact ⟨v.trans x1,u.trans x2,t.trans x3,s.trans x4,r.trans x5,q.trans z,p.trans y,o.trans x,n.trans w,i.trans m,e.trans l,d.trans k,c.trans j⟩
theorem Fnd.To.up {M:Nat}(a:f.To g N)(h:N<=M):f.To g M:=⟨by have:=a.n;omega,by have:=a.l;omega,a.s,a.e⟩
theorem Fnd.To.back (a:f.To g N)(h:Fnd){M:Nat}(hn:h.names.length<=f.names.length+M)(hl:f.locals<=h.locals/\h.locals<=f.locals+M):f.To { g with names:=h.names,locals:=h.locals } M:=⟨hn,hl,a.s,a.e⟩
theorem Fnd.To.wants (f:Fnd)(s:ByteArray)(a b:Int):f.To (f.wants s a b).1 0:=by obtain ⟨x,c⟩:=f.wants_eq s a b;rw [c];exact .flaw f x
theorem Fnd.To.expr (f:Fnd)(e:PEx):f.To (f.expr e).1 0:=by obtain ⟨x,a⟩:=Rn e f;rw [a];exact .flaw f x
theorem Fnd.To.fl (f:Fnd)(w:Int):f.To (f.fl w) 0:=by obtain ⟨x,a⟩:=f.fl_eq w;rw [a];exact .flaw f x
theorem Fnd.To.loc1 (f:Fnd)(s:ByteArray):f.To (f.loc1 s) 0:=by unfold Fnd.loc1;split;exact .fl f _;exact .refl f
theorem Fnd.To.loc2 (f:Fnd):f.To f.loc2 0:=by unfold Fnd.loc2;split;exact .fl f _;exact .refl f
theorem Fnd.To.own1 (f:Fnd)(k:Int)(nm:ByteArray)(sl:Int)(lo:Bool):f.To (f.own1 k nm sl lo).1 0:=by unfold Fnd.own1;split;exact .wants ..;exact .refl f
theorem Fnd.To.own2 (f:Fnd)(k:Int)(nm wt:ByteArray)(sl ot:Int)(lo:Bool):f.To (f.own2 k nm wt sl ot lo).1 1:=by
 unfold Fnd.own2;split
 . have h:=(Fnd.To.loc1 f nm).trans (Fnd.To.loc2 (f.loc1 nm));refine ⟨by have:=h.n;simp [Fnd.loc3];omega,by have:=h.l;simp only [Fnd.loc3];omega,h.s,h.e⟩
 split
 . exact (Fnd.To.wants f ..).up (by decide)
 split
 . exact (Fnd.To.wants f ..).up (by decide)
 exact (Fnd.To.refl f).up (by decide)
theorem Fnd.To.own (f:Fnd)(k:Int)(nm wt:ByteArray)(sl ot:Int)(lo:Bool):f.To (f.own k nm wt sl ot lo).1 1:=(Fnd.To.own1 f k nm sl lo).trans (Fnd.To.own2 _ k nm wt _ ot _)
theorem Fnd.To.stm (f:Fnd)(n:Int)(h:f.stm<=n):f.To { f with stm:=n } 0:=⟨aL _,⟨bL _,by dsimp only;omega⟩,h,rfl,rfl,rfl,rfl,rfl,rfl,rfl,rfl,rfl,rfl,rfl,rfl,rfl⟩
mutual
theorem Fnd.To.stmt: ∀ (s:PStm) (f:Fnd),f.To (f.stmt s).1 1
 | .mk k ln cl nm wt e ix body els id slot other loc,f=>by
  simp only [Fnd.stmt];split
  . exact (Fnd.To.fl f _).up (by decide)
  dsimp only;have i:=(Fnd.To.stm f (f.stm+1) (by omega)).trans ((Fnd.To.expr { f with stm:=f.stm+1 } ix).trans (Fnd.To.expr _ e));have h:=i.trans (Fnd.To.own _ k nm wt slot other loc);obtain ⟨g,b⟩: ∃ g,Fnd.own (Fnd.expr (Fnd.expr { f with stm:=f.stm+1 } ix).1 e).1 k nm wt slot other loc=g:=⟨_,rfl⟩;rw [b];have a:f.To g.1 1:=by rw [<-b];exact h
  have d:=a.trans (Fnd.To.blk body g.1);have c:=(d.back g.1 a.n a.l).trans (Fnd.To.blk els _);exact c.back g.1 a.n a.l
theorem Fnd.To.blk: ∀ (l:List PStm) (f:Fnd),f.To (f.blk l).1 l.length
 | [],f=> .refl f
 |s::r,f=>by
  simp only [Fnd.blk];split
  . exact ((Fnd.To.stmt s f).trans (Fnd.To.blk r (f.stmt s).1)).up (by simp;omega)
  exact (Fnd.To.refl f).up (by simp)
end
abbrev fY:=@Fnd.To.blk
mutual
def PStm.thin:PStm->Prop
 | .mk _ _ _ _ _ e ix body els _ _ _ _=>e.thin/\ix.thin/\Wr body/\Wr els
def Wr:List PStm->Prop
 | []=>True
 |s::r=>s.thin/\Wr r
end
theorem H3 {x:PStm}: ∀ {l:List PStm},Wr l->x∈l->x.thin
 |y::r,⟨h1,h2⟩,h=>by
  rcases cE.1 h with rfl|h
  . exact h1
  exact H3 h2 h
mutual
theorem E5: ∀ {s:PStm} {n:Nat},s.may n=true->s.thin
 | .mk k _ _ nm wt e ix body els _ _ _ _,n,h=>by
  simp only [PStm.may] at h;split at h;cases h
  split at h;cases h
  split at h;cases h
  rename_i a;split at h;cases h
  rw [aI] at h
  have f:e.thin:=by
   unfold Pz at a
   cases hE:E0 k with
   |true=>exact Jh (d:=24) (by cases hr:e.right 24 with|true=>rfl|false=>simp [hE,hr] at a)
   |false=>exact Tf (by cases hr:e.nil with|true=>rfl|false=>simp [hE,hr] at a)
  have c:ix.thin:=by
   unfold Pz at a;rcases Classical.em (k=3) with b|b
   . exact Jh (d:=24) (by cases hr:ix.right 24 with|true=>rfl|false=>simp [b,hr] at a)
   exact Tf (by cases hr:ix.nil with|true=>rfl|false=>simp [b,hr] at a)
  exact ⟨f,c,Uo h.1,Uo h.2⟩
theorem Uo: ∀ {l:List PStm} {n:Nat},PStm.mays l n=true->Wr l
 | [],_,_=>trivial
 |s::r,n,h=>by
  simp only [PStm.mays,aI] at h;exact ⟨E5 h.1,Uo h.2⟩
end
theorem Fnd.stmt_eq {k ln cl:Int}{wt:ByteArray}{e ix:PEx}{body els:List PStm}{id other:Int}{a b:Fnd×PEx}{c:Fnd×Int×Int×Bool}{x y:Fnd×List PStm}(h: ¬512<=f.stm)(ha:a=Fnd.expr { f with stm:=f.stm+1 } ix)(hb:b=a.1.expr e)(hc:c=b.1.own k nm wt slot other loc)(hx:x=c.1.block body)(hy:y=x.1.block els):
 f.stmt (.mk k ln cl nm wt e ix body els id slot other loc)=(y.1,.mk k ln cl nm wt b.2 a.2 x.2 y.2 f.stm c.2.1 c.2.2.1 c.2.2.2):=by
 subst ha hb hc hx hy;simp only [Fnd.stmt,if_neg h];rfl
theorem FC.At.s {f:FC}(h:f.At M):({ f with stm:=n } :FC).At M:=⟨h.vars,h.arrs,h.chs,h.ths,h.bod,h.nv,h.na,h.nm,h.nc,h.nh,h.names⟩
theorem FC.At.l {f:FC}{x:Sv Nm}{m:Int}(h:f.At M)(h1:x.At M nmC):({ f with names:=x,locals:=n,most:=m } :FC).At M:=⟨h.vars,h.arrs,h.chs,h.ths,h.bod,h.nv,h.na,h.nm,h.nc,h.nh,h1⟩
theorem FC.At.b {f g:FC}(h:f.At M)(h1:g.At M):({ f with names:=g.names,locals:=n } :FC).At M:=⟨h.vars,h.arrs,h.chs,h.ths,h.bod,h.nv,h.na,h.nm,h.nc,h.nh,h1.names⟩
section
variable {f:FC}
theorem Se (IH: ∀ (m:List Stm) (a:Option Addr) (c:Nat),Zm m<x.sz->Wr (Zj m)-> ∀ {f:FC} {q:List HP},(Kn q fun M=>f.At M)->(Kn q fun M=>BlkAt M a c m)->(f.names.l.length+Zm m<=300000/\(0<=f.locals/\f.locals+Zm m<=300000)/\0<=f.stm)->CallF prog G 121 [.agg (fcC f).toArray,.slice a m.length c] q (Ret fun v q'=> ∃ (g:FC) (b:Option Addr) (d:Nat) (m':List Stm),v= .tuple [.agg (fcC g).toArray,.slice b m'.length d].toArray/\q'=fcM g::blM b d m'::q/\(g.er,Zj m')=f.er.block (Zj m)))(hf:Kn q fun M=>f.At M)(h:Kn q fun M=>x.At M)(ht:x.er.thin)(hb:(f.names.l.length+x.sz<=300000/\(0<=f.locals/\f.locals+x.sz<=300000)/\0<=f.stm)):CallF prog G 157 [.agg (fcC f).toArray,.agg (stC x).toArray] (q) (Ret fun v q'=> ∃ (g:FC) (y:Stm),v= .tuple [.agg (fcC g).toArray,.agg (stC y).toArray].toArray/\q'=fcM g::stM y::q/\(g.er,y.er)=f.er.stmt x.er):=by
 refine aC func157 ntmps157 rfl fun F cs=> ?_;obtain ⟨k,ln,cl,nm,w,⟨k1,z1,s1,l1,o1,p1,y1,u1,w1⟩,⟨k2,z2,s2,l2,o2,p2,y2,u2,w2⟩,i,p,ba,bc,ea,ec,id,slot,e,loc⟩:=x;obtain ⟨w0,v0,u0,t0⟩:=ht;have hE:=Oz h;have hX:=I9 h;have hB:=Oj h;have hL:=Oq h;simp only [Stm.sz] at hb;obtain ⟨t1,⟨r1,q1⟩,m1⟩:=hb;refine xo 2 ?_;refine Ww fun n1=> ?_
 refine Ww fun n2=> ?_
 refine bW zeroValue240 fun n3=> ?_
 refine bW zeroValue126 fun n4=> ?_
 refine rn [6,0,2] ?_;refine xp 18 ?_ ?_<;>intro h0
 . have b0:512<=f.er.stm:=h0;refine rn [2,0,1,2,3,5] ?_;refine Wy 3 call120 (aE _) (Uv (f:=f) (dW hf)) ?_;rintro _ _ ⟨gf,rfl,rfl,hg⟩;refine ⟨hlA,?_⟩;refine rn [6,7,0] ?_;refine bY (q':=stM (.mk k ln cl nm w (.mk k1 z1 s1 l1 o1 p1 y1 u1 w1) (.mk k2 z2 s2 l2 o2 p2 y2 u2 w2) i p ba bc ea ec id slot e loc)::_) (cZ (dW h)) ?_;refine Zq (fcM gf::stM (.mk k ln cl nm w (.mk k1 z1 s1 l1 o1 p1 y1 u1 w1) (.mk k2 z2 s2 l2 o2 p2 y2 u2 w2) i p ba bc ea ec id slot e loc)::q) func157 (Zqa results157) ⟨_,rfl,gf,(.mk k ln cl nm w (.mk k1 z1 s1 l1 o1 p1 y1 u1 w1) (.mk k2 z2 s2 l2 o2 p2 y2 u2 w2) i p ba bc ea ec id slot e loc),rfl,rfl,by simp only [Stm.er,Fnd.stmt,if_pos b0,hg]⟩
 have b0: ¬512<=f.er.stm:=(by show ¬512<=f.stm;omega);refine rn [6,0,1,0,5,0,3,0,3,0,1,0,1,0] ?_;refine Zb call184 (aE _) (Dl _ (.mk k2 z2 s2 l2 o2 p2 y2 u2 w2) (aL _) v0 (f:=({ f with stm:=f.stm+1 } :FC)) ((dW hf).imp fun M h=>FC.At.s h) (dW hX)) ?_;rintro _ _ ⟨g1,⟨k3,z3,s3,l3,o3,p3,y3,u3,w3⟩,rfl,rfl,q0⟩;refine rn [3,0,1,0,3,0,1,0,1,0] ?_;refine Zb call184 (aE _) (Dl _ (.mk k1 z1 s1 l1 o1 p1 y1 u1 w1) (aL _) w0 (f:=g1) knA (dW hE)) ?_;rintro _ _ ⟨g2,⟨k4,z4,s4,l4,o4,p4,y4,u4,w4⟩,rfl,rfl,p0⟩;have j0:f.er.To g2.er 0:=by have h1:=(Fnd.To.stm f.er (f.stm+1) (by show f.stm<=f.stm+1;omega)).trans ((Fnd.To.expr _ _).trans (Fnd.To.expr (Fnd.expr { f.er with stm:=f.stm+1 } (Ex.er (.mk k2 z2 s2 l2 o2 p2 y2 u2 w2))).1 (Ex.er (.mk k1 z1 s1 l1 o1 p1 y1 u1 w1))));rw [show g2.er=(Fnd.expr (Fnd.expr { f.er with stm:=f.stm+1 } (Ex.er (.mk k2 z2 s2 l2 o2 p2 y2 u2 w2))).1 (Ex.er (.mk k1 z1 s1 l1 o1 p1 y1 u1 w1))).1 from by rw [show (Fnd.expr { f.er with stm:=f.stm+1 } (Ex.er (.mk k2 z2 s2 l2 o2 p2 y2 u2 w2))).1=g1.er from (bK Prod.fst q0).symm];exact bK Prod.fst p0];exact h1
 refine rn [3,0,1,0,4,0,5] ?_;refine aO call185 (want_ok) ?_;refine ox 12 ?_;refine kC (fun (x:FC×Int×Bool)=> [(2,pt n1),(3,pt n2),(4,pt n3),(5,pt n4),(6,I64 k)]) (fun x=>fcM x.1::pto n1 (.cells (fcC x.1).toArray 240 (0,0))::pto n2 (.cells (stC (.mk k ln cl nm w (.mk k4 z4 s4 l4 o4 p4 y4 u4 w4) (.mk k3 z3 s3 l3 o3 p3 y3 u3 w3) i p ba bc ea ec f.stm x.2.1 e x.2.2)).toArray 126 (0,0))::pto n3 (.cells zz6.toArray 240 (0,0))::pto n4 (.cells zz2.toArray 126 (0,0))::exM (.mk k3 z3 s3 l3 o3 p3 y3 u3 w3)::exM (.mk k4 z4 s4 l4 o4 p4 y4 u4 w4)::(q++F)) (fun x=>x=(x.1,x.2.1,x.2.2)/\(x.1.er,x.2.1,x.2.2)=g2.er.own1 k nm slot loc/\f.er.To x.1.er 0) (fun x j=> ?_) fun K=> ?_
 . obtain ⟨g,sl,lo⟩:=x;dsimp only at j|-;obtain ⟨_,s0,i0⟩:=j;clear j0;refine xx 5 ?_;refine kC (fun (x:FC×Int×Int×Bool)=> [(2,pt n1),(3,pt n2),(4,pt n3),(5,pt n4)]) (fun x=>fcM x.1::pto n1 (.cells (fcC x.1).toArray 240 (0,0))::pto n2 (.cells (stC (.mk k ln cl nm w (.mk k4 z4 s4 l4 o4 p4 y4 u4 w4) (.mk k3 z3 s3 l3 o3 p3 y3 u3 w3) i p ba bc ea ec f.stm x.2.1 x.2.2.1 x.2.2.2)).toArray 126 (0,0))::pto n3 (.cells zz6.toArray 240 (0,0))::pto n4 (.cells zz2.toArray 126 (0,0))::exM (.mk k3 z3 s3 l3 o3 p3 y3 u3 w3)::exM (.mk k4 z4 s4 l4 o4 p4 y4 u4 w4)::(q++F)) (fun x=>(x.1.er,x.2.1,x.2.2.1,x.2.2.2)=g.er.own2 k nm w sl e lo) (fun x j=> ?_) fun z=> ?_
   . obtain ⟨r,c0,d0,f0⟩:=x;dsimp only at j|-;have m0:f.er.To r.er 1:=by have h1:=i0.trans (Fnd.To.own2 g.er k nm w sl e lo);rw [<-j] at h1;exact h1
     have a0:=m0;obtain ⟨a1,⟨e1,c1⟩,y0,_⟩:=a0;dsimp only [FC.er] at a1 e1 c1 y0;refine rn [2,0,1,0] ?_;refine Zb call121 (aE _) (IH i ba bc (by simp only [Stm.sz];omega) u0 (f:=r) knA (dW hB) ⟨by omega,⟨by omega,by omega⟩,by omega⟩) ?_;rintro _ _ ⟨g5,a5,c5,l5,rfl,rfl,g0⟩;have r0:g5.er.names=r.er.names:=by rw [show g5.er=(r.er.block (Zj i)).1 from bK Prod.fst g0];rfl
     have j1:g5.er.locals=r.er.locals:=by rw [show g5.er=(r.er.block (Zj i)).1 from bK Prod.fst g0];rfl
     have i1:r.er.stm<=g5.er.stm:=by rw [show g5.er=(r.er.block (Zj i)).1 from bK Prod.fst g0];exact (fY (Zj i) r.er).s
     dsimp only [FC.er] at r0 j1 i1;have v1:=bK List.length r0;refine rn [3,0,1,0,3,0,1,0] ?_;refine Zb call121 (aE _) (IH p ea ec (by simp only [Stm.sz];omega) t0 (f:=g5) knA (dW hL) ⟨by omega,⟨by omega,by omega⟩,by omega⟩) ?_;rintro _ _ ⟨g6,a6,c6,l6,rfl,rfl,f1⟩;refine rn [3,0,1,0,2,0,1,2,3,4,0] ?_;refine Qx (.mk k ln cl nm w (.mk k4 z4 s4 l4 o4 p4 y4 u4 w4) (.mk k3 z3 s3 l3 o3 p3 y3 u3 w3) l5 l6 a5 c5 a6 c6 f.stm c0 d0 f0) jA ?_;refine Zq (fcM g6::stM (.mk k ln cl nm w (.mk k4 z4 s4 l4 o4 p4 y4 u4 w4) (.mk k3 z3 s3 l3 o3 p3 y3 u3 w3) l5 l6 a5 c5 a6 c6 f.stm c0 d0 f0)::q) func157 (Zqa results157) ⟨_,rfl,g6,(.mk k ln cl nm w (.mk k4 z4 s4 l4 o4 p4 y4 u4 w4) (.mk k3 z3 s3 l3 o3 p3 y3 u3 w3) l5 l6 a5 c5 a6 c6 f.stm c0 d0 f0),rfl,rfl,(Fnd.stmt_eq b0 q0 p0 (show (r.er,c0,d0,f0)=_ from by unfold Fnd.own;dsimp only;rw [<-s0];exact j) g0 f1).symm⟩
   have o:k=1\/k=8\/k=12\/ ¬ (k=1\/k=8\/k=12):=by omega
   rcases o with o|o|o|o
   . unfold Fnd.own2 at z;simp only [if_pos o] at z;refine rn [6,2083,4,0,1,0] ?_;refine aO call119 (Xs (f:=g) knA) ?_;refine ox 2 ?_;refine kC (fun (x:FC)=> [(2,pt n1),(3,pt n2),(4,pt n3),(5,pt n4)]) (fun x=>fcM x::pto n1 (.cells (fcC x).toArray 240 (0,0))::pto n2 (.cells (stC (.mk k ln cl nm w (.mk k4 z4 s4 l4 o4 p4 y4 u4 w4) (.mk k3 z3 s3 l3 o3 p3 y3 u3 w3) i p ba bc ea ec f.stm sl e lo)).toArray 126 (0,0))::pto n3 (.cells zz6.toArray 240 (0,0))::pto n4 (.cells zz2.toArray 126 (0,0))::exM (.mk k3 z3 s3 l3 o3 p3 y3 u3 w3)::exM (.mk k4 z4 s4 l4 o4 p4 y4 u4 w4)::(q++F)) (fun x=>x.er=g.er.loc1 nm) (fun x j=> ?_) fun K3=> ?_
     . obtain ⟨r,o0⟩:=kL x;rw [<-o0] at j|-;clear o0;refine rn [4,0,2] ?_;refine kC (fun (x:FC)=> [(2,pt n1),(3,pt n2),(4,pt n3),(5,pt n4)]) (fun x=>fcM x::pto n1 (.cells (fcC x).toArray 240 (0,0))::pto n2 (.cells (stC (.mk k ln cl nm w (.mk k4 z4 s4 l4 o4 p4 y4 u4 w4) (.mk k3 z3 s3 l3 o3 p3 y3 u3 w3) i p ba bc ea ec f.stm sl e lo)).toArray 126 (0,0))::pto n3 (.cells zz6.toArray 240 (0,0))::pto n4 (.cells zz2.toArray 126 (0,0))::exM (.mk k3 z3 s3 l3 o3 p3 y3 u3 w3)::exM (.mk k4 z4 s4 l4 o4 p4 y4 u4 w4)::(q++F)) (fun x=>x.er=(g.er.loc1 nm).loc2) (fun x j=> ?_) fun K4=> ?_
       . obtain ⟨n,n0⟩:=kL x;rw [<-n0] at j|-;clear n0;have a0:f.er.To n.er 0:=by have h1:=i0.trans ((Fnd.To.loc1 g.er nm).trans (Fnd.To.loc2 (g.er.loc1 nm)));rw [<-j] at h1;exact h1
         obtain ⟨z0,⟨d1,b1⟩,x0,_⟩:=a0;dsimp only [FC.er] at z0 d1 b1 x0;refine rn [3,0,1,0,1,0,2,0,1,2,4,5,6,7,8] ?_;refine jL (q':=rsH nmC 3 245 none 0 ([])::_) (Zi nmC 3 245 _) ?_;refine Yo (fl:= [⟨8,113,fun g=> .slice (some ⟨g,0,none⟩) 1 1,fun g=>rsH nmC 3 245 (some ⟨g,0,none⟩) 1 ([⟨nm,100,n.locals⟩])⟩]) ?_;refine iX 2 ⟨⟨_,rfl,rfl,rfl,rfl,rfl,rfl,fun q=>Yz (u:=⟨nm,100,n.locals⟩) nmC underlying238 Qp rfl rfl (fun _=>rfl) rfl⟩,trivial⟩ (Er (f:=nmC) (sz:=3) (l:= []) (m:=n.names.l) underlying238 Qp rfl rfl (fun _=>rfl) rfl rfl Zk (dT (kA (φ:=fun M=>n.At M) knA fun M h=>h.names)) (fun _=>rfl) (by simp;omega) (by simp;omega)) ?_;refine kk2 fun aa ac=> ?_
         refine Vv (e0:=⟨8,113,fun g=> .slice (some ⟨g,0,none⟩) 1 1,fun g=>rsH nmC 3 245 (some ⟨g,0,none⟩) 1 ([⟨nm,100,n.locals⟩])⟩) (hnd:=by simp) 8 ⟨⟨_,rfl,rfl,rfl,rfl,rfl,rfl,fun q=>Yz (u:=⟨nm,100,n.locals⟩) nmC underlying238 Qp rfl rfl (fun _=>rfl) rfl⟩,trivial⟩ fun gl=> ?_;change XF _ _ _ _ _ _ _ [] _ _ _ ((113,.slice (some ⟨gl,0,none⟩) 1 1)::_) _ _ (rsH nmC 3 245 (some ⟨gl,0,none⟩) 1 ([⟨nm,100,n.locals⟩])::_);refine eT ?_;try rw [aT]
         refine fC 9 rfl (Z9 (f:=nmC) (l:=n.names.l) (m:= [⟨nm,100,n.locals⟩]) underlying238 Qp rfl rfl (fun _=>rfl) rfl rfl Zk ((bE _).le Zk) (fun _=>rfl) (by simp;omega) (by simp;omega)) ?_;refine kk2 fun l0 k0=> ?_
         refine rn [11,12,0,3,0,2,0,3,0,1,0,2,0,2] ?_;refine P6 ?_;refine bY (q':=fcM ({ n with names:=⟨n.names.l++ [⟨nm,100,n.locals⟩],l0,k0⟩,locals:=n.locals+1,most:=max n.most (n.locals+1) } :FC)::_) (cZ ((gL (φ:=fun M=>n.At M) knA (svK (x:=⟨_,l0,k0⟩) (f:=nmC))).imp fun M h=>FC.At.l h.1 h.2)) ?_;exact aY (z (({ n with names:=⟨n.names.l++ [⟨nm,100,n.locals⟩],l0,k0⟩,locals:=n.locals+1,most:=max n.most (n.locals+1) } :FC),n.locals,e,true) (by rw [<-j];rfl)) Zu leA
       refine xp 96 ?_ ?_<;>intro h4
       . refine rn [2,0,1,0] ?_;refine Zb call120 (aE _) (Uv (f:=r) knA) ?_;rintro _ _ ⟨gf,rfl,rfl,hg⟩;refine rn [0,1] ?_;exact aY (K4 gf (by rw [<-j];unfold Fnd.loc2;rw [if_pos (show 32<=r.er.locals from h4)];exact hg)) Zu leA
       refine xx 2 ?_;exact aY (K4 r (by rw [<-j];unfold Fnd.loc2;rw [if_neg (show ¬32<=r.er.locals from (by show ¬32<=r.locals;omega))])) Zu leA
     refine xp 89 ?_ ?_<;>intro h3
     . refine rn [2,0,1,0] ?_;refine Zb call120 (aE _) (Uv (f:=g) knA) ?_;rintro _ _ ⟨gf,rfl,rfl,hg⟩;refine rn [0,1] ?_;exact aY (K3 gf (by unfold Fnd.loc1;rw [if_pos (show g.er.at nm≠0 by omega)];exact hg)) Zu leA
     refine xx 2 ?_;exact aY (K3 g (by unfold Fnd.loc1;rw [if_neg (show ¬g.er.at nm≠0 by omega)])) Zu leA
   . unfold Fnd.own2 at z;simp only [if_neg (show ¬k=1 by omega),if_pos o] at z;refine rn [6,1083,6,2126,3,0,1,0,1,0] ?_;refine Zb call186 (aE _) (wants_ok (f:=g) knA) ?_;rintro _ _ ⟨gw,xw,rfl,rfl,t⟩;refine oo 3 ?_;refine bW zeroValue240 fun n5=> ?_
     refine bW zeroValue245 fun n6=> ?_
     refine rn [0,0,3,0,0,3,0,1,0,2] ?_;exact aY (z (gw,sl,xw.s,lo) (by rw [<-t])) Zu leA
   . unfold Fnd.own2 at z;simp only [if_neg (show ¬k=1 by omega),if_neg (show ¬k=8 by omega),if_pos o] at z;refine rn [6,1083,6,1126,6,2141,3,0,1,0,1,0] ?_;refine Zb call186 (aE _) (wants_ok (f:=g) knA) ?_;rintro _ _ ⟨gw,xw,rfl,rfl,t⟩;refine oo 3 ?_;refine bW zeroValue240 fun n5=> ?_
     refine bW zeroValue245 fun n6=> ?_
     refine rn [0,0,3,0,0,1,0,1,2,3,4,5,6,7,8,9,0,1] ?_;exact aY (z (gw,sl,xw.s,xw.k==100) (by rw [<-t])) Zu leA
   unfold Fnd.own2 at z;simp only [if_neg (show ¬k=1 by omega),if_neg (show ¬k=8 by omega),if_neg (show ¬k=12 by omega)] at z;refine rn [6,1083,6,1126,6,1141,3] ?_;exact aY (z (g,sl,e,lo) rfl) Zu leA
 refine xp 62 ?_ ?_<;>intro h1
 . refine rn [3,0,1,0,3,0] ?_;refine Zb call186 (aE _) (wants_ok (f:=g2) knA) ?_;rintro _ _ ⟨gw,xw,rfl,rfl,t⟩;refine oo 3 ?_;refine bW zeroValue240 fun n5=> ?_
   refine bW zeroValue245 fun n6=> ?_
   refine rn [0,0,3,0,0,1,0,1,2,3,4,5,6,7,8,9,0] ?_;exact aY (K (gw,xw.s,xw.k==100) ⟨rfl,by unfold Fnd.own1;rw [if_pos (by simpa using h1),<-t],by have h2:=j0.trans (Fnd.To.wants g2.er nm (Jt k).1 (Jt k).2);rw [<-t] at h2;exact h2⟩) Zu leA
 refine xx 2 ?_;exact aY (K (g2,slot,loc) ⟨rfl,by unfold Fnd.own1;rw [if_neg (by simpa using h1)],j0⟩) Zu leA
end
section
variable {f:FC}
theorem Ga {l:List Stm}(h:k<l.length):Zm (l.drop k)=l[k].sz+Zm (l.drop (k+1)):=by rw [aJ h];rfl
theorem Ny (x:Stm):1<=x.sz:=by cases x;simp only [Stm.sz];omega
theorem Rx: ∀ (l:List Stm),l.length<=Zm l
 | []=>bB _
 |x::r=>by have:=Ny x;have:=Rx r;simp only [Zm,bG];omega
abbrev Ao (v0:FC)(v1:Stm):=(v0.names.l.length+v1.sz<=300000/\(0<=v0.locals/\v0.locals+v1.sz<=300000)/\0<=v0.stm)
abbrev Ab (v0:List HP)(v1:FC)(v2:Stm):=(Ret fun v q'=> ∃ (g:FC) (y:Stm),v= .tuple [.agg (fcC g).toArray,.agg (stC y).toArray].toArray/\q'=fcM g::stM y::v0/\(g.er,y.er)=v1.er.stmt v2.er)
abbrev B5 (v0:FC)(v1:List Stm):=(v0.names.l.length+Zm v1<=300000/\(0<=v0.locals/\v0.locals+Zm v1<=300000)/\0<=v0.stm)
abbrev AW (v0:FC)(v1:Stm):=([.agg (fcC v0).toArray,.agg (stC v1).toArray]:List Value)
theorem Rv (IH: ∀ (x:Stm),x.sz<=Zm m->x.er.thin-> ∀ {f:FC} {q:List HP},(Kn q fun M=>f.At M)->(Kn q fun M=>x.At M)->(Ao f x)->CallF prog G 157 (AW f x) q (Ab q f x))(hf:Kn q fun M=>f.At M)(h:Kn q fun M=>BlkAt M a c m)(ht:Wr (Zj m))(hb:(B5 f m)):CallF prog G 121 [.agg (fcC f).toArray,.slice a m.length c] (q) (Ret fun v q'=> ∃ (g:FC) (b:Option Addr) (d:Nat) (m':List Stm),v= .tuple [.agg (fcC g).toArray,.slice b m'.length d].toArray/\q'=fcM g::blM b d m'::q/\(g.er,Zj m')=f.er.block (Zj m)):=by
 refine aC func121 ntmps121 rfl fun F cs=> ?_;have o3:=Rx m;have hA:=Ob h;have y2:=Zx (f:=stC) (sz:=25) Z8 m;refine iR (fun w s=>Ox (h.le leA) s) fun s3=> ?_;obtain ⟨R,hR⟩: ∃ R,f.er.blk (Zj m)=R:=⟨_,rfl⟩;obtain ⟨fn,q3⟩:=kL f.names;obtain ⟨fl,r3⟩:=kL f.locals;refine xo 2 ?_;refine Ww fun n1=> ?_
 refine bW zeroValue240 fun n2=> ?_
 refine rn [3,0,1,2,3,4,5,6,0,10] ?_;refine aY (cG (fun (s:FC×(Option Addr×Nat×List Stm)×Option Addr)=>s.2.1.2.2.length<=m.length/\s.2.2=a/\R=((Fnd.blk s.1.er (Zj (m.drop s.2.1.2.2.length))).1,Zj s.2.1.2.2++(Fnd.blk s.1.er (Zj (m.drop s.2.1.2.2.length))).2)/\(s.1.names.l.length+Zm (m.drop s.2.1.2.2.length)<=300000/\(0<=s.1.locals/\s.1.locals+Zm (m.drop s.2.1.2.2.length)<=300000)/\0<=s.1.stm)) (fun s=> [(8,.slice s.2.1.1 s.2.1.2.2.length s.2.1.2.1),(9,I64 (s.2.1.2.2.length:Int)),(1,.slice s.2.2 m.length c),(2,pt n1),(4,pt n2),(5,.slice none 0 0),(6,f.names.v),(7,I64 f.locals)]) (fun s=>rsH stC 25 126 s.2.1.1 s.2.1.2.1 s.2.1.2.2::stsM s.2.1.2.2::fcM s.1::pto n1 (.cells (fcC s.1).toArray 240 (0,0))::pto n2 Av::(q++F)) (fun s=>m.length - s.2.1.2.2.length) (fun s z2 ih=> ?_) (f,(none,0, []),a) ⟨bB _,rfl,hR.symm,hb⟩) Zu (aS leA (aS (Zi stC 25 126 _) (aS Hk (aS (cZ (φ:=fun M=>f.At M) (mn:=fun e h=>FC.At.mono e h) (dW hf)) leA))));try dsimp only at z2 ih|-
 obtain ⟨p3,m3,w2,b3⟩:=z2;obtain ⟨g,⟨a2,c2,n⟩,t3⟩:=s;dsimp only at*;subst m3;refine xo 8 ?_;refine Zf [20,8,9,1,2,4,5,6,7] ?_;apply Zp 4 24 20 rfl
 . intro g1 M1;have h1:=sp g1;refine rn [1,0,2] ?_;exact Zz M1 ⟨Wq g1,Zv⟩
 . intro g1 M1;have h1:=sp g1;refine oo 4 ?_;exact Zz M1 ⟨Wz g1,Zv⟩
 refine ox 1 ?_;refine dR 24 rfl ?_ ?_<;>intro h0
 . obtain ⟨b0,h9⟩:n.length<m.length/\g.flaw=0:=(by rw [aI] at h0;exact ⟨by simpa using h0.1,by simpa using h0.2⟩);have hz:=Ga b0;rw [hz] at b3;obtain ⟨y,hy⟩: ∃ y,m[n.length]=y:=⟨_,rfl⟩;rw [hy] at b3;obtain ⟨k3,y0,k1,x0,m0,⟨d1,j0,s0,a1,w0,u0,l0,q0,o0⟩,⟨c1,i0,r0,z0,v0,t0,k0,p0,n0⟩,t,d0,m1,l1,j1,i1,f1,r,o,c0⟩:=y;have hp:=Ny (.mk k3 y0 k1 x0 m0 (.mk d1 j0 s0 a1 w0 u0 l0 q0 o0) (.mk c1 i0 r0 z0 v0 t0 k0 p0 n0) t d0 m1 l1 j1 i1 f1 r o c0);refine rn [5,0,1,2,3] ?_;refine K5 hA (by rw [y2];omega) fun b1 o1 e1=> ?_;subst e1;have v2: ∀ (Q:List HP),Le Q q-> ∀ (j:Nat) (v:Value),nth (stC (.mk k3 y0 k1 x0 m0 (.mk d1 j0 s0 a1 w0 u0 l0 q0 o0) (.mk c1 i0 r0 z0 v0 t0 k0 p0 n0) t d0 m1 l1 j1 i1 f1 r o c0)) j=some v->Cl Q ⟨b1,o1+(n.length:Int).toNat*25+j,none⟩ v:=fun Q hQ j v hv=>cT hA hQ Z8 b0 rfl j v (by rw [hy,<-Uy];exact hv)
   have g3: ∀ (Q:List HP) (i:Nat),Le Q q->HL Q (rdA i b1 (o1+(n.length:Int).toNat*25) (stC (.mk k3 y0 k1 x0 m0 (.mk d1 j0 s0 a1 w0 u0 l0 q0 o0) (.mk c1 i0 r0 z0 v0 t0 k0 p0 n0) t d0 m1 l1 j1 i1 f1 r o c0))):=fun Q i hQ=>HL.rdA fun j v hk=>v2 Q hQ j v (by rw [Uy];exact hk)
   refine dd [3] ?_;refine XD.rdCs 4 (us:=stC (.mk k3 y0 k1 x0 m0 (.mk d1 j0 s0 a1 w0 u0 l0 q0 o0) (.mk c1 i0 r0 z0 v0 t0 k0 p0 n0) t d0 m1 l1 j1 i1 f1 r o c0)) rfl rfl isAgg126 sizeOf126 rfl (fun k v hk=>v2 _ leA k v (by rw [Uy];exact hk)) ?_;refine Yo (fl:= [⟨9,10,fun g=> pt g,fun g=>pto g Av⟩,⟨10,11,fun g=> pt g,fun g=>pto g AR⟩]) ?_;refine Fi 5 ⟨⟨_,rfl,rfl,rfl,rfl,rfl,rfl,fun q=>bX zeroValue240⟩,⟨_,rfl,rfl,rfl,rfl,rfl,rfl,fun q=>bX zeroValue126⟩,trivial⟩ call157 (aE _) (IH (.mk k3 y0 k1 x0 m0 (.mk d1 j0 s0 a1 w0 u0 l0 q0 o0) (.mk c1 i0 r0 z0 v0 t0 k0 p0 n0) t d0 m1 l1 j1 i1 f1 r o c0) (by have:=Ub (aB b0);rw [hy] at this;exact this) (by have:=H3 ht (by rw [Yf];exact aP (aB b0));rw [hy] at this;exact this) (f:=g) knA (dW (by have:=Oy h b0;rw [hy] at this;exact this) leA) ⟨by omega,⟨by omega,by omega⟩,by omega⟩) ?_ (hL:=(hlA (h:=by repeat first|exact trivial|refine ⟨clA,?_⟩|refine HL.app (g3 _ _ leA) ?_|refine ⟨v2 _ leA 0 _ rfl,?_⟩|refine ⟨v2 _ leA _ _ rfl,?_⟩)));rintro _ _ ⟨g2,⟨k2,i2,s2,h2,t1,⟨o2,q1,z1,l2,f2,d2,s1,x1,v1⟩,⟨m2,p1,y1,j2,e2,b2,r1,w1,u1⟩,a0,g0,u2,t2,r2,q2,p2,z,p,f0⟩,rfl,rfl,d3⟩;refine ⟨trivial,?_⟩;refine V4 6 ⟨⟨_,rfl,rfl,rfl,rfl,rfl,rfl,fun q=>bX zeroValue240⟩,⟨_,rfl,rfl,rfl,rfl,rfl,rfl,fun q=>bX zeroValue126⟩,trivial⟩ (Pu.move rfl) ?_;refine V4 7 ⟨⟨_,rfl,rfl,rfl,rfl,rfl,rfl,fun q=>bX zeroValue240⟩,⟨_,rfl,rfl,rfl,rfl,rfl,rfl,fun q=>bX zeroValue126⟩,trivial⟩ (eZ rfl rfl) ?_;refine V4 8 ⟨⟨_,rfl,rfl,rfl,rfl,rfl,rfl,fun q=>bX zeroValue240⟩,⟨_,rfl,rfl,rfl,rfl,rfl,rfl,fun q=>bX zeroValue126⟩,trivial⟩ (eZ rfl rfl) ?_;refine Vv (e0:=⟨9,10,fun g=> pt g,fun g=>pto g Av⟩) (hnd:=by simp) 9 ⟨⟨_,rfl,rfl,rfl,rfl,rfl,rfl,fun q=>bX zeroValue240⟩,⟨_,rfl,rfl,rfl,rfl,rfl,rfl,fun q=>bX zeroValue126⟩,trivial⟩ fun ga=> ?_;change XF _ _ _ _ _ _ _ [⟨10,11,fun g=> pt g,fun g=>pto g AR⟩] _ _ _ ((10,pt ga)::_) _ _ (pto ga Av::_);refine Vv (e0:=⟨10,11,fun g=> pt g,fun g=>pto g AR⟩) (hnd:=by simp) 10 ⟨⟨_,rfl,rfl,rfl,rfl,rfl,rfl,fun q=>bX zeroValue126⟩,trivial⟩ fun gb=> ?_;change XF _ _ _ _ _ _ _ [] _ _ _ ((11,pt gb)::_) _ _ (pto gb AR::_);refine eT ?_;refine rn [12,13,0,2,0,0,3,0] ?_;refine bQ (Yz (u:=(.mk k2 i2 s2 h2 t1 (.mk o2 q1 z1 l2 f2 d2 s1 x1 v1) (.mk m2 p1 y1 j2 e2 b2 r1 w1 u1) a0 g0 u2 t2 r2 q2 p2 z p f0)) stC underlying53 V7 rfl rfl Z8 rfl) ?_;rintro _ _ ⟨gl,rfl,rfl⟩;refine bQ (Z9 (f:=stC) (l:=n) (m:= [(.mk k2 i2 s2 h2 t1 (.mk o2 q1 z1 l2 f2 d2 s1 x1 v1) (.mk m2 p1 y1 j2 e2 b2 r1 w1 u1) a0 g0 u2 t2 r2 q2 p2 z p f0)]) underlying53 V7 rfl rfl Z8 rfl rfl Zk ((bE _).le Zk) H9 (by simp;omega) (by simp;omega)) ?_;rintro _ _ ⟨a3,c3,rfl,rfl⟩;refine ox 8 ?_;refine X.sts (l:=n) (s:=(.mk k2 i2 s2 h2 t1 (.mk o2 q1 z1 l2 f2 d2 s1 x1 v1) (.mk m2 p1 y1 j2 e2 b2 r1 w1 u1) a0 g0 u2 t2 r2 q2 p2 z p f0)) Zk Zk ?_;have x2:=Fnd.To.stmt (Stm.er (.mk k3 y0 k1 x0 m0 (.mk d1 j0 s0 a1 w0 u0 l0 q0 o0) (.mk c1 i0 r0 z0 v0 t0 k0 p0 n0) t d0 m1 l1 j1 i1 f1 r o c0)) g.er;rw [<-bK Prod.fst d3] at x2;obtain ⟨h3,⟨j3,i3⟩,f3,_⟩:=x2;dsimp only [FC.er] at h3 j3 i3 f3
   have e3:R=((Fnd.blk g2.er (Zj (m.drop (n.length+1)))).1,Zj (n++ [(.mk k2 i2 s2 h2 t1 (.mk o2 q1 z1 l2 f2 d2 s1 x1 v1) (.mk m2 p1 y1 j2 e2 b2 r1 w1 u1) a0 g0 u2 t2 r2 q2 p2 z p f0)])++(Fnd.blk g2.er (Zj (m.drop (n.length+1)))).2):=by
    rw [w2,aJ b0,hy,Ry];simp only [Zj,Fnd.blk];rw [if_pos (show g.er.flaw=0 from h9)];simp only [<-d3,aA,fS]
   have l3:(g2.names.l.length+Zm (m.drop (n.length+1))<=300000/\(0<=g2.locals/\g2.locals+Zm (m.drop (n.length+1))<=300000)/\0<=g2.stm):=⟨by omega,⟨by omega,by omega⟩,by omega⟩;refine aY (ih (g2,(a3,c3,n++ [(.mk k2 i2 s2 h2 t1 (.mk o2 q1 z1 l2 f2 d2 s1 x1 v1) (.mk m2 p1 y1 j2 e2 b2 r1 w1 u1) a0 g0 u2 t2 r2 q2 p2 z p f0)]),_) ⟨by simp;omega,rfl,by rw [aG];exact e3,by rw [aG];exact l3⟩ (by simp;omega)) Zu leA
 have n3:R=(g.er,Zj n):=by
  rcases dQ n.length m.length with b0|b0
  . rw [w2,aJ b0];simp only [Zj,Fnd.blk];rw [if_neg (show ¬g.er.flaw=0 from fun hg=>by revert h0;rw [aN (show (n.length:Int)<m.length by omega),show g.flaw=0 from hg];decide)];simp
  rw [w2,cO b0];simp only [Zj,Fnd.blk,cA]
 refine rn [7,0,1,0,3,0,1,0,2] ?_;refine bY (q':=fcM ({ g with names:=f.names,locals:=f.locals } :FC)::_) (cZ ((gL (φ:=fun M=>g.At M) knA (dW hf)).imp fun M h=>FC.At.b h.1 h.2)) ?_;refine X.fzB (m:=n) ?_;refine Zq (fcM ({ g with names:=f.names,locals:=f.locals } :FC)::blM a2 c2 n::q) func121 (N1 results121) ⟨_,rfl,({ g with names:=f.names,locals:=f.locals } :FC),a2,c2,n,rfl,rfl,by unfold Fnd.block;rw [hR,n3];rfl⟩
theorem Zzk: ∀ N:Nat,(∀ (x:Stm),x.sz<=N->x.er.thin-> ∀ {f:FC} {q:List HP},(Kn q fun M=>f.At M)->(Kn q fun M=>x.At M)->(Ao f x)->CallF prog G 157 (AW f x) q (Ab q f x))/\(∀ (m:List Stm) (a:Option Addr) (c:Nat),Zm m<=N->Wr (Zj m)-> ∀ {f:FC} {q:List HP},(Kn q fun M=>f.At M)->(Kn q fun M=>BlkAt M a c m)->(B5 f m)->CallF prog G 121 [.agg (fcC f).toArray,.slice a m.length c] q (Ret fun v q'=> ∃ (g:FC) (b:Option Addr) (d:Nat) (m':List Stm),v= .tuple [.agg (fcC g).toArray,.slice b m'.length d].toArray/\q'=fcM g::blM b d m'::q/\(g.er,Zj m')=f.er.block (Zj m))):=by
 intro N
 induction N with
 |zero=>
  have k: ∀ (x:Stm),x.sz<=0->x.er.thin-> ∀ {f:FC} {q:List HP},(Kn q fun M=>f.At M)->(Kn q fun M=>x.At M)->(Ao f x)->CallF prog G 157 (AW f x) q (Ab q f x):=fun x l=>by have:=Ny x;omega
  exact ⟨k,fun m a c n e _ _ i h j=>Rv (fun x l=>k x (by omega)) i h e j⟩
 |succ N ih=>
  have k: ∀ (x:Stm),x.sz<=N+1->x.er.thin-> ∀ {f:FC} {q:List HP},(Kn q fun M=>f.At M)->(Kn q fun M=>x.At M)->(Ao f x)->CallF prog G 157 (AW f x) q (Ab q f x):=fun x l e _ _ i h j=>Se (fun m a c n=>ih.2 m a c (by omega)) i h e j
  exact ⟨k,fun m a c n e _ _ i h j=>Rv (fun x l=>k x (by omega)) i h e j⟩
end
theorem T5 {M:Nat}(h:f.le N)(hn:N<=M):f.le M:=by
 obtain ⟨o,n,m,l,k,j,i,g,e,d,c,b,a⟩:=h;exact ⟨by omega,by omega,by omega,by omega,by omega,by omega,by omega,by omega,by omega,by omega,by omega,by omega,a⟩
theorem T6 (h:f.le N)(w:Int):(f.fl w).le N:=by obtain ⟨x,a⟩:=f.fl_eq w;rw [a];exact h
theorem Fnd.fl_keep (f:Fnd)(w:Int):(f.fl w).locals=f.locals/\(f.fl w).stm=f.stm/\(f.fl w).names=f.names/\(f.fl w).ths=f.ths:=by obtain ⟨x,a⟩:=f.fl_eq w;rw [a];exact ⟨rfl,rfl,rfl,rfl⟩
abbrev iG:=@Fnd.fl_keep
theorem J2 {w:Int}(h:f.flaw=0):(f.fl w).flaw=w:=by unfold Fnd.fl;rw [if_pos h]
theorem Cv (h:f.le N)(d:PDec):(f.decl1 d).1.le (N+1)/\(f.decl1 d).1.locals=f.locals/\(f.decl1 d).1.stm=f.stm/\(f.decl1 d).1.names=f.names:=by
 have c:=(T6 (T5 h (cX N)) 134);have b:=f.fl_keep 134;obtain ⟨r,q,p,o,n,m,l,k,j,i,g,e,a⟩:=h;unfold Fnd.decl1;split
 . split
   . exact ⟨c,b.1,b.2.1,b.2.2.1⟩
   exact ⟨⟨by simp;omega,by dsimp only;omega,by dsimp only;omega,by dsimp only;omega,by simp;omega,by dsimp only;omega,by dsimp only;omega,by dsimp only;omega,by dsimp only;omega,by dsimp only;omega,by dsimp only;omega,by dsimp only;omega,a⟩,rfl,rfl,rfl⟩
 split
 . split
   . exact ⟨c,b.1,b.2.1,b.2.2.1⟩
   exact ⟨⟨by dsimp only;omega,by simp;omega,by dsimp only;omega,by dsimp only;omega,by dsimp only;omega,by simp;omega,by dsimp only;omega,by dsimp only;omega,by dsimp only;omega,by dsimp only;omega,by dsimp only;omega,by dsimp only;omega,by dsimp only;omega⟩,rfl,rfl,rfl⟩
 split
 . exact ⟨⟨by dsimp only;omega,by dsimp only;omega,by dsimp only;omega,by dsimp only;omega,by dsimp only;omega,by dsimp only;omega,by simp;omega,by dsimp only;omega,by dsimp only;omega,by dsimp only;omega,by dsimp only;omega,by dsimp only;omega,a⟩,rfl,rfl,rfl⟩
 split
 . exact ⟨⟨by dsimp only;omega,by dsimp only;omega,by dsimp only;omega,by dsimp only;omega,by dsimp only;omega,by dsimp only;omega,by dsimp only;omega,by simp;omega,by dsimp only;omega,by dsimp only;omega,by dsimp only;omega,by dsimp only;omega,a⟩,rfl,rfl,rfl⟩
 split
 . split
   . exact ⟨c,b.1,b.2.1,b.2.2.1⟩
   exact ⟨⟨by dsimp only;omega,by dsimp only;omega,by simp;omega,by dsimp only;omega,by dsimp only;omega,by dsimp only;omega,by dsimp only;omega,by dsimp only;omega,by simp;omega,by dsimp only;omega,by dsimp only;omega,by dsimp only;omega,a⟩,rfl,rfl,rfl⟩
 split
 . exact ⟨⟨by dsimp only;omega,by dsimp only;omega,by dsimp only;omega,by simp;omega,by dsimp only;omega,by dsimp only;omega,by dsimp only;omega,by dsimp only;omega,by dsimp only;omega,by dsimp only;omega,by dsimp only;omega,by dsimp only;omega,a⟩,rfl,rfl,rfl⟩
 exact ⟨⟨by dsimp only;omega,by dsimp only;omega,by dsimp only;omega,by dsimp only;omega,by dsimp only;omega,by dsimp only;omega,by dsimp only;omega,by dsimp only;omega,by dsimp only;omega,by dsimp only;omega,by dsimp only;omega,by dsimp only;omega,a⟩,rfl,rfl,rfl⟩
theorem E8 (h:(f.decl1 d).2.2=true):(f.decl1 d).1.ths.length=f.ths.length+(if d.k=6 then 1 else 0)/\(f.decl1 d).1.flaw=f.flaw:=by
 unfold Fnd.decl1 at h|-;split at h
 . rename_i a;split at h
   . cases h
   rename_i b;rw [if_pos a,if_neg b,if_neg (by omega)];exact ⟨rfl,rfl⟩
 rename_i l;rw [if_neg l];split at h
 . rename_i a;split at h
   . cases h
   rename_i b;rw [if_pos a,if_neg b,if_neg (by omega)];exact ⟨rfl,rfl⟩
 rename_i j;rw [if_neg j];split at h
 . rename_i a;rw [if_pos a,if_neg (by omega)];exact ⟨rfl,rfl⟩
 rename_i i;rw [if_neg i];split at h
 . rename_i a;rw [if_pos a,if_neg (by omega)];exact ⟨rfl,rfl⟩
 rename_i g;rw [if_neg g];split at h
 . rename_i a;split at h
   . cases h
   rename_i b;rw [if_pos a,if_neg b,if_neg (by omega)];exact ⟨rfl,rfl⟩
 rename_i e;rw [if_neg e];split at h
 . rename_i a;rw [if_pos a,if_pos a];exact ⟨by simp,rfl⟩
 rename_i c;rw [if_neg c,if_neg c];exact ⟨rfl,rfl⟩
theorem J9 (h:(f.decl1 d).2.2=false):(f.decl1 d).1=f.fl 134:=by
 unfold Fnd.decl1 at h|-;(repeat' split at h)<;>first|(cases h;done)|(split<;>(try split)<;>(try split)<;>(try split)<;>(try split)<;>(try split)<;>(try split)<;>first|rfl|omega|(exfalso;omega))
theorem Ru (h:f.le N)(d:PDec):(f.decl d).le (N+1)/\(f.decl d).locals=f.locals/\(f.decl d).stm=f.stm:=by
 have k:=T5 h (cX N);obtain ⟨i,g,e,v⟩:=Cv h d;unfold Fnd.decl;split
 . exact ⟨T6 k _,(f.fl_keep _).1,(f.fl_keep _).2.1⟩
 split
 . exact ⟨i,g,e⟩
 split
 . exact ⟨T6 i _,((iG _ _).1).trans g,((iG _ _).2.1).trans e⟩
 obtain ⟨u,s,r,q,p,o,n,m,l,t,c,b,a⟩:=i;have j:=h.2.2.2.2.2.2.2.2.2.1;exact ⟨⟨u,s,r,q,p,o,n,m,l,by dsimp only;rw [v];simp;omega,c,b,a⟩,g,e⟩
theorem Hy (hf:f.flaw=0)(h:(f.decl d).flaw=0):(f.decl d).ths.length=f.ths.length+(if d.k=6 then 1 else 0):=by
 unfold Fnd.decl at h|-;split at h
 . rw [J2 hf] at h;cases h
 rename_i e;rw [if_neg e];split at h
 . rename_i a;rw [J9 a,J2 hf] at h;cases h
 rename_i a;rw [if_neg a];have b:=E8 (f:=f) (d:=d) (by revert a;cases (f.decl1 d).2.2<;>simp);split at h
 . rw [J2 (b.2.trans hf)] at h;cases h
 rename_i c;rw [if_neg c];exact b.1
mutual
theorem Zzc: ∀ (x:Stm),x.sz<=x.er.nd
 | .mk k ln cl nm wt e ix body els ba bc ea ec id slot other loc=>by
  have b:=K7 body;have a:=K7 els;simp only [Stm.sz,Stm.er,Hi];omega
theorem K7: ∀ (l:List Stm),Zm l<=Zo (Zj l)
 | []=>bB _
 |x::r=>by
  have b:=Zzc x;have a:=K7 r;simp only [Zm,Zj,Zo];omega
end
theorem Gl (h:d.bad=false):(1<=d.k/\d.k<=6)/\(-2147483647<=d.n/\d.n<=2147483647)/\Wr d.body:=by
 unfold PDec.bad Sd at h;simp only [eK,cS,gK] at h;obtain ⟨⟨⟨⟨⟨⟨⟨⟨f,e⟩,_⟩,_⟩,c⟩,b⟩,_⟩,_⟩,a⟩:=h;exact ⟨by omega,by omega,Uo a⟩
theorem parse_nd {l:Bs}{ds:List PDec}(h:Qz l=some ds):(ds.map fun d=>Zo d.body+1).sum<=65536:=by
 unfold Qz at h;split at h
 . cases h
 rename_i i;split at h
 . cases h
 rename_i e b;split at h
 . cases h
 rename_i c a;split at h
 . cases h
 cases h
 have g:=(Kl b).1;have f:=(Tz (aL _) a).1;omega
theorem F8 {α:Type}{f:α->Nat}{x:α}: ∀ {l:List α},x∈l->f x<=(l.map f).sum
 |y::r,h=>by
  rcases cE.1 h with rfl|h
  . simp
  have:=F8 (f:=f) h;simp only [bP,List.sum_cons];omega
theorem O2 {α:Type}{f:α->Nat}: ∀ {l:List α},l.length<=(l.map fun d=>f d+1).sum
 | []=>bB _
 |y::r=>by have:=O2 (f:=f) (l:=r);simp only [bP,List.sum_cons,bG];omega
def thB (l:List Dec):List (Sv Stm):=(l.filter fun d=>d.k==6).map fun d=>⟨d.body,d.ba,d.bc⟩
theorem thB_snoc {l:List Dec}(h:k<l.length):thB (l.take (k+1))=thB (l.take k)++(if l[k].k=6 then [⟨l[k].body,l[k].ba,l[k].bc⟩] else []):=by
 rw [aH h];unfold thB;rw [List.filter_append,aM];congr 1;by_cases hk:l[k].k=6
 . rw [if_pos hk];simp [hk]
 rw [if_neg hk];simp [hk]
theorem thB_len {l:List Dec}:(thB l).length<=l.length:=by unfold thB;rw [aU];exact gV _ _
theorem thB_er (l:List Dec):((l.map Dec.er).filter fun d=>d.k==6).map (·.body)=(thB l).map fun x=>Zj x.l:=by
 unfold thB
 induction l with
 |nil=>rfl
 |cons d r ih=>
  rw [bP,jQ,jQ];have a:(Dec.er d).k=d.k:=rfl;rw [a];split
  . rw [bP,bP,bP,ih];rfl
  exact ih
theorem thB_mem {l:List Dec}{x:Sv Stm}(h:x∈thB l): ∃ d∈l,x=⟨d.body,d.ba,d.bc⟩:=by
 unfold thB at h;obtain ⟨d,a,rfl⟩:=bU.1 h;exact ⟨d,(fH.1 a).1,rfl⟩
def FC.z:FC:=⟨.z,.z,0,0,.z,.z,0,0,.z,.z,.z,.z,.z,.z,0,0,0,0,0,0⟩
def pgC (f:FC):List Value:= [f.vars.v,f.arrs.v,I64 f.mu,I64 f.co,f.chs.v,f.ths.v,I64 f.main,I64 f.stm,f.nv.v,f.na.v,f.nm.v,f.nc.v,f.nh.v]
theorem Td (M:Hp):FC.z.At M:=⟨Ei M,Ei M,Ei M,Ei M,(fun x a=>(by cases a)),Ei M,Ei M,Ei M,Ei M,Ei M,Ei M⟩
theorem FC.z_le:FC.z.er.le 0:=by simp [Fnd.le,FC.er,FC.z,Sv.z]
theorem FC.At.mo {f:FC}(h:f.At M):({ f with most:=n } :FC).At M:=⟨h.vars,h.arrs,h.chs,h.ths,h.bod,h.nv,h.na,h.nm,h.nc,h.nh,h.names⟩
theorem FC.At.mn {f:FC}(h:f.At M):({ f with main:=n } :FC).At M:=⟨h.vars,h.arrs,h.chs,h.ths,h.bod,h.nv,h.na,h.nm,h.nc,h.nh,h.names⟩
theorem Ck (h: ¬f.flaw=0): ∀ l,Fnd.decls f l=f
 | []=>rfl
 |d::r=>by unfold Fnd.decls;rw [if_neg h]
theorem Kq (h: ¬f.flaw=0)(i:Nat): ∀ l,Fnd.bodies f i l=f
 | []=>rfl
 |d::r=>by unfold Fnd.bodies;rw [if_neg h]
theorem O0:(prog.info? 53).map (fun i=>(i.zero,i.size,i.bytes))=some (some (.slice none 0 0),1,24):=by kernel_rfl
section
variable {m:List Dec}
abbrev Ay :=((.cells zz7.toArray 29 (0,0)):Obj)
theorem find_ok (h:Kn q fun M=>DcsAt M a c m)(hs:((m.map Dec.er).map fun d=>Zo d.body+1).sum<=65536):CallF prog G 77 [.slice a m.length c] (q) (Ret fun v q'=> ∃ (g:FC) (y z e:Int),v= .tuple [.agg (pgC g).toArray,.agg [Value.int .i64 y,I64 z].toArray,I64 e].toArray/\q'=fcM g::q/\(match N9 (m.map Dec.er) with|none=>e≠0|some F=>e=0/\g.er=F)):=by
 refine aC func77 ntmps77 rfl fun F cs=> ?_;have hA:=Ow h;have s1:=Zx (f:=dcC) (sz:=6) (fun _=>rfl) m;refine iR (fun w s=>Kn.dsL (h.le leA) s) fun f3=> ?_;have w2:m.length<=65536:=by have:=O2 (f:=fun d=>Zo d.body) (l:=m.map Dec.er);rw [aU] at this;omega
 have o2: ∀ d∈m,Zm d.body<=65536:=fun d hd=>by have h1:=F8 (f:=fun d=>Zo d.body+1) (aP (f:=Dec.er) hd);have h2:=K7 d.body;have h3:(Dec.er d).body=Zj d.body:=rfl;rw [h3] at h1;omega
 obtain ⟨R,hR⟩: ∃ R,N9 (m.map Dec.er)=R:=⟨_,rfl⟩;rw [hR];unfold N9 at hR;refine xo 2 ?_;refine bW zeroValue29 fun n1=> ?_
 refine bW zeroValue107 fun n2=> ?_
 refine oo 6 ?_;refine aO call117 (mayD_ok (h.le leA)) ?_;refine ox 2 ?_;refine dR 15 rfl ?_ ?_<;>intro h0
 . have d0:(m.map Dec.er).any PDec.bad=true:=(by cases p:(m.map Dec.er).any PDec.bad;rw [p] at h0;exact aR h0 (by decide);rfl);rw [if_pos d0] at hR;refine rn [5,0,0,2] ?_;refine bY (q':=fcM FC.z::_) (cZ (fun _ _ _=>Td _)) ?_;refine Zq (fcM FC.z::q) func77 (Ce results77) ⟨_,rfl,FC.z,0,0,2,rfl,rfl,by rw [<-hR];decide⟩
 have d0:(m.map Dec.er).any PDec.bad=false:=(by cases p:(m.map Dec.er).any PDec.bad;rfl;rw [p] at h0;exact aR h0 (by decide));rw [if_neg (by rw [d0];decide)] at hR;have q0: ∀ d∈m,(1<=d.k/\d.k<=6)/\(-2147483647<=d.n/\d.n<=2147483647)/\Wr (Zj d.body):=fun d hd=>Gl (d:=d.er) (by rw [List.any_eq_false] at d0;simpa using d0 _ (aP (f:=Dec.er) hd))
 refine xo 5 ?_;refine bW zeroValue240 fun n3=> ?_
 refine rn [0,11] ?_;refine aY (cG (fun (s:(Nat×FC)×(Option Addr×Nat×List (Sv Stm))×Option Addr)=>s.1.1<=m.length/\s.2.2=a/\s.2.1.2.2=thB (m.take s.1.1)/\Fnd.decls .z (m.map Dec.er)=Fnd.decls s.1.2.er ((m.drop s.1.1).map Dec.er)/\s.1.2.er.le s.1.1/\(s.1.2.locals=0/\s.1.2.stm=0)/\(s.1.2.flaw=0->s.2.1.2.2.length=s.1.2.ths.l.length)) (fun s=> [(0,.slice s.2.2 m.length c),(2,pt n1),(3,pt n2),(4,I64 0),(5,pt n3),(6,.slice s.2.1.1 s.2.1.2.2.length s.2.1.2.1),(7,I64 (s.1.1:Int))]) (fun s=>lsH (@Sv.v Stm) 53 s.2.1.1 s.2.1.2.1 s.2.1.2.2::fcM s.1.2::pto n3 (.cells (fcC s.1.2).toArray 240 (0,0))::pto n1 Ay::pto n2 As::(q++F)) (fun s=>m.length - s.1.1) (fun s l0 ih=> ?_) ((0,FC.z),(none,0, []),a) ⟨bB _,rfl,rfl,rfl,FC.z_le,⟨rfl,rfl⟩,fun _=>rfl⟩) Zu (aS leA (aS (Za (@Sv.v Stm) 53 _) (aS (cZ (φ:=fun M=>FC.z.At M) (mn:=fun e h=>FC.At.mono e h) (fun _ _ _=>Td _)) leA)));try dsimp only at l0 ih|-
 obtain ⟨z2,l2,p0,o0,g0,⟨n0,m0⟩,x0⟩:=l0;obtain ⟨⟨k,g⟩,⟨ab,cb,B⟩,a2⟩:=s;dsimp only at*;subst l2;have g3:B.length<=65536:=(by rw [p0];exact cP thB_len (by rw [bH];omega));refine xo 8 ?_;refine Zf [23,0,2,3,4,5,6,7] ?_;apply Zp 4 27 23 rfl
 . intro g1 M1;have h1:=sp g1;refine rn [1,0,2] ?_;exact Zz M1 ⟨Wq g1,Zv⟩
 . intro g1 M1;have h1:=sp g1;refine oo 4 ?_;exact Zz M1 ⟨Wz g1,Zv⟩
 refine ox 1 ?_;refine dR 27 rfl ?_ ?_<;>intro h0
 . obtain ⟨b,h9⟩:k<m.length/\g.flaw=0:=(by rw [aI] at h0;exact ⟨by simpa using h0.1,by simpa using h0.2⟩);have u1:=q0 _ (aB b);have q1:=thB_snoc b;refine rn [5,0,1,2,3] ?_;refine K5 hA (by rw [s1];omega) fun b1 o1 e1=> ?_;subst e1;have y1: ∀ (Q:List HP),Le Q q-> ∀ (j:Nat) (v:Value),nth (dcC m[k]) j=some v->Cl Q ⟨b1,o1+(k:Int).toNat*6+j,none⟩ v:=fun Q hQ j v hv=>cT hA hQ (fun _=>rfl) b rfl j v (by rw [<-Uy];exact hv)
   refine dd [3] ?_;refine XD.rdCs 4 (us:=dcC m[k]) rfl rfl isAgg229 sizeOf229 rfl (fun k v hk=>y1 _ leA k v (by rw [Uy];exact hk)) ?_;refine Wy 5 call118 (aE _) (Iz (f:=g) (d:=m[k]) knA (T5 g0 (by omega)) u1.1 u1.2.1) ?_;rintro _ _ ⟨o,rfl,rfl,a0⟩;refine ⟨trivial,?_⟩;refine rn [7,0,4] ?_;skip;refine rn [2,0,2] ?_;refine xp 41 ?_ ?_<;>intro h1
   . refine rn [7,0] ?_;refine bQ (Yp (@Sv.v Stm) [⟨m[k].body,m[k].ba,m[k].bc⟩] underlying241 O0 rfl rfl rfl rfl rfl rfl (fun _=>rfl)) ?_;rintro _ _ ⟨gl,rfl,rfl⟩;refine bQ (Yx (f:= @Sv.v Stm) (l:=B) (m:= [⟨m[k].body,m[k].ba,m[k].bc⟩]) underlying241 O0 rfl rfl rfl Zk ((bR _).le Zk) (fun _=>rfl) (by simp;omega) (by simp;omega)) ?_;rintro _ _ ⟨a3,c3,rfl,rfl⟩;refine ox 8 ?_;have t0:=Ru g0 m[k].er;rw [<-a0] at t0;obtain ⟨m1,l1,k1⟩:=t0;have j1:Fnd.decls g.er ((m.drop k).map Dec.er)=Fnd.decls o.er ((m.drop (k+1)).map Dec.er):=by rw [aJ b,bP,Fnd.decls,if_pos (show g.er.flaw=0 from h9),a0]
     have k0:o.flaw=0->o.ths.l.length=g.ths.l.length+1:=fun p=>by have:=Hy (f:=g.er) (d:=m[k].er) h9 (by rw [<-a0];exact p);rw [<-a0,if_pos (show m[k].er.k=6 from (by simpa using h1:m[k].k=6))] at this;simpa [FC.er] using this
     refine aY (ih ((k+1,o),(a3,c3,B++ [⟨m[k].body,m[k].ba,m[k].bc⟩]),_) ⟨by dsimp only;omega,rfl,by dsimp only;rw [q1,if_pos (show m[k].k=6 by simpa using h1),<-p0],o0.trans j1,m1,⟨l1.trans n0,k1.trans m0⟩,fun p=>by have h1:=k0 p;have h2:=x0 h9;simp;omega⟩ (by dsimp only;omega)) Zu leA
   refine xx 8 ?_;have t0:=Ru g0 m[k].er;rw [<-a0] at t0;obtain ⟨m1,l1,k1⟩:=t0;have j1:Fnd.decls g.er ((m.drop k).map Dec.er)=Fnd.decls o.er ((m.drop (k+1)).map Dec.er):=by rw [aJ b,bP,Fnd.decls,if_pos (show g.er.flaw=0 from h9),a0]
   have k0:o.flaw=0->o.ths.l.length=g.ths.l.length+0:=fun p=>by have:=Hy (f:=g.er) (d:=m[k].er) h9 (by rw [<-a0];exact p);rw [<-a0,if_neg (show ¬m[k].er.k=6 from (by simpa using h1: ¬m[k].k=6))] at this;simpa [FC.er] using this
   refine aY (ih ((k+1,o),(ab,cb,B),_) ⟨by dsimp only;omega,rfl,by dsimp only;rw [q1,if_neg (show ¬m[k].k=6 by simpa using h1),<-p0];simp,o0.trans j1,m1,⟨l1.trans n0,k1.trans m0⟩,fun p=>by have h1:=k0 p;have h2:=x0 h9;simp;omega⟩ (by dsimp only;omega)) Zu leA
 have hD:Fnd.decls .z (m.map Dec.er)=g.er:=by
  rcases dQ k m.length with b|b
  . rw [o0];exact Ck (fun hg=>by revert h0;rw [aN (show (k:Int)<m.length by omega),show g.flaw=0 from hg];decide) _
  rw [o0,cO b];rfl
 have hB:g.flaw=0->B=thB m:=fun hg=>by rw [p0,eO];rcases dQ k m.length with b|b;(revert h0;rw [aN (show (k:Int)<m.length by omega),show g.flaw=0 from hg];intro p;exact aR p (by decide));exact b
 rw [hD,thB_er] at hR;clear ih o0;refine rn [4,0] ?_;refine aO call119 (Xs (f:=g) (s:=Um) knA) ?_;refine ox 3 ?_;obtain ⟨A,z0⟩: ∃ A,g.er.at Um=A:=⟨_,rfl⟩;rw [z0] at hR|-;obtain ⟨f1,c0⟩: ∃ f1,(if g.er.flaw=0/\(A=0\/((g.er.names.map (·.k)).getD (A - 1) 0)≠6) then g.er.fl 133 else g.er)=f1:=⟨_,rfl⟩;rw [c0] at hR;refine kC (fun (x:FC)=> [(2,pt n1),(3,pt n2),(4,I64 0),(5,pt n3),(6,.slice ab B.length cb),(8,I64 ((A:Int) - 1))]) (fun x=>lsH (@Sv.v Stm) 53 ab cb B::fcM x::pto n3 (.cells (fcC x).toArray 240 (0,0))::pto n1 Ay::pto n2 As::(q++F)) (fun x=>x.er=f1) (fun x j0=> ?_) fun K=> ?_
 . have hk:f1.locals=0/\f1.stm=0/\f1.names=g.er.names/\f1.ths=g.er.ths:=by rw [<-c0];split;exact ⟨(iG _ _).1.trans n0,(iG _ _).2.1.trans m0,(iG _ _).2.2.1,(iG _ _).2.2.2⟩;exact ⟨n0,m0,rfl,rfl⟩
   have s0:f1.flaw=0->g.flaw=0/\A≠0:=(by rw [<-c0];split;(rename_i p;intro hy;rw [J2 p.1] at hy;cases hy);(rename_i p;intro hy;exact ⟨hy,fun hz=>p ⟨hy,.inl hz⟩⟩));have v1:Fnd.bodies f1 0 ((thB m).map fun x=>Zj x.l)=Fnd.bodies f1 0 (B.map fun x=>Zj x.l):=(by by_cases p:f1.flaw=0;rw [hB (s0 p).1];rw [Kq p,Kq p]);have k0:f1.flaw=0->B.length<=f1.ths.length:=fun p=>(by rw [hk.2.2.2];have:=x0 (s0 p).1;simp only [FC.er,aU];omega);have r2:f1.flaw=0->B=thB m:=fun p=>hB (s0 p).1;have i3:A<=f1.names.length:=(by rw [<-z0,hk.2.2.1];exact Kx);have u2:f1.ths.length<=65536:=(by rw [hk.2.2.2];have:=g0.2.2.2.1;omega);have c2:f1.names.length<=65536:=(by rw [hk.2.2.1];have:=g0.2.2.2.2.2.2.2.2.2.1;omega)
   rw [v1] at hR;obtain ⟨j2,i2,f2,e2⟩:=hk;have s2:f1.flaw=0->A≠0:=fun p=>(s0 p).2;clear c0 hD hB s0 g0 n0 m0 x0 p0 v1 f2 e2 h0 z0
   refine xx 6 ?_;refine aY (cG (fun (s:Nat×FC)=>s.1<=B.length/\Fnd.bodies f1 0 (B.map fun x=>Zj x.l)=Fnd.bodies s.2.er s.1 ((B.drop s.1).map fun x=>Zj x.l)/\s.2.er.names=f1.names/\(s.2.er.locals=0/\0<=s.2.er.stm)/\(s.2.er.flaw=0->f1.flaw=0)/\s.2.er.ths.length=f1.ths.length) (fun s=> [(2,pt n1),(3,pt n2),(4,I64 0),(5,pt n3),(6,.slice ab B.length cb),(8,I64 ((A:Int) - 1)),(9,I64 (s.1:Int))]) (fun s=>lsH (@Sv.v Stm) 53 ab cb B::fcM s.2::pto n3 (.cells (fcC s.2).toArray 240 (0,0))::pto n1 Ay::pto n2 As::(q++F)) (fun s=>B.length - s.1) (fun s l0 ih=> ?_) (0,x) ⟨bB _,by dsimp only;rw [j0];rfl,by dsimp only;rw [j0],by dsimp only;rw [j0,j2,i2];decide,by dsimp only;rw [j0];exact id,by dsimp only;rw [j0]⟩) Zu leA;try dsimp only at l0 ih|-
   obtain ⟨y2,w0,d1,⟨c1,v0⟩,t1,k2⟩:=l0;obtain ⟨i,g⟩:=s;dsimp only at*;refine xo 8 ?_;refine Zf [75,2,3,4,5,6,8,9] ?_;apply Zp 4 79 75 rfl
   . intro g1 M1;have h1:=sp g1;refine rn [1,0,2] ?_;exact Zz M1 ⟨Wq g1,Zv⟩
   . intro g1 M1;have h1:=sp g1;refine oo 4 ?_;exact Zz M1 ⟨Wz g1,Zv⟩
   refine ox 1 ?_;refine dR 79 rfl ?_ ?_<;>intro h0
   . obtain ⟨b,h9⟩:i<B.length/\g.flaw=0:=(by rw [aI] at h0;exact ⟨by simpa using h0.1,by simpa using h0.2⟩);have i0:=t1 h9;have w1:=k0 i0;have r1: ∀ x∈B,∃ d∈m,x=⟨d.body,d.ba,d.bc⟩:=fun x p=>thB_mem (by rw [<-r2 i0];exact p);obtain ⟨d,hd,y0⟩:=r1 _ (aB b)
     obtain ⟨x2,a1⟩: ∃ y,B[i]=y:=⟨_,rfl⟩;rw [a1] at y0;have p2:Kn q fun M=>BlkAt M x2.a x2.c x2.l:=(by rw [y0];exact h.imp fun M h=>h.2 _ hd);have p1:Wr (Zj x2.l):=(by rw [y0];exact (q0 d hd).2.2);have v2:Zm x2.l<=65536:=(by rw [y0];exact o2 d hd)
     have d3:g.ths.l.length=g.er.ths.length:=(aU _).symm;have f0:g.names.l.length<=65536:=(by rw [show g.names.l=f1.names from d1];exact c2);replace c1:g.locals=0:=c1;replace v0:0<=g.stm:=v0;refine Uw (fl:= @Sv.v Stm) (l:=B) (a:=ab) (by omega) fun gb e_=> ?_;subst e_;refine rn [7,0,2,0,1,2,3,4] ?_;refine ldD 4 ?_ (hc:=(jN (n:=i) (bR _) Zk b rfl));refine dS 88 (.slice x2.a x2.l.length x2.c) rfl (by rw [a1];rfl) ?_;refine Yo (fl:= [⟨9,10,fun g=> pt g,fun g=>pto g Av⟩]) ?_;refine Fi 5 ⟨⟨_,rfl,rfl,rfl,rfl,rfl,rfl,fun q=>bX zeroValue240⟩,trivial⟩ call121 (aE _) ((Zzk _).2 x2.l x2.a x2.c (aL _) p1 (f:=({ g with most:=0 } :FC)) (kA (φ:=fun M=>g.At M) knA fun M h=>FC.At.mo h) (dW p2) ⟨by dsimp only;omega,⟨by dsimp only;omega,by dsimp only;omega⟩,v0⟩) ?_ (hL:=hlR);rintro _ _ ⟨o,b2,d2,m2,rfl,rfl,r0⟩;refine ⟨trivial,?_⟩;refine V4 6 ⟨⟨_,rfl,rfl,rfl,rfl,rfl,rfl,fun q=>bX zeroValue240⟩,trivial⟩ (Pu.move rfl) ?_;refine V4 7 ⟨⟨_,rfl,rfl,rfl,rfl,rfl,rfl,fun q=>bX zeroValue240⟩,trivial⟩ (eZ rfl rfl) ?_;refine V4 8 ⟨⟨_,rfl,rfl,rfl,rfl,rfl,rfl,fun q=>bX zeroValue240⟩,trivial⟩ (eZ rfl rfl) ?_;refine Vv (e0:=⟨9,10,fun g=> pt g,fun g=>pto g Av⟩) (hnd:=by simp) 9 ⟨⟨_,rfl,rfl,rfl,rfl,rfl,rfl,fun q=>bX zeroValue240⟩,trivial⟩ fun ga=> ?_;change XF _ _ _ _ _ _ _ [] _ _ _ ((10,pt ga)::_) _ _ (pto ga Av::_);refine eT ?_;refine rn [11,12,0,2,0,0,5,0] ?_;have a0:o.ths.l.length=f1.ths.length:=(by rw [<-k2];have:=bK List.length (show o.er.ths=g.er.ths from (bK (fun x=>x.1.ths) r0).trans (fY (Zj x2.l) _).e.2.2.2.2.2.1);rw [show o.er.ths.length=o.ths.l.length from aU _] at this;exact this);refine eU (q':=rsH thC 3 55 none 0 []::_) (Zi thC 3 55 _) ?_;refine bQ (Z9 (f:=thC) (l:= []) (m:=o.ths.l) underlying24 Nr rfl rfl (fun _=>rfl) rfl rfl Zk (dT (kA (φ:=fun M=>o.At M) knA fun M h=>h.ths)) (fun _=>rfl) (by simp;omega) (by simp;omega)) ?_;rintro _ _ ⟨t2,u0,rfl,rfl⟩;rw [aT];refine rn [3,0,1,2,3,4,5,6,7] ?_;have i1:i<o.ths.l.length:=(by omega);obtain ⟨y,hy⟩: ∃ y,o.ths.l[i]=y:=⟨_,rfl⟩;refine P5 (fl:=thC) (sz:=3) (l:=o.ths.l) (a:=t2) (by omega) fun gt e_=> ?_;subst e_;refine dd [7,8] ?_;refine iQ 9 rfl (Yr (f:=thC) (l:=o.ths.l) (u:=⟨y.nm,y.loc,m2,b2,d2⟩) (n:=i) (k:=2) rfl rfl sizeOf53 (fun _=>rfl) rfl i1 rfl (by rw [hy];rfl) rfl rfl Zk) ?_;rintro _ _ ⟨rfl,rfl⟩;refine ⟨hlR,?_⟩;refine dd [10,11] ?_;refine iQ 12 rfl (Yr (f:=thC) (l:=o.ths.l.set i ⟨y.nm,y.loc,m2,b2,d2⟩) (u:=⟨y.nm,o.most,m2,b2,d2⟩) (n:=i) (k:=1) rfl rfl sizeOf3 (fun _=>rfl) rfl (by rw [bC];exact i1) rfl (by rw [cN];rfl) rfl rfl Zk) ?_;refine kk0 ?_;refine dS 12 (.slice (some ⟨gt,0,none⟩) ((o.ths.l.set i ⟨y.nm,y.loc,m2,b2,d2⟩).set i ⟨y.nm,o.most,m2,b2,d2⟩).length u0) rfl (by rw [bC,bC]) ?_;refine rn [0,4,0,7] ?_;refine P6 ?_;refine bY (q':=fcM ({ o with ths:=⟨(o.ths.l.set i ⟨y.nm,y.loc,m2,b2,d2⟩).set i ⟨y.nm,o.most,m2,b2,d2⟩,some ⟨gt,0,none⟩,u0⟩ } :FC)::_) (cZ ((gL (φ:=fun M=>o.At M) knA (gL (svK (x:=⟨(o.ths.l.set i ⟨y.nm,y.loc,m2,b2,d2⟩).set i ⟨y.nm,o.most,m2,b2,d2⟩,some ⟨gt,0,none⟩,u0⟩) (f:=thC)) (show Kn _ fun M=>BlkAt M b2 d2 m2 from knA))).imp fun M h=>FC.At.t h.1 h.2.1 (fun z hz=>by rcases bO hz with hz|hz;rcases bO hz with hz|hz;exact h.1.bod z hz;rw [hz];exact h.2.2;rw [hz];exact h.2.2))) ?_;have q2:((o.ths.l.set i ⟨y.nm,y.loc,m2,b2,d2⟩).set i ⟨y.nm,o.most,m2,b2,d2⟩).map Th.er=(o.ths.l.map Th.er).set i ⟨y.nm,o.most,Zj m2⟩:=by rw [fI,fP];rfl
     have z1:((o.ths.l.map Th.er).getD i ⟨em,0, []⟩).nm=y.nm:=by rw [gD (by simpa using i1)];simp [hy,Th.er]
     have x1:Fnd.bodies f1 0 (B.map fun x=>Zj x.l)=Fnd.bodies ({ o with ths:=⟨(o.ths.l.set i ⟨y.nm,y.loc,m2,b2,d2⟩).set i ⟨y.nm,o.most,m2,b2,d2⟩,some ⟨gt,0,none⟩,u0⟩ } :FC).er (i+1) ((B.drop (i+1)).map fun x=>Zj x.l):=by
      rw [w0,aJ b,bP,Fnd.bodies,if_pos (show g.er.flaw=0 from h9),a1];dsimp only;rw [show Fnd.block { g.er with most:=0 } (Zj x2.l)=(o.er,Zj m2) from r0.symm];congr 1;simp only [FC.er,q2];rw [z1]
     refine aY (ih (i+1,({ o with ths:=⟨(o.ths.l.set i ⟨y.nm,y.loc,m2,b2,d2⟩).set i ⟨y.nm,o.most,m2,b2,d2⟩,some ⟨gt,0,none⟩,u0⟩ } :FC)) ⟨by dsimp only;omega,x1,(bK (fun x=>x.1.names) r0).trans d1,⟨(bK (fun x=>x.1.locals) r0).trans c1,by have h1:=(fY (Zj x2.l) ({ g with most:=0 } :FC).er).s;have h2:o.er.stm=_:=bK (fun x=>x.1.stm) r0;show 0<=o.er.stm;rw [h2];exact Int.le_trans v0 h1⟩,fun _=>i0,by show (((o.ths.l.set i ⟨y.nm,y.loc,m2,b2,d2⟩).set i ⟨y.nm,o.most,m2,b2,d2⟩).map Th.er).length=_;rw [aU,bC,bC];exact a0⟩ (by dsimp only;omega)) Zu leA
   have hE:Fnd.bodies f1 0 (B.map fun x=>Zj x.l)=g.er:=by
    rcases dQ i B.length with b|b
    . rw [w0];exact Kq (fun hg=>by revert h0;rw [aN (show (i:Int)<B.length by omega),show g.flaw=0 from hg];decide) _ _
    rw [w0,cO b];rfl
   rw [hE] at hR;clear ih w0;refine rn [6,0,2] ?_;refine xp 113 ?_ ?_<;>intro h1
   . rw [if_pos (show g.er.flaw≠0 from h1)] at hR;refine rn [2,0,1,2,3,4,5,6,7,8,0] ?_;refine bY (q':=fcM FC.z::_) (cZ (fun _ _ _=>Td _)) ?_;refine Zq (fcM FC.z::q) func77 (Ce results77) ⟨_,rfl,FC.z,g.pl,g.pc,g.flaw,rfl,rfl,by rw [<-hR];exact h1⟩
   rw [if_neg (show ¬g.er.flaw≠0 from fun p=>p h1)] at hR;have i0:=t1 h1;have w1:=s2 i0;have hN:Kn (fcM g::q) fun M=>g.names.At M nmC:=kA (φ:=fun M=>g.At M) knA fun M h=>h.names;have b0:=dT hN;have r:=Zx (f:=nmC) (sz:=3) (fun _=>rfl) g.names.l
   obtain ⟨⟨nl,na,nc⟩,hf⟩: ∃ x,g.names=x:=⟨_,rfl⟩;rw [hf] at b0 r;dsimp only at b0 r;have f0:g.er.names=nl:=(by simp only [FC.er,hf]);obtain ⟨j,hj⟩: ∃ j,A=j+1:=⟨A - 1,by omega⟩;have b:j<nl.length:=(by rw [<-f0,d1];omega);refine rn [5,0] ?_;refine bA 120 (.slice na nl.length nc) rfl (by show g.names.v=_;rw [hf];rfl) ?_;refine oo 1 ?_;refine bA 121 (Aw j) rfl (bK (Value.int .i64) (by omega)) ?_;refine K1 b0 (by rw [r];omega) fun b3 o3 e3=> ?_;subst e3;refine oo 2 ?_;refine ld ?_ (hc:=(cT (n:=j) b0 leA (fun _=>rfl) b rfl 2 _ rfl));refine rn [2,0,4,0,1,0,0,2] ?_;refine bY (q':=fcM ({ g with main:=nl[j].s } :FC)::_) (cZ (kA (φ:=fun M=>g.At M) knA fun M h=>FC.At.mn h)) ?_;refine Zq (fcM ({ g with main:=nl[j].s } :FC)::q) func77 (Ce results77) ⟨_,rfl,({ g with main:=nl[j].s } :FC),0,0,0,rfl,rfl,by rw [<-hR,f0,hj,iT,gD (by simpa using b)];refine ⟨rfl,?_⟩;simp [FC.er,hf]⟩
 have hN:Kn (fcM g::q) fun M=>g.names.At M nmC:=kA (φ:=fun M=>g.At M) knA fun M h=>h.names;have b0:=dT hN;have r:=Zx (f:=nmC) (sz:=3) (fun _=>rfl) g.names.l
 obtain ⟨⟨nl,na,nc⟩,hf⟩: ∃ x,g.names=x:=⟨_,rfl⟩;rw [hf] at b0 r;dsimp only at b0 r;have f0:g.er.names=nl:=by simp only [FC.er,hf]
 have j3:A<=nl.length:=by rw [<-z0,<-f0];exact Kx
 refine rn [3,0,2] ?_;refine XO.part 55 rfl ?_ ?_<;>intro h1
 . replace h1:=sp h1;refine oo 3 ?_;refine XO.part 58 rfl ?_ ?_<;>intro h2
   . replace h2 := sp h2; refine rn [12,0,1] ?_; refine Zb call120 (aE _) (Uv (f := g) knA) ?_; rintro _ _ ⟨o, rfl, rfl, a0⟩; refine rn [0,1] ?_; -- ['guard T', 'guard T']
     exact aY (K o (by rw [<-c0,if_pos (by exact ⟨h1,.inl (by omega)⟩)];exact a0)) Zu leA
   replace h2:=sp h2;refine rn [1,0] ?_;refine bA 60 (.slice na nl.length nc) rfl (by show g.names.v=_;rw [hf];rfl) ?_;obtain ⟨i,hi⟩: ∃ i,A=i+1:=⟨A - 1,by omega⟩;have b:i<nl.length:=by omega
   refine oo 1 ?_;refine bA 61 (Aw i) rfl (bK (Value.int .i64) (by omega)) ?_;refine K1 b0 (by rw [r];omega) fun b3 o3 e3=> ?_;subst e3;refine oo 2 ?_;refine ld ?_ (hc:=(cT (n:=i) b0 leA (fun _=>rfl) b rfl 1 _ rfl));refine ox 4 ?_;refine xp 67 ?_ ?_<;>intro h3
   . refine rn [2,0,1] ?_; refine Zb call120 (aE _) (Uv (f := g) knA) ?_; rintro _ _ ⟨o, rfl, rfl, a0⟩; refine rn [0,1] ?_; -- ['guard T', 'guard F', 'adr3', 'cond T']
     exact aY (K o (by rw [<-c0,if_pos (by refine ⟨h1,.inr ?_⟩;rw [f0,hi,iT,gD (by simpa using b)];simpa using h3)];exact a0)) Zu leA
   refine xx 2 ?_; -- ['guard T', 'guard F', 'adr3', 'cond F']
   exact aY (K g (by rw [<-c0,if_neg (by rintro ⟨_,p|p⟩;omega;revert p;rw [f0,hi,iT,gD (by simpa using b)];simpa using h3)])) Zu leA
 replace h1 := sp h1; refine ox 15 ?_; -- ['guard F']
 exact aY (K g (by rw [<-c0,if_neg (by exact fun p=>h1 p.1)])) Zu leA
variable {s:ByteArray}
theorem text_ok:CallF prog G 43 [.string s] (q) (Ret fun v q'=> ∃ (g:FC) (y z e:Int),v= .tuple [.agg (pgC g).toArray,.agg [Value.int .i64 y,I64 z].toArray,I64 e].toArray/\q'=fcM g::q/\(match Jj (bs s) with|none=>e≠0|some F=>e=0/\g.er=F)):=by
 refine aC func43 ntmps43 rfl fun F cs=> ?_;obtain ⟨R,b⟩: ∃ R,Jj (bs s)=R:=⟨_,rfl⟩;rw [b];unfold Jj at b;refine xo 2 ?_;refine bW zeroValue29 fun l=> ?_
 refine bW zeroValue107 fun k=> ?_
 refine oo 5 ?_;refine Zb call76 (aE _) (Parse_ok) ?_;rintro _ _ (⟨f,a,c,d,rfl,rfl⟩|⟨d,y,z,e,h,rfl,rfl⟩)
 iterate 2
  focus
   rw [d] at b;dsimp only at b;refine oo 4 ?_;refine bW zeroValue107 fun j=> ?_
   refine rn [1,0,8] ?_
  rotate_left
 . refine rn [1015,5] ?_;refine Zb call77 (aE _) (find_ok (m:=f) knA (parse_nd d)) ?_;rintro _ _ ⟨g,y,z,e,rfl,rfl,i⟩;refine rn [3,0,0,2] ?_;refine Zq (fcM g::q) func43 (Ce results43) ⟨_,rfl,g,y,z,e,rfl,rfl,by rw [<-b];exact i⟩
 refine X.kt 15 ?_ rfl (by rw [iY];exact h);refine rn [2,0,1,2,3,4,5,6,0] ?_;refine bY (q':=fcM FC.z::_) (cZ (fun _ _ _=>Td _)) ?_;refine Zq (fcM FC.z::q) func43 (Ce results43) ⟨_,rfl,FC.z,y,z,e,rfl,rfl,by rw [<-b];exact h⟩
end
end Go.Proofs.YtflkjkhijcdbaaaGreat
namespace Go.Proofs.YtflkjkhijcdbaaaGreat
open Go Go.RowKit Wx Go.Proofs.Tryz
variable {n i c d g p N:Nat}{m:List Int}{k t at_ number:Int}{G:World}{q r:List HP}{a b:Option Addr}{l:List (SlV Int)}{v:Value}
structure Ch where
 room:Int
 all:List Int
 taken:Nat
structure Sy where
 owners:List Int
 conds:List (List Int)
 chans:List Ch
variable {s:Sy}
def Ch.items (c:Ch):List Int:=c.all.drop c.taken
abbrev inR (k:Int)(n:Nat):Prop:=0<=k/\k<n
abbrev thr (t:Int):Prop:=0<=t/\t<=7
abbrev val (v:Int):Prop:= -2147483648<=v/\v<=2147483647
def Ws (s:Sy)(m t:Int):Sy×Bool×Int:=
 if inR m s.owners.length then if thr t then if s.owners.getD m.toNat 0= -1 then ({ s with owners:=s.owners.set m.toNat t },true,0) else (s,false,0) else (s,false,2) else (s,false,4)
def Z6 (s:Sy)(m t:Int):Sy×Int:=
 if inR m s.owners.length then if thr t then if s.owners.getD m.toNat 0=t then ({ s with owners:=s.owners.set m.toNat (-1) },0) else (s,140) else (s,2) else (s,4)
def U7 (s:Sy)(k t:Int):Sy×Int:=
 if inR k s.conds.length then if thr t then if ∃ l∈s.conds,t∈l then (s,141) else ({ s with conds:=s.conds.set k.toNat (s.conds.getD k.toNat []++ [t]) },0) else (s,2) else (s,4)
def Yt (s:Sy)(k:Int):Sy×Int×Int:=
 if inR k s.conds.length then if s.conds.getD k.toNat []= [] then (s, -1,0) else ({ s with conds:=s.conds.set k.toNat ((s.conds.getD k.toNat []).drop 1) },(s.conds.getD k.toNat []).headD 0,0) else (s, -1,4)
def Kb (s:Sy)(k:Int):Sy×List Int×Int:=
 if inR k s.conds.length then ({ s with conds:=s.conds.set k.toNat [] },s.conds.getD k.toNat [],0) else (s, [],4)
def ch0:Ch:=⟨1, [],0⟩
def Vf (s:Sy)(q v:Int):Sy×Int×Int:=
 if inR q s.chans.length then if val v then if ((s.chans.getD q.toNat ch0).items.length:Int)<(s.chans.getD q.toNat ch0).room then
  ({ s with chans:=s.chans.set q.toNat { s.chans.getD q.toNat ch0 with all:=(s.chans.getD q.toNat ch0).all++ [v] } },(s.chans.getD q.toNat ch0).all.length,0) else (s, -1,0) else (s, -1,2) else (s, -1,4)
def Vq (s:Sy)(q:Int):Sy×Int×Int×Int:=
 if inR q s.chans.length then if (s.chans.getD q.toNat ch0).items= [] then (s,0, -1,0) else
  ({ s with chans:=s.chans.set q.toNat { s.chans.getD q.toNat ch0 with taken:=(s.chans.getD q.toNat ch0).taken+1 } },(s.chans.getD q.toNat ch0).all.getD (s.chans.getD q.toNat ch0).taken 0,(s.chans.getD q.toNat ch0).taken,0) else (s,0, -1,4)
def Ch.ok (n:Nat)(c:Ch):Prop:=(1<=c.room/\c.room<=16)/\c.taken<=c.all.length/\c.all.length<=n/\(c.items.length:Int)<=c.room/\ ∀ v∈c.all,val v
structure Sy.ok (n:Nat) (s:Sy):Prop where
 no:s.owners.length<=64
 nc:s.conds.length<=64
 nh:s.chans.length<=64
 o: ∀ o∈s.owners, -1<=o/\o<=7
 c: ∀ l∈s.conds,l.length<=n/\ ∀ t∈l,thr t
 h: ∀ x∈s.chans,x.ok n
theorem Sy.ok.mono {m:Nat}(h:s.ok n)(l:n<=m):s.ok m:=
 ⟨h.no,h.nc,h.nh,h.o,fun x hx=>⟨cP (h.c x hx).1 l,(h.c x hx).2⟩,fun x hx=>let ⟨a,b,c,d,e⟩:=h.h x hx;⟨a,b,cP c l,d,e⟩⟩
theorem Y3 {α:Type}{l:List α}{d:α}(h:i<l.length):l.getD i d∈l:=by
 have:l.getD i d=l[i]:=by simp [List.getD,h]
 rw [this];exact aB _
theorem Sa (h:inR k n):k.toNat<n:=by obtain ⟨a,b⟩:=h;omega
theorem Pj (h:s.ok n)(m t:Int):(Ws s m t).1.ok n:=by
 unfold Ws;split
 . split
   . split
     . rename_i _ e _;exact ⟨by simpa using h.no,h.nc,h.nh,fun o d=>by rcases bO d with d|rfl;exact h.o o d;obtain ⟨a,b⟩:=e;omega,h.c,h.h⟩
     exact h
   exact h
 exact h
theorem Bf (h:s.ok n)(m t:Int):(Z6 s m t).1.ok n:=by
 unfold Z6;split
 . split
   . split
     . exact ⟨by simpa using h.no,h.nc,h.nh,fun o a=>by rcases bO a with a|rfl;exact h.o o a;omega,h.c,h.h⟩
     exact h
   exact h
 exact h
theorem waitS_ok (h:s.ok n)(k t:Int):(U7 s k t).1.ok (n+1):=by
 unfold U7;split
 . rename_i f;split
   . rename_i e;split
     . exact h.mono (by omega)
     refine ⟨h.no,by simpa using h.nc,h.nh,h.o,fun l b=> ?_,(h.mono (cX n)).h⟩;rcases bO b with b|rfl
     . exact (h.mono (cX n)).c l b
     obtain ⟨i,g⟩:=h.c _ (Y3 (d:= []) (Sa f));refine ⟨by rw [aG];simp only [bG,dN];omega,fun x a=> ?_⟩;rcases aQ.1 a with a|a
     . exact g x a
     rw [aZ.1 a];exact e
   exact h.mono (by omega)
 exact h.mono (by omega)
theorem sendS_ok (h:s.ok n)(q v:Int):(Vf s q v).1.ok (n+1):=by
 unfold Vf;split
 . rename_i f;split
   . rename_i e;split
     . rename_i b;refine ⟨h.no,h.nc,by simpa using h.nh,h.o,(h.mono (cX n)).c,fun x a=> ?_⟩;rcases bO a with a|rfl
       . exact (h.mono (cX n)).h x a
       obtain ⟨i,l,k,j,g⟩:=h.h _ (Y3 (d:=ch0) (Sa f));unfold Ch.items at b;rw [bS] at b;refine ⟨i,by dsimp only;rw [aG];omega,by dsimp only;rw [aG,bJ];omega,?_,fun x a=> ?_⟩
       . unfold Ch.items;dsimp only;rw [bS,aG,bJ];omega
       rcases aQ.1 a with a|a
       . exact g x a
       rw [aZ.1 a];exact e
     exact h.mono (by omega)
   exact h.mono (by omega)
 exact h.mono (by omega)
theorem Co (h:s.ok n)(q:Int):(Vq s q).1.ok n:=by
 unfold Vq;split
 . rename_i g;split
   . exact h
   rename_i f;refine ⟨h.no,h.nc,by simpa using h.nh,h.o,h.c,fun x a=> ?_⟩;rcases bO a with a|rfl
   . exact h.h x a
   obtain ⟨k,l,j,e,i⟩:=h.h _ (Y3 (d:=ch0) (Sa g));have b:0<(s.chans.getD q.toNat ch0).items.length:=iK.2 f;unfold Ch.items at b e;rw [bS] at b e;refine ⟨k,by dsimp only;omega,j,?_,i⟩;unfold Ch.items;dsimp only;rw [bS];omega
 exact h
theorem Tryz.info3:(prog.info? 3).map (fun i=>(i.zero,i.size,i.bytes))=some (some (I64 0),1,8):=by kernel_rfl
abbrev fN:=@Tryz.info3
theorem Tryz.info2:(prog.info? 2).map (fun i=>(i.zero,i.size,i.bytes))=some (some (I64 0),1,8):=by kernel_rfl
abbrev jB:=@Tryz.info2
theorem Tryz.info191:(prog.info? 191).map (fun i=>(i.zero,i.size,i.bytes))=some (some (.agg #[.slice none 0 0]),1,24):=by kernel_rfl
abbrev gW:=@Tryz.info191
theorem Tryz.info180:(prog.info? 180).map (fun i=>(i.zero,i.size,i.bytes))=some (some (.agg #[.slice none 0 0,I64 0,I64 0]),3,40):=by kernel_rfl
abbrev fQ:=@Tryz.info180
def lsV (ty:TypeId)(x:SlV Int):HP:=lsH I64 ty x.a x.c x.l
def cqs (x:SlV Int):List Value:= [.slice x.a x.l.length x.c]
structure ChC where
 q:SlV Int
 room:Int
 sent:Int
def chs (x:ChC):List Value:= [.slice x.q.a x.q.l.length x.q.c,I64 x.room,I64 x.sent]
structure SyC where
 ao:Option Addr
 co:Nat
 owners:List Int
 ac:Option Addr
 cc:Nat
 conds:List (SlV Int)
 ah:Option Addr
 ch:Nat
 chans:List ChC
variable {U:SyC}
def syL (p:Nat)(s:SyC):List HP:= [pto p (.cells [.bool true,.slice s.ao s.owners.length s.co,.slice s.ac s.conds.length s.cc,.slice s.ah s.chans.length s.ch].toArray 176 (0,0)),
 lsH I64 3 s.ao s.co s.owners,rsH cqs 1 191 s.ac s.cc s.conds,stars (s.conds.map (lsV 3)),rsH chs 3 180 s.ah s.ch s.chans,stars (s.chans.map fun x=>lsV 2 x.q)]
def Ch.row (c:Ch):List Int×Int×Int:=(c.items,c.room,c.all.length)
def ChC.row (x:ChC):List Int×Int×Int:=(x.q.l,x.room,x.sent)
structure Real (U:SyC) (s:Sy):Prop where
 o:U.owners=s.owners
 c:U.conds.map (·.l)=s.conds
 h:U.chans.map ChC.row=s.chans.map Ch.row
theorem Real.lc (r:Real U s):U.conds.length=s.conds.length:=by rw [<-r.c];simp
theorem Real.lh (r:Real U s):U.chans.length=s.chans.length:=by have:=bK List.length r.h;simpa using this
theorem Real.cl (r:Real U s)(h:i<U.conds.length):s.conds.getD i []=U.conds[i].l:=by
 have a:i<s.conds.length:=by rw [<-r.lc];exact h
 have:=bK (·[i]?) r.c;simp only [fJ,aD h,aD a,gJ] at this;rw [List.getD,aD a];exact (gN this).symm
theorem Real.hl (r:Real U s)(h:i<U.chans.length):(s.chans.getD i ch0).row=U.chans[i].row:=by
 have a:i<s.chans.length:=by rw [<-r.lh];exact h
 have:=bK (·[i]?) r.h;simp only [fJ,aD h,aD a,gJ] at this;rw [List.getD,aD a];exact (gN this).symm
theorem M9 {α β:Type}(f:α->β)(l:List α)(i:Nat)(x:α):(l.set i x).map f=(l.map f).set i (f x):=by simp
section
variable {l:List Int}
theorem Ku {l:List Int}(hs:Sees q a (l.map I64))(hL:l.length<=1000000000):CallF prog G 70 [.slice a l.length c] (q) (Ret fun v q'=> ∃ a' c',v= .slice a' l.length c'/\q'=lsH I64 3 a' c' l::q):=by
 refine aC func70 ntmps70 rfl fun F cs=> ?_;rcases dK l.length with b|b
 . obtain rfl:=aK b;refine xx 10 ?_;refine dR 4 rfl ?_ ?_<;>intro j
   . refine xx 5 ?_;refine Zq (lsH I64 3 none 0 []::q) func70 (Zn results70 rfl) ⟨_,rfl,none,0,rfl,rfl⟩ ((leA).trans (Za _ _ _))
   refine xo 4 ?_;refine bQ (J4 I64 underlying22 fN) ?_;rintro _ _ ⟨g,rfl,rfl⟩;refine oo 1 ?_;refine bQ (Yx (f:=I64) (l:= []) (m:= []) underlying22 fN rfl rfl rfl Zk (hs.le leA) (fun _=>rfl) (by simp;try omega) (by simp;try omega)) ?_;rintro _ _ ⟨e,d,rfl,rfl⟩;refine ox 2 ?_;refine Zq (lsH I64 3 e d []::q) func70 (Zn results70 rfl) ⟨_,rfl,e,d,by simp,rfl⟩
 refine Yd hs (by simp;omega) fun k i h=> ?_;subst h;refine rn [10,1004,4] ?_;refine bQ (J4 I64 underlying22 fN) ?_;rintro _ _ ⟨g,rfl,rfl⟩;refine oo 1 ?_;refine bQ (Yx (f:=I64) (l:= []) (m:=l) underlying22 fN rfl rfl rfl Zk (hs.le leA) (fun _=>rfl) (by simp;try omega) (by simp;try omega)) ?_;rintro _ _ ⟨e,d,rfl,rfl⟩;refine ox 2 ?_;refine Zq (lsH I64 3 e d l::q) func70 (Zn results70 rfl) ⟨_,rfl,e,d,by simp,rfl⟩
theorem Qb {l:List Int}(hs:Sees q a (l.map I64))(hL:l.length<=1000000000):CallF prog G 50 [.slice a l.length c] (q) (Ret fun v q'=> ∃ a' c',v= .slice a' l.length c'/\q'=lsH I64 2 a' c' l::q):=by
 refine aC func50 ntmps50 rfl fun F cs=> ?_;rcases dK l.length with b|b
 . obtain rfl:=aK b;refine xx 10 ?_;refine dR 4 rfl ?_ ?_<;>intro j
   . refine xx 5 ?_;refine Zq (lsH I64 2 none 0 []::q) func50 (Zn results50 rfl) ⟨_,rfl,none,0,rfl,rfl⟩ ((leA).trans (Za _ _ _))
   refine xo 4 ?_;refine bQ (J4 I64 underlying23 jB) ?_;rintro _ _ ⟨g,rfl,rfl⟩;refine oo 1 ?_;refine bQ (Yx (f:=I64) (l:= []) (m:= []) underlying23 jB rfl rfl rfl Zk (hs.le leA) (fun _=>rfl) (by simp;try omega) (by simp;try omega)) ?_;rintro _ _ ⟨e,d,rfl,rfl⟩;refine ox 2 ?_;refine Zq (lsH I64 2 e d []::q) func50 (Zn results50 rfl) ⟨_,rfl,e,d,by simp,rfl⟩
 refine Yd hs (by simp;omega) fun k i h=> ?_;subst h;refine rn [10,1004,4] ?_;refine bQ (J4 I64 underlying23 jB) ?_;rintro _ _ ⟨g,rfl,rfl⟩;refine oo 1 ?_;refine bQ (Yx (f:=I64) (l:= []) (m:=l) underlying23 jB rfl rfl rfl Zk (hs.le leA) (fun _=>rfl) (by simp;try omega) (by simp;try omega)) ?_;rintro _ _ ⟨e,d,rfl,rfl⟩;refine ox 2 ?_;refine Zq (lsH I64 2 e d l::q) func50 (Zn results50 rfl) ⟨_,rfl,e,d,by simp,rfl⟩
theorem Zz9 {l:List (SlV Int)}(hs:Sees q a (l.flatMap cqs))(hL:l.length<=1000000000):CallF prog G 107 [.slice a l.length c] (q) (Ret fun v q'=> ∃ a' c',v= .slice a' l.length c'/\q'=rsH cqs 1 191 a' c' l::q):=by
 refine aC func107 ntmps107 rfl fun F cs=> ?_;rcases dK l.length with d|d
 . obtain rfl:=aK d;refine xx 10 ?_;refine dR 4 rfl ?_ ?_<;>intro k
   . refine xx 5 ?_;refine Zq (rsH cqs 1 191 none 0 []::q) func107 (Zn results107 rfl) ⟨_,rfl,none,0,rfl,rfl⟩ ((leA).trans (Zi _ _ _ _))
   refine xo 4 ?_;refine bQ (Qs cqs underlying173 gW) ?_;rintro _ _ ⟨g,rfl,rfl⟩;refine oo 1 ?_;refine bQ (Z9 (l:= []) (m:= []) underlying173 gW rfl rfl (fun _=>rfl) rfl rfl Zk (hs.le leA) (fun _=>rfl) (by simp;try omega) (by simp;try omega)) ?_;rintro _ _ ⟨h,e,rfl,rfl⟩;refine ox 2 ?_;refine Zq (rsH cqs 1 191 h e []::q) func107 (Zn results107 rfl) ⟨_,rfl,h,e,by simp,rfl⟩
 have b:=Zx (f:=cqs) (sz:=1) (fun _=>rfl) l;refine Yd hs (by rw [b];omega) fun n j i=> ?_;subst i;refine rn [10,1004,4] ?_;refine bQ (Qs cqs underlying173 gW) ?_;rintro _ _ ⟨g,rfl,rfl⟩;refine oo 1 ?_;refine bQ (Z9 (l:= []) (m:=l) underlying173 gW rfl rfl (fun _=>rfl) rfl rfl Zk (hs.le leA) (fun _=>rfl) (by simp;try omega) (by simp;try omega)) ?_;rintro _ _ ⟨h,e,rfl,rfl⟩;refine ox 2 ?_;refine Zq (rsH cqs 1 191 h e l::q) func107 (Zn results107 rfl) ⟨_,rfl,h,e,by simp,rfl⟩
theorem Zz8 {l:List ChC}(hs:Sees q a (l.flatMap chs))(hL:l.length<=1000000000):CallF prog G 108 [.slice a l.length c] (q) (Ret fun v q'=> ∃ a' c',v= .slice a' l.length c'/\q'=rsH chs 3 180 a' c' l::q):=by
 refine aC func108 ntmps108 rfl fun F cs=> ?_;rcases dK l.length with d|d
 . obtain rfl:=aK d;refine xx 10 ?_;refine dR 4 rfl ?_ ?_<;>intro k
   . refine xx 5 ?_;refine Zq (rsH chs 3 180 none 0 []::q) func108 (Zn results108 rfl) ⟨_,rfl,none,0,rfl,rfl⟩ ((leA).trans (Zi _ _ _ _))
   refine xo 4 ?_;refine bQ (Qs chs underlying174 fQ) ?_;rintro _ _ ⟨g,rfl,rfl⟩;refine oo 1 ?_;refine bQ (Z9 (l:= []) (m:= []) underlying174 fQ rfl rfl (fun _=>rfl) rfl rfl Zk (hs.le leA) (fun _=>rfl) (by simp;try omega) (by simp;try omega)) ?_;rintro _ _ ⟨h,e,rfl,rfl⟩;refine ox 2 ?_;refine Zq (rsH chs 3 180 h e []::q) func108 (Zn results108 rfl) ⟨_,rfl,h,e,by simp,rfl⟩
 have b:=Zx (f:=chs) (sz:=3) (fun _=>rfl) l;refine Yd hs (by rw [b];omega) fun n j i=> ?_;subst i;refine rn [10,1004,4] ?_;refine bQ (Qs chs underlying174 fQ) ?_;rintro _ _ ⟨g,rfl,rfl⟩;refine oo 1 ?_;refine bQ (Z9 (l:= []) (m:=l) underlying174 fQ rfl rfl (fun _=>rfl) rfl rfl Zk (hs.le leA) (fun _=>rfl) (by simp;try omega) (by simp;try omega)) ?_;rintro _ _ ⟨h,e,rfl,rfl⟩;refine ox 2 ?_;refine Zq (rsH chs 3 180 h e l::q) func108 (Zn results108 rfl) ⟨_,rfl,h,e,by simp,rfl⟩
end
section
variable {α:Type}{f:α->List Value}{sz ty:Nat}{c0:Nat}{l:List α}{u:Option Addr->Nat->α}
theorem Om (hs:Sees q (some ⟨g,0,none⟩) (m.map I64))(hi:i<m.length):Cl q ⟨g,i*1,none⟩ (I64 m[i]):=by
 have:=hs.cl (i:=i) (u:=I64 m[i]) (by simp [hi]);simpa using this
theorem Cl.at {o:Nat}{y:α}{k:Nat}(hs:Sees q (some ⟨g,0,none⟩) (l.flatMap f))(hf: ∀ x,(f x).length=sz)(hi:l[i]? =some y)(hk:k<sz)(hv:(f y)[k]? =some v)(ho:o=i*sz+k):Cl q ⟨g,o,none⟩ v:=by
 subst ho;have:=hs.cl (i:=i*sz+k) (u:=v) (by rw [He hf l i k y hk hi];exact hv);simpa using this
abbrev fZ:=@Cl.at
abbrev AI (v0:Option Addr)(v1:List Int)(v2:Nat):=((.slice v0 v1.length v2):Value)
theorem put_ok (hi:i<l.length)(hf: ∀ x,(f x).length=sz)(hk:(f l[i])[0]? =some (AI a m c))(hz:Nat.blt 0 sz=true)(hm:m.length<=1000000)(hu: ∀ a' c',(f l[i]).set 0 (.slice a' (m++ [t]).length c')=f (u a' c')):CallF prog G 195 [.pointer (some ⟨g,i*sz,none⟩),I64 t] ([rsH f sz ty (some ⟨g,0,none⟩) c0 l,lsH I64 3 a c m]) (Ret fun v q'=> ∃ a' c',q'= [rsH f sz ty (some ⟨g,0,none⟩) c0 (l.set i (u a' c')),lsH I64 3 a' c' (m++ [t])]):=by
 refine aC func195 ntmps195 rfl fun F cs=> ?_;have e:0<sz:=by simpa [dY] using hz
 have o:Sees (rsH f sz ty (some ⟨g,0,none⟩) c0 l::lsH I64 3 a c m::F) (some ⟨g,0,none⟩) (l.flatMap f):=bE _;have h:Cl (rsH f sz ty (some ⟨g,0,none⟩) c0 l::lsH I64 3 a c m::F) ⟨g,i*sz,none⟩ (AI a m c):=fZ o hf (aD hi) e hk (by omega);change X _ _ _ _ _ _ _ _ (rsH f sz ty (some ⟨g,0,none⟩) c0 l::lsH I64 3 a c m::F);refine xo 5 ?_;refine ld ?_ (hc:=h);refine oo 1 ?_;refine bQ (U3 (u:=t) I64 underlying22 fN rfl rfl) ?_;rintro _ _ ⟨p,rfl,rfl⟩;refine bQ (Yx (f:=I64) (l:=m) (m:= [t]) underlying22 fN rfl rfl rfl Zk ((bR _).le leA) (fun _=>rfl) (by simp;omega) (by simp;omega)) ?_;rintro _ _ ⟨d,b,rfl,rfl⟩;refine oo 2 ?_;refine dJ (Yr (g:=g) (f:=f) (l:=l) (u:=(u d b)) (n:=i) (k:=0) (j:=(i:Int)) (by simp [evp,lkp]) rfl sizeOf22 hf rfl hi hz (hu _ _) rfl rfl Zk) ?_;rintro _ _ ⟨rfl,rfl⟩;refine ox 1 ?_;refine Z7 [rsH f sz ty (some ⟨g,0,none⟩) c0 (l.set i (u d b)),lsH I64 3 d b (m++ [t])] func195 (Vm results195) ⟨_,rfl,d,b,rfl⟩
abbrev AX (v0:Nat)(v1:Nat)(v2:Nat):=([.pointer (some ⟨v0,v1*v2,none⟩)]:List Value)
theorem all_ok (hi:i<l.length)(hf: ∀ x,(f x).length=sz)(hk:(f l[i])[0]? =some (AI a m c))(hz:Nat.blt 0 sz=true)(hm:m.length<=1000000):CallF prog G 89 (AX g i sz) ([rsH f sz ty (some ⟨g,0,none⟩) c0 l,lsH I64 3 a c m]) (Ret fun v q'=> ∃ a' c',v= .slice a' m.length c'/\q'= [lsH I64 3 a' c' m,rsH f sz ty (some ⟨g,0,none⟩) c0 l,lsH I64 3 a c m]):=by
 refine aC func89 ntmps89 rfl fun F cs=> ?_;have b:0<sz:=by simpa [dY] using hz
 have j:Sees (rsH f sz ty (some ⟨g,0,none⟩) c0 l::lsH I64 3 a c m::F) (some ⟨g,0,none⟩) (l.flatMap f):=bE _;have d:Cl (rsH f sz ty (some ⟨g,0,none⟩) c0 l::lsH I64 3 a c m::F) ⟨g,i*sz,none⟩ (AI a m c):=fZ j hf (aD hi) b hk (by omega);change X _ _ _ _ _ _ _ _ (rsH f sz ty (some ⟨g,0,none⟩) c0 l::lsH I64 3 a c m::F);refine xo 9 ?_;refine ld ?_ (hc:=d);refine Zb call70 (aE _) (Ku (a:=a) (c:=c) (l:=m) ((bR _).le leA) (by omega)) ?_;rintro _ _ ⟨h,e,rfl,rfl⟩;refine ox 2 ?_;refine Zq [lsH I64 3 h e m,rsH f sz ty (some ⟨g,0,none⟩) c0 l,lsH I64 3 a c m] func89 (Zn results89 rfl) ⟨_,rfl,h,e,rfl,rfl⟩
theorem take_no (hi:i<l.length)(hf: ∀ x,(f x).length=sz)(hk:(f l[i])[0]? =some (AI a m c))(hz:Nat.blt 0 sz=true)(hm:m.length<=1000000)(he:m= []):CallF prog G 196 (AX g i sz) ([rsH f sz ty (some ⟨g,0,none⟩) c0 l,lsH I64 3 a c m]) (Ret fun v q'=>v= .tuple [I64 0,.bool false].toArray/\q'= [rsH f sz ty (some ⟨g,0,none⟩) c0 l,lsH I64 3 a c m]):=by
 refine aC func196 ntmps196 rfl fun F cs=> ?_;have b:0<sz:=by simpa [dY] using hz
 have e:Sees (rsH f sz ty (some ⟨g,0,none⟩) c0 l::lsH I64 3 a c m::F) (some ⟨g,0,none⟩) (l.flatMap f):=bE _;have d:Cl (rsH f sz ty (some ⟨g,0,none⟩) c0 l::lsH I64 3 a c m::F) ⟨g,i*sz,none⟩ (AI a m c):=fZ e hf (aD hi) b hk (by omega);change X _ _ _ _ _ _ _ _ (rsH f sz ty (some ⟨g,0,none⟩) c0 l::lsH I64 3 a c m::F);have h:m.length=0:=by rw [he];rfl
 refine xo 15 ?_;refine ld ?_ (hc:=d);refine ox 3 ?_;refine X.kt 11 ?_ rfl (by simp [h]);refine xx 7 ?_;refine Zq [rsH f sz ty (some ⟨g,0,none⟩) c0 l,lsH I64 3 a c m] func196 (Wu results196 rfl rfl) ⟨_,rfl,rfl,rfl⟩
theorem take_ok (hi:i<l.length)(hf: ∀ x,(f x).length=sz)(hk:(f l[i])[0]? =some (AI a m c))(hz:Nat.blt 0 sz=true)(hm:m.length<=1000000)(he:m≠ [])(hu: ∀ a' c',(f l[i]).set 0 (.slice a' (m.drop 1).length c')=f (u a' c')):CallF prog G 196 (AX g i sz) ([rsH f sz ty (some ⟨g,0,none⟩) c0 l,lsH I64 3 a c m]) (Ret fun v q'=> ∃ a' c',v= .tuple [I64 (m.headD 0),.bool true].toArray/\q'= [rsH f sz ty (some ⟨g,0,none⟩) c0 (l.set i (u a' c')),lsH I64 3 a' c' (m.drop 1)]):=by
 refine aC func196 ntmps196 rfl fun F cs=> ?_;have y:0<sz:=by simpa [dY] using hz
 have z:Sees (rsH f sz ty (some ⟨g,0,none⟩) c0 l::lsH I64 3 a c m::F) (some ⟨g,0,none⟩) (l.flatMap f):=bE _;have e:Cl (rsH f sz ty (some ⟨g,0,none⟩) c0 l::lsH I64 3 a c m::F) ⟨g,i*sz,none⟩ (AI a m c):=fZ z hf (aD hi) y hk (by omega);change X _ _ _ _ _ _ _ _ (rsH f sz ty (some ⟨g,0,none⟩) c0 l::lsH I64 3 a c m::F);obtain ⟨h,b,rfl⟩: ∃ x r,m=x::r:=by cases m with|nil=>exact aR rfl he|cons x r=>exact ⟨x,r,rfl⟩
 have a0:(h::b).length=b.length+1:=rfl;refine xo 15 ?_;refine ld ?_ (hc:=e);refine rn [3,1011] ?_;refine Uw (l:=h::b) (by simp) fun p e_=> ?_;subst e_;refine iR (fun w s=>(s.le (show Le _ (lsH I64 3 (some ⟨p,0,none⟩) c (h::b)::_) from Zk)).lsLen) fun o=> ?_;have d:Sees (rsH f sz ty (some ⟨g,0,none⟩) c0 l::lsH I64 3 (some ⟨p,0,none⟩) c (h::b)::F) (some ⟨p,0,none⟩) ((h::b).map I64):=(bR _).le leA;refine xo 7 ?_;refine ld ?_ (hc:=(by first|exact e|exact (Sees.at (j:=0) (n:=0) d rfl (by simp))));refine oo 1 ?_;refine ld ?_ (hc:=(by first|exact e|exact (Sees.at (j:=0) (n:=0) d rfl (by simp))));refine oo 8 ?_;refine ld ?_ (hc:=(by first|exact e|exact (Sees.at (j:=0) (n:=0) d rfl (by simp))));refine oo 1 ?_;refine bA 24 (.slice (F9 (some ⟨p,0,none⟩) c 1 1) b.length (c - 1)) rfl (by simp) ?_;refine Zb call70 (aE _) (Ku (l:=b) (a:=F9 (some ⟨p,0,none⟩) c 1 1) (c:=c - 1) (by have:=d.suf (l:=1) (c:=c) (sz:=1) (by simp at o|-;omega);simpa using this) (by simp at hm;omega)) ?_;rintro _ _ ⟨t,q,rfl,rfl⟩;refine oo 2 ?_;refine dJ (Yr (g:=g) (f:=f) (l:=l) (u:=(u t q)) (n:=i) (k:=0) (j:=(i:Int)) (by simp [evp,lkp]) rfl sizeOf22 hf rfl hi hz (hu _ _) rfl rfl Zk) ?_;rintro _ _ ⟨rfl,rfl⟩;refine ox 7 ?_;refine Zq [rsH f sz ty (some ⟨g,0,none⟩) c0 (l.set i (u t q)),lsH I64 3 t q b] func196 (Wu results196 rfl rfl) ⟨_,rfl,t,q,rfl,rfl⟩
theorem put64_ok (hi:i<l.length)(hf: ∀ x,(f x).length=sz)(hk:(f l[i])[0]? =some (AI a m c))(hz:Nat.blt 0 sz=true)(hm:m.length<=1000000)(hu: ∀ a' c',(f l[i]).set 0 (.slice a' (m++ [t]).length c')=f (u a' c')):CallF prog G 197 [.pointer (some ⟨g,i*sz,none⟩),I64 t] ([rsH f sz ty (some ⟨g,0,none⟩) c0 l,lsH I64 2 a c m]) (Ret fun v q'=> ∃ a' c',q'= [rsH f sz ty (some ⟨g,0,none⟩) c0 (l.set i (u a' c')),lsH I64 2 a' c' (m++ [t])]):=by
 refine aC func197 ntmps197 rfl fun F cs=> ?_;have e:0<sz:=by simpa [dY] using hz
 have o:Sees (rsH f sz ty (some ⟨g,0,none⟩) c0 l::lsH I64 2 a c m::F) (some ⟨g,0,none⟩) (l.flatMap f):=bE _;have h:Cl (rsH f sz ty (some ⟨g,0,none⟩) c0 l::lsH I64 2 a c m::F) ⟨g,i*sz,none⟩ (AI a m c):=fZ o hf (aD hi) e hk (by omega);change X _ _ _ _ _ _ _ _ (rsH f sz ty (some ⟨g,0,none⟩) c0 l::lsH I64 2 a c m::F);refine xo 5 ?_;refine ld ?_ (hc:=h);refine oo 1 ?_;refine bQ (U3 (u:=t) I64 underlying23 jB rfl rfl) ?_;rintro _ _ ⟨p,rfl,rfl⟩;refine bQ (Yx (f:=I64) (l:=m) (m:= [t]) underlying23 jB rfl rfl rfl Zk ((bR _).le leA) (fun _=>rfl) (by simp;omega) (by simp;omega)) ?_;rintro _ _ ⟨d,b,rfl,rfl⟩;refine oo 2 ?_;refine dJ (Yr (g:=g) (f:=f) (l:=l) (u:=(u d b)) (n:=i) (k:=0) (j:=(i:Int)) (by simp [evp,lkp]) rfl sizeOf23 hf rfl hi hz (hu _ _) rfl rfl Zk) ?_;rintro _ _ ⟨rfl,rfl⟩;refine ox 1 ?_;refine Z7 [rsH f sz ty (some ⟨g,0,none⟩) c0 (l.set i (u d b)),lsH I64 2 d b (m++ [t])] func197 (Vm results197) ⟨_,rfl,d,b,rfl⟩
theorem P2 (hi:i<l.length)(hf: ∀ x,(f x).length=sz)(hk:(f l[i])[0]? =some (AI a m c))(hz:Nat.blt 0 sz=true)(hm:m.length<=1000000):CallF prog G 92 (AX g i sz) ([rsH f sz ty (some ⟨g,0,none⟩) c0 l,lsH I64 2 a c m]) (Ret fun v q'=> ∃ a' c',v= .slice a' m.length c'/\q'= [lsH I64 2 a' c' m,rsH f sz ty (some ⟨g,0,none⟩) c0 l,lsH I64 2 a c m]):=by
 refine aC func92 ntmps92 rfl fun F cs=> ?_;have b:0<sz:=by simpa [dY] using hz
 have j:Sees (rsH f sz ty (some ⟨g,0,none⟩) c0 l::lsH I64 2 a c m::F) (some ⟨g,0,none⟩) (l.flatMap f):=bE _;have d:Cl (rsH f sz ty (some ⟨g,0,none⟩) c0 l::lsH I64 2 a c m::F) ⟨g,i*sz,none⟩ (AI a m c):=fZ j hf (aD hi) b hk (by omega);change X _ _ _ _ _ _ _ _ (rsH f sz ty (some ⟨g,0,none⟩) c0 l::lsH I64 2 a c m::F);refine xo 9 ?_;refine ld ?_ (hc:=d);refine Zb call50 (aE _) (Qb (a:=a) (c:=c) (l:=m) ((bR _).le leA) (by omega)) ?_;rintro _ _ ⟨h,e,rfl,rfl⟩;refine ox 2 ?_;refine Zq [lsH I64 2 h e m,rsH f sz ty (some ⟨g,0,none⟩) c0 l,lsH I64 2 a c m] func92 (Zn results92 rfl) ⟨_,rfl,h,e,rfl,rfl⟩
theorem Zqb (hi:i<l.length)(hf: ∀ x,(f x).length=sz)(hk:(f l[i])[0]? =some (AI a m c))(hz:Nat.blt 0 sz=true)(hm:m.length<=1000000)(he:m= []):CallF prog G 198 (AX g i sz) ([rsH f sz ty (some ⟨g,0,none⟩) c0 l,lsH I64 2 a c m]) (Ret fun v q'=>v= .tuple [I64 0,.bool false].toArray/\q'= [rsH f sz ty (some ⟨g,0,none⟩) c0 l,lsH I64 2 a c m]):=by
 refine aC func198 ntmps198 rfl fun F cs=> ?_;have b:0<sz:=by simpa [dY] using hz
 have e:Sees (rsH f sz ty (some ⟨g,0,none⟩) c0 l::lsH I64 2 a c m::F) (some ⟨g,0,none⟩) (l.flatMap f):=bE _;have d:Cl (rsH f sz ty (some ⟨g,0,none⟩) c0 l::lsH I64 2 a c m::F) ⟨g,i*sz,none⟩ (AI a m c):=fZ e hf (aD hi) b hk (by omega);change X _ _ _ _ _ _ _ _ (rsH f sz ty (some ⟨g,0,none⟩) c0 l::lsH I64 2 a c m::F);have h:m.length=0:=by rw [he];rfl
 refine xo 15 ?_;refine ld ?_ (hc:=d);refine ox 3 ?_;refine X.kt 11 ?_ rfl (by simp [h]);refine xx 7 ?_;refine Zq [rsH f sz ty (some ⟨g,0,none⟩) c0 l,lsH I64 2 a c m] func198 (Wu results198 rfl rfl) ⟨_,rfl,rfl,rfl⟩
theorem Zqy (hi:i<l.length)(hf: ∀ x,(f x).length=sz)(hk:(f l[i])[0]? =some (AI a m c))(hz:Nat.blt 0 sz=true)(hm:m.length<=1000000)(he:m≠ [])(hu: ∀ a' c',(f l[i]).set 0 (.slice a' (m.drop 1).length c')=f (u a' c')):CallF prog G 198 (AX g i sz) ([rsH f sz ty (some ⟨g,0,none⟩) c0 l,lsH I64 2 a c m]) (Ret fun v q'=> ∃ a' c',v= .tuple [I64 (m.headD 0),.bool true].toArray/\q'= [rsH f sz ty (some ⟨g,0,none⟩) c0 (l.set i (u a' c')),lsH I64 2 a' c' (m.drop 1)]):=by
 refine aC func198 ntmps198 rfl fun F cs=> ?_;have y:0<sz:=by simpa [dY] using hz
 have z:Sees (rsH f sz ty (some ⟨g,0,none⟩) c0 l::lsH I64 2 a c m::F) (some ⟨g,0,none⟩) (l.flatMap f):=bE _;have e:Cl (rsH f sz ty (some ⟨g,0,none⟩) c0 l::lsH I64 2 a c m::F) ⟨g,i*sz,none⟩ (AI a m c):=fZ z hf (aD hi) y hk (by omega);change X _ _ _ _ _ _ _ _ (rsH f sz ty (some ⟨g,0,none⟩) c0 l::lsH I64 2 a c m::F);obtain ⟨h,b,rfl⟩: ∃ x r,m=x::r:=by cases m with|nil=>exact aR rfl he|cons x r=>exact ⟨x,r,rfl⟩
 have a0:(h::b).length=b.length+1:=rfl;refine xo 15 ?_;refine ld ?_ (hc:=e);refine rn [3,1011] ?_;refine Uw (l:=h::b) (by simp) fun p e_=> ?_;subst e_;refine iR (fun w s=>(s.le (show Le _ (lsH I64 2 (some ⟨p,0,none⟩) c (h::b)::_) from Zk)).lsLen) fun o=> ?_;have d:Sees (rsH f sz ty (some ⟨g,0,none⟩) c0 l::lsH I64 2 (some ⟨p,0,none⟩) c (h::b)::F) (some ⟨p,0,none⟩) ((h::b).map I64):=(bR _).le leA;refine xo 7 ?_;refine ld ?_ (hc:=(by first|exact e|exact (Sees.at (j:=0) (n:=0) d rfl (by simp))));refine oo 1 ?_;refine ld ?_ (hc:=(by first|exact e|exact (Sees.at (j:=0) (n:=0) d rfl (by simp))));refine oo 8 ?_;refine ld ?_ (hc:=(by first|exact e|exact (Sees.at (j:=0) (n:=0) d rfl (by simp))));refine oo 1 ?_;refine bA 24 (.slice (F9 (some ⟨p,0,none⟩) c 1 1) b.length (c - 1)) rfl (by simp) ?_;refine Zb call50 (aE _) (Qb (l:=b) (a:=F9 (some ⟨p,0,none⟩) c 1 1) (c:=c - 1) (by have:=d.suf (l:=1) (c:=c) (sz:=1) (by simp at o|-;omega);simpa using this) (by simp at hm;omega)) ?_;rintro _ _ ⟨t,q,rfl,rfl⟩;refine oo 2 ?_;refine dJ (Yr (g:=g) (f:=f) (l:=l) (u:=(u t q)) (n:=i) (k:=0) (j:=(i:Int)) (by simp [evp,lkp]) rfl sizeOf23 hf rfl hi hz (hu _ _) rfl rfl Zk) ?_;rintro _ _ ⟨rfl,rfl⟩;refine ox 7 ?_;refine Zq [rsH f sz ty (some ⟨g,0,none⟩) c0 (l.set i (u t q)),lsH I64 2 t q b] func198 (Wu results198 rfl rfl) ⟨_,rfl,t,q,rfl,rfl⟩
end
def Hs (s:Sy)(m:Int):Int×Int:=if inR m s.owners.length then (s.owners.getD m.toNat 0,0) else (0,4)
def Qf (s:Sy)(k:Int):List Int×Int:=if inR k s.chans.length then ((s.chans.getD k.toNat ch0).items,0) else ([],4)
def Bp (s:Sy)(k:Int):Int×Int:=if inR k s.chans.length then ((s.chans.getD k.toNat ch0).room,0) else (0,4)
theorem Real.ol (r:Real U s)(h:i<U.owners.length):s.owners.getD i 0=U.owners[i]:=by rw [<-r.o];simp [List.getD,h]
theorem Real.lo (r:Real U s):U.owners.length=s.owners.length:=by rw [r.o]
theorem Tu {ty:TypeId}(hi:i<l.length)(hq:Le q (stars (l.map (lsV ty))::r):=by exact Zk):Le q (lsH I64 ty l[i].a l[i].c l[i].l::stars ((l.eraseIdx i).map (lsV ty))::r):=hq.trans (Le.focus (lsV ty) hi r)
theorem Tn {ty:TypeId}(hi:i<l.length)(hq:Le q (lsH I64 ty a c m::stars ((l.eraseIdx i).map (lsV ty))::r):=by exact bM Zk Zk):Le q (stars ((l.set i ⟨a,c,m⟩).map (lsV ty))::r):=hq.trans (Nn (lsV ty) hi ⟨a,c,m⟩ r)
theorem Jd {q':List HP}{A:Addr}(h:Cl q' A v)(l:Le q q'):Cl q A v:=fun G w s=>h G w (s.le l)
theorem Bz {ty:TypeId}{l:List ChC}(hi:i<l.length)(hq:Le q (stars (l.map fun x=>lsV ty x.q)::r):=by exact Zk):Le q (lsH I64 ty l[i].q.a l[i].q.c l[i].q.l::stars ((l.eraseIdx i).map fun x=>lsV ty x.q)::r):=hq.trans (Le.focus (fun (x:ChC)=>lsV ty x.q) hi r)
theorem Tp {ty:TypeId}{l:List ChC}(hi:i<l.length)(x:ChC)(hq:Le q (lsH I64 ty x.q.a x.q.c x.q.l::stars ((l.eraseIdx i).map fun x=>lsV ty x.q)::r):=by exact bM Zk Zk):Le q (stars ((l.set i x).map fun x=>lsV ty x.q)::r):=hq.trans (Nn (fun (x:ChC)=>lsV ty x.q) hi x r)
section
variable {v:Int}
abbrev AL (v0:List HP):=(Ret fun v q'=>v= .bool true/\q'=v0)
abbrev AM (v0:Nat):=([.pointer (some ⟨v0,0,none⟩)]:List Value)
theorem Yl (h:Cl q ⟨p,0,none⟩ bT):CallF prog G 106 (AM p) (q) (AL q):=by
 refine aC func106 ntmps106 rfl fun F cs=> ?_;refine rn [9,2005,3] ?_;refine ld ?_ (hc:=(Jd h leA));refine ox 3 ?_;refine Zq (q) func106 (Zn results106 rfl) ⟨_,rfl,rfl,rfl⟩
theorem W1 (h:Cl q ⟨p,0,none⟩ bT)(h1:Cl q ⟨p,1,none⟩ (.slice a n c)):CallF prog G 86 (AM p) (q) (Ret fun v q'=>v= .slice a n c/\q'=q):=by
 refine aC func86 ntmps86 rfl fun F cs=> ?_;refine xo 8 ?_;refine aO call106 (Yl (Jd h leA)) ?_;refine Zt (bV rfl) ?_;refine rn [1,1005,7] ?_;refine ld ?_ (hc:=(Jd h1 leA));refine ox 2 ?_;refine Zq (q) func86 (Zn results86 rfl) ⟨_,rfl,rfl,rfl⟩
theorem Vl (h:Cl q ⟨p,0,none⟩ bT)(h1:Cl q ⟨p,2,none⟩ (.slice a n c)):CallF prog G 88 (AM p) (q) (Ret fun v q'=>v= .slice a n c/\q'=q):=by
 refine aC func88 ntmps88 rfl fun F cs=> ?_;refine xo 8 ?_;refine aO call106 (Yl (Jd h leA)) ?_;refine Zt (bV rfl) ?_;refine rn [1,1005,7] ?_;refine ld ?_ (hc:=(Jd h1 leA));refine ox 2 ?_;refine Zq (q) func88 (Zn results88 rfl) ⟨_,rfl,rfl,rfl⟩
theorem Ys (h:Cl q ⟨p,0,none⟩ bT)(h1:Cl q ⟨p,3,none⟩ (.slice a n c)):CallF prog G 91 (AM p) (q) (Ret fun v q'=>v= .slice a n c/\q'=q):=by
 refine aC func91 ntmps91 rfl fun F cs=> ?_;refine xo 8 ?_;refine aO call106 (Yl (Jd h leA)) ?_;refine Zt (bV rfl) ?_;refine rn [1,1005,7] ?_;refine ld ?_ (hc:=(Jd h1 leA));refine ox 2 ?_;refine Zq (q) func91 (Zn results91 rfl) ⟨_,rfl,rfl,rfl⟩
abbrev Af (v0:List HP):=(Ret fun v q'=>v= .tuple [.pointer none,I64 4].toArray/\q'=v0)
abbrev AV (v0:Nat)(v1:Option Addr)(v2:Nat)(v3:Nat)(v4:Int):=([.pointer (some ⟨v0,0,none⟩),.slice v1 v2 v3,I64 v4,I64 0,I64 0]:List Value)
theorem S3 (h:Cl q ⟨p,0,none⟩ bT)(hn:n<=1000000)(hr: ¬inR at_ n):CallF prog G 85 (AV p a n c at_) (q) (Af q):=by
 refine aC func85 ntmps85 rfl fun F cs=> ?_;try unfold inR at hr
 try unfold thr at hb
 try unfold val at hb
 refine rn [33,1016,7] ?_;refine cQ 18 bF rfl (cB (by simp)) ?_;refine xo 10 ?_;rcases aX (at_<0) with b|b
 focus
  refine rn [2030,13] ?_
 rotate_left
 focus
  refine rn [1030,6] ?_;refine cQ 35 bT rfl (cB ((by first|exact aN (by omega)|exact aW (by omega)|rfl|(simp;omega)|simp))) ?_;refine xo 7 ?_
 all_goals
  refine aO call106 (Yl (Jd h leA)) ?_;refine Zt (bV rfl) ?_;refine rn [1,1038,9,2040,7] ?_;refine Zq (q) func85 (Wu results85 rfl rfl) ⟨_,rfl,rfl,rfl⟩
abbrev AA (v0:Nat)(v1:Nat)(v2:Nat)(v3:Nat)(v4:Int):=([.pointer (some ⟨v0,0,none⟩),.slice (some ⟨v1,0,none⟩) v2 v3,I64 v4,I64 0,I64 0]:List Value)
abbrev Au (v0)(v1)(v2):=(Ret fun v q'=>v= .tuple [.pointer (some ⟨v0,v1*1,none⟩),I64 0].toArray/\q'=v2)
theorem Zq9 (h:Cl q ⟨p,0,none⟩ bT)(hn:n<=1000000)(hr:i<n)(hb:True):CallF prog G 85 (AA p g n c i) (q) (Au g i q):=by
 refine aC func85 ntmps85 rfl fun F cs=> ?_;try unfold inR at hr
 try unfold thr at hb
 try unfold val at hb
 refine rn [33,1016,7] ?_;refine cQ 18 bF rfl (cB (by simp)) ?_;refine rn [10,1030,6] ?_;refine cQ 35 bF rfl (cB ((by first|exact aN (by omega)|exact aW (by omega)|rfl|(simp;omega)|simp))) ?_;refine xo 5 ?_;refine aO call106 (Yl (Jd h leA)) ?_;refine Zt (bV rfl) ?_;refine rn [1,1038,9,1040,10] ?_;refine Zq (q) func85 (Wu results85 rfl rfl) ⟨_,rfl,by simp,rfl⟩
theorem Dc (h:Cl q ⟨p,0,none⟩ bT)(hn:n<=1000000)(hr: ¬inR at_ n):CallF prog G 85 [.pointer (some ⟨p,0,none⟩),.slice a n c,I64 at_,I64 1,I64 number] (q) (Af q):=by
 refine aC func85 ntmps85 rfl fun F cs=> ?_;try unfold inR at hr
 try unfold thr at hb
 try unfold val at hb
 refine rn [33,2016,13] ?_;rcases aX (number<0) with e|e
 focus
  refine rn [2023,17] ?_;rcases aX (at_<0) with b|b
  focus
   refine rn [2030,13] ?_
  rotate_left
  focus
   refine rn [1030,6] ?_;refine cQ 35 bT rfl (cB ((by first|exact aN (by omega)|exact aW (by omega)|rfl|(simp;omega)|simp))) ?_;refine xo 7 ?_
 rotate_left 2
 focus
  rcases aX (number>7) with d|d
  focus
   refine rn [1023,5] ?_;refine cQ 27 bT rfl (cB ((by first|exact aN (by omega)|exact aW (by omega)|rfl|(simp;omega)|simp))) ?_;refine xo 12 ?_;rcases aX (at_<0) with b|b
   focus
    refine rn [2030,13] ?_
   rotate_left
   focus
    refine rn [1030,6] ?_;refine cQ 35 bT rfl (cB ((by first|exact aN (by omega)|exact aW (by omega)|rfl|(simp;omega)|simp))) ?_;refine xo 7 ?_
  rotate_left 2
  focus
   refine rn [1023,5] ?_;refine cQ 27 bF rfl (cB ((by first|exact aN (by omega)|exact aW (by omega)|rfl|(simp;omega)|simp))) ?_;refine xo 10 ?_;rcases aX (at_<0) with b|b
   focus
    refine rn [2030,13] ?_
   rotate_left
   focus
    refine rn [1030,6] ?_;refine cQ 35 bT rfl (cB ((by first|exact aN (by omega)|exact aW (by omega)|rfl|(simp;omega)|simp))) ?_;refine xo 7 ?_
 all_goals
  refine aO call106 (Yl (Jd h leA)) ?_;refine Zt (bV rfl) ?_;refine rn [1,1038,9,2040,7] ?_;refine Zq (q) func85 (Wu results85 rfl rfl) ⟨_,rfl,rfl,rfl⟩
abbrev AJ (v0:List HP):=(Ret fun v q'=>v= .tuple [.pointer none,I64 2].toArray/\q'=v0)
theorem Dt (h:Cl q ⟨p,0,none⟩ bT)(hn:n<=1000000)(hr:i<n)(hb: ¬ (thr number)):CallF prog G 85 [.pointer (some ⟨p,0,none⟩),.slice a n c,I64 i,I64 1,I64 number] (q) (AJ q):=by
 refine aC func85 ntmps85 rfl fun F cs=> ?_;try unfold inR at hr
 try unfold thr at hb
 try unfold val at hb
 refine rn [33,2016,13] ?_;rcases aX (number<0) with b|b
 focus
  refine rn [2023,17] ?_;refine bA 30 bF rfl (cB ((by first|exact aN (by omega)|exact aW (by omega)|rfl|(simp;omega)|simp))) ?_;refine rn [6,1035] ?_
 rotate_left
 focus
  refine rn [1023,5] ?_;refine cQ 27 bT rfl (cB ((by first|exact aN (by omega)|exact aW (by omega)|rfl|(simp;omega)|simp))) ?_;refine rn [12,1030,6] ?_;refine cQ 35 bF rfl (cB ((by first|exact aN (by omega)|exact aW (by omega)|rfl|(simp;omega)|simp))) ?_
 all_goals
  refine xo 5 ?_;refine aO call106 (Yl (Jd h leA)) ?_;refine Zt (bV rfl) ?_;refine rn [1,1038,9,2040,7] ?_;refine Zq (q) func85 (Wu results85 rfl rfl) ⟨_,rfl,rfl,rfl⟩
theorem Fb (h:Cl q ⟨p,0,none⟩ bT)(hn:n<=1000000)(hr:i<n)(hb:thr number):CallF prog G 85 [.pointer (some ⟨p,0,none⟩),.slice (some ⟨g,0,none⟩) n c,I64 i,I64 1,I64 number] (q) (Au g i q):=by
 refine aC func85 ntmps85 rfl fun F cs=> ?_;try unfold inR at hr
 try unfold thr at hb
 try unfold val at hb
 refine rn [33,2016,13] ?_;refine bA 23 bF rfl (cB ((by first|exact aN (by omega)|exact aW (by omega)|rfl|(simp;omega)|simp))) ?_;refine rn [5,1027,10] ?_;refine bA 30 bF rfl (cB ((by first|exact aN (by omega)|exact aW (by omega)|rfl|(simp;omega)|simp))) ?_;refine rn [6,1035,5] ?_;refine aO call106 (Yl (Jd h leA)) ?_;refine Zt (bV rfl) ?_;refine rn [1,1038,9,1040,10] ?_;refine Zq (q) func85 (Wu results85 rfl rfl) ⟨_,rfl,by simp,rfl⟩
theorem Dr (h:Cl q ⟨p,0,none⟩ bT)(hn:n<=1000000)(hr: ¬inR at_ n):CallF prog G 87 (AV p a n c at_) (q) (Af q):=by
 refine aC func87 ntmps87 rfl fun F cs=> ?_;try unfold inR at hr
 try unfold thr at hb
 try unfold val at hb
 refine rn [33,1016,7] ?_;refine cQ 18 bF rfl (cB (by simp)) ?_;refine xo 10 ?_;rcases aX (at_<0) with b|b
 focus
  refine rn [2030,13] ?_
 rotate_left
 focus
  refine rn [1030,6] ?_;refine cQ 35 bT rfl (cB ((by first|exact aN (by omega)|exact aW (by omega)|rfl|(simp;omega)|simp))) ?_;refine xo 7 ?_
 all_goals
  refine aO call106 (Yl (Jd h leA)) ?_;refine Zt (bV rfl) ?_;refine rn [1,1038,9,2040,7] ?_;refine Zq (q) func87 (Wu results87 rfl rfl) ⟨_,rfl,rfl,rfl⟩
theorem Ff (h:Cl q ⟨p,0,none⟩ bT)(hn:n<=1000000)(hr:i<n)(hb:True):CallF prog G 87 (AA p g n c i) (q) (Au g i q):=by
 refine aC func87 ntmps87 rfl fun F cs=> ?_;try unfold inR at hr
 try unfold thr at hb
 try unfold val at hb
 refine rn [33,1016,7] ?_;refine cQ 18 bF rfl (cB (by simp)) ?_;refine rn [10,1030,6] ?_;refine cQ 35 bF rfl (cB ((by first|exact aN (by omega)|exact aW (by omega)|rfl|(simp;omega)|simp))) ?_;refine xo 5 ?_;refine aO call106 (Yl (Jd h leA)) ?_;refine Zt (bV rfl) ?_;refine rn [1,1038,9,1040,10] ?_;refine Zq (q) func87 (Wu results87 rfl rfl) ⟨_,rfl,by simp,rfl⟩
theorem S6 (h:Cl q ⟨p,0,none⟩ bT)(hn:n<=1000000)(hr: ¬inR at_ n):CallF prog G 87 [.pointer (some ⟨p,0,none⟩),.slice a n c,I64 at_,I64 1,I64 number] (q) (Af q):=by
 refine aC func87 ntmps87 rfl fun F cs=> ?_;try unfold inR at hr
 try unfold thr at hb
 try unfold val at hb
 refine rn [33,2016,13] ?_;rcases aX (number<0) with e|e
 focus
  refine rn [2023,17] ?_;rcases aX (at_<0) with b|b
  focus
   refine rn [2030,13] ?_
  rotate_left
  focus
   refine rn [1030,6] ?_;refine cQ 35 bT rfl (cB ((by first|exact aN (by omega)|exact aW (by omega)|rfl|(simp;omega)|simp))) ?_;refine xo 7 ?_
 rotate_left 2
 focus
  rcases aX (number>7) with d|d
  focus
   refine rn [1023,5] ?_;refine cQ 27 bT rfl (cB ((by first|exact aN (by omega)|exact aW (by omega)|rfl|(simp;omega)|simp))) ?_;refine xo 12 ?_;rcases aX (at_<0) with b|b
   focus
    refine rn [2030,13] ?_
   rotate_left
   focus
    refine rn [1030,6] ?_;refine cQ 35 bT rfl (cB ((by first|exact aN (by omega)|exact aW (by omega)|rfl|(simp;omega)|simp))) ?_;refine xo 7 ?_
  rotate_left 2
  focus
   refine rn [1023,5] ?_;refine cQ 27 bF rfl (cB ((by first|exact aN (by omega)|exact aW (by omega)|rfl|(simp;omega)|simp))) ?_;refine xo 10 ?_;rcases aX (at_<0) with b|b
   focus
    refine rn [2030,13] ?_
   rotate_left
   focus
    refine rn [1030,6] ?_;refine cQ 35 bT rfl (cB ((by first|exact aN (by omega)|exact aW (by omega)|rfl|(simp;omega)|simp))) ?_;refine xo 7 ?_
 all_goals
  refine aO call106 (Yl (Jd h leA)) ?_;refine Zt (bV rfl) ?_;refine rn [1,1038,9,2040,7] ?_;refine Zq (q) func87 (Wu results87 rfl rfl) ⟨_,rfl,rfl,rfl⟩
theorem S7 (h:Cl q ⟨p,0,none⟩ bT)(hn:n<=1000000)(hr:i<n)(hb: ¬ (thr number)):CallF prog G 87 [.pointer (some ⟨p,0,none⟩),.slice a n c,I64 i,I64 1,I64 number] (q) (AJ q):=by
 refine aC func87 ntmps87 rfl fun F cs=> ?_;try unfold inR at hr
 try unfold thr at hb
 try unfold val at hb
 refine rn [33,2016,13] ?_;rcases aX (number<0) with b|b
 focus
  refine rn [2023,17] ?_;refine bA 30 bF rfl (cB ((by first|exact aN (by omega)|exact aW (by omega)|rfl|(simp;omega)|simp))) ?_;refine rn [6,1035] ?_
 rotate_left
 focus
  refine rn [1023,5] ?_;refine cQ 27 bT rfl (cB ((by first|exact aN (by omega)|exact aW (by omega)|rfl|(simp;omega)|simp))) ?_;refine rn [12,1030,6] ?_;refine cQ 35 bF rfl (cB ((by first|exact aN (by omega)|exact aW (by omega)|rfl|(simp;omega)|simp))) ?_
 all_goals
  refine xo 5 ?_;refine aO call106 (Yl (Jd h leA)) ?_;refine Zt (bV rfl) ?_;refine rn [1,1038,9,2040,7] ?_;refine Zq (q) func87 (Wu results87 rfl rfl) ⟨_,rfl,rfl,rfl⟩
theorem Zzz (h:Cl q ⟨p,0,none⟩ bT)(hn:n<=1000000)(hr:i<n)(hb:thr number):CallF prog G 87 [.pointer (some ⟨p,0,none⟩),.slice (some ⟨g,0,none⟩) n c,I64 i,I64 1,I64 number] (q) (Au g i q):=by
 refine aC func87 ntmps87 rfl fun F cs=> ?_;try unfold inR at hr
 try unfold thr at hb
 try unfold val at hb
 refine rn [33,2016,13] ?_;refine bA 23 bF rfl (cB ((by first|exact aN (by omega)|exact aW (by omega)|rfl|(simp;omega)|simp))) ?_;refine rn [5,1027,10] ?_;refine bA 30 bF rfl (cB ((by first|exact aN (by omega)|exact aW (by omega)|rfl|(simp;omega)|simp))) ?_;refine rn [6,1035,5] ?_;refine aO call106 (Yl (Jd h leA)) ?_;refine Zt (bV rfl) ?_;refine rn [1,1038,9,1040,10] ?_;refine Zq (q) func87 (Wu results87 rfl rfl) ⟨_,rfl,by simp,rfl⟩
theorem Nj (h:Cl q ⟨p,0,none⟩ bT)(hn:n<=1000000)(hr: ¬inR at_ n):CallF prog G 90 (AV p a n c at_) (q) (Af q):=by
 refine aC func90 ntmps90 rfl fun F cs=> ?_;try unfold inR at hr
 try unfold thr at hb
 try unfold val at hb
 refine rn [33,1016,7] ?_;refine cQ 18 bF rfl (cB (by simp)) ?_;refine xo 10 ?_;rcases aX (at_<0) with b|b
 focus
  refine rn [2030,13] ?_
 rotate_left
 focus
  refine rn [1030,6] ?_;refine cQ 35 bT rfl (cB ((by first|exact aN (by omega)|exact aW (by omega)|rfl|(simp;omega)|simp))) ?_;refine xo 7 ?_
 all_goals
  refine aO call106 (Yl (Jd h leA)) ?_;refine Zt (bV rfl) ?_;refine rn [1,1038,9,2040,7] ?_;refine Zq (q) func90 (Wu results90 rfl rfl) ⟨_,rfl,rfl,rfl⟩
theorem Ts (h:Cl q ⟨p,0,none⟩ bT)(hn:n<=1000000)(hr:i<n)(hb:True):CallF prog G 90 (AA p g n c i) (q) (Ret fun v q'=>v= .tuple [.pointer (some ⟨g,i*3,none⟩),I64 0].toArray/\q'=q):=by
 refine aC func90 ntmps90 rfl fun F cs=> ?_;try unfold inR at hr
 try unfold thr at hb
 try unfold val at hb
 refine rn [33,1016,7] ?_;refine cQ 18 bF rfl (cB (by simp)) ?_;refine rn [10,1030,6] ?_;refine cQ 35 bF rfl (cB ((by first|exact aN (by omega)|exact aW (by omega)|rfl|(simp;omega)|simp))) ?_;refine xo 5 ?_;refine aO call106 (Yl (Jd h leA)) ?_;refine Zt (bV rfl) ?_;refine rn [1,1038,9,1040,10] ?_;refine Zq (q) func90 (Wu results90 rfl rfl) ⟨_,rfl,by simp,rfl⟩
theorem S4 (h:Cl q ⟨p,0,none⟩ bT)(hn:n<=1000000)(hr: ¬inR at_ n):CallF prog G 90 [.pointer (some ⟨p,0,none⟩),.slice a n c,I64 at_,I64 2,I64 number] (q) (Af q):=by
 refine aC func90 ntmps90 rfl fun F cs=> ?_;try unfold inR at hr
 try unfold thr at hb
 try unfold val at hb
 refine rn [33,1016,7] ?_;refine cQ 18 bT rfl (cB (by simp)) ?_;refine xo 8 ?_;rcases aX (number< -2147483648) with e|e
 focus
  refine rn [2023,17] ?_;rcases aX (at_<0) with b|b
  focus
   refine rn [2030,13] ?_
  rotate_left
  focus
   refine rn [1030,6] ?_;refine cQ 35 bT rfl (cB ((by first|exact aN (by omega)|exact aW (by omega)|rfl|(simp;omega)|simp))) ?_;refine xo 7 ?_
 rotate_left 2
 focus
  rcases aX (number>2147483647) with d|d
  focus
   refine rn [1023,5] ?_;refine cQ 27 bT rfl (cB ((by first|exact aN (by omega)|exact aW (by omega)|rfl|(simp;omega)|simp))) ?_;refine xo 12 ?_;rcases aX (at_<0) with b|b
   focus
    refine rn [2030,13] ?_
   rotate_left
   focus
    refine rn [1030,6] ?_;refine cQ 35 bT rfl (cB ((by first|exact aN (by omega)|exact aW (by omega)|rfl|(simp;omega)|simp))) ?_;refine xo 7 ?_
  rotate_left 2
  focus
   refine rn [1023,5] ?_;refine cQ 27 bF rfl (cB ((by first|exact aN (by omega)|exact aW (by omega)|rfl|(simp;omega)|simp))) ?_;refine xo 10 ?_;rcases aX (at_<0) with b|b
   focus
    refine rn [2030,13] ?_
   rotate_left
   focus
    refine rn [1030,6] ?_;refine cQ 35 bT rfl (cB ((by first|exact aN (by omega)|exact aW (by omega)|rfl|(simp;omega)|simp))) ?_;refine xo 7 ?_
 all_goals
  refine aO call106 (Yl (Jd h leA)) ?_;refine Zt (bV rfl) ?_;refine rn [1,1038,9,2040,7] ?_;refine Zq (q) func90 (Wu results90 rfl rfl) ⟨_,rfl,rfl,rfl⟩
theorem S5 (h:Cl q ⟨p,0,none⟩ bT)(hn:n<=1000000)(hr:i<n)(hb: ¬ (val number)):CallF prog G 90 [.pointer (some ⟨p,0,none⟩),.slice a n c,I64 i,I64 2,I64 number] (q) (AJ q):=by
 refine aC func90 ntmps90 rfl fun F cs=> ?_;try unfold inR at hr
 try unfold thr at hb
 try unfold val at hb
 refine rn [33,1016,7] ?_;refine cQ 18 bT rfl (cB (by simp)) ?_;refine xo 8 ?_;rcases aX (number< -2147483648) with b|b
 focus
  refine rn [2023,17] ?_;refine bA 30 bF rfl (cB ((by first|exact aN (by omega)|exact aW (by omega)|rfl|(simp;omega)|simp))) ?_;refine rn [6,1035] ?_
 rotate_left
 focus
  refine rn [1023,5] ?_;refine cQ 27 bT rfl (cB ((by first|exact aN (by omega)|exact aW (by omega)|rfl|(simp;omega)|simp))) ?_;refine rn [12,1030,6] ?_;refine cQ 35 bF rfl (cB ((by first|exact aN (by omega)|exact aW (by omega)|rfl|(simp;omega)|simp))) ?_
 all_goals
  refine xo 5 ?_;refine aO call106 (Yl (Jd h leA)) ?_;refine Zt (bV rfl) ?_;refine rn [1,1038,9,2040,7] ?_;refine Zq (q) func90 (Wu results90 rfl rfl) ⟨_,rfl,rfl,rfl⟩
theorem Zzq (h:Cl q ⟨p,0,none⟩ bT)(hn:n<=1000000)(hr:i<n)(hb:val number):CallF prog G 90 [.pointer (some ⟨p,0,none⟩),.slice (some ⟨g,0,none⟩) n c,I64 i,I64 2,I64 number] (q) (Ret fun v q'=>v= .tuple [.pointer (some ⟨g,i*3,none⟩),I64 0].toArray/\q'=q):=by
 refine aC func90 ntmps90 rfl fun F cs=> ?_;try unfold inR at hr
 try unfold thr at hb
 try unfold val at hb
 refine rn [33,1016,7] ?_;refine cQ 18 bT rfl (cB (by simp)) ?_;refine rn [8,1023,5] ?_;refine cQ 27 bF rfl (cB ((by first|exact aN (by omega)|exact aW (by omega)|rfl|(simp;omega)|simp))) ?_;refine rn [10,1030,6] ?_;refine cQ 35 bF rfl (cB ((by first|exact aN (by omega)|exact aW (by omega)|rfl|(simp;omega)|simp))) ?_;refine xo 5 ?_;refine aO call106 (Yl (Jd h leA)) ?_;refine Zt (bV rfl) ?_;refine rn [1,1038,9,1040,10] ?_;refine Zq (q) func90 (Wu results90 rfl rfl) ⟨_,rfl,by simp,rfl⟩
end
section
variable {v m:Int}
abbrev A7 (v0)(v1:SyC)(v2)(v3):=((.cells [.bool true,.slice (some ⟨v0,0,none⟩) v1.owners.length v1.co,.slice v2 v1.conds.length v1.cc,.slice v3 v1.chans.length v1.ch].toArray 176 (0,0)):Obj)
abbrev A5 (v0:Nat)(v1)(v2:SyC)(v3)(v4):=[pto v0 (.cells [.bool true,.slice v1 v2.owners.length v2.co,.slice v3 v2.conds.length v2.cc,.slice v4 v2.chans.length v2.ch].toArray 176 (0,0)),lsH I64 3 v1 v2.co v2.owners,rsH cqs 1 191 v3 v2.cc v2.conds,stars (v2.conds.map (lsV 3)),rsH chs 3 180 v4 v2.ch v2.chans,stars (v2.chans.map fun x=>lsV 2 x.q)]
abbrev A4 (v0:Nat)(v1)(v2:SyC)(v3)(v4)(v5):=(pto v0 (.cells [.bool true,.slice v1 v2.owners.length v2.co,.slice v3 v2.conds.length v2.cc,.slice v4 v2.chans.length v2.ch].toArray 176 (0,0))::lsH I64 3 v1 v2.co v2.owners::rsH cqs 1 191 v3 v2.cc v2.conds::stars (v2.conds.map (lsV 3))::rsH chs 3 180 v4 v2.ch v2.chans::stars (v2.chans.map fun x=>lsV 2 x.q)::v5)
abbrev AP (v0:SyC):=(v0.conds.map (lsV 3))
abbrev AO (v0:Nat)(v1:Int):=([.pointer (some ⟨v0,0,none⟩),I64 v1]:List Value)
abbrev AN (v0:SyC):=(v0.chans.map fun x=>lsV 2 x.q)
theorem Owner_ok (hR:Real U s)(hs:s.ok N)(hN:N<=1000):CallF prog G 56 (AO p m) ((syL p U)) (Ret fun v q'=>v= .tuple [I64 (Hs s m).1,I64 (Hs s m).2].toArray/\q'=syL p U):=by
 refine aC func56 ntmps56 rfl fun F cs=> ?_;have e:=hR.lo;have n:=hR.lc;have o:=hR.lh;have h:=hs.no;have k:=hs.nc;have j:=hs.nh;change X _ _ _ _ _ _ _ _ (A4 p U.ao U U.ac U.ah F);rcases aX (inR m U.owners.length) with b|b
 . have a:inR m s.owners.length:=by rw [<-e];exact b
   obtain ⟨i,rfl⟩:=aV b.1;have d:i<U.owners.length:=(by have:=b.2;omega);refine Uw (l:=U.owners) (by omega) fun g f=> ?_;rw [f];refine xo 9 ?_;refine aO call86 (W1 clA clA) ?_;refine oo 1 ?_;refine aO call85 (Zq9 (p:=p) clA (by omega) d trivial) ?_;refine rn [12,1017] ?_;have c:Sees (pto p (A7 g U U.ac U.ah)::lsH I64 3 (some ⟨g,0,none⟩) U.co U.owners::rsH cqs 1 191 U.ac U.cc U.conds::stars (AP U)::rsH chs 3 180 U.ah U.ch U.chans::stars (AN U)::F) (some ⟨g,0,none⟩) (U.owners.map I64):=(bR _).le leA;refine xo 6 ?_;refine ld ?_ (hc:=(Om c d));refine ox 3 ?_;rw [show Hs s (i:Int)=(U.owners[i],0) from (if_pos a).trans (by rw [<-hR.ol d];rfl)];refine Zq [pto p (A7 g U U.ac U.ah),lsH I64 3 (some ⟨g,0,none⟩) U.co U.owners,rsH cqs 1 191 U.ac U.cc U.conds,stars (AP U),rsH chs 3 180 U.ah U.ch U.chans,stars (AN U)] func56 (Wu results56 rfl rfl) ⟨_,rfl,rfl,by unfold syL;rw [f]⟩
 have a: ¬inR m s.owners.length:=by rw [<-e];exact b
 refine xo 9 ?_;refine aO call86 (W1 clA clA) ?_;refine oo 1 ?_;refine aO call85 (S3 (p:=p) clA (by omega) b) ?_;refine rn [12,2017,7] ?_;rw [show Hs s m=(0,4) from if_neg a];refine Zq (A5 p U.ao U U.ac U.ah) func56 (Wu results56 rfl rfl) ⟨_,rfl,rfl,rfl⟩
abbrev Ae (v0:Nat)(v1:Int)(v2:Int):=([.pointer (some ⟨v0,0,none⟩),I64 v1,I64 v2]:List Value)
theorem Lock_ok (hR:Real U s)(hs:s.ok N)(hN:N<=1000):CallF prog G 128 (Ae p m t) ((syL p U)) (Ret fun v q'=> ∃ U',Real U' (Ws s m t).1/\v= .tuple [.bool (Ws s m t).2.1,I64 (Ws s m t).2.2].toArray/\q'=syL p U'):=by
 refine aC func128 ntmps128 rfl fun F cs=> ?_;have y:=hR.lo;have z:=hR.lc;have hh:=hR.lh;have a0:=hs.no;have c0:=hs.nc;have b0:=hs.nh;change X _ _ _ _ _ _ _ _ (A4 p U.ao U U.ac U.ah F);rcases aX (inR m U.owners.length) with b|b
 focus
  have a:inR m s.owners.length:=by rw [<-y];exact b
  obtain ⟨i,rfl⟩:=aV b.1;have r:i<U.owners.length:=(by have:=b.2;omega);rcases aX (thr t) with d|d
  . refine Uw (l:=U.owners) (by omega) fun g e_=> ?_;rw [e_];refine xo 9 ?_;refine aO call86 (W1 clA clA) ?_;refine oo 2 ?_;refine aO call85 (Fb (p:=p) clA (by omega) r d) ?_;refine oo 12 ?_;have x:Sees (pto p (A7 g U U.ac U.ah)::lsH I64 3 (some ⟨g,0,none⟩) U.co U.owners::rsH cqs 1 191 U.ac U.cc U.conds::stars (AP U)::rsH chs 3 180 U.ah U.ch U.chans::stars (AN U)::F) (some ⟨g,0,none⟩) (U.owners.map I64):=(bR _).le leA;have w:=Om x r;have q:=hR.ol r;refine XO.kf 21 ?_;rcases aX (U.owners[i]= -1) with k|k
    . refine oo 2 ?_;refine ld ?_ (hc:=w);refine ox 3 ?_;refine Jc 26 ?_ rfl (by simp [k]);refine xo 7 ?_;refine dJ (Bj (f:=I64) (l:=U.owners) (u:=t) (n:=i) (g:=g) (j:=(i:Int)) (by simp [evp,lkp]) rfl sizeOf3 rfl r rfl rfl Zk) ?_;rintro _ _ ⟨rfl,rfl⟩;refine ox 6 ?_;rw [show Ws s (i:Int) t=({ s with owners:=s.owners.set i t },true,0) from (if_pos a).trans ((if_pos d).trans (if_pos (q.trans k)))];refine Zq [pto p (A7 g U U.ac U.ah),lsH I64 3 (some ⟨g,0,none⟩) U.co (U.owners.set i t),rsH cqs 1 191 U.ac U.cc U.conds,stars (AP U),rsH chs 3 180 U.ah U.ch U.chans,stars (AN U)] func128 (Wu results128 rfl rfl) ⟨_,rfl, { U with ao:=(some ⟨g,0,none⟩),owners:=U.owners.set i (t) },⟨by show U.owners.set i (t)=s.owners.set i (t);rw [hR.o],hR.c,hR.h⟩,rfl,by unfold syL;simp⟩
    refine oo 2 ?_;refine ld ?_ (hc:=w);refine ox 3 ?_;refine X.kt 26 ?_ rfl (by simp [k]);refine xx 7 ?_;rw [show Ws s (i:Int) t=(s,false,0) from (if_pos a).trans ((if_pos d).trans (if_neg (fun e=>k (q.symm.trans e))))];refine Zq [pto p (A7 g U U.ac U.ah),lsH I64 3 (some ⟨g,0,none⟩) U.co U.owners,rsH cqs 1 191 U.ac U.cc U.conds,stars (AP U),rsH chs 3 180 U.ah U.ch U.chans,stars (AN U)] func128 (Wu results128 rfl rfl) ⟨_,rfl,U,hR,rfl,by unfold syL;rw [e_]⟩
  refine xo 9 ?_;refine aO call86 (W1 clA clA) ?_;refine oo 2 ?_;refine aO call85 (Dt (p:=p) clA (by omega) r d) ?_;refine rn [12,2021,13] ?_;rw [show Ws s _ t=(s,false,2) from (if_pos a).trans (if_neg d)]
 rotate_left
 focus
  have a: ¬inR m s.owners.length:=by rw [<-y];exact b
  refine xo 9 ?_;refine aO call86 (W1 clA clA) ?_;refine oo 2 ?_;refine aO call85 (Dc (p:=p) clA (by omega) b) ?_;refine rn [12,2021,13] ?_;rw [show Ws s _ t=(s,false,4) from if_neg a]
 all_goals
  refine Zq (A5 p U.ao U U.ac U.ah) func128 (Wu results128 rfl rfl) ⟨_,rfl,U,hR,rfl,rfl⟩
theorem Zzp (hR:Real U s)(hs:s.ok N)(hN:N<=1000):CallF prog G 193 (Ae p m t) ((syL p U)) (Ret fun v q'=> ∃ U',Real U' (Z6 s m t).1/\v= I64 (Z6 s m t).2/\q'=syL p U'):=by
 refine aC func193 ntmps193 rfl fun F cs=> ?_;have y:=hR.lo;have hc:=hR.lc;have hh:=hR.lh;have a0:=hs.no;have c0:=hs.nc;have b0:=hs.nh;change X _ _ _ _ _ _ _ _ (A4 p U.ao U U.ac U.ah F);rcases aX (inR m U.owners.length) with b|b
 focus
  have a:inR m s.owners.length:=by rw [<-y];exact b
  obtain ⟨i,rfl⟩:=aV b.1;have r:i<U.owners.length:=(by have:=b.2;omega);rcases aX (thr t) with d|d
  . refine Uw (l:=U.owners) (by omega) fun g z=> ?_;rw [z];refine xo 8 ?_;refine aO call86 (W1 clA clA) ?_;refine oo 2 ?_;refine aO call85 (Fb (p:=p) clA (by omega) r d) ?_;refine ox 12 ?_;have w:Sees (pto p (A7 g U U.ac U.ah)::lsH I64 3 (some ⟨g,0,none⟩) U.co U.owners::rsH cqs 1 191 U.ac U.cc U.conds::stars (AP U)::rsH chs 3 180 U.ah U.ch U.chans::stars (AN U)::F) (some ⟨g,0,none⟩) (U.owners.map I64):=(bR _).le leA;have x:=Om w r;have q:=hR.ol r;refine rn [1019,7] ?_;refine ld ?_ (hc:=x);refine ox 3 ?_;rcases aX (U.owners[i]=t) with k|k
    . refine Jc 25 ?_ rfl (by simp [k]);refine xo 6 ?_;refine dJ (Bj (f:=I64) (l:=U.owners) (u:= -1) (n:=i) (g:=g) (j:=(i:Int)) (by simp [evp,lkp]) rfl sizeOf3 rfl r rfl rfl Zk) ?_;rintro _ _ ⟨rfl,rfl⟩;refine ox 5 ?_;rw [show Z6 s (i:Int) t=({ s with owners:=s.owners.set i (-1) },0) from (if_pos a).trans ((if_pos d).trans (if_pos (q.trans k)))];refine Zq [pto p (A7 g U U.ac U.ah),lsH I64 3 (some ⟨g,0,none⟩) U.co (U.owners.set i (-1)),rsH cqs 1 191 U.ac U.cc U.conds,stars (AP U),rsH chs 3 180 U.ah U.ch U.chans,stars (AN U)] func193 (Zn results193 rfl) ⟨_,rfl, { U with ao:=(some ⟨g,0,none⟩),owners:=U.owners.set i (-1) },⟨by show U.owners.set i (-1)=s.owners.set i (-1);rw [hR.o],hR.c,hR.h⟩,rfl,by unfold syL;simp⟩
    refine X.kt 25 ?_ rfl (by simp [k]);refine xx 5 ?_;rw [show Z6 s (i:Int) t=(s,140) from (if_pos a).trans ((if_pos d).trans (if_neg (fun e=>k (q.symm.trans e))))];refine Zq [pto p (A7 g U U.ac U.ah),lsH I64 3 (some ⟨g,0,none⟩) U.co U.owners,rsH cqs 1 191 U.ac U.cc U.conds,stars (AP U),rsH chs 3 180 U.ah U.ch U.chans,stars (AN U)] func193 (Zn results193 rfl) ⟨_,rfl,U,hR,rfl,by unfold syL;rw [z]⟩
  refine xo 8 ?_;refine aO call86 (W1 clA clA) ?_;refine oo 2 ?_;refine aO call85 (Dt (p:=p) clA (by omega) r d) ?_;refine rn [12,2019,6] ?_;rw [show Z6 s _ t=(s,2) from (if_pos a).trans (if_neg d)]
 rotate_left
 focus
  have a: ¬inR m s.owners.length:=by rw [<-y];exact b
  refine xo 8 ?_;refine aO call86 (W1 clA clA) ?_;refine oo 2 ?_;refine aO call85 (Dc (p:=p) clA (by omega) b) ?_;refine rn [12,2019,6] ?_;rw [show Z6 s _ t=(s,4) from if_neg a]
 all_goals
  refine Zq (A5 p U.ao U U.ac U.ah) func193 (Zn results193 rfl) ⟨_,rfl,U,hR,rfl,rfl⟩
theorem Sy.ok.lenC (h:s.ok N)(hR:Real U s)(hi:i<U.conds.length)(hN:N<=1000):U.conds[i].l.length<=1000:=by
 rw [<-hR.cl hi];exact cP (h.c _ (Y3 (by rw [<-hR.lc];exact hi))).1 hN
theorem Sy.ok.lenH (h:s.ok N)(hR:Real U s)(hi:i<U.chans.length)(hN:N<=1000):U.chans[i].q.l.length<=1000:=by
 have e:=bK Prod.fst (hR.hl hi);have a:U.chans[i].q.l=(s.chans.getD i ch0).items:=e.symm;rw [a];unfold Ch.items;rw [bS];have:=(h.h _ (Y3 (d:=ch0) (show i<s.chans.length by rw [<-hR.lh];exact hi))).2.2.1;omega
abbrev Ai (v0:Nat)(v1)(v2:SyC)(v3)(v4):=[pto v0 (.cells [.bool true,.slice v1 v2.owners.length v2.co,.slice v3 v2.conds.length v2.cc,.slice (some ⟨v4,0,none⟩) v2.chans.length v2.ch].toArray 176 (0,0)),lsH I64 3 v1 v2.co v2.owners,rsH cqs 1 191 v3 v2.cc v2.conds,stars (v2.conds.map (lsV 3)),rsH chs 3 180 (some ⟨v4,0,none⟩) v2.ch v2.chans,stars (v2.chans.map fun x=>lsV 2 x.q)]
theorem Zzm (hR:Real U s)(hs:s.ok N)(hN:N<=1000):CallF prog G 58 (AO p k) ((syL p U)) (Ret fun v q'=> ∃ a' c',v= .tuple [.slice a' (Qf s k).1.length c',I64 (Qf s k).2].toArray/\q'=lsH I64 2 a' c' (Qf s k).1::syL p U):=by
 refine aC func58 ntmps58 rfl fun F cs=> ?_;have y:=hR.lo;have z:=hR.lc;have n:=hR.lh;have u:=hs.no;have x:=hs.nc;have w:=hs.nh;change X _ _ _ _ _ _ _ _ (A4 p U.ao U U.ac U.ah F);rcases aX (inR k U.chans.length) with e|e
 . have b:inR k s.chans.length:=by rw [<-n];exact e
   obtain ⟨i,rfl⟩:=aV e.1;have d:i<U.chans.length:=(by have:=e.2;omega);refine Yw (l:=U.chans) (by omega) fun g o=> ?_;rw [o];have h:U.chans[i].q.l.length<=1000:=hs.lenH hR d hN;have j:(s.chans.getD i ch0).items=U.chans[i].q.l:=bK Prod.fst (hR.hl d);refine xo 9 ?_;refine aO call91 (Ys clA clA) ?_;refine oo 1 ?_;refine aO call90 (Ts (p:=p) clA (by omega) d trivial) ?_;refine rn [12,1017] ?_;refine bY (Bz d) ?_;refine xo 7 ?_;refine bA 21 (.pointer (some ⟨g,i*3,none⟩)) rfl (by simp) ?_;refine W3 call92 (P2 (f:=chs) (sz:=3) (ty:=180) (l:=U.chans) (i:=i) (m:=U.chans[i].q.l) (a:=U.chans[i].q.a) (c:=U.chans[i].q.c) d (fun _=>rfl) rfl rfl (by have:=h;omega)) ?_;refine kd2 fun t r=> ?_
   refine ox 3 ?_;rw [show Qf s (i:Int)=(U.chans[i].q.l,0) from (if_pos b).trans (by rw [<-j];rfl)];refine bY (Tp d U.chans[i]) ?_;rw [show U.chans.set i U.chans[i]=U.chans from dO d];refine Zq (lsH I64 2 t r U.chans[i].q.l:: (Ai p U.ao U U.ac g)) func58 (Wu results58 rfl rfl) ⟨_,rfl,t,r,rfl,by unfold syL;rw [o]⟩
 have b: ¬inR k s.chans.length:=by rw [<-n];exact e
 refine xo 9 ?_;refine aO call91 (Ys clA clA) ?_;refine oo 1 ?_;refine aO call90 (Nj (p:=p) clA (by omega) e) ?_;refine rn [12,2017,7] ?_;rw [show Qf s k=([],4) from if_neg b];refine Zq (lsH I64 2 none 0 []:: (A5 p U.ao U U.ac U.ah)) func58 (Wu results58 rfl rfl) ⟨_,rfl,none,0,rfl,rfl⟩ ((leA).trans (aS (Za I64 2 _) leA))
end
section
variable {v m:Int}
theorem Real.setC (hR:Real U s)(i:Nat)(x:SlV Int)(ac:Option Addr):Real { U with ac:=ac,conds:=U.conds.set i x } { s with conds:=s.conds.set i x.l } :=
 ⟨hR.o,by show (U.conds.set i x).map _=_;rw [M9,hR.c],hR.h⟩
theorem Real.setH (hR:Real U s)(i:Nat)(x:ChC)(y:Ch)(h:x.row=y.row)(ah:Option Addr):Real { U with ah:=ah,chans:=U.chans.set i x } { s with chans:=s.chans.set i y } :=
 ⟨hR.o,hR.c,by show (U.chans.set i x).map _=(s.chans.set i y).map _;rw [M9,M9,hR.h,h]⟩
theorem Tt {c:Ch}{x:ChC}(h:c.row=x.row):c.items=x.q.l/\c.room=x.room/\(c.all.length:Int)=x.sent:=by
 unfold Ch.row ChC.row at h;simp only [jK] at h;exact h
abbrev Ad (v0)(v1:SyC)(v2)(v3):=((.cells [.bool true,.slice v0 v1.owners.length v1.co,.slice (some ⟨v2,0,none⟩) v1.conds.length v1.cc,.slice v3 v1.chans.length v1.ch].toArray 176 (0,0)):Obj)
theorem All_ok (hR:Real U s)(hs:s.ok N)(hN:N<=1000):CallF prog G 173 (AO p k) ((syL p U)) (Ret fun v q'=> ∃ U' a' c',Real U' (Kb s k).1/\v= .tuple [.slice a' (Kb s k).2.1.length c',I64 (Kb s k).2.2].toArray/\q'=lsH I64 3 a' c' (Kb s k).2.1::syL p U'):=by
 refine aC func173 ntmps173 rfl fun F cs=> ?_;have z:=hR.lo;have o:=hR.lc;have hh:=hR.lh;have t:=hs.no;have x:=hs.nc;have w:=hs.nh;change X _ _ _ _ _ _ _ _ (A4 p U.ao U U.ac U.ah F);rcases aX (inR k U.conds.length) with e|e
 . have b:inR k s.conds.length:=by rw [<-o];exact e
   obtain ⟨i,rfl⟩:=aV e.1;have d:i<U.conds.length:=(by have:=e.2;omega);refine Yw (l:=U.conds) (by omega) fun g y=> ?_;rw [y];have h:=hs.lenC hR d hN;refine xo 9 ?_;refine aO call88 (Vl clA clA) ?_;refine oo 1 ?_;refine aO call87 (Ff (p:=p) clA (by omega) d trivial) ?_;refine rn [12,1018] ?_;refine bY (Tu d) ?_;refine xo 7 ?_;refine bA 22 (.pointer (some ⟨g,i*1,none⟩)) rfl (by simp) ?_;refine W3 call89 (all_ok (f:=cqs) (sz:=1) (ty:=191) (l:=U.conds) (i:=i) (m:=U.conds[i].l) (a:=U.conds[i].a) (c:=U.conds[i].c) d (fun _=>rfl) rfl rfl (by omega)) ?_;refine kd2 fun r q=> ?_
   refine oo 8 ?_;refine dJ (Yr (g:=g) (f:=cqs) (sz:=1) (l:=U.conds) (u:=⟨none,0, []⟩) (n:=i) (k:=0) (j:=(i:Int)) (by simp [evp,lkp]) rfl sizeOf22 (fun _=>rfl) rfl d rfl rfl rfl rfl Zk) ?_;rintro _ _ ⟨rfl,rfl⟩;refine ox 7 ?_;rw [show Kb s (i:Int)=({ s with conds:=s.conds.set i [] },U.conds[i].l,0) from (if_pos b).trans (by rw [<-hR.cl d];rfl)];refine bY (Za I64 3 _) ?_;refine bY (Tn d (a:=none) (c:=0) (m:= [])) ?_;refine Zq (lsH I64 3 r q U.conds[i].l:: [pto p (Ad U.ao U g U.ah),lsH I64 3 U.ao U.co U.owners,rsH cqs 1 191 (some ⟨g,0,none⟩) U.cc (U.conds.set i ⟨none,0, []⟩),stars ((U.conds.set i ⟨none,0, []⟩).map (lsV 3)),rsH chs 3 180 U.ah U.ch U.chans,stars (AN U)]) func173 (Wu results173 rfl rfl) ⟨_,rfl, { U with ac:=(some ⟨g,0,none⟩),conds:=U.conds.set i ⟨none,0, []⟩ },r,q,hR.setC i ⟨none,0, []⟩ _,rfl,by unfold syL;simp⟩
 have b: ¬inR k s.conds.length:=by rw [<-o];exact e
 refine xo 9 ?_;refine aO call88 (Vl clA clA) ?_;refine oo 1 ?_;refine aO call87 (Dr (p:=p) clA (by omega) e) ?_;refine rn [12,2018,7] ?_;rw [show Kb s k=(s, [],4) from if_neg b];refine Zq (lsH I64 3 none 0 []:: (A5 p U.ao U U.ac U.ah)) func173 (Wu results173 rfl rfl) ⟨_,rfl,U,none,0,hR,rfl,rfl⟩ ((leA).trans (aS (Za I64 3 _) leA))
theorem Zzr (hR:Real U s)(hs:s.ok N)(hN:N<=1000):CallF prog G 172 [.pointer (some ⟨p,0,none⟩),I64 k] ((syL p U)) (Ret fun v q'=> ∃ U',Real U' (Yt s k).1/\v= .tuple [I64 (max (Yt s k).2.1 0),.bool (decide (0<=(Yt s k).2.1)),I64 (Yt s k).2.2].toArray/\q'=syL p U'):=by
 refine aC func172 ntmps172 rfl fun F cs=> ?_;have ho:=hR.lo;have w:=hR.lc;have hh:=hR.lh;have a0:=hs.no;have c0:=hs.nc;have b0:=hs.nh;change X _ _ _ _ _ _ _ _ (pto p (.cells [.bool true,.slice U.ao U.owners.length U.co,.slice U.ac U.conds.length U.cc,.slice U.ah U.chans.length U.ch].toArray 176 (0,0))::lsH I64 3 U.ao U.co U.owners::rsH cqs 1 191 U.ac U.cc U.conds::stars (U.conds.map (lsV 3))::rsH chs 3 180 U.ah U.ch U.chans::stars (U.chans.map fun x=>lsV 2 x.q)::F);rcases aX (inR k U.conds.length) with j|j
 . have d:inR k s.conds.length:=by rw [<-w];exact j
   obtain ⟨i,rfl⟩:=aV j.1;have b:i<U.conds.length:=(by have:=j.2;omega);refine Yw (l:=U.conds) (by omega) fun g e_=> ?_;rw [e_];have y:=hs.lenC hR b hN;have h:=hR.cl b;refine xo 10 ?_;refine aO call88 (Vl clA clA) ?_;refine oo 1 ?_;refine aO call87 (Ff (p:=p) clA (by omega) b trivial) ?_;refine rn [12,1020] ?_;refine bY (Tu b) ?_;refine xo 7 ?_;rcases aX (U.conds[i].l= []) with n|n
   . refine bA 25 (.pointer (some ⟨g,i*1,none⟩)) rfl (by simp) ?_;refine W3 call196 (take_no (f:=cqs) (sz:=1) (ty:=191) (l:=U.conds) (i:=i) (m:=U.conds[i].l) (a:=U.conds[i].a) (c:=U.conds[i].c) b (fun _=>rfl) rfl rfl (by omega) n) ?_;refine kd0 ?_;refine ox 14 ?_;refine bY (Tn b (a:=U.conds[i].a) (c:=U.conds[i].c) (m:=U.conds[i].l)) ?_;rw [show U.conds.set i ⟨U.conds[i].a,U.conds[i].c,U.conds[i].l⟩=U.conds from dO b];rw [show Yt s (i:Int)=(s, -1,0) from (if_pos d).trans (if_pos (h.trans n))];refine Zq [pto p (.cells [.bool true,.slice U.ao U.owners.length U.co,.slice (some ⟨g,0,none⟩) U.conds.length U.cc,.slice U.ah U.chans.length U.ch].toArray 176 (0,0)),lsH I64 3 U.ao U.co U.owners,rsH cqs 1 191 (some ⟨g,0,none⟩) U.cc U.conds,stars (U.conds.map (lsV 3)),rsH chs 3 180 U.ah U.ch U.chans,stars (U.chans.map fun x=>lsV 2 x.q)] func172 (Zqc results172 rfl rfl rfl) ⟨_,rfl,U,hR,rfl,by unfold syL;rw [e_]⟩
   refine bA 25 (.pointer (some ⟨g,i*1,none⟩)) rfl (by simp) ?_;refine W3 call196 (take_ok (f:=cqs) (sz:=1) (ty:=191) (l:=U.conds) (i:=i) (m:=U.conds[i].l) (a:=U.conds[i].a) (c:=U.conds[i].c) (u:=(fun a c=>⟨a,c,U.conds[i].l.drop 1⟩)) b (fun _=>rfl) rfl rfl (by omega) n (fun _ _=>rfl)) ?_;refine kd2 fun t o=> ?_
   refine ox 14 ?_;refine bY (Tn b (a:=t) (c:=o) (m:=U.conds[i].l.drop 1)) ?_
   have h0:0<=U.conds[i].l.headD 0:=by
    have z:=hs.c U.conds[i].l (by rw [<-h];exact Y3 (by rw [<-w];exact b))
    cases hL:U.conds[i].l with
    |nil=>exact aR hL n
    |cons x r=>rw [hL] at z;exact (z.2 x (bI ..)).1
   rw [show Yt s (i:Int)=({ s with conds:=s.conds.set i (U.conds[i].l.drop 1) },U.conds[i].l.headD 0,0) from (if_pos d).trans ((if_neg (fun e=>n (h.symm.trans e))).trans (by rw [<-h];rfl))];refine Zq [pto p (.cells [.bool true,.slice U.ao U.owners.length U.co,.slice (some ⟨g,0,none⟩) U.conds.length U.cc,.slice U.ah U.chans.length U.ch].toArray 176 (0,0)),lsH I64 3 U.ao U.co U.owners,rsH cqs 1 191 (some ⟨g,0,none⟩) U.cc (U.conds.set i ⟨t,o,U.conds[i].l.drop 1⟩),stars ((U.conds.set i ⟨t,o,U.conds[i].l.drop 1⟩).map (lsV 3)),rsH chs 3 180 U.ah U.ch U.chans,stars (U.chans.map fun x=>lsV 2 x.q)] func172 (Zqc results172 rfl rfl rfl) ⟨_,rfl, { U with ac:=(some ⟨g,0,none⟩),conds:=U.conds.set i ⟨t,o,U.conds[i].l.drop 1⟩ },hR.setC i ⟨t,o,U.conds[i].l.drop 1⟩ _,by dsimp only;rw [fU h0,aN h0],by unfold syL;simp⟩
 have d: ¬inR k s.conds.length:=by rw [<-w];exact j
 refine xo 10 ?_;refine aO call88 (Vl clA clA) ?_;refine oo 1 ?_;refine aO call87 (Dr (p:=p) clA (by omega) j) ?_;refine rn [12,2020,8] ?_;rw [show Yt s k=(s, -1,4) from if_neg d];refine Zq [pto p (.cells [.bool true,.slice U.ao U.owners.length U.co,.slice U.ac U.conds.length U.cc,.slice U.ah U.chans.length U.ch].toArray 176 (0,0)),lsH I64 3 U.ao U.co U.owners,rsH cqs 1 191 U.ac U.cc U.conds,stars (U.conds.map (lsV 3)),rsH chs 3 180 U.ah U.ch U.chans,stars (U.chans.map fun x=>lsV 2 x.q)] func172 (Zqc results172 rfl rfl rfl) ⟨_,rfl,U,hR,rfl,rfl⟩
theorem Room_ok (hR:Real U s)(hs:s.ok N)(hN:N<=1000):CallF prog G 125 (AO p k) ((syL p U)) (Ret fun v q'=>v= .tuple [I64 (Bp s k).1,I64 (Bp s k).2].toArray/\q'=syL p U):=by
 refine aC func125 ntmps125 rfl fun F cs=> ?_;have t:=hR.lo;have o:=hR.lc;have e:=hR.lh;have j:=hs.no;have n:=hs.nc;have m:=hs.nh;change X _ _ _ _ _ _ _ _ (A4 p U.ao U U.ac U.ah F);rcases aX (inR k U.chans.length) with b|b
 . have a:inR k s.chans.length:=by rw [<-e];exact b
   obtain ⟨i,rfl⟩:=aV b.1;have d:i<U.chans.length:=(by have:=b.2;omega);refine Yw (l:=U.chans) (by omega) fun g f=> ?_;rw [f];refine xo 9 ?_;refine aO call91 (Ys clA clA) ?_;refine oo 1 ?_;refine aO call90 (Ts (p:=p) clA (by omega) d trivial) ?_;refine rn [12,1017] ?_;obtain ⟨r,h,q⟩:=Tt (hR.hl d);have c:Sees (pto p (.cells [.bool true,.slice U.ao U.owners.length U.co,.slice U.ac U.conds.length U.cc,.slice (some ⟨g,0,none⟩) U.chans.length U.ch].toArray 176 (0,0))::lsH I64 3 U.ao U.co U.owners::rsH cqs 1 191 U.ac U.cc U.conds::stars (AP U)::rsH chs 3 180 (some ⟨g,0,none⟩) U.ch U.chans::stars (AN U)::F) (some ⟨g,0,none⟩) (U.chans.flatMap chs):=(bE _).le leA;refine xo 7 ?_;refine ld ?_ (hc:=(fZ (k:=1) c (fun _=>rfl) (aD d) (by omega) rfl rfl));refine ox 3 ?_;rw [show Bp s (i:Int)=(U.chans[i].room,0) from (if_pos a).trans (by rw [<-h];rfl)];refine Zq (Ai p U.ao U U.ac g) func125 (Wu results125 rfl rfl) ⟨_,rfl,rfl,by unfold syL;rw [f]⟩
 have a: ¬inR k s.chans.length:=by rw [<-e];exact b
 refine xo 9 ?_;refine aO call91 (Ys clA clA) ?_;refine oo 1 ?_;refine aO call90 (Nj (p:=p) clA (by omega) b) ?_;refine rn [12,2017,7] ?_;rw [show Bp s k=(0,4) from if_neg a];refine Zq (A5 p U.ao U U.ac U.ah) func125 (Wu results125 rfl rfl) ⟨_,rfl,rfl,rfl⟩
theorem Recv_ok (hR:Real U s)(hs:s.ok N)(hN:N<=1000):CallF prog G 175 [.pointer (some ⟨p,0,none⟩),I64 k] ((syL p U)) (Ret fun v q'=> ∃ U',Real U' (Vq s k).1/\v= .tuple [I64 (Vq s k).2.1,I64 (max (Vq s k).2.2.1 0),.bool (decide (0<=(Vq s k).2.2.1)),I64 (Vq s k).2.2.2].toArray/\q'=syL p U'):=by
 refine aC func175 ntmps175 rfl fun F cs=> ?_;have ho:=hR.lo;have hc:=hR.lc;have hh:=hR.lh;have k0:=hs.no;have m0:=hs.nc;have l0:=hs.nh;change X _ _ _ _ _ _ _ _ (pto p (.cells [.bool true,.slice U.ao U.owners.length U.co,.slice U.ac U.conds.length U.cc,.slice U.ah U.chans.length U.ch].toArray 176 (0,0))::lsH I64 3 U.ao U.co U.owners::rsH cqs 1 191 U.ac U.cc U.conds::stars (U.conds.map (lsV 3))::rsH chs 3 180 U.ah U.ch U.chans::stars (U.chans.map fun x=>lsV 2 x.q)::F);rcases aX (inR k U.chans.length) with r|r
 . have n:inR k s.chans.length:=by rw [<-hh];exact r
   obtain ⟨i,rfl⟩:=aV r.1;have b:i<U.chans.length:=(by have:=r.2;omega);refine Yw (l:=U.chans) (by omega) fun g e_=> ?_;rw [e_];have e0:=hs.lenH hR b hN;obtain ⟨r1,r2,r3⟩:=Tt (hR.hl b);have c0:=hs.h _ (Y3 (d:=ch0) (show i<s.chans.length by rw [<-hh];exact b));obtain ⟨⟨j0,i0⟩,h0,n0,a0,g0⟩:=c0;have o:(s.chans.getD i ch0).all.drop (s.chans.getD i ch0).taken=U.chans[i].q.l:=r1;have w:=bK List.length o;rw [bS] at w;have f0:(U.chans[i].q.l.length:Int)<=U.chans[i].room:=by rw [<-r1,<-r2];exact a0
   refine xo 11 ?_;refine aO call91 (Ys clA clA) ?_;refine oo 1 ?_;refine aO call90 (Ts (p:=p) clA (by omega) b trivial) ?_;refine rn [12,1022] ?_;have j:Sees (pto p (.cells [.bool true,.slice U.ao U.owners.length U.co,.slice U.ac U.conds.length U.cc,.slice (some ⟨g,0,none⟩) U.chans.length U.ch].toArray 176 (0,0))::lsH I64 3 U.ao U.co U.owners::rsH cqs 1 191 U.ac U.cc U.conds::stars (U.conds.map (lsV 3))::rsH chs 3 180 (some ⟨g,0,none⟩) U.ch U.chans::stars (U.chans.map fun x=>lsV 2 x.q)::F) (some ⟨g,0,none⟩) (U.chans.flatMap chs):=(bE _).le leA;refine rn [3,0,1,2,3] ?_;refine ldD 3 ?_ (hc:=(by first|exact (fZ (k:=2) j (fun _=>rfl) (aD b) (by omega) rfl rfl)|exact (fZ (k:=0) j (fun _=>rfl) (aD b) (by omega) rfl rfl)));refine dd [4,5,6,7] ?_;refine ldD 8 ?_ (hc:=(by first|exact (fZ (k:=2) j (fun _=>rfl) (aD b) (by omega) rfl rfl)|exact (fZ (k:=0) j (fun _=>rfl) (aD b) (by omega) rfl rfl)));refine rn [10,11,12,0,5] ?_;refine eU (Bz b) ?_;rcases aX (U.chans[i].q.l= []) with t|t
   . refine bA 38 (.pointer (some ⟨g,i*3,none⟩)) rfl (by simp) ?_;refine W3 call198 (Zqb (f:=chs) (sz:=3) (ty:=180) (l:=U.chans) (i:=i) (m:=U.chans[i].q.l) (a:=U.chans[i].q.a) (c:=U.chans[i].q.c) b (fun _=>rfl) rfl rfl (by omega) t) ?_;refine kd0 ?_;refine oo 10 ?_;refine Zt (bV rfl) ?_;refine rn [1,2043,8] ?_;refine bY (Tp b U.chans[i]) ?_;rw [show U.chans.set i U.chans[i]=U.chans from dO b];rw [show Vq s (i:Int)=(s,0, -1,0) from (if_pos n).trans (if_pos (r1.trans t))];refine Zq [pto p (.cells [.bool true,.slice U.ao U.owners.length U.co,.slice U.ac U.conds.length U.cc,.slice (some ⟨g,0,none⟩) U.chans.length U.ch].toArray 176 (0,0)),lsH I64 3 U.ao U.co U.owners,rsH cqs 1 191 U.ac U.cc U.conds,stars (U.conds.map (lsV 3)),rsH chs 3 180 (some ⟨g,0,none⟩) U.ch U.chans,stars (U.chans.map fun x=>lsV 2 x.q)] func175 (Ea results175 (eB rfl (eB rfl (eB rfl (eB rfl eI))))) ⟨_,rfl,U,hR,rfl,by unfold syL;rw [e_]⟩
   refine bA 38 (.pointer (some ⟨g,i*3,none⟩)) rfl (by simp) ?_;refine W3 call198 (Zqy (f:=chs) (sz:=3) (ty:=180) (l:=U.chans) (i:=i) (m:=U.chans[i].q.l) (a:=U.chans[i].q.a) (c:=U.chans[i].q.c) (u:=(fun a c=>⟨⟨a,c,U.chans[i].q.l.drop 1⟩,U.chans[i].room,U.chans[i].sent⟩)) b (fun _=>rfl) rfl rfl (by omega) t (fun _ _=>rfl)) ?_;refine kd2 fun z y=> ?_
   refine oo 10 ?_;refine Zt (bV rfl) ?_;refine rn [1,1043,11] ?_;refine bY (Tp b (⟨⟨z,y,U.chans[i].q.l.drop 1⟩,U.chans[i].room,U.chans[i].sent⟩:ChC)) ?_;have d0:0<U.chans[i].q.l.length:=iK.2 t;have b0:(s.chans.getD i ch0).all.getD (s.chans.getD i ch0).taken 0=U.chans[i].q.l.headD 0:=by rw [<-o,List.headD_eq_head?_getD,List.head?_drop,bD]
   rw [show Vq s (i:Int)=({ s with chans:=s.chans.set i { s.chans.getD i ch0 with taken:=(s.chans.getD i ch0).taken+1 } },U.chans[i].q.l.headD 0,((s.chans.getD i ch0).taken:Int),0) from (if_pos n).trans ((if_neg (fun e=>t (r1.symm.trans e))).trans (by rw [<-b0];rfl))];refine Zq [pto p (.cells [.bool true,.slice U.ao U.owners.length U.co,.slice U.ac U.conds.length U.cc,.slice (some ⟨g,0,none⟩) U.chans.length U.ch].toArray 176 (0,0)),lsH I64 3 U.ao U.co U.owners,rsH cqs 1 191 U.ac U.cc U.conds,stars (U.conds.map (lsV 3)),rsH chs 3 180 (some ⟨g,0,none⟩) U.ch (U.chans.set i (⟨⟨z,y,U.chans[i].q.l.drop 1⟩,U.chans[i].room,U.chans[i].sent⟩:ChC)),stars ((U.chans.set i (⟨⟨z,y,U.chans[i].q.l.drop 1⟩,U.chans[i].room,U.chans[i].sent⟩:ChC)).map fun x=>lsV 2 x.q)] func175 (Ea results175 (eB rfl (eB rfl (eB rfl (eB rfl eI))))) ⟨_,rfl, { U with ah:=(some ⟨g,0,none⟩),chans:=U.chans.set i (⟨⟨z,y,U.chans[i].q.l.drop 1⟩,U.chans[i].room,U.chans[i].sent⟩:ChC) },hR.setH i (⟨⟨z,y,U.chans[i].q.l.drop 1⟩,U.chans[i].room,U.chans[i].sent⟩:ChC) _ (by unfold Ch.row ChC.row Ch.items;dsimp only;rw [<-r2,<-r3,<-o,fK]) _,by dsimp only;rw [fU (by omega),aN (by omega),show ((U.chans[i]).sent - (U.chans[i].q.l.length:Int))=((s.chans.getD i ch0).taken:Int) by omega],by unfold syL;simp⟩
 have n: ¬inR k s.chans.length:=by rw [<-hh];exact r
 refine xo 11 ?_;refine aO call91 (Ys clA clA) ?_;refine oo 1 ?_;refine aO call90 (Nj (p:=p) clA (by omega) r) ?_;refine rn [12,2022,9] ?_;rw [show Vq s k=(s,0, -1,4) from if_neg n];refine Zq [pto p (.cells [.bool true,.slice U.ao U.owners.length U.co,.slice U.ac U.conds.length U.cc,.slice U.ah U.chans.length U.ch].toArray 176 (0,0)),lsH I64 3 U.ao U.co U.owners,rsH cqs 1 191 U.ac U.cc U.conds,stars (U.conds.map (lsV 3)),rsH chs 3 180 U.ah U.ch U.chans,stars (U.chans.map fun x=>lsV 2 x.q)] func175 (Ea results175 (eB rfl (eB rfl (eB rfl (eB rfl eI))))) ⟨_,rfl,U,hR,rfl,rfl⟩
theorem Send_ok (hR:Real U s)(hs:s.ok N)(hN:N<=1000):CallF prog G 174 [.pointer (some ⟨p,0,none⟩),I64 k,I64 t] ((syL p U)) (Ret fun v q'=> ∃ U',Real U' (Vf s k t).1/\v= .tuple [I64 (max (Vf s k t).2.1 0),.bool (decide (0<=(Vf s k t).2.1)),I64 (Vf s k t).2.2].toArray/\q'=syL p U'):=by
 refine aC func174 ntmps174 rfl fun F cs=> ?_;have ho:=hR.lo;have hc:=hR.lc;have hh:=hR.lh;have o0:=hs.no;have q0:=hs.nc;have p0:=hs.nh;change X _ _ _ _ _ _ _ _ (pto p (.cells [.bool true,.slice U.ao U.owners.length U.co,.slice U.ac U.conds.length U.cc,.slice U.ah U.chans.length U.ch].toArray 176 (0,0))::lsH I64 3 U.ao U.co U.owners::rsH cqs 1 191 U.ac U.cc U.conds::stars (U.conds.map (lsV 3))::rsH chs 3 180 U.ah U.ch U.chans::stars (U.chans.map fun x=>lsV 2 x.q)::F);rcases aX (inR k U.chans.length) with hr|hr
 focus
  have r:inR k s.chans.length:=by rw [<-hh];exact hr
  obtain ⟨i,rfl⟩:=aV hr.1;have o:i<U.chans.length:=(by have:=hr.2;omega);rcases aX (val t) with hg|hg
  . refine Yw (l:=U.chans) (by omega) fun g e_=> ?_;rw [e_];have j0:=hs.lenH hR o hN;obtain ⟨r1,r2,r3⟩:=Tt (hR.hl o);have i0:=hs.h _ (Y3 (d:=ch0) (show i<s.chans.length by rw [<-hh];exact o));obtain ⟨⟨n0,m0⟩,d0,r0,h0,l0⟩:=i0;have c0:(s.chans.getD i ch0).all.drop (s.chans.getD i ch0).taken=U.chans[i].q.l:=r1;have b0:=bK List.length c0;rw [bS] at b0;have k0:(U.chans[i].q.l.length:Int)<=U.chans[i].room:=by rw [<-r1,<-r2];exact h0
    refine xo 10 ?_;refine aO call91 (Ys clA clA) ?_;refine oo 2 ?_;refine aO call90 (Zzq (p:=p) clA (by omega) o hg) ?_;refine rn [8,0,1,2,3] ?_;refine XD.kf 22 ?_;have w:Sees (pto p (.cells [.bool true,.slice U.ao U.owners.length U.co,.slice U.ac U.conds.length U.cc,.slice (some ⟨g,0,none⟩) U.chans.length U.ch].toArray 176 (0,0))::lsH I64 3 U.ao U.co U.owners::rsH cqs 1 191 U.ac U.cc U.conds::stars (U.conds.map (lsV 3))::rsH chs 3 180 (some ⟨g,0,none⟩) U.ch U.chans::stars (U.chans.map fun x=>lsV 2 x.q)::F) (some ⟨g,0,none⟩) (U.chans.flatMap chs):=(bE _).le leA;refine dd [3,4,5,6] ?_;refine ldD 7 ?_ (hc:=(by first|exact (fZ (k:=1) w (fun _=>rfl) (aD o) (by omega) rfl rfl)|exact (fZ (k:=0) w (fun _=>rfl) (aD o) (by omega) rfl rfl)));refine dd [8,9,10,11] ?_;refine ldD 12 ?_ (hc:=(by first|exact (fZ (k:=1) w (fun _=>rfl) (aD o) (by omega) rfl rfl)|exact (fZ (k:=0) w (fun _=>rfl) (aD o) (by omega) rfl rfl)));refine rn [14,15,0] ?_;rcases aX ((U.chans[i].q.l.length:Int)<U.chans[i].room) with hx|hx
    . refine Jc 34 ?_;refine bY (Bz o) ?_;refine xo 8 ?_;refine bA 38 (.pointer (some ⟨g,i*3,none⟩)) rfl (by simp) ?_;refine W3 call197 (put64_ok (t:=t) (f:=chs) (sz:=3) (ty:=180) (l:=U.chans) (i:=i) (m:=U.chans[i].q.l) (a:=U.chans[i].q.a) (c:=U.chans[i].q.c) (u:=(fun a c=>⟨⟨a,c,U.chans[i].q.l++ [t]⟩,U.chans[i].room,U.chans[i].sent⟩)) o (fun _=>rfl) rfl rfl (by omega) (fun _ _=>rfl)) ?_;rintro _ _ ⟨e,b,rfl⟩ _ e_;simp only [ca,na] at e_;subst e_;have z:i<(U.chans.set i (⟨⟨e,b,U.chans[i].q.l++ [t]⟩,U.chans[i].room,U.chans[i].sent⟩:ChC)).length:=by rw [bC];exact o
      have a0:(U.chans.set i (⟨⟨e,b,U.chans[i].q.l++ [t]⟩,U.chans[i].room,U.chans[i].sent⟩:ChC))[i]'z=(⟨⟨e,b,U.chans[i].q.l++ [t]⟩,U.chans[i].room,U.chans[i].sent⟩:ChC):=cN _;have g0:Sees (rsH chs 3 180 (some ⟨g,0,none⟩) U.ch (U.chans.set i (⟨⟨e,b,U.chans[i].q.l++ [t]⟩,U.chans[i].room,U.chans[i].sent⟩:ChC))::F) (some ⟨g,0,none⟩) ((U.chans.set i (⟨⟨e,b,U.chans[i].q.l++ [t]⟩,U.chans[i].room,U.chans[i].sent⟩:ChC)).flatMap chs):=bE _;have f0: ∀ q,Le q (rsH chs 3 180 (some ⟨g,0,none⟩) U.ch (U.chans.set i (⟨⟨e,b,U.chans[i].q.l++ [t]⟩,U.chans[i].room,U.chans[i].sent⟩:ChC))::F)->Sees q (some ⟨g,0,none⟩) ((U.chans.set i (⟨⟨e,b,U.chans[i].q.l++ [t]⟩,U.chans[i].room,U.chans[i].sent⟩:ChC)).flatMap chs):=fun q h=>g0.le h
      refine oo 6 ?_;refine ld ?_ (hc:=(show Cl _ _ (I64 U.chans[i].sent) from fZ (k:=2) (y:=(⟨⟨e,b,U.chans[i].q.l++ [t]⟩,U.chans[i].room,U.chans[i].sent⟩:ChC)) (f0 _ leA) (fun _=>rfl) (by rw [aD z,a0]) (by omega) rfl rfl));refine oo 3 ?_;refine dJ (Yr (g:=g) (f:=chs) (sz:=3) (l:=U.chans.set i (⟨⟨e,b,U.chans[i].q.l++ [t]⟩,U.chans[i].room,U.chans[i].sent⟩:ChC)) (u:=(⟨⟨e,b,U.chans[i].q.l++ [t]⟩,U.chans[i].room,U.chans[i].sent+1⟩:ChC)) (n:=i) (k:=2) (j:=(i:Int)) (by simp [evp,lkp]) rfl sizeOf3 (fun _=>rfl) rfl z rfl (by rw [a0];rfl) rfl rfl Zk) ?_;rintro _ _ ⟨rfl,rfl⟩;rw [fI];have e0: ∀ q,Le q (rsH chs 3 180 (some ⟨g,0,none⟩) U.ch (U.chans.set i (⟨⟨e,b,U.chans[i].q.l++ [t]⟩,U.chans[i].room,U.chans[i].sent+1⟩:ChC))::F)->Sees q (some ⟨g,0,none⟩) ((U.chans.set i (⟨⟨e,b,U.chans[i].q.l++ [t]⟩,U.chans[i].room,U.chans[i].sent+1⟩:ChC)).flatMap chs):=fun q h=>(bE F).le h
      refine oo 6 ?_;refine ld ?_ (hc:=(show Cl _ _ (I64 (U.chans[i].sent+1)) from fZ (k:=2) (y:=(⟨⟨e,b,U.chans[i].q.l++ [t]⟩,U.chans[i].room,U.chans[i].sent+1⟩:ChC)) (e0 _ leA) (fun _=>rfl) (by rw [List.getElem?_set_self o]) (by omega) rfl rfl));refine ox 5 ?_;refine bY (Tp o (⟨⟨e,b,U.chans[i].q.l++ [t]⟩,U.chans[i].room,U.chans[i].sent+1⟩:ChC)) ?_;rw [show Vf s (i:Int) t=({ s with chans:=s.chans.set i { s.chans.getD i ch0 with all:=(s.chans.getD i ch0).all++ [t] } },((s.chans.getD i ch0).all.length:Int),0) from ((if_pos r).trans ((if_pos hg).trans ((if_pos (by rw [show (s.chans.getD (Int.toNat ((i:Nat):Int)) ch0).items=_ from r1,show (s.chans.getD (Int.toNat ((i:Nat):Int)) ch0).room=_ from r2];exact hx)).trans rfl)))];refine Zq [pto p (.cells [.bool true,.slice U.ao U.owners.length U.co,.slice U.ac U.conds.length U.cc,.slice (some ⟨g,0,none⟩) U.chans.length U.ch].toArray 176 (0,0)),lsH I64 3 U.ao U.co U.owners,rsH cqs 1 191 U.ac U.cc U.conds,stars (U.conds.map (lsV 3)),rsH chs 3 180 (some ⟨g,0,none⟩) U.ch (U.chans.set i (⟨⟨e,b,U.chans[i].q.l++ [t]⟩,U.chans[i].room,U.chans[i].sent+1⟩:ChC)),stars ((U.chans.set i (⟨⟨e,b,U.chans[i].q.l++ [t]⟩,U.chans[i].room,U.chans[i].sent+1⟩:ChC)).map fun x=>lsV 2 x.q)] func174 (Zqc results174 rfl rfl rfl) ⟨_,rfl, { U with ah:=(some ⟨g,0,none⟩),chans:=U.chans.set i (⟨⟨e,b,U.chans[i].q.l++ [t]⟩,U.chans[i].room,U.chans[i].sent+1⟩:ChC) },hR.setH i (⟨⟨e,b,U.chans[i].q.l++ [t]⟩,U.chans[i].room,U.chans[i].sent+1⟩:ChC) _ (by unfold Ch.row ChC.row Ch.items;dsimp only;rw [<-r2,<-r3,<-c0,eV d0,aG];rfl) _,by dsimp only;rw [fU (by omega),aN (by omega),show U.chans[i].sent+1 - 1=((s.chans.getD i ch0).all.length:Int) by omega],by unfold syL;simp⟩
    refine rn [2034,8] ?_;rw [show Vf s (i:Int) t=(s, -1,0) from ((if_pos r).trans ((if_pos hg).trans (if_neg (by rw [show (s.chans.getD (Int.toNat ((i:Nat):Int)) ch0).items=_ from r1,show (s.chans.getD (Int.toNat ((i:Nat):Int)) ch0).room=_ from r2];exact hx))))];refine Zq [pto p (.cells [.bool true,.slice U.ao U.owners.length U.co,.slice U.ac U.conds.length U.cc,.slice (some ⟨g,0,none⟩) U.chans.length U.ch].toArray 176 (0,0)),lsH I64 3 U.ao U.co U.owners,rsH cqs 1 191 U.ac U.cc U.conds,stars (U.conds.map (lsV 3)),rsH chs 3 180 (some ⟨g,0,none⟩) U.ch U.chans,stars (U.chans.map fun x=>lsV 2 x.q)] func174 (Zqc results174 rfl rfl rfl) ⟨_,rfl,U,hR,rfl,by unfold syL;rw [e_]⟩
  refine xo 10 ?_;refine aO call91 (Ys clA clA) ?_;refine oo 2 ?_;refine aO call90 (S5 (p:=p) clA (by omega) o hg) ?_;refine rn [8,0,1,2,3] ?_;refine XD.kt 22 ?_;refine rn [4,5,6,7,8,9,10,11,12,13,14,15,0,8] ?_;rw [show Vf s _ t=(s, -1,2) from (if_pos r).trans (if_neg hg)]
 rotate_left
 focus
  have r: ¬inR k s.chans.length:=by rw [<-hh];exact hr
  refine xo 10 ?_;refine aO call91 (Ys clA clA) ?_;refine oo 2 ?_;refine aO call90 (S4 (p:=p) clA (by omega) hr) ?_;refine rn [8,0,1,2,3] ?_;refine XD.kt 22 ?_;refine rn [4,5,6,7,8,9,10,11,12,13,14,15,0,8] ?_;rw [show Vf s _ t=(s, -1,4) from if_neg r]
 all_goals
  refine Zq [pto p (.cells [.bool true,.slice U.ao U.owners.length U.co,.slice U.ac U.conds.length U.cc,.slice U.ah U.chans.length U.ch].toArray 176 (0,0)),lsH I64 3 U.ao U.co U.owners,rsH cqs 1 191 U.ac U.cc U.conds,stars (U.conds.map (lsV 3)),rsH chs 3 180 U.ah U.ch U.chans,stars (U.chans.map fun x=>lsV 2 x.q)] func174 (Zqc results174 rfl rfl rfl) ⟨_,rfl,U,hR,rfl,rfl⟩
end
end Go.Proofs.YtflkjkhijcdbaaaGreat
