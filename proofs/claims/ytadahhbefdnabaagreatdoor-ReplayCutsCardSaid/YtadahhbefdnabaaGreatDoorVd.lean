/- Contracts. -/
import Derived.Test.YtadahhbefdnabaaGreatDoorVc
set_option maxHeartbeats 16000000
set_option maxRecDepth 100000
set_option linter.all false
namespace Go.Proofs.YtadahhbefdnabaaGreatDoor
open Go Go.RowKit Wx Go.Proofs.Tryz
attribute [local irreducible] lsH rsH stars
variable {q q1 q2 q0:List HP}{e:Ex}{ix:PEx}{k i B bytes N:Nat}{ln cl id slot other op pl pc:Int}{nm wt:ByteArray}{loc:Bool}{G w:World}{r ts:List Tk}{d:PDec}{p:PE}{M M':Hp}{P:Program}{fr:Fc}{Q:Yp}{todo:List Item}{ds:List Deferred}{cs:List Frame}{ops:List Oper}
def Zzh (a b:List PEx):Ys (a++b)=max (Ys a) (Ys b):=by
 induction a with
 |nil=>simp [Ys]
 |cons x r ih=>simp only [bN,Ys,ih];omega
def Gu {x}: ∀ {l},x∈l->x.dep<=Ys l
 |y::r,h=>by
  rcases bS.1 h with rfl|h
  . simp only [Ys];omega
  have:=Gu h;simp only [Ys];omega
def I3 (l m:List Ex):Yj (l++m)=Yj l++Yj m:=by simp [Ww]
section
variable {ix:Ex}{args:List Ex}{body els:List Stm}{k n:Int}{aa ba:Option Addr}{ac bc:Nat}{ea:Option Addr}{ec:Nat}
def Zx5 (h:Kn q fun M=>(Ex.mk k n nm slot loc op args aa ac).At M):Sees q aa (args.flatMap exC):=eP (h.imp fun M h=>h.1.2.2)
def Zx4 (h:Kn q fun M=>(Ex.mk k n nm slot loc op args aa ac).At M)(hi:i<args.length):Kn q fun M=>args[i].At M:=h.imp fun M h=>Ub.1 h.2 _ (aC hi)
def Zx3 (h:Kn q fun M=>(Ex.mk k n nm slot loc op args aa ac).At M)(s:St G w q):args.length<=9223372036854775807:=h.fact (fun M h=>by have b:=h.1.1;have a:=h.1.2.1;simp [maxLen] at a;omega) s
def Zx0 (h:Kn q fun M=>(Stm.mk k ln cl nm wt e ix body els ba bc ea ec id slot other loc).At M):Kn q fun M=>e.At M:=h.imp fun _ h=>h.1
def Zxo (h:Kn q fun M=>(Stm.mk k ln cl nm wt e ix body els ba bc ea ec id slot other loc).At M):Kn q fun M=>ix.At M:=h.imp fun _ h=>h.2.1
def Zx1 (h:Kn q fun M=>(Stm.mk k ln cl nm wt e ix body els ba bc ea ec id slot other loc).At M):Kn q fun M=>BlkAt M ba bc body:=h.imp fun _ h=>h.2.2.1
def Zxe (h:Kn q fun M=>(Stm.mk k ln cl nm wt e ix body els ba bc ea ec id slot other loc).At M):Kn q fun M=>BlkAt M ea ec els:=h.imp fun _ h=>h.2.2.2
def Zyq (h:Kn q fun M=>BlkAt M ba bc body):Sees q ba (body.flatMap stC):=eP (h.imp fun M h=>h.1.2.2)
def Zx9 (h:Kn q fun M=>BlkAt M ba bc body)(hi:i<body.length):Kn q fun M=>body[i].At M:=h.imp fun M h=>Uk.1 h.2 _ (aC hi)
def Zx8 (h:Kn q fun M=>BlkAt M ba bc body)(s:St G w q):body.length<=9223372036854775807:=h.fact (fun M h=>by have b:=h.1.1;have a:=h.1.2.1;simp [maxLen] at a;omega) s
end
section
variable {l:List Stm}{a:Option Addr}{c n:Nat}
def Zw5 (IH: ∀ x:Ex,x.sz<e.sz->x.er.dep<=1000000-> ∀ {q},(Kn q fun M=>x.At M)->CF G 224 [.agg (exC x).toArray] q (Ret fun v q'=>v= I64 (x.er.dep:Nat)/\q'=q))(hb:e.er.dep<=1000000)(h:Kn q fun M=>e.At M):CF G 224 [.agg (exC e).toArray] (q) (Ret fun v q'=>v= I64 (e.er.dep:Nat)/\q'=q):=by
 refine aE ntmps224 fun F cs=> ?_;obtain ⟨k,z,nm,j,lo,op,args,aa,ac⟩:=e;have i:=Zx5 h;refine gW (fun w s=>Zx3 (h.le leA) s) fun l=> ?_;replace hb:Ys (Yj args)+1<=1000000:=hb;refine Yb fun d=> ?_
 refine Zs (bW (fun (s:Nat)=>s<=args.length) (fun s=> [(3,I64 (Ys (Yj (args.take s)):Nat)),(4,I64 s),(1,pt d),(2,I64 0)]) (fun s=>pC d (exC (.mk k z nm j lo op args aa ac)) 136::(q++F)) (fun s=>args.length - s) (fun s c g=> ?_) 0 (aZ _));try dsimp only at c g|-
 obtain p:=c;refine Zp ?_ ?_<;>intro t
 . have a:s<args.length:=Zq;refine Zz ?_;refine J9 i (by rw [Zx (f:=exC) (sz:=7) Yn args];omega) fun u o m=> ?_;subst m;refine Zz ?_;refine Jb (n:=s) isAgg136 sizeOf136 i a ?_ (hf:=Yn);refine Wb (IH args[s] (by have:=Wd (aC a);simp only [Ex.sz];omega) (by have:=Gu (cW (f:=Ex.er) (aC a));rw [<-Ww] at this;omega) (Zx4 (h.le leA) a)) ?_;have r:(Ys (Yj (args.take (s+1))):Int)=max (Ys (Yj (args.take s)):Int) (args[s].er.dep:Int):=by rw [aM a,I3,Zzh];simp only [Yj,Ys];omega
   refine Zs (g (s+1) Zq Zq)
 obtain rfl:s=args.length:=by omega
 rw [bR] at*;refine Zm (q) ?_;exact ⟨_,rfl,by simp only [Ex.er,PEx.dep];congr 1,rfl⟩
def S7: ∀ (k:Nat) (e:Ex),e.sz<=k->e.er.dep<=1000000-> ∀ {q},(Kn q fun M=>e.At M)->CF G 224 [.agg (exC e).toArray] q (Ret fun v q'=>v= I64 (e.er.dep:Nat)/\q'=q)
 |0,e,hk,_,_,_=>by cases e;simp [Ex.sz] at hk
 |k+1,e,hk,hb,_,h=>Zw5 (fun x c a _ b=>S7 k x Zq a b) hb h
mutual
def PStm.bdd (B:Nat):PStm->Prop
 | .mk _ _ _ _ _ e ix body els _ _ _ _=>e.dep<=B/\ix.dep<=B/\Vg B body/\Vg B els
def Vg (B:Nat):List PStm->Prop
 | []=>True
 |s::r=>s.bdd B/\Vg B r
end
def Em {B}{x}: ∀ {l},Vg B l->x∈l->x.bdd B
 |y::r,⟨h1,h2⟩,h=>by
  rcases bS.1 h with rfl|h
  . exact h1
  exact Em h2 h
abbrev AB (v0:List Stm)(v1:Nat)(v2:List HP):=(Ret fun v q'=> ∃ pl pc:Int,v= .tuple [.agg [I64 pl,I64 pc].toArray,.bool (Wz (Zk v0) v1)].toArray/\q'=v2)
def Zho (IH: ∀ (m:List Stm) (a:Option Addr) (c n:Nat),Zn m<Zn l->Vg 1000000 (Zk m)->n<=25-> ∀ {q},(Kn q fun M=>BlkAt M a c m)->CF G 156 [.slice a m.length c,I64 n] q (AB m n q))(hb:Vg 1000000 (Zk l))(hn25:n<=25)(h:Kn q fun M=>BlkAt M a c l):CF G 156 [.slice a l.length c,I64 n] (q) (AB l n q):=by
 refine aE ntmps156 fun F cs=> ?_;have hA:=Zyq h;refine gW (fun w s=>Zx8 (h.le leA) s) fun n0=> ?_;refine Zo zeroValue104 fun n1=> ?_
 refine Zs (bW (fun (s:Nat×Option Addr)=>s.1<=l.length/\s.2=a/\Wz (Zk l) n=Wz (Zk (l.drop s.1)) n) (fun s=> [(6,I64 (s.1:Int)),(0,.slice s.2 l.length c),(1,I64 n),(4,pt n1),(5,.bool false)]) (fun s=>pC n1 zz4 104::(q++F)) (fun s=>l.length - s.1) (fun s r ih=> ?_) (0,a) ⟨aZ _,rfl,rfl⟩);try dsimp only at r ih|-
 obtain ⟨hs,ha,u⟩:=r;obtain ⟨s,a2⟩:=s;dsimp only at*;subst ha;refine Zp ?_ ?_<;>intro h0
 . have d:s<l.length:=Zq;have e:Wz (Zk (l.drop s)) n=(l[s].er.deep n||Wz (Zk (l.drop (s+1))) n):=by rw [aP d];rfl
   have b:=Zx9 h d;have j:=Em hb (by rw [Yl];exact cW (aC d));have i:=Qx (aC d);refine Zz ?_;refine J9 hA (by rw [Zx (f:=stC) (sz:=25) Z7 l];omega) fun b1 v e1=> ?_;subst e1;refine Zz ?_;refine Jb (n:=s) isAgg138 sizeOf138 hA d ?_ (hf:=Z7);obtain ⟨x,hx⟩: ∃ x,l[s]=x:=⟨_,rfl⟩;rw [hx] at e b j i;apply aX 19 (.agg (stC x).toArray) rfl (by rw [hx]);obtain ⟨k,ln,cl,nm,wt,⟨k1,z,s1,l1,v,p1,y1,u1,w1⟩,⟨k2,y,s2,l2,o2,p2,y2,u2,w2⟩,body,els,ba,bc,ea,ec,id,slot,other,loc⟩:=x;have hz:Zn body+Zn els+1<=Zn l:=i;refine Zo zeroValue138 fun n2=> ?_
   refine Zz ?_;refine' Qc ?_ ?_
   rotate_left
   . intro h1 M1;refine Zz ?_;apply bD (S7 _ (.mk k1 z s1 l1 v p1 y1 u1 w1) (aS _) j.1 ((Zx0 b).le leA));exact Vi M1
   refine Zz ?_;refine' Qc ?_ ?_
   rotate_left
   . intro h1 M1;refine Zz ?_;apply bD (S7 _ (.mk k2 y s2 l2 o2 p2 y2 u2 w2) (aS _) j.2.1 ((Zxo b).le leA));exact Vi M1
   refine Zp ?_ ?_<;>intro h1
   . refine Zz ?_
     have t:Wz (Zk l) n=true:=by
      rw [u,e];have g:(24<n\/24<(Ex.mk k1 z s1 l1 v p1 y1 u1 w1).er.dep)\/24<(Ex.mk k2 y s2 l2 o2 p2 y2 u2 w2).er.dep:=Zq;rcases g with (h|h)|h<;>simp [Stm.er,PStm.deep,h]
     refine Zm (q) ?_;exact ⟨_,rfl,ln,cl,by rw [t];rfl,rfl⟩
   refine Zz ?_;have o:n+1<=25:=Zq;apply Zv (aG _) (IH body ba bc (n+1) Zq j.2.2.1 o ((Zx1 b).le leA));rintro _ _ ⟨b0,d0,rfl,rfl⟩;refine Zo zeroValue104 fun n3=> ?_
   refine Zp ?_ ?_<;>intro h2
   . refine Zz ?_
     have t:Wz (Zk l) n=true:=by
      rw [u,e];simp [Stm.er,PStm.deep,h2]
     refine Zm (q) ?_;exact ⟨_,rfl,b0,d0,by rw [t];rfl,rfl⟩
   refine Zz ?_;apply Zv (aG _) (IH els ea ec (n+1) Zq j.2.2.2 o ((Zxe b).le leA));rintro _ _ ⟨a0,c0,rfl,rfl⟩;refine Zp ?_ ?_<;>intro h3
   . refine Zz ?_
     have t:Wz (Zk l) n=true:=by
      rw [u,e];simp [Stm.er,PStm.deep,h3]
     refine Zm (q) ?_;exact ⟨_,rfl,a0,c0,by rw [t];rfl,rfl⟩
   refine Zz ?_;have g: ¬24<n/\ ¬24<(Ex.mk k1 z s1 l1 v p1 y1 u1 w1).er.dep/\ ¬24<(Ex.mk k2 y s2 l2 o2 p2 y2 u2 w2).er.dep:=Zq;refine Zs (ih (s+1,_) ⟨Zy,rfl,by rw [u,e];simp [Stm.er,PStm.deep,g.1,g.2.1,g.2.2,h2,h3]⟩ Zy)
 obtain rfl:s=l.length:=by omega
 rw [dU] at*;refine Zm (q) ?_;exact ⟨_,rfl,0,0,by rw [u];rfl,rfl⟩
def Zfb: ∀ (k:Nat) (m:List Stm) (a:Option Addr) (c n:Nat),Zn m<=k->Vg 1000000 (Zk m)->n<=25-> ∀ {q},(Kn q fun M=>BlkAt M a c m)->CF G 156 [.slice a m.length c,I64 n] q (Ret fun v q'=> ∃ pl pc:Int,v= .tuple [.agg [I64 pl,I64 pc].toArray,.bool (Wz (Zk m) n)].toArray/\q'=q)
 |k,m,a,c,n,hk,hb,hn,_,h=>Zho (fun f a2 i e j d b _ g=>by
  cases k with
  |zero=>omega
  |succ k=>exact Zfb k f a2 i e Zq d b g) hb hn h
end
def lettI (c:UInt8):(decide (97<=(c.toNat:Int)) && decide ((c.toNat:Int)<=122))=Zwn c:=by rw [cD];simp [Zwn];omega
def digI (c:UInt8):(decide (48<=(c.toNat:Int)) && decide ((c.toNat:Int)<=57))=H1 c:=by rw [cD];simp [H1];omega
def Zyn {l:Bs}{n:Nat}(h:n<l.length):Dt (l.drop n)=if Fz (l.getD n 0)=true then Dt (l.drop (n+1))+1 else 0:=by
 rw [aP h,gD h];unfold Dt;rw [lO];split<;>simp
def runS_end {l:Bs}{n:Nat}(h:l.length<=n):Dt (l.drop n)=0:=by rw [cN h];rfl
def Pg (l:Bs):Dt l<=l.length:=by unfold Dt;exact (List.takeWhile_sublist _).length_le
section
variable {s:ByteArray}{c:UInt8}{n:Nat}
def G3:CR G 275 [.int .u8 (c.toNat:Int)] (q) (.bool (Zwn c)):=by
 refine We ntmps275 fun F cs=> ?_;refine' Vo ?_;refine Zm (q) ?_;exact ⟨_,rfl,cB (lettI c),rfl⟩
def F7:CR G 270 [.int .u8 (c.toNat:Int)] (q) (.bool (H1 c)):=by
 refine We ntmps270 fun F cs=> ?_;refine' Vo ?_;refine Zm (q) ?_;exact ⟨_,rfl,cB (digI c),rfl⟩
def run_ok (hn:n<=s.size)(h63:s.size<=65536):CR G 269 [.string s,I64 n] (q) (I64 (Dt ((bs s).drop n):Nat)):=by
 refine aE ntmps269 fun F cs=> ?_;refine Zs (bW (fun (k:Nat)=>n+k<=s.size/\Dt ((bs s).drop n)=k+Dt ((bs s).drop (n+k))) (fun k=> [(5,I64 k),(0,.string s),(1,I64 n),(4,I64 0)]) (fun k=>(q++F)) (fun k=>s.size - k) (fun k b e=> ?_) 0 ⟨hn,by rw [eE];rfl⟩);try dsimp only at b e|-
 have h:=Ry s;refine Zz ?_;refine' Q1 ?_ ?_
 rotate_left
 . intro d l;refine Zz ?_;apply Va (Vf rfl rfl underlying9 Zq Zq);apply aX 17 (.int .u8 (((bs s).getD (n+k) 0).toNat:Int)) rfl (rfl);refine Wb (G3 (c:=(bs s).getD (n+k) 0)) ?_;refine' Qc ?_ ?_
   rotate_left
   . intro m j;refine Zz ?_;apply Va (Vf rfl rfl underlying9 Zq Zq);apply aX 24 (.int .u8 (((bs s).getD (n+k) 0).toNat:Int)) rfl (rfl);apply bD (F7 (c:=(bs s).getD (n+k) 0));exact Vi j
   exact Vi l
 refine Zp ?_ ?_<;>intro d
 . refine Zs (e (k+1) ⟨Zq,by rw [b.2,Zyn (n:=n+k) Zq,if_pos (by unfold Fz;simp_all),show n+(k+1)=n+k+1 from rfl];omega⟩ Zq)
 refine Zm (q) ?_;exact ⟨_,rfl,by rw [b.2];rcases dN (n+k) s.size with f|f;rw [Zyn (n:=n+k) Zq,if_neg (fun i=>by unfold Fz at i;rcases d with d|d;omega;simp_all)];rfl;rw [runS_end Zq];rfl,rfl⟩
def Zfp {l:Bs}(h:i<l.length):R6 (l.take (i+1))=R6 (l.take i)*10+((l.getD i 0).toNat - 48):=by
 rw [aM h,gD h];unfold R6;rw [List.foldl_append];rfl
def Zyf {l:Bs}(h:l.all H1=true):0<=R6 l/\R6 l<10 ^ l.length:=by
 have b: ∀ (l:Bs) (a:Int),0<=a->l.all H1=true->0<=l.foldl (fun n c=>n*10+((c.toNat:Int) - 48)) a/\l.foldl (fun n c=>n*10+((c.toNat:Int) - 48)) a<(a+1)*10 ^ l.length:=by
  intro l
  induction l with
  |nil=>intro a e _;exact ⟨e,Zi⟩
  |cons c r ih=>
   intro a e h;rw [iN,bA] at h;have g:48<=c.toNat/\c.toNat<=57:=by have:=h.1;simp [H1] at this;exact this
   obtain ⟨d,f⟩:=ih (a*10+((c.toNat:Int) - 48)) Zq h.2;refine ⟨d,lR f ?_⟩;rw [aJ,Int.pow_succ,Int.mul_comm (10 ^ r.length) 10,<-Int.mul_assoc];exact Int.mul_le_mul_of_nonneg_right Zq (Int.pow_nonneg Zw)
 simpa [R6] using (b l 0 Zw h)
def Zqb {w}(ha:w.all H1=true)(hl:w.length<=10):Zjf w=if (decide (R6 w<=2147483647) && (decide (w.length=1)||decide (((w.getD 0 0).toNat:Int)≠48)))=true then some (R6 w) else none:=by
 unfold Zjf;rw [if_pos (by rw [ha];simpa using hl)];have e:(w.getD 0 0≠48)↔((w.getD 0 0).toNat:Int)≠48:=by rw [Ne,Ne,<-UInt8.toNat_inj];simp;omega
 simp only [e,bA,jV,dQ]
def numS_no {w}(hlt:k<w.length)(h:H1 (w.getD k 0)=false\/10<=k):Zjf w=none:=by
 unfold Zjf;rw [if_neg];rw [bA,dM];rintro ⟨b,a⟩;rcases h with h|h
 . have:=b _ (aC hlt);rw [<-gD (d:=0) hlt,h] at this;cases this
 simp at a;omega
def all_take {l:Bs}(h:i<l.length)(ha:(l.take i).all H1=true):(l.take (i+1)).all H1=H1 (l.getD i 0):=by
 rw [aM h,lC,ha,gD h];simp
abbrev Az (v0:ByteArray)(v1):=((.int .u8 (((bs v0).getD v1 0).toNat:Int)):Value)
def Zwj (h0s:0<s.size)(h63:s.size<=65536):CF G 271 [.string s] (q) (Ret fun v q'=> ∃ (x:Int) (ok:Bool),v= .tuple [I64 x,.bool ok].toArray/\q'=q/\Zjf (bs s)=(if ok=true then some x else none)):=by
 refine aE ntmps271 fun F cs=> ?_;have u:=Ry s;refine Zs (bW (fun (k:Nat)=>k<=s.size/\k<=10/\((bs s).take k).all H1=true) (fun k=> [(5,I64 k),(0,.string s),(4,I64 (R6 ((bs s).take k))),(2,I64 0),(3,.bool false)]) (fun k=>(q++F)) (fun k=>s.size - k) (fun k g m=> ?_) 0 ⟨aZ _,Zq,rfl⟩);try dsimp only at g m|-
 obtain ⟨r,p,a⟩:=g;have l:=Zyf a;rw [bB] at l;have y:(10:Int) ^ min k (bs s).length<=10 ^ 10:=by have:(10:Nat) ^ min k (bs s).length<=10 ^ 10:=Nat.pow_le_pow_right Zw Zq;exact_mod_cast this
 refine Zp ?_ ?_<;>intro z
 . have d:k<(bs s).length:=Zq;refine Zz ?_;apply Va (Vf rfl rfl underlying9 Zq Zq);apply aX 14 (Az s k) rfl (rfl);refine Wb (F7 (c:=(bs s).getD k 0)) ?_;refine' Yi ?_;refine Zp ?_ ?_<;>intro b
   . refine Zm (q) ?_;exact ⟨_,rfl,0,false,rfl,rfl,by rw [if_neg Zw];exact numS_no d (by rcases b with b|b;exact .inl (by simpa using b);exact .inr Zq)⟩
   refine Zz ?_;apply Va (Vf rfl rfl underlying9 Zq Zq);apply aX 25 (Az s k) rfl (rfl);have i:H1 ((bs s).getD k 0)=true:=by simpa using b.1
   have t:48<=((bs s).getD k 0).toNat/\((bs s).getD k 0).toNat<=57:=by have h:=i;simp only [H1,bA,dQ] at h;exact h
   have n:k<10:=Zq;have o:R6 ((bs s).take k)<10 ^ 9*10:=Zq;apply oo 1;refine aX 26 (.int .u8 ((((bs s).getD k 0).toNat:Int) - 48)) rfl (aQ (Value.int .u8) (by rw [wu8];omega)) ?_;refine Zz ?_;have w:=Zfp d;refine Zs (m (k+1) ⟨Zq,Zq,by rw [all_take d a];exact i⟩ Zq)
 obtain rfl:k=s.size:=by omega
 have e:(bs s).take s.size=bs s:=bX Zq;rw [e] at a;apply fQ 4 (I64 (R6 (bs s))) rfl (by rw [e]);refine Zz<|eY 32 rfl ?_ ?_<;>intro b
 . replace b:=sp b;refine Zz ?_;refine eY 36 rfl ?_ ?_<;>intro j
   . replace j:=sp j;refine Zm (q) ?_;exact ⟨_,rfl,R6 (bs s),_,rfl,rfl,by rw [Zqb a Zq];have f:(bs s).length=1:=Zq;simp [b,f]⟩
   replace j:=sp j;refine Zz ?_;refine Ey 9 rfl (Vf rfl rfl underlying9 Zq (by show 0<_;omega)) ?_;apply dW 38 (.int .u8 (((bs s).getD 0 0).toNat:Int)) rfl (rfl);refine Zm (q) ?_;exact ⟨_,rfl,R6 (bs s),_,rfl,rfl,by rw [Zqb a Zq];have f: ¬ (bs s).length=1:=Zq;simp [b,f]⟩
 replace b:=sp b;refine Zm (q) ?_;exact ⟨_,rfl,R6 (bs s),_,rfl,rfl,by rw [Zqb a Zq];have f: ¬R6 (bs s)<=2147483647:=Zq;simp [f]⟩
def words_ok:CF G 303 [] ([]) (Ret fun v q'=> ∃ g,v= .slice (some ⟨g,0,none⟩) 20 20/\q'= [lsH (fun w:Bs=>Value.string (ba w)) 9 (some ⟨g,0,none⟩) 20 wordsS]):=by
 refine We ntmps303 fun F cs=> ?_;apply bU (Qu (fun w:Bs=>Value.string (ba w)) wordsS underlying25 N8 rfl rfl rfl rfl rfl rfl (fun _=>rfl));rintro _ _ ⟨g,rfl,rfl⟩;refine Zg ?_;exact ⟨_,⟨_,rfl,g,rfl,rfl⟩,leA⟩
def signs_ok:CF G 273 [] ([]) (Ret fun v q'=> ∃ g,v= .slice (some ⟨g,0,none⟩) 20 20/\q'= [lsH (fun w:Bs=>Value.string (ba w)) 9 (some ⟨g,0,none⟩) 20 signsS]):=by
 refine We ntmps273 fun F cs=> ?_;apply bU (Qu (fun w:Bs=>Value.string (ba w)) signsS underlying25 N8 rfl rfl rfl rfl rfl rfl (fun _=>rfl));rintro _ _ ⟨g,rfl,rfl⟩;refine Zg ?_;exact ⟨_,⟨_,rfl,g,rfl,rfl⟩,leA⟩
def Mo:CR G 272 [.string s] (q) (.bool (kwS (bs s))):=by
 refine We ntmps272 fun F cs=> ?_;apply Wn (words_ok);refine kd1 fun g=> ?_
 refine Zs (bW (fun (k:Nat)=>k<=20/\kwS (bs s)=(wordsS.drop k).any (· ==bs s)) (fun k=> [(4,I64 k),(3,.slice (some ⟨g,0,none⟩) 20 20),(0,.string s),(2,.bool false)]) (fun k=>lsH (fun w:Bs=>Value.string (ba w)) 9 (some ⟨g,0,none⟩) 20 wordsS::(q++F)) (fun k=>20 - k) (fun k c e=> ?_) 0 ⟨aZ _,rfl⟩);try dsimp only at c e|-
 refine Zp ?_ ?_<;>intro i
 . have a:k<wordsS.length:=by show k<20;omega
   refine Zz ?_;refine ld ?_ (hc:=(gF (n:=k) (bV _) Zj a rfl));refine Zp ?_ ?_<;>intro f
   . refine Zz ?_;have d:wordsS.drop k=wordsS[k]::wordsS.drop (k+1):=aP a;refine Zm (q) ?_;exact ⟨_,rfl,by rw [c.2,d,lT,<-J5 wordsS[k],sTr f];rfl,rfl⟩
   refine Zz ?_;refine Zs (e (k+1) ⟨Zq,by rw [c.2,aP a,lT,<-J5 wordsS[k],sNe f];rfl⟩ Zq)
 obtain rfl:k=20:=by omega
 refine Zm (q) ?_;exact ⟨_,rfl,by rw [c.2];rfl,rfl⟩
def OneOut (l:Bs)(v:Value):Prop:=(∃ k w z,Zqw l=some (k,w,z)/\0<w.length/\w.length<=l.length/\v= .tuple [.agg [I64 k,.string (ba w),I64 z,I64 0,I64 0].toArray,I64 (w.length:Nat),I64 0].toArray)\/(Zqw l=none/\ ∃ t z e,e≠0/\v= .tuple [.agg (tkC t).toArray,I64 z,I64 e].toArray)
def Zg0 {l:Bs}(h:k<signsS.length):(signsS.drop k).find? (fun s=>s==l.take s.length)=if (signsS[k]==l.take signsS[k].length)=true then some signsS[k] else (signsS.drop (k+1)).find? (fun s=>s==l.take s.length):=by
 rw [aP h,List.find?_cons];cases signsS[k]==l.take signsS[k].length<;>rfl
def oneW_eq {s:ByteArray}{n r:Nat}{W:Bs}(hr:Dt ((bs s).drop n)=r)(hW:((bs s).drop n).take r=W):Zqw ((bs s).drop n)=if 0<r/\H1 ((bs s).getD n 0)=true then (match Zjf W with|some x=>some ((2:Int),W,x)|none=>none) else if 0<r/\kwS W=true then some (3,W,0) else if 16<r then none else if 0<r then some (1,W,0) else match signsS.find? (fun z=>z==((bs s).drop n).take z.length) with|some z=>some (4,z,0)|none=>none:=by
 unfold Zqw;rw [hr,hW,show ((bs s).drop n).getD 0 0=(bs s).getD n 0 by simp [List.getD]]<;>rfl
def Zf1: ∀ k,(h:k<20)->0<(signsS[k]'h).length/\(signsS[k]'h).length<=2:=by decide
def extr {s:ByteArray}{n m:Nat}:s.extract n (n+m)=ba (((bs s).drop n).take m):=by rw [<-ba_bs (s.extract n (n+m)),Zxv];congr 2;omega
abbrev Ad (v0):=((I64 v0):Value)
def lxone_ok (hn:n<s.size)(h63:s.size<=65536):CF G 215 [.string s,I64 n] (q) (Ret fun v q'=>OneOut ((bs s).drop n) v/\q'=q):=by
 refine aE ntmps215 fun F cs=> ?_;have d0:=Ry s;have u:=Pg ((bs s).drop n);rw [bY] at u;obtain ⟨r,hr⟩: ∃ r,Dt ((bs s).drop n)=r:=⟨_,rfl⟩;rw [hr] at u;obtain ⟨W,hW⟩: ∃ W,((bs s).drop n).take r=W:=⟨_,rfl⟩;have p:W.length=r:=by rw [<-hW,bB,bY];omega
 have i:=oneW_eq hr hW;obtain ⟨O,d⟩: ∃ O,Zqw ((bs s).drop n)=O:=⟨_,rfl⟩;rw [d] at i
 have a:(0<r/\H1 ((bs s).getD n 0)=true)\/(0<r/\H1 ((bs s).getD n 0)=false/\kwS W=true)\/(16<r/\H1 ((bs s).getD n 0)=false/\kwS W=false)\/((0<r/\r<=16)/\H1 ((bs s).getD n 0)=false/\kwS W=false)\/r=0:=by
  cases H1 ((bs s).getD n 0)<;>cases kwS W<;>simp<;>omega
 rcases a with a|a|a|a|a
 iterate 5
  focus
   apply xo 2;refine iR zeroValue310 fun n1=> ?_
   apply oo 7;apply bD (run_ok (n:=n) Zq h63);apply aX 16 (Ad r) rfl (by rw [hr]);apply oo 9;apply Va (Xc rfl rfl rfl underlying9 Zq Zq Zq);apply aX 22 (.string (ba W)) rfl (by rw [show ((n:Int)+r).toNat=n+r by omega,cG,extr,hW]);apply oo 9;apply fL [26,8,7,6,5,4,0,1];apply Vb 5 31 26 rfl
   . intro g1 b;have f:=sp g1;apply oo 2;apply Va (Vf rfl rfl underlying9 Zq Zq);apply aX 29 (Az s n) rfl (rfl);apply bD (F7 (c:=(bs s).getD n 0));apply oo 1;exact Z2 b ⟨Rb g1,Yt⟩
   . intro g1 b;have f:=sp g1;apply oo 5;exact Z2 b ⟨Rf g1,Yt⟩
   apply ox 2
  rotate_left
 . refine iJ 23 ?_ rfl (by rw [a.2];simp [a.1]);apply xo 4;have c0:(ba W).size=r:=p;apply Zv (aG _) (Zwj (s:=ba W) Zq Zq);rintro _ _ ⟨x,ok,rfl,rfl,j⟩;rw [J5] at j;apply ox 12;refine xp 38 ?_ ?_<;>intro f
   . refine rn [4,0,3] ?_;rw [if_pos a,j] at i;refine Zl (q) func215 (D7 results215) ⟨_,rfl,.inr ⟨by rw [d,i,if_neg (by simp_all)],⟨0,⟨#[]⟩,0,0,0⟩,0,112,Zw,rfl⟩,rfl⟩
   refine rn [8,0,3] ?_;rw [if_pos a,j] at i;refine Zl (q) func215 (D7 results215) ⟨_,rfl,.inl ⟨2,W,x,by rw [d,i,if_pos (by simpa using f)],Zq,by rw [bY];omega,by rw [p];rfl⟩,rfl⟩
 . refine Wc 23 ?_ rfl (by rw [a.2.1];simp);apply xo 6;apply fL [47,8,7,6,5,4,0,1];apply Vb 3 50 47 rfl
   . intro g1 b;have f:=sp g1;apply oo 1;apply bD (Mo (s:=ba W));apply aX 49 (.bool (kwS W)) rfl (by rw [J5]);apply oo 1;exact Z2 b ⟨Rb g1,Yt⟩
   . intro g1 b;have f:=sp g1;apply oo 3;exact Z2 b ⟨Rf g1,Yt⟩
   apply ox 2;refine iJ 44 ?_ rfl (by rw [a.2.2];simp [a.1]);refine rn [6,0,3] ?_;rw [if_neg (by rw [a.2.1];simp),if_pos ⟨a.1,a.2.2⟩] at i;refine Zl (q) func215 (D7 results215) ⟨_,rfl,.inl ⟨3,W,0,by rw [d,i],Zq,by rw [bY];omega,by rw [p];rfl⟩,rfl⟩
 . refine Wc 23 ?_ rfl (by rw [a.2.1];simp);apply xo 6;apply fL [47,8,7,6,5,4,0,1];apply Vb 3 50 47 rfl
   . intro g1 b;have f:=sp g1;apply oo 1;apply bD (Mo (s:=ba W));apply aX 49 (.bool (kwS W)) rfl (by rw [J5]);apply oo 1;exact Z2 b ⟨Rb g1,Yt⟩
   . intro g1 b;have f:=sp g1;apply oo 3;exact Z2 b ⟨Rf g1,Yt⟩
   apply ox 2;refine Wc 44 ?_ rfl (by rw [a.2.2];simp);refine rn [7,2054,4,0,3] ?_;rw [if_neg (by rw [a.2.1];simp),if_neg (by rw [a.2.2];simp),if_pos a.1] at i;refine Zl (q) func215 (D7 results215) ⟨_,rfl,.inr ⟨by rw [d,i],⟨0,⟨#[]⟩,0,0,0⟩,0,111,Zw,rfl⟩,rfl⟩
 . refine Wc 23 ?_ rfl (by rw [a.2.1];simp);apply xo 6;apply fL [47,8,7,6,5,4,0,1];apply Vb 3 50 47 rfl
   . intro g1 b;have f:=sp g1;apply oo 1;apply bD (Mo (s:=ba W));apply aX 49 (.bool (kwS W)) rfl (by rw [J5]);apply oo 1;exact Z2 b ⟨Rb g1,Yt⟩
   . intro g1 b;have f:=sp g1;apply oo 3;exact Z2 b ⟨Rf g1,Yt⟩
   apply ox 2;refine Wc 44 ?_ rfl (by rw [a.2.2];simp);refine rn [7,1054,7,2058,6,0,3] ?_;rw [if_neg (by rw [a.2.1];simp),if_neg (by rw [a.2.2];simp),if_neg Zq,if_pos a.1.1] at i;refine Zl (q) func215 (D7 results215) ⟨_,rfl,.inl ⟨1,W,0,by rw [d,i],Zq,by rw [bY];omega,by rw [p];rfl⟩,rfl⟩
 refine Wc 23 ?_ rfl (by simp [a]);apply xo 6;apply fL [47,8,7,6,5,4,0,1];apply Vb 3 50 47 rfl
 . intro g1 b;have f:=sp g1;apply oo 1;apply bD (Mo (s:=ba W));apply aX 49 (.bool (kwS W)) rfl (by rw [J5]);apply oo 1;exact Z2 b ⟨Rb g1,Yt⟩
 . intro g1 b;have f:=sp g1;apply oo 3;exact Z2 b ⟨Rf g1,Yt⟩
 apply ox 2;refine Wc 44 ?_ rfl (by simp [a]);apply xx 7;refine Wc 54 ?_ rfl (by simp [a]);apply xx 7;refine Wc 58 ?_ rfl (by simp [a]);apply xo 5;apply Wn (signs_ok);refine kd1 fun g=> ?_
 apply ox 8;rw [if_neg Zq,if_neg Zq,if_neg Zq,if_neg Zq] at i;refine cH (bW (fun (k:Nat)=>k<=20/\signsS.find? (fun z=>z==((bs s).drop n).take z.length)=(signsS.drop k).find? (fun z=>z==((bs s).drop n).take z.length)) (fun k=> [(12,I64 k),(11,.slice (some ⟨g,0,none⟩) 20 20),(0,.string s),(1,I64 n),(4,pt n1),(5,I64 0),(6,I64 0)]) (fun k=>lsH (fun w:Bs=>Value.string (ba w)) 9 (some ⟨g,0,none⟩) 20 signsS::pC n1 [I64 0,.string ⟨#[]⟩,I64 0,I64 0,I64 0] 310::(q++F)) (fun k=>20 - k) (fun k y ih=> ?_) 0 ⟨aZ _,rfl⟩) Z5 leA;try dsimp only at y ih|-
 obtain ⟨b0,o⟩:=y;apply xx 8;refine xp 68 ?_ ?_<;>intro h0
 . have m:k<signsS.length:=by show k<20;omega
   have hf:=Zg0 (l:=(bs s).drop n) m;have t:=Zf1 k m;obtain ⟨Z,hZ⟩: ∃ Z,signsS[k]=Z:=⟨_,rfl⟩;rw [hZ] at hf t;have a0:(ba Z).size=Z.length:=rfl;apply xo 9;refine ld ?_ (hc:=(gF (n:=k) (bV _) Zj m rfl));apply aX 74 (.string (ba Z)) rfl (by rw [hZ]);refine rn [4,0,1,2,3,4,5,6,7] ?_;refine eY 82 rfl ?_ ?_<;>intro f
   . replace f:=sp f;apply dd [7,8,9,10,11];apply Ey 12 rfl (Xc rfl rfl rfl underlying9 Zq Zq Zq);apply dW 88 (.string (ba (((bs s).drop n).take Z.length))) rfl (by rw [show ((n:Int)+(ba Z).size).toNat=n+Z.length by omega,cG,extr]);apply dd [13,14,15];refine ldD 16 ?_ (hc:=(gF (n:=k) (bV _) Zj m rfl));apply dW 92 (.string (ba Z)) rfl (by rw [hZ]);refine rn [18,19,0] ?_;refine xp 94 ?_ ?_<;>intro h2
     . apply xo 6;refine ld ?_ (hc:=(gF (n:=k) (bV _) Zj m rfl));apply aX 98 (.string (ba Z)) rfl (by rw [hZ]);refine rn [2,0,3] ?_;refine Zl (q) func215 (D7 results215) ⟨_,rfl,.inl ⟨4,Z,0,by have h:=sTr h2;rw [J5,J5] at h;rw [d,i,o,hf,if_pos (by rw [fH] at h|-;exact h.symm)],t.1,by rw [bY];omega,rfl⟩,rfl⟩
     apply xx 8;refine cH (ih (k+1) ⟨Zq,by have h:=sNe h2;rw [J5,J5] at h;rw [o,hf,if_neg (by rw [fH];intro e;rw [<-e] at h;simp at h)]⟩ Zq) Z5 leA
   replace f:=sp f;refine rn [8,9,10,11,12,13,14,15,16,17,18,19,0,8] ?_;refine cH (ih (k+1) ⟨Zq,by have h:=f;rw [o,hf,if_neg (by rw [fH];intro e;have:=aQ List.length e;rw [bB,bY] at this;omega)]⟩ Zq) Z5 leA
 obtain rfl:k=20:=by omega
 refine rn [5,0,3] ?_;refine Zl (q) func215 (D7 results215) ⟨_,rfl,.inr ⟨by rw [d,i,o];rfl,⟨0,⟨#[]⟩,0,0,0⟩,0,110,Zw,rfl⟩,rfl⟩
end
def lex_at {l:Bs}{g:Nat}(h:k<l.length):Nf (g+1) (l.drop k) ln cl=
 if l.getD k 0=10 then Nf g (l.drop (k+1)) (ln+1) 1
 else if l.getD k 0=32\/l.getD k 0=9\/l.getD k 0=13 then Nf g (l.drop (k+1)) ln (cl+1)
 else if l.getD k 0=35 then Nf g ((l.drop k).dropWhile (· !=10)) ln (cl+((l.drop k).takeWhile (· !=10)).length)
 else match Zqw (l.drop k) with
  |none=>none
  |some (c,w,n)=>(Nf g (l.drop (k+w.length)) ln (cl+w.length)).map (⟨c,ba w,n,ln,cl⟩:: ·):=by
 rw [gD h,<-fZ,aP h,Nf];split;rfl;split;rfl;split;rfl
 cases Zqw (l[k]::l.drop (k+1)) with
 |none=>rfl
 |some x=>
  have e:List.drop x.2.1.length (l[k]::l.drop (k+1))=l.drop (k+x.2.1.length):=by rw [<-aP h,fZ]
  simp only [e]
def lex_end {l:Bs}{g:Nat}(h:l.length<=k):Nf (g+1) (l.drop k) ln cl=some []:=by rw [cN h];rfl
def skip_at {l:Bs}(h:k<l.length)(hc:l.getD k 0≠10):(l.drop k).dropWhile (· !=10)=(l.drop (k+1)).dropWhile (· !=10)/\((l.drop k).takeWhile (· !=10)).length=((l.drop (k+1)).takeWhile (· !=10)).length+1:=by
 rw [gD h] at hc;rw [aP h,List.dropWhile_cons,lO,if_pos (by simpa using hc),if_pos (by simpa using hc)];exact ⟨rfl,rfl⟩
def Zz7 {l:Bs}(h:l.length<=k\/l.getD k 0=10):(l.drop k).dropWhile (· !=10)=l.drop k/\((l.drop k).takeWhile (· !=10)).length=0:=by
 rcases dN k l.length with a|a
 . have b:=h.resolve_left Zq;rw [gD a] at b;rw [aP a,List.dropWhile_cons,lO,if_neg (by simp [b]),if_neg (by simp [b])];exact ⟨rfl,rfl⟩
 rw [cN a];exact ⟨rfl,rfl⟩
def c8 {c d:UInt8}:((c.toNat:Int)=d.toNat)↔c=d:=by rw [<-UInt8.toNat_inj];omega
def Pk (l:Bs):Option (List Tk):=if 65536<l.length then none else Nf (l.length+1) l 1 1
section
variable {s:ByteArray}
def spT {x:UInt8}(h:x=32\/x=9\/x=13):((x.toNat:Int)==32||(x.toNat:Int)==9||(x.toNat:Int)==13)=true:=by rcases h with rfl|rfl|rfl<;>rfl
def spF {x:UInt8}(h: ¬ (x=32\/x=9\/x=13)):((x.toNat:Int)==32||(x.toNat:Int)==9||(x.toNat:Int)==13)=false:=by
 simp only [not_or] at h;rw [jL,jL,dD,dD,dD];exact ⟨⟨fun e=>h.1 (c8.1 e),fun e=>h.2.1 (c8.1 e)⟩,fun e=>h.2.2 (c8.1 e)⟩
def Zze:(prog.info? 310).map (fun i=>(i.zero,i.size,i.bytes))=some (some (.agg #[I64 0,.string ⟨#[]⟩,I64 0,I64 0,I64 0]),5,48):=by kernel_rfl
abbrev Al (v0:Int)(v1:Int):=([I64 v0,I64 v1]:List Value)
def Lex_ok:CF G 153 [.string s] (q) (Ret fun v q'=>(∃ ts a c,Pk (bs s)=some ts/\v= .tuple [.slice a ts.length c,.agg zz4.toArray,I64 0].toArray/\q'=rsH tkC 5 310 a c ts::q)\/(Pk (bs s)=none/\ ∃ (y z e:Int),e≠0/\v= .tuple [.slice none 0 0,.agg (Al y z).toArray,I64 e].toArray/\q'=q)):=by
 refine aE ntmps153 fun F cs=> ?_;have j0:=Ry s;refine Zo zeroValue104 fun n1=> ?_
 refine Zp ?_ ?_<;>intro h0
 . refine Zm (q) ?_;exact ⟨_,rfl,.inr ⟨by unfold Pk;rw [if_pos Zq],0,0,3,Zw,rfl,rfl⟩⟩
 have l0:s.size<=65536:=Zq;obtain ⟨S,hS⟩: ∃ S,Pk (bs s)=S:=⟨_,rfl⟩;have g0:S=(Nf (s.size+1) ((bs s).drop 0) 1 1).map ([]++ ·):=by rw [<-hS];unfold Pk;rw [if_neg Zq,j0,iD];cases Nf (s.size+1) (bs s) 1 1<;>rfl
 rw [hS];refine Zo zeroValue104 fun n2=> ?_
 refine Zz ?_;refine cH (bW (fun (b:(Option Addr×Nat×List Tk)×Nat×Int×Int×Nat)=>b.2.1<=s.size/\s.size - b.2.1<b.2.2.2.2/\(1<=b.2.2.1/\b.2.2.1<=b.2.1+1/\1<=b.2.2.2.1/\b.2.2.2.1<=b.2.1+1/\b.1.2.2.length<=b.2.1)/\S=(Nf b.2.2.2.2 ((bs s).drop b.2.1) b.2.2.1 b.2.2.2.1).map (b.1.2.2++ ·)) (fun b=> [(5,.slice b.1.1 b.1.2.2.length b.1.2.1),(7,I64 (b.2.1:Int)),(0,.string s),(6,pt n2),(2,.slice none 0 0),(3,pt n1),(4,I64 0)]) (fun b=>pC n2 [I64 b.2.2.1,I64 b.2.2.2.1] 104::pC n1 zz4 104::rsH tkC 5 310 b.1.1 b.1.2.1 (b.1.2.2)::(q++F)) (fun b=>s.size - b.2.1) (fun b a0 ih=> ?_) ((none,0, []),0,1,1,s.size+1) ⟨aZ _,Zy,⟨Zy,Zy,Zy,Zy,aS _⟩,g0⟩) Z5 (aK leA (aK (Zc tkC 5 310 _) leA));try dsimp only at a0 ih|-
 obtain ⟨v0,u0,⟨t0,s0,r0,q0,p0⟩,w⟩:=a0;obtain ⟨⟨a,c,i⟩,k,ln,cl,g⟩:=b;dsimp only at*;obtain ⟨g,rfl⟩: ∃ g2,g=g2+1:=⟨g - 1,Zq⟩;clear g0;refine Zp ?_ ?_<;>intro h1
 . have i0:k<(bs s).length:=Zq;have hL:=lex_at (g:=g) (ln:=ln) (cl:=cl) i0;obtain ⟨x,hx⟩: ∃ x,(bs s).getD k 0=x:=⟨_,rfl⟩;rw [hx] at hL;rcases Classical.em (x=10) with d|d
   . refine Zz ?_;apply Va (Vf rfl rfl underlying9 Zq Zq);refine aX 23 (.int .u8 (x.toNat:Int)) rfl (by rw [<-hx];rfl) ?_;refine Zz ?_;refine iJ 25 ?_ rfl (fH.2 (by rw [d];rfl));refine Zs (ih ((a,c,i),k+1,ln+1,1,g) ⟨Zy,Zy,⟨Zy,Zy,Zy,Zy,Zy⟩,by rw [w,hL,if_pos d]⟩ Zy)
   rcases Classical.em (x=32\/x=9\/x=13) with o|o
   . refine Zz ?_;apply Va (Vf rfl rfl underlying9 Zq Zq);refine aX 23 (.int .u8 (x.toNat:Int)) rfl (by rw [<-hx];rfl) ?_;refine Zz ?_;refine Wc 25 ?_ rfl (dD.2 (fun e=>d (c8.1 e)));refine Zz ?_;refine' Yi ?_;refine Zz ?_;refine' Yi ?_;refine Zz ?_;refine iJ 42 ?_ rfl (spT o);refine Zs (ih ((a,c,i),k+1,ln,cl+1,g) ⟨Zy,Zy,⟨Zy,Zy,Zy,Zy,Zy⟩,by rw [w,hL,if_neg d,if_pos o]⟩ Zy)
   rcases Classical.em (x=35) with p|p
   iterate 2
    focus
     refine Zz ?_;apply Va (Vf rfl rfl underlying9 Zq Zq);refine aX 23 (.int .u8 (x.toNat:Int)) rfl (by rw [<-hx];rfl) ?_;refine Zz ?_;refine Wc 25 ?_ rfl (dD.2 (fun e=>d (c8.1 e)));refine Zz ?_;refine' Yi ?_;refine Zz ?_;refine' Yi ?_;refine Zz ?_;refine Wc 42 ?_ rfl (spF o);refine Zz ?_
    rotate_left
   . refine iJ 50 ?_ rfl (fH.2 (by rw [p];rfl));refine Zz ?_;refine cH (bW (fun (j:Nat)=>k<=j/\j<=s.size/\((bs s).drop k).dropWhile (· !=10)=((bs s).drop j).dropWhile (· !=10)/\(((bs s).drop k).takeWhile (· !=10)).length=(j - k)+(((bs s).drop j).takeWhile (· !=10)).length) (fun j=> [(7,I64 j),(0,.string s),(5,.slice a i.length c),(6,pt n2),(2,.slice none 0 0),(3,pt n1),(4,I64 0)]) (fun j=>pC n2 [I64 ln,I64 (cl+(j - k:Nat))] 104::pC n1 zz4 104::rsH tkC 5 310 a c (i)::(q++F)) (fun j=>s.size - j) (fun j a0 b0=> ?_) k ⟨aS _,Zq,rfl,Zq⟩) Z5 (by rw [kI,show (cl+((0:Nat):Int))=cl by omega];exact leA);try dsimp only at a0 b0|-
     refine Zz ?_;refine' Q1 ?_ ?_
     rotate_left
     . intro h1 M1;refine Zz ?_;apply Va (Vf rfl rfl underlying9 Zq Zq);apply aX 58 (.int .u8 (((bs s).getD j 0).toNat:Int)) rfl (rfl);exact Vi M1
     refine Zp ?_ ?_<;>intro h1
     . refine Zz ?_;have d0:=skip_at (l:=bs s) (k:=j) Zq (fun e=>h1.2 (c8.2 e));refine cH (b0 (j+1) ⟨Zq,Zq,by rw [a0.2.2.1,d0.1],by rw [a0.2.2.2,d0.2];omega⟩ Zq) Z5 (by rw [show (cl+((j+1 - k:Nat):Int))=cl+((j - k:Nat):Int)+1 by omega];exact leA)
     refine Zz ?_;have hj:(bs s).length<=j\/(bs s).getD j 0=10:=by rcases h1 with h1|h1;exact .inl Zq;exact .inr (c8.1 (by first|exact h1.2|exact h1))
     have m0:k<j:=by rcases dN k j with h|h;exact h;obtain rfl:j=k:=Zq;rcases hj with h|h;omega;exact aV (hx.symm.trans h) d
     refine Zs (ih ((a,c,i),j,ln,cl+(j - k:Nat),g) ⟨Zy,Zy,⟨Zy,Zy,Zy,Zy,Zy⟩,by rw [w,hL,if_neg d,if_neg o,if_pos p,a0.2.2.1,(Zz7 hj).1,a0.2.2.2,(Zz7 hj).2,kC]⟩ Zy)
   refine Wc 50 ?_ rfl (dD.2 (fun e=>p (c8.1 e)));refine Zz ?_;apply Zv (aG _) (lxone_ok (n:=k) Zq l0);rintro _ _ ⟨⟨ck,W,z,hO,w0,k0,rfl⟩|⟨hO,t,z,e,he,rfl⟩,rfl⟩
   . refine Zo zeroValue310 fun n3=> ?_
     refine Zz ?_;rw [bY] at k0;obtain ⟨tk,c0⟩: ∃ tk:Tk,tk=⟨ck,ba W,z,ln,cl⟩:=⟨_,rfl⟩;refine aX 81 (.agg (tkC tk).toArray) rfl (by rw [c0];rfl) ?_;apply bU (Yw (u:=tk) tkC underlying297 Zze rfl rfl (fun _=>rfl) rfl);rintro _ _ ⟨g2,rfl,rfl⟩;apply bU (Z9 (f:=tkC) (l:=i) (m:= [tk]) underlying297 Zze rfl rfl (fun _=>rfl) rfl rfl Zj ((bJ _).le Zj) (fun _=>rfl) Zi Zi);rintro _ _ ⟨a3,c3,rfl,rfl⟩;refine Zs (ih ((a3,c3,i++ [tk]),k+W.length,ln,cl+W.length,g) ⟨Zy,Zy,⟨Zy,Zy,Zy,Zy,Zi⟩,by rw [w,hL,if_neg d,if_neg o,if_neg p,hO,c0];simp only [Option.map_map];congr 1;funext r;simp⟩ Zy)
   refine Zo zeroValue310 fun n3=> ?_
   refine rn [0,9] ?_;refine iJ 75 ?_ rfl (by simpa using he);refine rn [2,0,1,2,3,4,5,0] ?_;refine Zl (q) func153 (Zyo results153) ⟨_,rfl,.inr ⟨by rw [w,hL,if_neg d,if_neg o,if_neg p,hO];rfl,ln,cl,e,he,rfl,rfl⟩⟩
 obtain rfl:k=s.size:=by omega
 refine Zg ?_;exact ⟨_,⟨_,rfl,.inl ⟨i,a,c,by rw [w,lex_end Zq];simp,rfl,rfl⟩⟩,leA⟩
end
mutual
def PEx.nd:PEx->Nat
 | .mk k _ _ _ _ _ args=>(if k=0 then 0 else 1)+Pa args
def Pa:List PEx->Nat
 | []=>0
 |e::r=>e.nd+Pa r
end
mutual
def PStm.nd:PStm->Nat
 | .mk _ _ _ _ _ e ix body els _ _ _ _=>2+e.nd+ix.nd+Yg body+Yg els
def Yg:List PStm->Nat
 | []=>0
 |s::r=>s.nd+Yg r
end
def T9: ∀ {g} {l} {ln cl} {ts},Nf g l ln cl=some ts->ts.length<=l.length/\ ∀ t∈ts,0<=t.n/\t.n<=2147483647
 |0,_,_,_,_,h=>by cases h
 |g+1, [],_,_,ts,h=>by cases h;exact ⟨aS _,fun t d=>by cases d⟩
 |g+1,c::r,ln,cl,ts,h=>by
  rw [Nf] at h;split at h
  . have:=T9 h;exact ⟨Zi,this.2⟩
  split at h
  . have:=T9 h;exact ⟨Zi,this.2⟩
  split at h
  . have:=T9 h;refine ⟨dO this.1 ?_,this.2⟩;exact (List.dropWhile_sublist _).length_le
  split at h
  . cases h
  rename_i k w n a
  cases hl:Nf g ((c::r).drop w.length) ln (cl+w.length) with
  |none=>rw [hl] at h;cases h
  |some us=>
   rw [hl] at h;cases h
   have:=T9 hl
   have i:0<w.length/\0<=n/\n<=2147483647:=by
    unfold Zqw at a;dsimp only at a;have j: ∀ s∈signsS,0<s.length:=Zw;split at a
    . rename_i o;split at a
      . rename_i x b
        cases a
        refine ⟨by rw [bB];have:=Pg (c::r);omega,?_⟩;unfold Zjf at b;split at b
        . rename_i e;split at b
          . cases b;rename_i p
            rw [bA] at e;exact ⟨(Zyf e.1).1,p.1⟩
          cases b
        cases b
      cases a
    split at a
    . rename_i o;cases a;exact ⟨by rw [bB];have:=Pg (c::r);omega,Zw,Zw⟩
    split at a
    . cases a
    split at a
    . cases a;exact ⟨by rw [bB];have:=Pg (c::r);omega,Zw,Zw⟩
    split at a
    . rename_i m;cases a;exact ⟨j _ (jX m),Zw,Zw⟩
    cases a
   refine ⟨?_,?_⟩
   . have f:=this.1;rw [bY] at f;simp at f|-;omega
   intro t d;rcases bS.1 d with rfl|d
   . exact i.2
   exact this.2 t d
def T5 {s}(h:tkW s ts=some r):r.length+1<=ts.length:=by
 unfold tkW at h;split at h
 . cases h;rename_i a;cases ts with
   |nil=>cases a
   |cons t r=>simp
 cases h
def Vy {s}{u}(h:Un s ts=some (u,r)):r.length+1<=ts.length:=T5 (Fl.1 h)
def Dy {x}(h:Hm ts=some (x,r)):r.length+1<=ts.length:=by
 cases ts with
 |nil=>cases h
 |cons t l=>simp only [Hm] at h;split at h<;>cases h;simp
def Dx {x}(h:H5 ts=some (x,r)):r.length+1<=ts.length:=by
 cases ts with
 |nil=>cases h
 |cons t l=>simp only [H5] at h;split at h<;>cases h;simp
def Zgf {n}(h:Jo n ts≠0):ts.tail.length+1=ts.length:=by
 cases ts with
 |nil=>exact aV (by unfold Jo;simp [Cd,isW]) h
 |cons t r=>simp
def Df: ∀ f,(∀ n ts e r,Ve f n ts=some (e,r)->e.nd+r.length<=ts.length/\e.dep+r.length<=ts.length)/\(∀ n x ts e r,Rl f n x ts=some (e,r)->e.nd+r.length<=ts.length+x.nd/\(∀ B,x.dep+ts.length<=B->ts.length<=B->e.dep+r.length<=B))/\
 (∀ ts e r,unS f ts=some (e,r)->e.nd+r.length<=ts.length/\e.dep+r.length<=ts.length)/\(∀ ts e r,Q0 f ts=some (e,r)->e.nd+r.length<=ts.length/\e.dep+r.length<=ts.length):=by
 intro f
 induction f with
 |zero=>exact ⟨fun _ _ _ _ h=>(by cases h),fun _ _ _ _ _ h=>(by cases h),fun _ _ _ h=>(by cases h),fun _ _ _ h=>by cases h⟩
 |succ f ih=>
  obtain ⟨b,l,d,q⟩:=ih;refine ⟨fun n ts e r h=> ?_,fun n x ts e r h=> ?_,fun ts e r h=> ?_,fun ts e r h=> ?_⟩
  . rw [Ve] at h;split at h
    . exact d _ _ _ h
    split at h
    . cases h
    rename_i e1 g a;have i:=b _ _ _ _ a;have p:=l _ _ _ _ _ h;exact ⟨Zq,p.2 _ i.2 Zq⟩
  . rw [Rl] at h;split at h
    . cases h;exact ⟨Zq,fun B a _=>a⟩
    rename_i u;have m:=Zgf u;split at h
    . cases h
    rename_i x1 g a;have i:=b _ _ _ _ a;have k:(PEx.mk 6 0 em 0 false (Jo n ts) [x,x1]).nd=1+(x.nd+(x1.nd+0)):=rfl;have j:(PEx.mk 6 0 em 0 false (Jo n ts) [x,x1]).dep=max x.dep (max x1.dep 0)+1:=rfl;split at h
    . cases h;exact ⟨Zq,fun B a c=>by omega⟩
    have p:=l _ _ _ _ _ h;exact ⟨Zq,fun B a c=>p.2 B Zq Zq⟩
  . rw [unS] at h;split at h
    . rename_i g a;have m:=T5 a;split at h
      . cases h
      rename_i x1 o c
      cases h
      have i:=d _ _ _ c;have k:(PEx.mk 4 0 em 0 false 0 [x1]).nd=1+(x1.nd+0):=rfl;have j:(PEx.mk 4 0 em 0 false 0 [x1]).dep=max x1.dep 0+1:=rfl;exact ⟨Zq,Zq⟩
    split at h
    . rename_i g a;have m:=T5 a;split at h
      . cases h
      rename_i x1 o c
      cases h
      have i:=d _ _ _ c;have k:(PEx.mk 5 0 em 0 false 0 [x1]).nd=1+(x1.nd+0):=rfl;have j:(PEx.mk 5 0 em 0 false 0 [x1]).dep=max x1.dep 0+1:=rfl;exact ⟨Zq,Zq⟩
    exact q _ _ _ h
  rw [Q0] at h;split at h
  . rename_i g a;have m:=T5 a;split at h
    . cases h
    rename_i x1 o c;have i:=b _ _ _ _ c;split at h
    . cases h
    rename_i t s
    cases h
    have:=T5 s;exact ⟨Zq,Zq⟩
  split at h
  . rename_i z g a
    cases h
    have:=Dx a;have k: ∀ z,(PEx.mk 1 z em 0 false 0 []).nd=1+0:=fun _=>rfl
    have j: ∀ z,(PEx.mk 1 z em 0 false 0 []).dep=0+1:=fun _=>rfl
    exact ⟨by rw [k];omega,by rw [j];omega⟩
  split at h
  . cases h
  rename_i nm g a;have m:=Dy a;split at h
  . cases h
    have k:(PEx.mk 2 0 nm 0 false 0 []).nd=1+0:=rfl;have j:(PEx.mk 2 0 nm 0 false 0 []).dep=0+1:=rfl;exact ⟨Zq,Zq⟩
  rename_i o c;have v:=T5 c;split at h
  . cases h
  rename_i x1 t s;have i:=b _ _ _ _ s;split at h
  . cases h
  rename_i y w
  cases h
  have:=T5 w;have k:(PEx.mk 3 0 nm 0 false 0 [x1]).nd=1+(x1.nd+0):=rfl;have j:(PEx.mk 3 0 nm 0 false 0 [x1]).dep=max x1.dep 0+1:=rfl;exact ⟨Zq,Zq⟩
def Zd {α β}{A}{K:α->List Tk->Option β}{y}(h:bnd A K=some y): ∃ x r,A=some (x,r)/\K x r=some y:=by
 cases A with
 |none=>cases h
 |some x=>exact ⟨x.1,x.2,rfl,h⟩
mutual
def Zvq {B C}(h:B<=C): ∀ {s:PStm},s.bdd B->s.bdd C
 | .mk _ _ _ _ _ _ _ _ _ _ _ _ _,⟨h1,h2,h3,h4⟩=>⟨dO h1 h,dO h2 h,Mb h h3,Mb h h4⟩
def Mb {B C}(h:B<=C): ∀ {l},Vg B l->Vg C l
 | [],_=>trivial
 |_::_,⟨h1,h2⟩=>⟨Zvq h h1,Mb h h2⟩
end
def Zff:PEx.z.nd=0:=rfl
def P0:PEx.z.dep=1:=rfl
def Bj {k:Int}{e:PEx}{b l:List PStm}{i s o:Int}{lo:Bool}:(PStm.mk k ln cl nm wt e ix b l i s o lo).nd=2+e.nd+ix.nd+Yg b+Yg l:=rfl
def Zyp {f}{k}{p}{s}(hB:ts.length+1<=B)(h:Qe f k p nm ts=some (s,r)):s.nd+r.length<=ts.length+1/\s.bdd B:=by
 unfold Qe at h;split at h
 . split at h
   . rename_i n
     have y:ts.tail.length+1=ts.length:=by cases ts with
      |nil=>cases n
      |cons t r=>simp
     obtain ⟨ix,v,q,h⟩:=Zd h;obtain ⟨_,u,o,h⟩:=Zd h;obtain ⟨_,j,c,h⟩:=Zd h;obtain ⟨e,i,b,h⟩:=Zd h;obtain ⟨_,d,a,h⟩:=Zd h
     cases h
     have x:=(Df _).1 _ _ _ _ q;have w:=Vy o;have m:=Vy c;have l:=(Df _).1 _ _ _ _ b;have g:=Vy a;exact ⟨by rw [Bj];simp only [Yg];omega,Zq,Zq,trivial,trivial⟩
   obtain ⟨_,j,c,h⟩:=Zd h;obtain ⟨e,i,b,h⟩:=Zd h;obtain ⟨_,d,a,h⟩:=Zd h
   cases h
   have m:=Vy c;have l:=(Df _).1 _ _ _ _ b;have g:=Vy a;exact ⟨by rw [Bj,Zff];simp only [Yg];omega,Zq,by rw [P0];omega,trivial,trivial⟩
 split at h
 . obtain ⟨_,j,c,h⟩:=Zd h;obtain ⟨e,i,b,h⟩:=Zd h;obtain ⟨_,d,a,h⟩:=Zd h
   cases h
   have m:=Vy c;have l:=(Df _).1 _ _ _ _ b;have g:=Vy a;exact ⟨by rw [Bj,Zff];simp only [Yg];omega,Zq,by rw [P0];omega,trivial,trivial⟩
 split at h
 focus
  obtain ⟨wt,j,c,h⟩:=Zd h;obtain ⟨_,d,a,h⟩:=Zd h
  cases h
  have m:=Dy c;have g:=Vy a
 rotate_left
 focus
  split at h
  . obtain ⟨e,i,b,h⟩:=Zd h;obtain ⟨_,d,a,h⟩:=Zd h
    cases h
    have l:=(Df _).1 _ _ _ _ b;have g:=Vy a;exact ⟨by rw [Bj,Zff];simp only [Yg];omega,Zq,by rw [P0];omega,trivial,trivial⟩
  obtain ⟨_,d,a,h⟩:=Zd h
  cases h
  have g:=Vy a
 all_goals
  exact ⟨by rw [Bj,Zff];simp only [Yg];omega,by rw [P0];omega,by rw [P0];omega,trivial,trivial⟩
def Zjs (h:U8 ts≠0):ts.tail.length+1=ts.length:=by
 cases ts with
 |nil=>exact aV Zw h
 |cons t r=>simp
def stmt_nd (B:Nat): ∀ f,(∀ ts s r,ts.length+1<=B->Hf f ts=some (s,r)->s.nd+r.length<=ts.length/\s.bdd B)/\(∀ ts l r,ts.length+1<=B->Tz f ts=some (l,r)->Yg l+r.length+2<=ts.length/\Vg B l)/\(∀ ts l r,ts.length+1<=B->Jw f ts=some (l,r)->Yg l+r.length<=ts.length/\Vg B l):=by
 intro f
 induction f with
 |zero=>exact ⟨fun _ _ _ _ h=>(by cases h),fun _ _ _ _ h=>(by cases h),fun _ _ _ _ h=>by cases h⟩
 |succ f ih=>
  obtain ⟨n,i,g⟩:=ih;refine ⟨fun ts s r o h=> ?_,fun ts l r o h=> ?_,fun ts l r o h=> ?_⟩
  . rw [Hf] at h;split at h
    . rename_i z;have u:=Zjs (ts:=ts) Zq;obtain ⟨e,m,a,h⟩:=Zd h;obtain ⟨b,d,j,h⟩:=Zd h;have k:=(Df _).1 _ _ _ _ a;have c:=i _ _ _ Zq j;split at h
      . rename_i x
        have y:d.tail.length+1=d.length:=by
         have:=x.2
         cases d with
         |nil=>cases this
         |cons t r=>simp
        obtain ⟨b2,v,p,h⟩:=Zd h
        cases h
        have q:=i _ _ _ Zq p;exact ⟨by rw [Bj,Zff];omega,Zq,by rw [P0];omega,c.2,q.2⟩
      cases h
      exact ⟨by rw [Bj,Zff];simp only [Yg];omega,Zq,by rw [P0];omega,c.2,trivial⟩
    split at h
    . rename_i z;have u:=Zjs (ts:=ts) Zq;have:=Zyp (B:=B) Zq h;exact ⟨Zq,this.2⟩
    obtain ⟨nm,m,a,h⟩:=Zd h;have k:=Dy a;have u:(if 0<U8 ts then ts.tail else ts).length<=ts.length:=by split<;>simp
    have:=Zyp (B:=B) Zq h;exact ⟨Zq,this.2⟩
  . rw [Tz] at h;obtain ⟨_,m,a,h⟩:=Zd h;obtain ⟨w,d,j,h⟩:=Zd h;obtain ⟨_,v,p,h⟩:=Zd h
    cases h
    have k:=Vy a;have c:=g _ _ _ Zq j;have q:=Vy p;exact ⟨Zq,c.2⟩
  rw [Jw] at h;split at h
  . cases h;exact ⟨by simp [Yg],trivial⟩
  obtain ⟨s,m,a,h⟩:=Zd h;obtain ⟨w,d,j,h⟩:=Zd h
  cases h
  have k:=n _ _ _ o a;have c:=g _ _ _ Zq j;exact ⟨by simp only [Yg];omega,k.2,c.2⟩
def decl_nd {f}(hB:ts.length+1<=B)(h:Ni f ts=some (d,r)):Yg d.body+r.length+1<=ts.length/\Vg B d.body/\(1<=d.k/\d.k<=6):=by
 have j:dkS ts<=6:=Fo;unfold Ni at h;split at h
 . cases h
 rename_i q;obtain ⟨nm,i,p,h⟩:=Zd h;have w:=Dy p
 have x:ts.tail.length+1=ts.length:=by
  cases ts with
  |nil=>exact aV (show dkS []=0 by decide) q
  |cons t r=>simp
 split at h
 . obtain ⟨b,e,a,h⟩:=Zd h
   cases h
   have g:=(stmt_nd B f).2.1 _ _ _ Zq a;exact ⟨Zy,g.2,Zy⟩
 obtain ⟨n,e,a,h⟩:=Zd h;obtain ⟨_,u,o,h⟩:=Zd h
 cases h
 have v:=Vy o
 have g:e.length<=i.length:=by
  unfold L7 at a;split at a
  . obtain ⟨_,c,m,a⟩:=Zd a;have:=Vy m;split at a
    . obtain ⟨z,s,l,a⟩:=Zd a
      cases a
      have:=Dx l;have y:c.tail.length<=c.length:=Zf;omega
    have:=Dx a;omega
  split at a
  . have:=Dx a;omega
  cases a;exact aS _
 exact ⟨by simp only [Yg];omega,trivial,Zy⟩
def F8 {G}: ∀ {f} {ts} {ds} {B},ts.length+1<=B->Qa G f ts=some ds->(ds.map fun d=>Yg d.body+1).sum<=ts.length/\ ∀ d∈ds,Vg B d.body/\(1<=d.k/\d.k<=6)
 |0,_,_,_,_,h=>by cases h
 |f+1,ts,ds,B,hB,h=>by
  rw [Qa] at h;split at h
  . cases h;exact ⟨Zf,fun d a=>by cases a⟩
  obtain ⟨d,r,e,h⟩:=Zd h
  cases h2:Qa G f r with
  |none=>rw [h2] at h;cases h
  |some us=>
   rw [h2] at h;cases h
   have c:=decl_nd hB e;have b:=F8 (B:=B) Zq h2;refine ⟨by simp only [bG,lU];omega,fun d a=> ?_⟩;rcases bS.1 a with rfl|a
   . exact c.2
   exact b.2 d a
def MoreD (L:List Tk)(S:Option (List PDec))(G g:Nat)(l:List PDec)(n:Nat)(b:Bool):Prop:=(b=false/\S=(Qa G g (L.drop n)).map (l++ ·))\/(b=true/\S=none)
section
variable {L:List Tk}{S:Option (List PDec)}{G g n m:Nat}{l:List PDec}{b:Bool}
theorem MoreD.go (h:MoreD L S G (g+1) l n false)(hn:n<L.length)(ho:Out L false (Ni G (L.drop n)) d m b):MoreD L S G g (l++ [d]) m b:=by
 rcases h with ⟨_,e⟩|⟨e,_⟩
 . have a:L.drop n≠ []:=by rw [aP hn];exact List.cons_ne_nil _ _
   rcases ho with ⟨c,_,f⟩|⟨c,i⟩
   . refine .inl ⟨c,?_⟩;rw [e,Qa,if_neg a,f];simp only [bnd];cases Qa G g (L.drop m)<;>simp
   refine .inr ⟨c,?_⟩;rw [e,Qa,if_neg a,i.resolve_left Zw];rfl
 cases e
theorem MoreD.over (h:MoreD L S G (g+1) l n false)(hn:L.length<=n):S=some l:=by
 rcases h with ⟨_,e⟩|⟨e,_⟩
 . rw [e,cN hn,Qa,if_pos rfl];simp
 cases e
theorem MoreD.bad (h:MoreD L S G g l n true):S=none:=by
 rcases h with ⟨e,_⟩|⟨_,e⟩
 . cases e
 exact e
end
def Zv7 {l:Bs}(h:Pk l=none):Kd l=none:=by
 unfold Pk at h;unfold Kd;split
 . rfl
 rw [if_neg ‹_›] at h;rw [h]
def Zv6 {l:Bs}(h:Pk l=some ts):Kd l=(match Qa (10*ts.length+20) (ts.length+1) ts with|none=>none|some ds=>if ds.any (fun d=>Wz d.body 1)=true then none else some ds):=by
 unfold Pk at h;unfold Kd;split
 . rw [if_pos ‹_›] at h;cases h
 rw [if_neg ‹_›] at h;simp only [h];rfl
def lexO_fin {l:Bs}(h:Pk l=some ts):ts.length<=65536/\ ∀ t∈ts,0<=t.n/\t.n<=2147483647:=by
 unfold Pk at h;split at h
 . cases h
 have:=T9 h;exact ⟨Zq,this.2⟩
def DcsAt (M:Hp)(a:Option Addr)(c:Nat)(l:List Dec):Prop:=SlAt M a c l.length (l.flatMap dcC)/\Decs.At M l
def DcsAt.mono {a}{c}{l}(e:Hle M M')(h:DcsAt M a c l):DcsAt M' a c l:=⟨h.1.mono e,h.2.mono e⟩
def dsM (a:Option Addr)(c:Nat)(l:List Dec):HP:=lst (fun M=>DcsAt M a c l) DcsAt.mono
def Zx6 {a}{c}{l}(h:Kn q fun M=>DcsAt M a c l):Sees q a (l.flatMap dcC):=eP (h.imp fun M h=>h.1.2.2)
def Kn.dsI {a}{c}{l}(h:Kn q fun M=>DcsAt M a c l)(hi:i<l.length):Kn q fun M=>BlkAt M l[i].ba l[i].bc l[i].body:=h.imp fun M h=>h.2 _ (aC hi)
def X.dcs {l}{s}(h1:Le q (dcsM l::q1))(h2:Le q1 (dcM s::q2))(K:X P G fr Q todo p ds cs (dcsM (l++ [s])::q2)):X P G fr Q todo p ds cs q:= .le (h1.trans ((cC _ h2).trans Zvw)) K
def X.fzD {a}{c}{m}(K:X P G fr Q todo p ds cs (dsM a c m::q0))(hq:Le q (rsH dcC 6 305 a c m::q0):=by exact Zj)(h:Kn q0 fun M=>Decs.At M m:=by exact knA):X P G fr Q todo p ds cs q:= .frzR (Kn.here.and h.there) K hq
section
variable {s:ByteArray}{n:Nat}
def Zz0:(prog.info? 305).map (fun i=>(i.zero,i.size,i.bytes))=some (some (.agg #[I64 0,I64 0,I64 0,.string ⟨#[]⟩,I64 0,.slice none 0 0]),6,72):=by kernel_rfl
abbrev AP (v0:List HP):=(Ret fun v q'=> ∃ y z:Int,v= .agg (Al y z).toArray/\q'=v0)
def Zwm (hn:n<=s.size)(h63:s.size<=65536):CF G 223 [.string s,I64 n] (q) (AP q):=by
 refine aE ntmps223 fun F cs=> ?_;refine Zo zeroValue104 fun d=> ?_
 refine Zo zeroValue104 fun c=> ?_
 refine Zs (bW (fun (k:Nat×Int×Int)=>k.1<=n/\0<=k.2.1/\k.2.1<=k.1+1/\0<=k.2.2/\k.2.2<=k.1+1) (fun k=> [(6,I64 (k.1:Int)),(0,.string s),(1,I64 n),(4,pt d),(5,pt c)]) (fun k=>pC c [I64 k.2.1,I64 k.2.2] 104::pC d zz4 104::(q++F)) (fun k=>n - k.1) (fun k a b=> ?_) (0,1,1) ⟨Zq,Zw,Zw,Zw,Zw⟩);try dsimp only at a b|-
 obtain ⟨k,y,z⟩:=k;dsimp only at*;refine Zp ?_ ?_<;>intro l
 . refine Zz ?_;apply Va (Vf rfl rfl underlying9 Zq Zq);refine Zp ?_ ?_<;>intro j
   . refine Zs (b (k+1,y+1,1) ⟨Zy,Zy,Zy,Zy,Zy⟩ Zy)
   refine Zs (b (k+1,y,z+1) ⟨Zy,Zy,Zy,Zy,Zy⟩ Zy)
 refine Zm (q) ?_;exact ⟨_,rfl,y,z,rfl,rfl⟩
def End_ok (h63:s.size<=65536):CF G 155 [.string s] (q) (AP q):=by
 refine aE ntmps155 fun F cs=> ?_;refine Zo zeroValue104 fun a=> ?_
 refine Zz ?_;apply Zv (aG _) (Zwm (n:=s.size) (aS _) h63);rintro _ _ ⟨y,z,rfl,rfl⟩;refine Zm (q) ?_;exact ⟨_,rfl,y,z,rfl,rfl⟩
def Parse_ok:CF G 90 [.string s] (q) (Ret fun v q'=>(∃ ds a c,Kd (bs s)=some (ds.map Dec.er)/\v= .tuple [.slice a ds.length c,.agg zz4.toArray,I64 0].toArray/\q'=dsM a c ds::q)\/(Kd (bs s)=none/\ ∃ (y z e:Int),e≠0/\v= .tuple [.slice none 0 0,.agg (Al y z).toArray,I64 e].toArray/\q'=q)):=by
 refine aE ntmps90 fun F cs=> ?_;refine Zo zeroValue104 fun n1=> ?_
 refine Zz ?_;apply Zv (aG _) (Lex_ok);rintro _ _ (⟨L,la,lc,hx,rfl,rfl⟩|⟨hx,y,z,e,he,rfl,rfl⟩)
 . obtain ⟨hn,hT⟩:=lexO_fin hx;have p:=Zv6 hx;obtain ⟨S,hS⟩: ∃ S,Qa (10*L.length+20) (L.length+1) L=S:=⟨_,rfl⟩;rw [hS] at p;refine Zo zeroValue104 fun n2=> ?_
   refine Yb fun n3=> ?_
   refine Zz ?_;have f0:MoreD L S (10*L.length+20) (L.length+1) [] 0 false:= .inl ⟨rfl,by rw [<-hS,iD];cases Qa (10*L.length+20) (L.length+1) L<;>rfl⟩;refine cH (bW (fun (h:(Option Addr×Nat×List Dec)×Nat×Bool×Nat)=>h.2.1<=L.length/\(h.2.2.1=false->L.length - h.2.1<h.2.2.2/\h.1.2.2.length<=h.2.1)/\h.1.2.2.length<=h.2.1+1/\MoreD L S (10*L.length+20) h.2.2.2 (h.1.2.2.map Dec.er) h.2.1 h.2.2.1) (fun h=> [(9,.slice h.1.1 h.1.2.2.length h.1.2.1),(8,pt n3),(5,.slice la L.length lc),(0,.string s),(2,.slice none 0 0),(3,pt n1),(4,I64 0)]) (fun h=>rdH n3 la lc L h.2.1 h.2.2.1::rsH dcC 6 305 h.1.1 h.1.2.1 (h.1.2.2)::dcsM h.1.2.2::rsH tkC 5 310 la lc L::pC n1 zz4 104::(q++F)) (fun h=>2*(L.length - h.2.1)+(if h.2.2.1=true then 0 else 1)) (fun h j ih=> ?_) ((none,0, []),0,false,L.length+1) ⟨aZ _,fun _=>⟨Zy,aS _⟩,Zf,f0⟩) Z5 (aK leA (aK (Zc dcC 6 305 _) (aK Zxa leA)));try dsimp only at j ih|-
   obtain ⟨j0,d0,q0,o⟩:=j;obtain ⟨⟨a,c,l⟩,n,b,g⟩:=h;dsimp only at*;clear f0;refine Zz ?_;refine' Vo ?_;refine Zp ?_ ?_<;>intro r
   . refine Zz ?_;obtain ⟨rfl,h2⟩:b=false/\n<L.length:=⟨r.1,by have:=r.2;omega⟩;obtain ⟨s0,r0⟩:=d0 rfl;obtain ⟨g,rfl⟩: ∃ g2,g=g2+1:=⟨g - 1,Zq⟩;apply Zv leA (decl_ok (f:=10*L.length+20) (n:=n) (bad:=false) (L:=L) (Sees.le (bJ _) Zj) hn j0 hT Zq);rintro _ _ ⟨d,m2,b2,rfl,rfl,⟨o0,w⟩,n0,h0⟩;apply bU (Yw (u:=d) dcC underlying197 Zz0 rfl rfl (fun _=>rfl) rfl);rintro _ _ ⟨g2,rfl,rfl⟩;apply bU (Z9 (f:=dcC) (l:=l) (m:= [d]) underlying197 Zz0 rfl rfl (fun _=>rfl) rfl rfl Zj ((bJ _).le Zj) (fun _=>rfl) Zi Zi);rintro _ _ ⟨a3,c3,rfl,rfl⟩;refine Zz ?_;apply X.dcs (l:=l) (s:=d) Zj Zj;refine Zs (ih ((a3,c3,l++ [d]),m2,b2,g) ⟨n0,fun hb=>⟨by have:=w hb;dsimp only;omega,by have:=w hb;simp;omega⟩,Zi,by rw [aN];exact o.go h2 h0⟩ (by dsimp only;cases b2 with|true=>simp;omega|false=>have:=w rfl;simp;omega))
   refine Zp ?_ ?_<;>intro h2
   . refine Zp ?_ ?_<;>intro h3
     . refine Zz ?_;refine Zv (aG _) (End_ok (s:=s) (by have:=hx;unfold Pk at this;split at this;cases this;rw [<-Ry];omega)) ?_;rintro _ _ ⟨y,z,rfl,rfl⟩;refine Zz ?_;subst h2;have x:=o.bad;refine Zm (q) ?_;exact ⟨_,rfl,.inr ⟨by rw [p,x],y,z,120,by first|assumption|decide,rfl,rfl⟩⟩
     refine Zz ?_;have i:n<L.length:=Zq;refine Rh (bJ (f:=tkC) (sz:=5) (ty:=310) (a:=la) (c:=lc) (l:=L) []) (by rw [Zx (f:=tkC) (sz:=5) (fun _=>rfl) L];omega) fun b1 o1 e1=> ?_;subst e1;refine Zz ?_;refine iP 7 (us:= [I64 L[n].ln,I64 L[n].cl]) rfl rfl isAgg104 sizeOf104 rfl (fun k v hk=>by match k,hk with|0,hk=>cases hk;exact cX (n:=n) (bJ (f:=tkC) (sz:=5) (ty:=310) (c:=lc) (l:=L) []) leA (fun _=>rfl) i rfl 3 _ rfl|1,hk=>cases hk;exact cX (n:=n) (bJ (f:=tkC) (sz:=5) (ty:=310) (c:=lc) (l:=L) []) leA (fun _=>rfl) i rfl 4 _ rfl) ?_;refine rn [9,10,11,0] ?_;subst h2;refine Zl (q) func90 (Zyo results90) ⟨_,rfl,.inr ⟨by rw [p,o.bad],L[n].ln,L[n].cl,120,by first|assumption|decide,rfl,rfl⟩⟩
   refine Zz ?_;subst h2;replace r:L.length<=n:=by rcases r with r|r;cases r;omega
   obtain ⟨g,rfl⟩: ∃ g2,g=g2+1:=⟨g - 1,by have:=(d0 rfl).1;omega⟩;have m0:=o.over r;rw [m0] at p hS;dsimp only at p;have l0: ∀ d∈l,Vg 1000000 (Zk d.body):=fun d hd=>Mb Zq ((F8 (aS _) hS).2 d.er (cW hd)).1
   apply X.fzD (m:=l);have c0:Kn [dsM a c l] fun M=>DcsAt M a c l:=fJ;have g0:=Zx6 c0;have k0:=Zx (f:=dcC) (sz:=6) (fun _=>rfl) l;clear ih o
   refine Zs (bW (fun (k:Nat×Option Addr)=>k.1<=l.length/\k.2=a/\((l).map Dec.er).any (fun d=>Wz d.body 1)=((l.drop k.1).map Dec.er).any (fun d=>Wz d.body 1)) (fun k=> [(10,I64 (k.1:Int)),(9,.slice k.2 l.length c),(2,.slice none 0 0),(3,pt n1),(4,I64 0)]) (fun k=>dsM a c l::pC n1 zz4 104::(q++F)) (fun k=>l.length - k.1) (fun k j a0=> ?_) (0,a) ⟨aZ _,rfl,rfl⟩);try dsimp only at j a0|-
   obtain ⟨p0,i0,t⟩:=j;obtain ⟨k,a2⟩:=k;dsimp only at*;subst i0;refine Zp ?_ ?_<;>intro h3
   . have i:k<l.length:=Zq;have e0:l.drop k=l[k]::l.drop (k+1):=aP i;refine Yq g0 (by rw [k0];omega) fun b2 o2 e2=> ?_;subst e2;refine Zz ?_;apply Zv (aG _) (Zfb _ l[k].body l[k].ba l[k].bc 1 (aS _) (l0 _ (aC i)) Zw ((Kn.dsI c0 i).le leA));rintro _ _ ⟨pl,pc,rfl,rfl⟩;refine Zo zeroValue104 fun n4=> ?_
     refine Zp ?_ ?_<;>intro h4
     . refine rn [2,0,1,2,3,4,0] ?_;refine Zl (q) func90 (Zyo results90) ⟨_,rfl,.inr ⟨by rw [p,t,e0,if_pos (by rw [bG,lT];simp only [Dec.er];rw [h4];rfl)],pl,pc,121,by first|assumption|decide,rfl,rfl⟩⟩
     refine Zs (a0 (k+1,_) ⟨Zy,rfl,by rw [t,e0,bG,lT];simp only [Dec.er];rw [h4];rfl⟩ Zy)
   obtain rfl:k=l.length:=by omega
   refine Zm (dsM a2 c l::q) ?_;exact ⟨_,rfl,.inl ⟨l,a2,c,by rw [p,t,dU,if_neg Zf],rfl,rfl⟩⟩
 refine Zo zeroValue104 fun n2=> ?_
 refine rn [1,0,8] ?_;refine iJ 20 ?_ rfl (by simpa using he);refine rn [2,0,1,2,3,4,5,0] ?_;refine Zl (q) func90 (Zyo results90) ⟨_,rfl,.inr ⟨Zv7 hx,y,z,e,by first|assumption|decide,rfl,rfl⟩⟩
end
def nmS (w:Bs):Bool:=if w.length<1\/16<w.length\/Zwn (w.getD 0 0)=false\/kwS w=true then false else w.all Fz
def Ra (k:Int):Nat:=if k=3\/k=4\/k=5 then 1 else if k=6 then 2 else 0
def partS (k n:Int)(nm:Bs)(op:Int):Bool:=if k=1 then decide (0<=n) && decide (n<=2147483647) else if k=2\/k=3 then nmS nm else if k=6 then decide (1<=op) && decide (op<=11) else true
def Ct (k n:Int)(nm:Bs)(op:Int)(d:Nat):Bool:=decide ((d:Int)<1)||(k !=1 && n !=0)||(k !=2 && k !=3 && !(nm== []))||(k !=6 && op !=0)
mutual
def PEx.right:PEx->Nat->Bool
 | .mk k n nm _ _ op args,d=>if Ct k n (bs nm) op d=true then false else if 1<=k/\k<=6 then partS k n (bs nm) op && decide (args.length=Ra k) && Ws args (d - 1) else false
def Ws:List PEx->Nat->Bool
 | [],_=>true
 |e::r,d=>e.right d && Ws r d
end
def PEx.nil:PEx->Bool
 | .mk k n nm _ _ op args=>k==0 && n==0 && bs nm== [] && op==0 && decide (args.length=0)
def hasN (k:Int):Bool:=k !=4 && k !=5 && decide (k<14)
def hasW (k:Int):Bool:=k==8||k==12
def Ok (k:Int):Bool:=decide (k<=5)||k==11||k==15
def Zwg (k:Int)(n:Nat):Bool:=decide (k<1)||decide (15<k)||decide (24<(n:Int))
def may2 (k:Int)(nm wt:Bs):Bool:=(hasN k !=nmS nm)||(!hasN k && !(nm== []))||(hasW k !=nmS wt)||(!hasW k && !(wt== []))
def Zjr (k:Int)(e ix:PEx):Bool:=(Ok k && !e.right 24)||(!Ok k && !e.nil)||(k==3 && !ix.right 24)||(k !=3 && !ix.nil)
def Zwf (k:Int)(b l:Nat):Bool:=(k !=4 && k !=5 && decide (0<(b:Int)))||(k !=4 && decide (0<(l:Int)))
mutual
def PStm.may:PStm->Nat->Bool
 | .mk k _ _ nm wt e ix body els _ _ _ _,n=>
  if Zwg k n=true then false else if may2 k (bs nm) (bs wt)=true then false else if Zjr k e ix=true then false else if Zwf k body.length els.length=true then false
  else Y2 body (n+1) && Y2 els (n+1)
def Y2:List PStm->Nat->Bool
 | [],_=>true
 |s::r,n=>s.may n && Y2 r n
end
def Zwh (k n:Int)(nm:Bs)(b:Nat)(m:Bool):Bool:=decide (k<1)||decide (6<k)|| !nmS nm||(k !=6 && decide (0<(b:Int)))||decide (2147483647<n)||decide (n< -2147483647)||(k !=1 && decide (n<0))||(k !=1 && k !=2 && k !=5 && n !=0)|| !m
def PDec.bad (d:PDec):Bool:=Zwh d.k d.n (bs d.nm) d.body.length (Y2 d.body 1)
def X.join {f}{a}{k}{α:Type}(E:α->PE)(C:α->List HP)(I:α->Prop)(hK: ∀ x,I x->X P G f Q k (E x) ds cs (C x))(h:(∀ x,I x->X P G f Q k (E x) ds cs (C x))->X P G f Q (a::k) p ds cs q):X P G f Q (a::k) p ds cs q:=h hK
abbrev iG:=@X.join
def aln_all {l:Bs}(h:i<l.length):l.all Fz=((l.take i).all Fz && (Fz (l.getD i 0) && (l.drop (i+1)).all Fz)):=by
 conv=>lhs;rw [<-dJ i l,aP h]
 rw [lC,iN,gD h]
section
variable {s:ByteArray}{x:Stm}{l:List Stm}{a:Option Addr}{c n d:Nat}
def Zjg:CR G 225 [.string s] (q) (.bool (nmS (bs s))):=by
 refine aE ntmps225 fun F cs=> ?_;have p:=Ry s;refine Zz ?_;refine' Yi ?_;refine Zz ?_;refine' Qc ?_ ?_
 rotate_left
 . intro a l;refine Zz ?_;apply Va (Vf rfl rfl underlying9 Zq Zq);apply aX 14 (.int .u8 (((bs s).getD 0 0).toNat:Int)) rfl (rfl);apply bD (G3 (c:=(bs s).getD 0 0));exact Vi l
 refine Zz ?_;refine' Qc ?_ ?_
 rotate_left
 . intro a l;refine Zz ?_;apply bD (Mo);exact Vi l
 refine Zp ?_ ?_<;>intro a
 . refine Zm (q) ?_;exact ⟨_,rfl,by unfold nmS;rw [if_pos];rcases a with ((a|a)|a)|a;exact .inl Zq;exact .inr (.inl Zq);exact .inr (.inr (.inl (by simpa using a)));exact .inr (.inr (.inr a)),rfl⟩
 refine Zz ?_;have r:s.size<=16:=by have:=a.1.1.2;omega
 have n:nmS (bs s)=(bs s).all Fz:=by unfold nmS;rw [if_neg];rintro (h|h|h|h)<;>first|omega|simp_all
 refine Zs (bW (fun (k:Nat)=>k<=s.size/\((bs s).take k).all Fz=true) (fun k=> [(3,I64 k),(0,.string s),(2,.bool false)]) (fun k=>(q++F)) (fun k=>s.size - k) (fun k f m=> ?_) 0 ⟨aZ _,rfl⟩);try dsimp only at f m|-
 refine Zp ?_ ?_<;>intro u
 . refine Zz ?_;apply Va (Vf rfl rfl underlying9 Zq Zq);apply aX 30 (Az s k) rfl (rfl);refine Wb (G3 (c:=(bs s).getD k 0)) ?_;refine' Q1 ?_ ?_
   rotate_left
   . intro g t;refine Zz ?_;apply Va (Vf rfl rfl underlying9 Zq Zq);apply aX 36 (Az s k) rfl (rfl);apply bD (F7 (c:=(bs s).getD k 0));exact Vi t
   refine Zp ?_ ?_<;>intro g
   . refine Zm (q) ?_;exact ⟨_,rfl,by rw [n,aln_all (i:=k) Zq];have j:Fz ((bs s).getD k 0)=false:=(by unfold Fz;revert g;cases Zwn ((bs s).getD k 0)<;>cases H1 ((bs s).getD k 0)<;>simp);rw [j];simp,rfl⟩
   refine Zz ?_;have b:k<(bs s).length:=Zq;have j:Fz ((bs s).getD k 0)=true:=by unfold Fz;revert g;cases Zwn ((bs s).getD k 0)<;>cases H1 ((bs s).getD k 0)<;>simp
   refine Zs (m (k+1) ⟨Zq,by rw [aM b,lC,f.2,<-gD (d:=0) b];simp only [iN,j,List.all_nil];rfl⟩ Zq)
 refine Zm (q) ?_;exact ⟨_,rfl,by rw [n,<-f.2,bX Zq],rfl⟩
def Zv4 (IH: ∀ x:Ex,x.sz<e.sz-> ∀ {d:Nat} {q:List HP},d<=9223372036854775807->(Kn q fun M=>x.At M)->CF G 306 [.agg (exC x).toArray,I64 d] q (Ret fun v q'=>v= .bool (x.er.right d)/\q'=q))(hd:d<=9223372036854775807)(h:Kn q fun M=>e.At M):CF G 306 [.agg (exC e).toArray,I64 d] (q) (Ret fun v q'=>v= .bool (e.er.right d)/\q'=q):=by
 refine aE ntmps306 fun F cs=> ?_;obtain ⟨k,z,nm,sl,lo,op,args,aa,ac⟩:=e;have hA:=Zx5 h;have u:=Zx (f:=exC) (sz:=7) Yn args;have b0:=Ko args;refine gW (fun w s=>Zx3 (h.le leA) s) fun g0=> ?_;have g:(Ex.mk k z nm sl lo op args aa ac).er.right d=if Ct k z (bs nm) op d=true then false else if 1<=k/\k<=6 then partS k z (bs nm) op && decide (args.length=Ra k) && Ws (Yj args) (d - 1) else false:=by simp only [Ex.er,PEx.right,b0]
 obtain ⟨R,c0⟩: ∃ R,(Ex.mk k z nm sl lo op args aa ac).er.right d=R:=⟨_,rfl⟩;rw [c0] at g|-;refine Ye ?_;refine Gx fun n1=> ?_
 apply oo 8;apply fL [10,4,2,1];apply V9 9 19 10 rfl
 . intro g1 b;have a:=sp g1;refine rn [1,0,2] ?_;apply fL [14,10,4,2,1];apply Vb 4 18 14 rfl
   . intro g2 c;have l:=sp g2;refine rn [1,0,2] ?_;exact Z2 c ⟨Rb g2,Yt⟩
   . intro g2 c;have l:=sp g2;apply oo 4;exact Z2 c ⟨Rf g2,Yt⟩
   apply oo 1;exact Z2 b ⟨orF g1,Yt⟩
 . intro g1 b;have a:=sp g1;apply oo 9;exact Z2 b ⟨orT g1,Yt⟩
 apply oo 1;apply fL [20,4,2,1];apply V9 14 34 20 rfl
 . intro g1 b;have a:=sp g1;refine rn [1,0,2] ?_;apply fL [24,20,4,2,1];apply Vb 4 28 24 rfl
   . intro g2 c;have l:=sp g2;refine rn [1,0,2] ?_;exact Z2 c ⟨Rb g2,Yt⟩
   . intro g2 c;have l:=sp g2;apply oo 4;exact Z2 c ⟨Rf g2,Yt⟩
   apply oo 1;apply fL [29,20,4,2,1];apply Vb 4 33 29 rfl
   . intro g2 c;have l:=sp g2;refine rn [1,0,2] ?_;exact Z2 c ⟨Rb g2,Yt⟩
   . intro g2 c;have l:=sp g2;apply oo 4;exact Z2 c ⟨Rf g2,Yt⟩
   apply oo 1;exact Z2 b ⟨orF g1,Yt⟩
 . intro g1 b;have a:=sp g1;apply oo 14;exact Z2 b ⟨orT g1,Yt⟩
 apply oo 1;apply fL [35,4,2,1];apply V9 9 44 35 rfl
 . intro g1 b;have a:=sp g1;refine rn [1,0,2] ?_;apply fL [39,35,4,2,1];apply Vb 4 43 39 rfl
   . intro g2 c;have l:=sp g2;refine rn [1,0,2] ?_;exact Z2 c ⟨Rb g2,Yt⟩
   . intro g2 c;have l:=sp g2;apply oo 4;exact Z2 c ⟨Rf g2,Yt⟩
   apply oo 1;exact Z2 b ⟨orF g1,Yt⟩
 . intro g1 b;have a:=sp g1;apply oo 9;exact Z2 b ⟨orT g1,Yt⟩
 apply ox 1;refine X.part 44 rfl ?_ ?_<;>intro a
 . have i:Ct k z (bs nm) op d=true:=by rw [Zv3] at a;unfold Ct;rw [<-a];simp only [fB,eU];rfl
   apply xx 5;refine Zl (q) func306 (Qq results306 rfl) ⟨_,rfl,by rw [g,if_pos i],rfl⟩
 have i: ¬Ct k z (bs nm) op d=true:=by rw [Zv3] at a;intro i;rw [<-Bool.not_eq_true] at a;apply a;rw [<-i];unfold Ct;simp only [fB,eU];rfl
 rw [if_neg i] at g;have f0:1<=d:=by rcases dN d 1 with hx|hx;exact aV (by unfold Ct;rw [show decide ((d:Int)<1)=true from dB Zq];rfl) i;exact hx
 refine rn [11,0,1] ?_;refine iG (fun (x:Nat×Bool)=> [(5,I64 (x.1:Nat)),(6,.bool x.2),(2,pt n1),(1,I64 d),(4,.bool false)]) (fun x=>pC n1 (exC (.mk k z nm sl lo op args aa ac)) 136::(q++F)) (fun x=>R=(x.2 && decide (args.length=x.1) && Ws (Yj args) (d - 1))/\x.1<=2) (fun x t=> ?_) fun K=> ?_
 . obtain ⟨m,ok⟩:=x;dsimp only at t|-;obtain ⟨o,d0⟩:=t;apply xo 6;apply fL [82,5,2,1,4];apply V9 6 88 82 rfl
   . intro g1 b;have a:=sp g1;refine rn [1,0,4] ?_;exact Z2 b ⟨orF g1,Yt⟩
   . intro g1 b;have a:=sp g1;apply oo 6;exact Z2 b ⟨orT g1,Yt⟩
   refine Ye ?_;refine xp 88 ?_ ?_<;>intro a
   . apply xx 5;refine Zl (q) func306 (Qq results306 rfl) ⟨_,rfl,by rw [o];rcases a with a|a;rw [a];rfl;rw [show decide (args.length=m)=false from bM Zq];simp,rfl⟩
   apply xx 8;obtain ⟨a,l⟩:=a;obtain rfl:m=args.length:=by omega
   rw [a,dB rfl,gU,gU] at o;refine cH (bW (fun (s:Nat×Option Addr)=>s.1<=args.length/\R=Ws (Yj (args.drop s.1)) (d - 1)) (fun s=> [(7,I64 (s.1:Int)),(5,I64 args.length),(2,pt n1),(1,I64 d),(4,.bool false)]) (fun s=>pC n1 (exC (.mk k z nm sl lo op args aa ac)) 136::(q++F)) (fun s=>args.length - s.1) (fun s y ih=> ?_) (0,none) ⟨aZ _,o⟩) Z5 leA;try dsimp only at y ih|-
   obtain ⟨e0,p⟩:=y;obtain ⟨s,sx⟩:=s;dsimp only at*;refine Ye ?_;refine xp 91 ?_ ?_<;>intro t1
   . refine rn [7,0,1] ?_;have j:s<args.length:=Zq;have a0:Ws (Yj (args.drop s)) (d - 1)=(args[s].er.right (d - 1) && Ws (Yj (args.drop (s+1))) (d - 1)):=by rw [aP j];rfl
     refine J9 hA (by rw [u];omega) fun b1 o1 e1=> ?_;subst e1;apply oo 1;refine Jb (n:=s) isAgg136 sizeOf136 hA j ?_ (hf:=Yn);apply oo 2;apply aX 100 (I64 ((d - 1:Nat):Int)) rfl (aQ (Value.int .i64) Zq);refine bD (IH args[s] (by have:=Wd (aC j);simp only [Ex.sz];omega) (d:=d - 1) Zq (Zx4 (h.le leA) j)) ?_;apply ox 2;refine xp 102 ?_ ?_<;>intro t2
     . apply xx 5;refine Zl (q) func306 (Qq results306 rfl) ⟨_,rfl,by rw [p,a0,t2];rfl,rfl⟩
     apply xx 8;refine cH (ih (s+1,none) ⟨Zy,by rw [p,a0,t2];rfl⟩ Zy) Z5 leA
   apply xx 6;refine Zl (q) func306 (Qq results306 rfl) ⟨_,rfl,by obtain rfl:s=args.length:=Zq;rw [p,dU];rfl,rfl⟩
 have r:k=1\/k=2\/k=3\/k=4\/k=5\/k=6\/ ¬ (1<=k/\k<=6):=Zq;rcases r with rfl|rfl|rfl|rfl|rfl|rfl|r
 . rw [if_pos Zw] at g;refine rn [6,2047,3,0,2] ?_;apply fL [52,6,5,4,2,1];apply Vb 4 56 52 rfl
   . intro g1 b;have a:=sp g1;refine rn [1,0,2] ?_;exact Z2 b ⟨Rb g1,Yt⟩
   . intro g1 b;have a:=sp g1;apply oo 4;exact Z2 b ⟨Rf g1,Yt⟩
   apply ox 3;exact cH (K (0,(decide (0<=z) && decide (z<=2147483647))) ⟨g,show 0<=2 by decide⟩) Z5 leA
 . rw [if_pos Zw] at g;refine rn [6,1047,6,2057,3,0] ?_;apply bD (Zjg (s:=nm));apply ox 3;exact cH (K (0,nmS (bs nm)) ⟨g,show 0<=2 by decide⟩) Z5 leA
 iterate 4
  focus
   rw [if_pos Zw] at g;refine rn [6,1047,6,1057,6] ?_
  rotate_left
 . rw [if_neg r] at g;refine Ye ?_;refine Zl (q) func306 (Qq results306 rfl) ⟨_,rfl,by rw [g],rfl⟩
 . refine rn [2062,3,0] ?_;apply bD (Zjg (s:=nm));apply ox 4;exact cH (K (1,nmS (bs nm)) ⟨g,show 1<=2 by decide⟩) Z5 leA
 . refine rn [1062,7,2067,7] ?_;exact cH (K (1,true) ⟨g,show 1<=2 by decide⟩) Z5 leA
 . refine rn [1062,7,1067,5,2067,5] ?_;exact cH (K (1,true) ⟨g,show 1<=2 by decide⟩) Z5 leA
 refine rn [1062,7,1067,5,1067,6,2070,1,0,1,2,3,4,9] ?_;apply XD.sb [5,75,4,2,1];apply Tu 1 [0,1,2,3,4,5,6,7,8] 79 75 rfl
 . intro g1 b;have a:=sp g1;refine rn [5,6,7,8] ?_;exact Ud b ⟨Rb g1,Yt⟩
 . intro g1 b;have a:=sp g1;apply dd [4,5,6,7];exact Ud b ⟨Rf g1,Yt⟩
 intro L_;refine rn [10,0,1] ?_;exact cH (K (2,(decide (1<=op) && decide (op<=11))) ⟨g,show 2<=2 by decide⟩) Z5 leA
def Ly: ∀ (m:Nat) (e:Ex),e.sz<=m-> ∀ {d:Nat} {q},d<=9223372036854775807->(Kn q fun M=>e.At M)->CF G 306 [.agg (exC e).toArray,I64 d] q (Ret fun v q'=>v= .bool (e.er.right d)/\q'=q)
 |m,e,hm,d,_,hd,h=>Zv4 (fun x c f _ a b=>by
  cases m with
  |zero=>omega
  |succ m=>exact Ly m x Zq a b) hd h
def L8:CR G 307 [.agg (exC e).toArray] (q) (.bool e.er.nil):=by
 refine aE ntmps307 fun F cs=> ?_;obtain ⟨k,z,nm,b,lo,op,args,aa,ac⟩:=e;refine Yb fun c=> ?_
 refine Zz ?_;refine' Vo ?_;refine Zz ?_;refine' Vo ?_;refine Zz ?_;refine' Vo ?_;refine Zz ?_;refine' Vo ?_;refine Zm (q) ?_;exact ⟨_,rfl,by simp only [Ex.er,PEx.nil,Ko args];rw [Zv3];congr 1;rw [show decide (args.length=0)=((args.length:Int)==0) by rw [cD];simp];rfl,rfl⟩
def Zvo (IH: ∀ (m:List Stm) (a:Option Addr) (c n:Nat),Zn m<x.sz-> ∀ {q},(Kn q fun M=>BlkAt M a c m)->CF G 226 [.slice a m.length c,I64 n] q (Ret fun v q'=>v= .bool (Y2 (Zk m) n)/\q'=q))(h:Kn q fun M=>x.At M):CF G 276 [.agg (stC x).toArray,I64 n] (q) (Ret fun v q'=>v= .bool (x.er.may n)/\q'=q):=by
 refine aE ntmps276 fun F cs=> ?_;obtain ⟨k,ln,cl,nm,wt,⟨k1,l,w,l1,z,p1,y1,t,w1⟩,⟨k2,j,u,l2,y,p2,o,r,p⟩,body,els,ba,bc,ea,ec,id,slot,other,loc⟩:=x;obtain ⟨R,f⟩: ∃ R,(Stm.er (.mk k ln cl nm wt (.mk k1 l w l1 z p1 y1 t w1) (.mk k2 j u l2 y p2 o r p) body els ba bc ea ec id slot other loc)).may n=R:=⟨_,rfl⟩;rw [f];simp only [Stm.er,PStm.may,Wr body,Wr els] at f;refine Yb fun n1=> ?_
 refine Zz ?_;refine' Yi ?_;refine Zz ?_;refine' Yi ?_;refine Wg ?_ ?_<;>intro c1
 . have d1:Zwg k n=true:=by unfold Zwg;first|exact c1|(rw [<-c1];simp only [fB,eU];rfl)
   rw [if_pos d1] at f;refine Zm (q) ?_;exact ⟨_,rfl,by rw [f],rfl⟩
 have d1:Zwg k n=false:=by unfold Zwg;first|exact c1|(rw [<-c1];simp only [fB,eU];rfl)
 rw [if_neg (by rw [d1];decide)] at f;have e1:=sp c1;have c0:n<=24:=Zq;refine Zz ?_;refine' Vo ?_;refine Zz ?_;refine' Vo ?_;refine Zz ?_;refine' Yi ?_;refine Zz ?_;refine' Yi ?_;refine Zz ?_;refine' Yi ?_;refine Zz ?_;refine Wb (Zjg (s:=nm)) ?_;refine' Qc ?_ ?_
 rotate_left
 . intro g b;refine Zz ?_;refine' Vo ?_;exact Vi b
 refine Zz ?_;refine' Qc ?_ ?_
 rotate_left
 . intro g b;refine Zz ?_;apply bD (Zjg (s:=wt));exact Vi b
 refine Zz ?_;refine' Qc ?_ ?_
 rotate_left
 . intro g b;refine Zz ?_;refine' Vo ?_;exact Vi b
 refine Wg ?_ ?_<;>intro i
 . have d2:may2 k (bs nm) (bs wt)=true:=by rw [Zv3,Zv3] at i;unfold may2 hasN hasW;first|exact i|(rw [<-i];simp only [fB,eU];rfl)
   rw [if_pos d2] at f;refine Zm (q) ?_;exact ⟨_,rfl,by rw [f],rfl⟩
 have d2:may2 k (bs nm) (bs wt)=false:=by rw [Zv3,Zv3] at i;unfold may2 hasN hasW;first|exact i|(rw [<-i];simp only [fB,eU];rfl)
 rw [if_neg (by rw [d2];decide)] at f;refine Zz ?_;refine' Q1 ?_ ?_
 rotate_left
 . intro g b;refine Zz ?_;apply bD (Ly _ (.mk k1 l w l1 z p1 y1 t w1) (aS _) (d:=24) Zw ((Zx0 h).le leA));exact Vi b
 refine Zz ?_;refine' Qc ?_ ?_
 rotate_left
 . intro g b;refine Zz ?_;refine' Q1 ?_ ?_
   rotate_left
   . intro h2 M2;refine Zz ?_;apply bD (L8 (e:=(.mk k1 l w l1 z p1 y1 t w1)));exact Vi M2
   exact Vi b
 refine Zz ?_;refine' Qc ?_ ?_
 rotate_left
 . intro g b;refine Zz ?_;refine' Q1 ?_ ?_
   rotate_left
   . intro h2 M2;refine Zz ?_;apply bD (Ly _ (.mk k2 j u l2 y p2 o r p) (aS _) (d:=24) Zw ((Zxo h).le leA));exact Vi M2
   exact Vi b
 refine Zz ?_;refine' Qc ?_ ?_
 rotate_left
 . intro g b;refine Zz ?_;refine' Q1 ?_ ?_
   rotate_left
   . intro h2 M2;refine Zz ?_;apply bD (L8 (e:=(.mk k2 j u l2 y p2 o r p)));exact Vi M2
   exact Vi b
 refine Wg ?_ ?_<;>intro c3
 . have d3:Zjr k (Ex.er (.mk k1 l w l1 z p1 y1 t w1)) (Ex.er (.mk k2 j u l2 y p2 o r p))=true:=by unfold Zjr Ok;first|exact c3|(rw [<-c3];simp only [fB,eU];rfl)
   rw [if_pos d3] at f;refine Zm (q) ?_;exact ⟨_,rfl,by rw [f],rfl⟩
 have d3:Zjr k (Ex.er (.mk k1 l w l1 z p1 y1 t w1)) (Ex.er (.mk k2 j u l2 y p2 o r p))=false:=by unfold Zjr Ok;first|exact c3|(rw [<-c3];simp only [fB,eU];rfl)
 rw [if_neg (by rw [d3];decide)] at f;refine Zz ?_;refine' Vo ?_;refine Zz ?_;refine' Vo ?_;refine Zz ?_;refine' Qc ?_ ?_
 rotate_left
 . intro g b;refine Zz ?_;refine' Vo ?_;exact Vi b
 refine Wg ?_ ?_<;>intro c4
 . have d4:Zwf k body.length els.length=true:=by unfold Zwf;first|exact c4|(rw [<-c4];simp only [fB,eU];rfl)
   rw [if_pos d4] at f;refine Zm (q) ?_;exact ⟨_,rfl,by rw [f],rfl⟩
 have d4:Zwf k body.length els.length=false:=by unfold Zwf;first|exact c4|(rw [<-c4];simp only [fB,eU];rfl)
 rw [if_neg (by rw [d4];decide)] at f;refine Zz ?_;refine Wb (IH body ba bc (n+1) (by simp only [Stm.sz];omega) ((Zx1 h).le leA)) ?_;refine' Q1 ?_ ?_
 rotate_left
 . intro g b;refine Zz ?_;refine bD (IH els ea ec (n+1) (by simp only [Stm.sz];omega) ((Zxe h).le leA)) ?_;exact Vi b
 refine Zm (q) ?_;exact ⟨_,rfl,by rw [<-f],rfl⟩
def Cf (IH: ∀ (x:Stm) (n:Nat),x.sz<=Zn l-> ∀ {q},(Kn q fun M=>x.At M)->CF G 276 [.agg (stC x).toArray,I64 n] q (Ret fun v q'=>v= .bool (x.er.may n)/\q'=q))(h:Kn q fun M=>BlkAt M a c l):CF G 226 [.slice a l.length c,I64 n] (q) (Ret fun v q'=>v= .bool (Y2 (Zk l) n)/\q'=q):=by
 refine aE ntmps226 fun F cs=> ?_;have k:=Zyq h;refine gW (fun w s=>Zx8 (h.le leA) s) fun o=> ?_;refine Zs (bW (fun (s:Nat×Option Addr)=>s.1<=l.length/\s.2=a/\Y2 (Zk l) n=Y2 (Zk (l.drop s.1)) n) (fun s=> [(5,I64 (s.1:Int)),(0,.slice s.2 l.length c),(1,I64 n),(4,.bool false)]) (fun s=>(q++F)) (fun s=>l.length - s.1) (fun s e j=> ?_) (0,a) ⟨aZ _,rfl,rfl⟩);try dsimp only at e j|-
 obtain ⟨u,p,i⟩:=e;obtain ⟨s,a2⟩:=s;dsimp only at*;subst p;refine Zp ?_ ?_<;>intro y
 . have b:s<l.length:=Zq;have g:Y2 (Zk (l.drop s)) n=(l[s].er.may n && Y2 (Zk (l.drop (s+1))) n):=by rw [aP b];rfl
   refine Zz ?_;refine J9 k (by rw [Zx (f:=stC) (sz:=25) Z7 l];omega) fun z t r=> ?_;subst r;refine Zz ?_;refine Jb (n:=s) isAgg138 sizeOf138 k b ?_ (hf:=Z7);refine Zz ?_;apply bD (IH l[s] n (Qx (aC b)) ((Zx9 h b).le leA));refine Zp ?_ ?_<;>intro m
   . refine Zm (q) ?_;exact ⟨_,rfl,by rw [i,g,m];rfl,rfl⟩
   refine Zs (j (s+1,_) ⟨Zy,rfl,by rw [i,g,m];rfl⟩ Zy)
 obtain rfl:s=l.length:=by omega
 refine Zm (q) ?_;exact ⟨_,rfl,by rw [i,dU];rfl,rfl⟩
def may_ok: ∀ N:Nat,(∀ (x:Stm) (n:Nat),x.sz<=N-> ∀ {q},(Kn q fun M=>x.At M)->CF G 276 [.agg (stC x).toArray,I64 n] q (Ret fun v q'=>v= .bool (x.er.may n)/\q'=q))/\
 (∀ (m:List Stm) (a:Option Addr) (c n:Nat),Zn m<=N-> ∀ {q},(Kn q fun M=>BlkAt M a c m)->CF G 226 [.slice a m.length c,I64 n] q (Ret fun v q'=>v= .bool (Y2 (Zk m) n)/\q'=q)):=by
 intro N
 induction N with
 |zero=>
  have b: ∀ (x:Stm) (n:Nat),x.sz<=0-> ∀ {q:List HP},(Kn q fun M=>x.At M)->CF G 276 [.agg (stC x).toArray,I64 n] q (Ret fun v q'=>v= .bool (x.er.may n)/\q'=q):=fun x n d=>by cases x;simp [Stm.sz] at d
  exact ⟨b,fun m a c n e _ h=>Cf (fun x n d=>b x n Zq) h⟩
 |succ N ih=>
  have b: ∀ (x:Stm) (n:Nat),x.sz<=N+1-> ∀ {q:List HP},(Kn q fun M=>x.At M)->CF G 276 [.agg (stC x).toArray,I64 n] q (Ret fun v q'=>v= .bool (x.er.may n)/\q'=q):=fun x n d _ h=>Zvo (fun m a c n e=>ih.2 m a c n Zq) h
  exact ⟨b,fun m a c n e _ h=>Cf (fun x n d=>b x n Zq) h⟩
def Kn.dsL {l}(h:Kn q fun M=>DcsAt M a c l)(s:St G w q):l.length<=9223372036854775807:=h.fact (fun M h=>by have d:=h.1.1;have b:=h.1.2.1;simp [maxLen] at b;omega) s
variable {m:List Dec}
abbrev Ae {β:Type}(v0:Option Addr)(v1:List β)(v2:Nat):=([.slice v0 v1.length v2]:List Value)
def mayD_ok (h:Kn q fun M=>DcsAt M a c m):CR G 157 (Ae a m c) (q) (I64 (if (m.map Dec.er).any PDec.bad=true then 2 else 0)):=by
 refine aE ntmps157 fun F cs=> ?_;have v:=Zx6 h;refine gW (fun w s=>Kn.dsL (h.le leA) s) fun y=> ?_;refine Zs (bW (fun (s:Nat×Option Addr)=>s.1<=m.length/\s.2=a/\(m.map Dec.er).any PDec.bad=((m.drop s.1).map Dec.er).any PDec.bad) (fun s=> [(3,I64 (s.1:Int)),(0,.slice s.2 m.length c),(2,I64 0)]) (fun s=>(q++F)) (fun s=>m.length - s.1) (fun s i r=> ?_) (0,a) ⟨aZ _,rfl,rfl⟩);try dsimp only at i r|-
 obtain ⟨hs,ha,p⟩:=i;obtain ⟨s,a2⟩:=s;dsimp only at*;subst ha;refine Zp ?_ ?_<;>intro h0
 . have d:s<m.length:=Zq;have e:((m.drop s).map Dec.er).any PDec.bad=(m[s].er.bad||((m.drop (s+1)).map Dec.er).any PDec.bad):=by rw [aP d];rfl
   refine Zz ?_;refine J9 v (by rw [Zx (f:=dcC) (sz:=6) (fun _=>rfl) m];omega) fun b1 o1 e1=> ?_;subst e1;refine Zz ?_;refine Jb (n:=s) isAgg305 sizeOf305 v d ?_ (hf:=(fun _=>rfl));obtain ⟨x,t⟩: ∃ x,m[s]=x:=⟨_,rfl⟩;have u:=Kn.dsI h d;rw [t] at e u;apply aX 15 (.agg (dcC x).toArray) rfl (by rw [t]);obtain ⟨k,ln,cl,nm,z,body,ba,bc⟩:=x;have j:=Wr body;refine Zo zeroValue305 fun n1=> ?_
   refine Zz ?_;refine' Yi ?_;refine Zz ?_;refine' Qc ?_ ?_
   rotate_left
   . intro l b;refine Zz ?_;apply bD (Zjg (s:=nm));exact Vi b
   refine Zz ?_;refine' Qc ?_ ?_
   rotate_left
   . intro l b;refine Zz ?_;refine' Vo ?_;exact Vi b
   refine Zz ?_;refine' Yi ?_;refine Zz ?_;refine' Yi ?_;refine Zz ?_;refine' Qc ?_ ?_
   rotate_left
   . intro l b;refine Zz ?_;refine' Vo ?_;exact Vi b
   refine Zz ?_;refine' Qc ?_ ?_
   rotate_left
   . intro l b;refine Zz ?_;refine' Vo ?_;refine Zz ?_;refine' Vo ?_;refine Zz ?_;refine' Vo ?_;exact Vi b
   refine Zz ?_;refine' Qc ?_ ?_
   rotate_left
   . intro l b;refine Zz ?_;apply bD ((may_ok _).2 body ba bc 1 (aS _) (u.le leA));exact Vi b
   refine Wg ?_ ?_<;>intro o
   . have d1:PDec.bad (Dec.er ⟨k,ln,cl,nm,z,body,ba,bc⟩)=true:=by unfold PDec.bad Zwh;simp only [Dec.er,j];first|exact o|(rw [<-o];simp only [fB,eU];rfl)
     refine Zm (q) ?_;exact ⟨_,rfl,by rw [p,e,d1];rfl,rfl⟩
   have d1:PDec.bad (Dec.er ⟨k,ln,cl,nm,z,body,ba,bc⟩)=false:=by unfold PDec.bad Zwh;simp only [Dec.er,j];first|exact o|(rw [<-o];simp only [fB,eU];rfl)
   refine Zs (r (s+1,_) ⟨Zy,rfl,by rw [p,e,d1];rfl⟩ Zy)
 obtain rfl:s=m.length:=by omega
 refine Zm (q) ?_;exact ⟨_,rfl,by rw [p,dU];rfl,rfl⟩
end
structure PTh where
 nm:ByteArray
 loc:Int
 body:List PStm
structure Nm where
 t:ByteArray
 k:Int
 s:Int
structure Fnd where
 vars:List Int
 arrs:List Int
 mu:Int
 co:Int
 chs:List Int
 ths:List PTh
 main:Int
 stm:Int
 nv:List ByteArray
 na:List ByteArray
 nm:List ByteArray
 nc:List ByteArray
 nh:List ByteArray
 names:List Nm
 cells:Int
 locals:Int
 most:Int
 flaw:Int
variable {g:Fnd}
def Fnd.z:Fnd:=⟨[], [],0,0, [], [],0,0, [], [], [], [], [], [],0,0,0,0⟩
def Ro (l:List Nm)(s:ByteArray):Nat->Nat
 |0=>0
 |k+1=>if ((l.map fun x=>bs x.t).getD k []==bs s)=true then k+1 else Ro l s k
def Fnd.at (f:Fnd)(s:ByteArray):Nat:=Ro f.names s f.names.length
def Fnd.fl (f:Fnd)(why:Int):Fnd:=if f.flaw=0 then { f with flaw:=why } else f
def Fnd.decl1 (f:Fnd)(d:PDec):Fnd×Int×Bool:=
 if d.k=1 then (if d.n< -2147483648\/2147483647<d.n then (f.fl 134,0,false) else ({ f with vars:=f.vars++ [d.n],nv:=f.nv++ [d.nm] },f.vars.length,true))
 else if d.k=2 then (if (d.n<1\/256<d.n)\/256<f.cells+d.n then (f.fl 134,0,false) else ({ f with cells:=f.cells+d.n,arrs:=f.arrs++ [d.n],na:=f.na++ [d.nm] },f.arrs.length,true))
 else if d.k=3 then ({ f with mu:=f.mu+1,nm:=f.nm++ [d.nm] },f.mu,true)
 else if d.k=4 then ({ f with co:=f.co+1,nc:=f.nc++ [d.nm] },f.co,true)
 else if d.k=5 then (if d.n<1\/16<d.n then (f.fl 134,0,false) else ({ f with chs:=f.chs++ [d.n],nh:=f.nh++ [d.nm] },f.chs.length,true))
 else if d.k=6 then ({ f with ths:=f.ths++ [⟨d.nm,0, []⟩] },f.ths.length,true)
 else (f,0,true)
def Fnd.decl (f:Fnd)(d:PDec):Fnd:=
 if f.at d.nm≠0 then f.fl 130
 else if (f.decl1 d).2.2=false then (f.decl1 d).1
 else if 64<=(f.decl1 d).1.names.length then (f.decl1 d).1.fl 134
 else { (f.decl1 d).1 with names:=(f.decl1 d).1.names++ [⟨d.nm,d.k,(f.decl1 d).2.1⟩] }
def Fnd.wants (f:Fnd)(s:ByteArray)(a b:Int):Fnd×Int×Int:=
 match f.at s with
 |0=>(f.fl 131,0,0)
 |i+1=>let x:=(f.names.map fun x=>(x.k,x.s)).getD i (0,0)
  if (x.1 !=a && x.1 !=b)=true then (f.fl 132,0,0) else (f,x)
mutual
def Fnd.expr (f:Fnd):PEx->Fnd×PEx
 | .mk k n nm slot loc op args=>
  if k=2 then ((Fnd.exprs (f.wants nm 1 100).1 args).1,.mk k n nm (f.wants nm 1 100).2.2 ((f.wants nm 1 100).2.1==100) op (Fnd.exprs (f.wants nm 1 100).1 args).2)
  else if k=3 then ((Fnd.exprs (f.wants nm 2 2).1 args).1,.mk k n nm (f.wants nm 2 2).2.2 loc op (Fnd.exprs (f.wants nm 2 2).1 args).2)
  else ((Fnd.exprs f args).1,.mk k n nm slot loc op (Fnd.exprs f args).2)
def Fnd.exprs (f:Fnd):List PEx->Fnd×List PEx
 | []=>(f, [])
 |e::r=>((Fnd.exprs (f.expr e).1 r).1,(f.expr e).2::(Fnd.exprs (f.expr e).1 r).2)
end
def Nh (k:Int):Int×Int:=if k=2 then (1,100) else if k=3 then (2,2) else if k=6\/k=7 then (3,3) else if k=8\/k=9\/k=10 then (4,4) else if k=11\/k=12 then (5,5) else if k=13 then (6,6) else (0,0)
def Fnd.own1 (f:Fnd)(k:Int)(nm:ByteArray)(slot:Int)(loc:Bool):Fnd×Int×Bool:=
 if (Nh k).1≠0 then ((f.wants nm (Nh k).1 (Nh k).2).1,(f.wants nm (Nh k).1 (Nh k).2).2.2,(f.wants nm (Nh k).1 (Nh k).2).2.1==100) else (f,slot,loc)
def Fnd.loc1 (g:Fnd)(nm:ByteArray):Fnd:=if g.at nm≠0 then g.fl 130 else g
def Fnd.loc2 (g:Fnd):Fnd:=if 32<=g.locals then g.fl 134 else g
def Fnd.loc3 (g:Fnd)(nm:ByteArray):Fnd:= { g with names:=g.names++ [⟨nm,100,g.locals⟩],locals:=g.locals+1,most:=max g.most (g.locals+1) }
def Fnd.own2 (g:Fnd)(k:Int)(nm wt:ByteArray)(sl other:Int)(lo:Bool):Fnd×Int×Int×Bool:=
 if k=1 then ((g.loc1 nm).loc2.loc3 nm,(g.loc1 nm).loc2.locals,other,true)
 else if k=8 then ((g.wants wt 3 3).1,sl,(g.wants wt 3 3).2.2,lo)
 else if k=12 then ((g.wants wt 1 100).1,sl,(g.wants wt 1 100).2.2,(g.wants wt 1 100).2.1==100)
 else (g,sl,other,lo)
def Fnd.own (f:Fnd)(k:Int)(nm wt:ByteArray)(slot other:Int)(loc:Bool):Fnd×Int×Int×Bool:=
 Fnd.own2 (f.own1 k nm slot loc).1 k nm wt (f.own1 k nm slot loc).2.1 other (f.own1 k nm slot loc).2.2
mutual
def Fnd.stmt (f:Fnd):PStm->Fnd×PStm
 | .mk k ln cl nm wt e ix body els id slot other loc=>
  if 512<=f.stm then (f.fl 134,.mk k ln cl nm wt e ix body els id slot other loc)
  else
   let f1:=Fnd.expr { f with stm:=f.stm+1 } ix
   let f2:=Fnd.expr f1.1 e
   let f3:=Fnd.own f2.1 k nm wt slot other loc
   let f4:=Fnd.blk f3.1 body
   let f5:=Fnd.blk { f4.1 with names:=f3.1.names,locals:=f3.1.locals } els
   ({ f5.1 with names:=f3.1.names,locals:=f3.1.locals },.mk k ln cl nm wt f2.2 f1.2 f4.2 f5.2 f.stm f3.2.1 f3.2.2.1 f3.2.2.2)
/-- The statements of a block, as long as there is no flaw (names are not let go of here). -/
def Fnd.blk (f:Fnd):List PStm->Fnd×List PStm
 | []=>(f, [])
 |s::r=>if f.flaw=0 then ((Fnd.blk (f.stmt s).1 r).1,(f.stmt s).2::(Fnd.blk (f.stmt s).1 r).2) else (f, [])
end
def Fnd.block (f:Fnd)(l:List PStm):Fnd×List PStm:=({ (f.blk l).1 with names:=f.names,locals:=f.locals },(f.blk l).2)
def Fnd.decls (f:Fnd):List PDec->Fnd
 | []=>f
 |d::r=>if f.flaw=0 then Fnd.decls (f.decl d) r else f
def Fnd.bodies (f:Fnd)(i:Nat):List (List PStm)->Fnd
 | []=>f
 |b::r=>if f.flaw=0 then
  let g:=Fnd.block { f with most:=0 } b
  Fnd.bodies { g.1 with ths:=g.1.ths.set i ⟨(g.1.ths.getD i ⟨em,0, []⟩).nm,g.1.most,g.2⟩ } (i+1) r
  else f
def Ml:ByteArray:=⟨#[109,97,105,110]⟩
def Ci (ds:List PDec):Option Fnd:=
 if ds.any PDec.bad=true then none else
 let f:=Fnd.decls .z ds
 let f1:=if f.flaw=0/\(f.at Ml=0\/((f.names.map (·.k)).getD (f.at Ml - 1) 0)≠6) then f.fl 133 else f
 let f2:=Fnd.bodies f1 0 ((ds.filter fun d=>d.k==6).map (·.body))
 if f2.flaw≠0 then none else some { f2 with main:=(f2.names.map (·.s)).getD (f.at Ml - 1) 0 }
def U6 (l:Bs):Option Fnd:=match Kd l with
 |none=>none
 |some ds=>Ci ds
structure Sv (α:Type) where
 l:List α
 a:Option Addr
 c:Nat
variable {x:Sv Int}{y:Sv ByteArray}
def Sv.v {α:Type}(x:Sv α):Value:= .slice x.a x.l.length x.c
def Sv.z {α:Type}:Sv α:=⟨[],none,0⟩
structure Th where
 nm:ByteArray
 loc:Int
 body:List Stm
 a:Option Addr
 c:Nat
def nmC (x:Nm):List Value:= [.string x.t,I64 x.k,I64 x.s]
def thC (x:Th):List Value:= [.string x.nm,I64 x.loc,.slice x.a x.body.length x.c]
def Th.er (x:Th):PTh:=⟨x.nm,x.loc,Zk x.body⟩
structure FC where
 vars:Sv Int
 arrs:Sv Int
 mu:Int
 co:Int
 chs:Sv Int
 ths:Sv Th
 main:Int
 stm:Int
 nv:Sv ByteArray
 na:Sv ByteArray
 nm:Sv ByteArray
 nc:Sv ByteArray
 nh:Sv ByteArray
 names:Sv Nm
 cells:Int
 locals:Int
 most:Int
 pl:Int
 pc:Int
 flaw:Int
variable {f:FC}
def fcC (f:FC):List Value:= [f.vars.v,f.arrs.v,I64 f.mu,I64 f.co,f.chs.v,f.ths.v,I64 f.main,I64 f.stm,f.nv.v,f.na.v,f.nm.v,f.nc.v,f.nh.v,f.names.v,I64 f.cells,I64 f.locals,I64 f.most,I64 f.pl,I64 f.pc,I64 f.flaw]
def FC.er (f:FC):Fnd:=⟨f.vars.l,f.arrs.l,f.mu,f.co,f.chs.l,f.ths.l.map Th.er,f.main,f.stm,f.nv.l,f.na.l,f.nm.l,f.nc.l,f.nh.l,f.names.l,f.cells,f.locals,f.most,f.flaw⟩
def iC (x:Int):List Value:= [I64 x]
def sC (x:ByteArray):List Value:= [.string x]
def Sv.At {α:Type}(M:Hp)(f:α->List Value)(x:Sv α):Prop:=SlAt M x.a x.c x.l.length (x.l.flatMap f)
def Sv.At.mono {α}{f}{x:Sv α}(e:Hle M M')(h:x.At M f):x.At M' f:=fD e h
def Ths.At (M:Hp)(l:List Th):Prop:= ∀ x∈l,BlkAt M x.a x.c x.body
structure FC.At (M:Hp) (f:FC):Prop where
 vars:f.vars.At M iC
 arrs:f.arrs.At M iC
 chs:f.chs.At M iC
 ths:f.ths.At M thC
 bod:Ths.At M f.ths.l
 nv:f.nv.At M sC
 na:f.na.At M sC
 nm:f.nm.At M sC
 nc:f.nc.At M sC
 nh:f.nh.At M sC
 names:f.names.At M nmC
def FC.At.mono (e:Hle M M')(h:f.At M):f.At M':=⟨h.vars.mono e,h.arrs.mono e,h.chs.mono e,h.ths.mono e,fun x hx=>(h.bod x hx).mono e,h.nv.mono e,h.na.mono e,h.nm.mono e,h.nc.mono e,h.nh.mono e,h.names.mono e⟩
def fcM (f:FC):HP:=lst (fun M=>f.At M) fun e h=>FC.At.mono e h
def svM {α:Type}(f:α->List Value)(x:Sv α):HP:=lst (fun M=>x.At M f) fun e h=>Sv.At.mono e h
section
variable {α:Type}{g:α->List Value}{x:Sv α}
def Kn.fc:Kn (fcM f::q) fun M=>f.At M:=fJ
def Sv.sees (h:Kn q fun M=>x.At M g):Sees q x.a (x.l.flatMap g):=eP (h.imp fun M h=>h.2.2)
abbrev eB:=@Sv.sees
def Sv.len (h:Kn q fun M=>x.At M g)(s:St G w q):x.l.length<=9223372036854775807:=h.fact (fun M h=>by have b:=h.1;have a:=h.2.1;simp [maxLen] at a;omega) s
def I6 (M:Hp):(Sv.z:Sv α).At M g:=SlAt.nil M
def Ql (l:List Int):l.flatMap iC=l.map (Value.int .i64):=by induction l with
 |nil=>rfl
 |cons x r ih=>rw [cM,ih];rfl
def Qr (l:List ByteArray):l.flatMap sC=l.map Value.string:=by induction l with
 |nil=>rfl
 |cons x r ih=>rw [cM,ih];rfl
end
def Fnd.le (N:Nat)(f:Fnd):Prop:=f.vars.length<=N/\f.arrs.length<=N/\f.chs.length<=N/\f.ths.length<=N/\f.nv.length<=N/\f.na.length<=N/\f.nm.length<=N/\f.nc.length<=N/\f.nh.length<=N/\f.names.length<=N/\(0<=f.mu/\f.mu<=N)/\(0<=f.co/\f.co<=N)/\(0<=f.cells/\f.cells<=256)
def Bp {l}{s}: ∀ {k},Ro l s k<=k
 |0=>aS _
 |k+1=>by unfold Ro;split;exact aS _;exact Nat.le_succ_of_le Bp
section
variable {k:List Item}{r:List HP}{lo:List Oper}{α:Type}{f:α->List Value}{fe:α->Value}{sz ty:Nat}{a b:Option Addr}{c c':Nat}{l m:List α}{f':α->List Value}
def I5 {d:Option Tmp}{ty':TypeId}{pos:String}{af:Array Edge}{gd:Option (Nat×Bool)}{x y:Operand}{t:TypeId}{z:Value}(ht:P.underlying t=some (.slice ty))(hi:(P.info? ty).map (fun i=>(i.zero,i.size,i.bytes))=some (some z,sz,bytes))(hz:z.cells.size=sz)(hsz:Nat.blt 0 sz=true)(hf: ∀ x,(f x).length=sz)
 (hx:evp p x=some (.slice a l.length c)) (hy:evp p y=some (.slice b m.length c')) (hq:Le q (Wx.rsH f sz ty a c l::r)) (hs:Sees q b (m.flatMap f)) (h1: ∀ x,(f x).all (·.oneCell')=true)
 (h63:l.length+m.length<=9223372036854775807) (hby:(l.length+m.length)*bytes<=140737488355328) (E:List HP):
 Ef P G p (q++E) ⟨d,.call ⟨.builtin .append, [x,y].toArray, [t,t].toArray⟩,ty',pos,af,gd⟩ fun v q'=> ∃ q1,(∃ a' c',v= .slice a' (l++m).length c'/\q1=Wx.rsH f sz ty a' c' (l++m)::r)/\q'=q1++E:=by
 intro k w u s;obtain ⟨v,j,q',g,e,a',h,o,n⟩:=Z9 (P:=P) (G:=G) (d:=d) (ty':=ty') (pos:=pos) (af:=af) (gd:=gd) (r:=r++E) ht hi hz hsz hf hx hy (hq.liftR E) (hs.le (Wi q E)) h1 h63 hby k w u s;exact ⟨v,j,q',g,e,_,⟨a',h,o,rfl⟩,n⟩
def H8 (hm: ∀ l:List α,l.flatMap f'=l.map fe)(K:X P G fr Q todo p ds cs (svM f' ⟨l,a,c⟩::q0))(hq:Le q (Wx.lsH fe ty a c l::q0):=by exact Zj):X P G fr Q todo p ds cs q:=by
 unfold Wx.lsH at hq;exact .frz (sz:=1) (ty:=ty) (n:=l.length) (vs:=l.map fe) (Kn.here.imp fun M h=>by show SlAt M a c l.length (l.flatMap f');rw [hm];exact h) K hq
def Zkr (K:X P G fr Q todo p ds cs (svM f ⟨l,a,c⟩::q0))(hq:Le q (Wx.rsH f sz ty a c l::q0):=by exact Zj):X P G fr Q todo p ds cs q:= .frzR fJ K hq
def svK {x:Sv α}(h:Kn q fun M=>x.At M f:=by exact knA):Kn q fun M=>x.At M f:=h
end
def Zwc {q q':List HP}(h:Le q' q)(o:Oper): ∀ {L:Rds},HL q L->HL q' (cut o L)
 | [],_=>trivial
 |(i,b,y,v)::r,⟨a,c⟩=>by
  unfold cut
  cases onB o i with
  |true=>exact Zwc h o c
  |false=>exact ⟨a.le h,Zwc h o c⟩
section
variable {f:Fc}{k:List Item}{pk:PE}{L:Rds}{n:Nat}{done:List Nat}{α:Type}{fe:α->Value}{l:List α}{u:α}{t e:TypeId}{z:Value}{c d1 dl d3:Nat}{a:Option Addr}{x x1 y1 x3 y3:Operand}{T1 T2 T3:TypeId}{p1 p2 p3:String}{a1 a2 a3:Array Edge}{g1 g2 g3:Option (Nat×Bool)}
abbrev oA (d:Nat)(x y:Operand)(t T:TypeId)(p:String)(a:Array Edge)(g:Option (Nat×Bool)):Oper:=⟨some d,.call ⟨.builtin .append, [x,y].toArray, [t,t].toArray⟩,T,p,a,g⟩
abbrev oB (d:Nat)(x:Operand)(t T:TypeId)(p:String)(a:Array Edge)(g:Option (Nat×Bool)):Oper:=⟨some d,.buildSlice t 1 [(0,x)].toArray,T,p,a,g⟩
abbrev fE (m d:Nat)(fe:α->Value)(e:TypeId)(u:α):FlE:=⟨m,d,fun g=> .slice (some ⟨g,0,none⟩) 1 1,fun g=>lsH fe e (some ⟨g,0,none⟩) 1 [u]⟩
def Ba (i m j:Nat)(ht:P.underlying t=some (.slice e))(hi:(P.info? e).map (fun i=>(i.zero,i.size,i.bytes))=some (some z,1,bytes))(hs:Sees q a (l.map fe))
 (K: ∀ aa ac ba bc g,XD P G f Q ops k pk (cut (oA d3 x3 y3 t T3 p3 a3 g3) (cut (oA d1 x1 y1 t T1 p1 a1 g1) L)) n (j::m::i::done) ((d3,.slice ba (l++ [u]).length bc)::(dl,.slice (some ⟨g,0,none⟩) 1 1)::(d1,.slice aa l.length ac)::p) ds cs (lsH fe e ba bc (l++ [u])::lsH fe e (some ⟨g,0,none⟩) 1 [u]::q))
 (hz:z.cells.size=1:=by rfl) (hc: ∀ u,(fe u).cells= #[fe u]:=by exact fun _=>rfl) (h1: ∀ u,(fe u).oneCell'=true:=by exact fun _=>rfl) (hl:(l.length+1)*bytes<=140737488355328/\l.length+1<=9223372036854775807:=by omega)
 (ho1:ops[i]? =some (oA d1 x1 y1 t T1 p1 a1 g1):=by rfl) (hol:ops[m]? =some (oB dl x t T2 p2 a2 g2):=by rfl) (ho3:ops[j]? =some (oA d3 x3 y3 t T3 p3 a3 g3):=by rfl)
 (hx1:evp p x1=some (.slice none 0 0):=by rfl) (hy1:evp p y1=some (.slice a l.length c):=by rfl) (hx:evp p x=some (fe u):=by rfl) (hx': ∀ v,evp ((d1,v)::p) x=some (fe u):=by exact fun _=>rfl)
 (hx3: ∀ v w,evp ((dl,w)::(d1,v)::p) x3=some v:=by exact fun _ _=>rfl) (hy3: ∀ v w,evp ((dl,w)::(d1,v)::p) y3=some w:=by exact fun _ _=>rfl)
 (hL:HL q L:=by exact hlA)
 (r1:rdy ops done m=true/\rdy ops (i::done) m=true/\rdy ops done i=true/\rdy ops (m::i::done) j=true/\onlyF ops [m] done i=true/\Ut ops (m::i::done) j=true/\((List.range ops.length).all fun y=> [m].contains y|| !rdy ops (i::done) y)=true/\ [m].contains i=false:=by decide)
 (r2:Nat.blt d1 f.n=true/\Nat.blt dl f.n=true/\Nat.blt d3 f.n=true/\Mv p dl=true/\(∀ v,Mv ((d1,v)::p) dl=true):=by exact ⟨rfl,rfl,rfl,rfl,fun _=>rfl⟩)
 (r3:Wt ops p (oB dl x t T2 p2 a2 g2)=some true/\(∀ v,Wt ops ((d1,v)::p) (oB dl x t T2 p2 a2 g2)=some true)/\Wt ops p (oA d1 x1 y1 t T1 p1 a1 g1)=some true/\(∀ v w,Wt ops ((dl,w)::(d1,v)::p) (oA d3 x3 y3 t T3 p3 a3 g3)=some true):=by exact ⟨rfl,fun _=>rfl,rfl,fun _ _=>rfl⟩):
 XD P G f Q ops k pk L (n+3) done p ds cs q:=by
 have d: ∀ (p:PE),evp p x=some (fe u)-> ∀ q,Ef P G p q (oB dl x t T2 p2 a2 g2) fun v q'=> ∃ g,v= .slice (some ⟨g,0,none⟩) 1 1/\q'=lsH fe e (some ⟨g,0,none⟩) 1 [u]::q:=fun p h q=>Qu fe [u] ht hi hz (by simp [evl,h]) rfl rfl rfl rfl hc
 have o:l.length*bytes<=140737488355328:=dO (eQ bytes (iZ _)) hl.1;have b: ∀ x:HP,Le (x::q) q:=fun x=>dS x q
 apply XD.le (q':=lsH fe e none 0 []::q) (Yy _ _ _);refine Vd (fl:= [fE m dl fe e u]) ?_;refine XF.ef i ⟨⟨_,hol,rfl,r1.1,r3.1,r2.2.1,r2.2.2.2.1,d p hx⟩,trivial⟩ (Ef.appE (fe:=fe) (l:= []) (m:=l) ht hi hz hx1 hy1 (aG _) (hs.le (b _)) h1 Zi (by simpa using o)) ?_ ho1 (HL.le (b _) hL) r1.2.2.2.2.1 r1.2.2.2.2.2.2.2 r1.2.2.1 r3.2.2.1 r2.1 rfl;rintro _ _ ⟨aa,ac,rfl,rfl⟩;refine ⟨Zwc (b _) _ hL,?_⟩;refine XF.absorb (e0:=fE m dl fe e u) m Zf ⟨⟨_,hol,rfl,r1.2.1,r3.2.1 _,r2.2.1,r2.2.2.2.2 _,d _ (hx' _)⟩,trivial⟩ (Zwc (b _) _ hL) (fun g=> ?_) Zf (by simpa using r1.2.2.2.2.2.2.1) rfl;have r:([fE m dl fe e u].filter fun y=> !(y.i==m))= []:=Zf;rw [r];refine fR ?_ (Zwc ((dS _ _).trans (b _)) _ hL);rw [bL];refine eT j ho3 (Wu (f:=fe) (l:=l) (m:= [u]) ht hi hz (hx3 _ _) (hy3 _ _) (iL _ _ _) (bV _) h1 Zi (by simpa using hl.1)) ?_ r1.2.2.2.2.2.1 r1.2.2.2.1 (r3.2.2.2 _ _) r2.2.2.1;rintro _ _ ⟨ba,bc,rfl,rfl⟩;exact ⟨Zwc (aG _) _ (Zwc ((dS _ _).trans ((dS _ _))) _ hL),K aa ac ba bc g⟩
end
section
variable {s:ByteArray}{why a b k:Int}
def Zb1 (h:Kn q fun M=>f.At M):CR G 159 [.agg (fcC f).toArray,.string s] (q) (I64 ((f.er.at s:Int) - 1)):=by
 refine aE ntmps159 fun F cs=> ?_;have u:Kn q fun M=>f.names.At M nmC:=h.imp fun M h=>h.names
 have n:=eB u;have b:=Zx (f:=nmC) (sz:=3) (fun _=>rfl) f.names.l;refine gW (fun w s=>Sv.len (u.le leA) s) fun i=> ?_;obtain ⟨⟨a,na,o⟩,g⟩: ∃ x,f.names=x:=⟨_,rfl⟩;rw [g] at n b i;dsimp only at n b i;refine Yb fun p=> ?_
 refine rn [6,0]<|aX 7 (.slice na a.length o) rfl (by show f.names.v=_;rw [g];rfl) ?_;refine Zs (bW (fun (k:Nat×Option Addr)=>k.1<=a.length/\Ro a s a.length=Ro a s k.1) (fun k=> [(5,I64 ((k.1:Int) - 1)),(2,pt p),(1,.string s),(4,I64 0)]) (fun k=>pC p (fcC f) 316::(q++F)) (fun k=>k.1) (fun k e r=> ?_) (a.length,none) ⟨aS _,rfl⟩);try dsimp only at e r|-
 obtain ⟨k,kx⟩:=k;dsimp only at*;refine Zp ?_ ?_<;>intro h0
 . obtain ⟨k,rfl⟩: ∃ j,k=j+1:=⟨k - 1,Zq⟩;apply fQ 5 (Ad k) rfl (aQ (Value.int .i64) Zq);have d:Ro a s (k+1)=if (bs a[k].t==bs s)=true then k+1 else Ro a s k:=by rw [Ro,gD (by simpa using Zq)];simp
   refine Ye<|aX 15 (.slice na a.length o) rfl (by show f.names.v=_;rw [g];rfl) ?_;refine Ye ?_;refine J9 n (by rw [b];omega) fun b1 o1 e1=> ?_;subst e1;refine Zp ?_ ?_<;>intro y
   . refine Zm (q) ?_;exact ⟨_,rfl,by rw [show f.er.at s=Ro a s a.length by simp only [Fnd.at,FC.er,g],e.2,d,if_pos (sTr y)];congr 1;omega,rfl⟩
   refine Zs (r (k,none) ⟨Zy,by rw [e.2,d,if_neg (by rw [sNe y];decide)]⟩ Zy)
 obtain rfl:k=0:=by omega
 refine Zm (q) ?_;exact ⟨_,rfl,by rw [show f.er.at s=Ro a s a.length by simp only [Fnd.at,FC.er,g],e.2];rfl,rfl⟩
def Jz (h:Kn q fun M=>f.At M):CF G 160 [.agg (fcC f).toArray,I64 why,.agg (Al pl pc).toArray] (q) (Ret fun v q'=> ∃ g:FC,v= .agg (fcC g).toArray/\q'=fcM g::q/\g.er=f.er.fl why):=by
 refine aE ntmps160 fun F cs=> ?_;refine Yb fun d=> ?_
 refine Yb fun c=> ?_
 refine Zo zeroValue316 fun b=> ?_
 refine Zp ?_ ?_<;>intro a
 . replace a:f.flaw=0:=a;refine rn [1,0,1,2,3,4,5,6,0,2,0,0,1] ?_;refine cE (q':=fcM { f with flaw:=why,pl:=pl,pc:=pc } ::_) (dP ((cO h).imp fun M h=>⟨h.vars,h.arrs,h.chs,h.ths,h.bod,h.nv,h.na,h.nm,h.nc,h.nh,h.names⟩)) ?_;refine Zg ?_;exact ⟨_,⟨_,rfl, { f with flaw:=why,pl:=pl,pc:=pc },rfl,rfl,by unfold Fnd.fl;rw [if_pos (show f.er.flaw=0 from a)];rfl⟩,leA⟩
 replace a: ¬f.flaw=0:=a;refine Zz ?_;apply cE (q':=fcM f::_) (dP (cO h));refine Zm (fcM f::q) ?_;exact ⟨_,rfl,f,rfl,rfl,by unfold Fnd.fl;rw [if_neg (show ¬f.er.flaw=0 from a)]⟩
def tinfo2:(prog.info? 2).map (fun i=>(i.zero,i.size,i.bytes))=some (some (I64 0),1,8):=by kernel_rfl
def Hx:(prog.info? 321).map (fun i=>(i.zero,i.size,i.bytes))=some (some (.agg #[.string ⟨#[]⟩,I64 0,I64 0]),3,32):=by kernel_rfl
def R9:(prog.info? 218).map (fun i=>(i.zero,i.size,i.bytes))=some (some (.agg #[.string ⟨#[]⟩,I64 0,.slice none 0 0]),3,48):=by kernel_rfl
theorem wants_ok (h:Kn q fun M=>f.At M):CF G 279 [.agg (fcC f).toArray,.string s,I64 a,I64 b,.agg (Al pl pc).toArray] (q) (Ret fun v q'=> ∃ (g:FC) (x:Nm),v= .tuple [.agg (fcC g).toArray,.agg (nmC x).toArray].toArray/\q'=fcM g::q/\(g.er,x.k,x.s)=f.er.wants s a b):=by
 refine aE ntmps279 fun F cs=> ?_;have hN:Kn q fun M=>f.names.At M nmC:=h.imp fun M h=>h.names
 have o:=eB hN;have e:=Zx (f:=nmC) (sz:=3) (fun _=>rfl) f.names.l;obtain ⟨⟨d,na,p⟩,n⟩: ∃ x,f.names=x:=⟨_,rfl⟩;rw [n] at o e;dsimp only at o e;have a0:f.er.at s=Ro d s d.length:=by simp only [Fnd.at,FC.er,n]
 obtain ⟨W,c⟩: ∃ W,f.er.wants s a b=W:=⟨_,rfl⟩;rw [c];unfold Fnd.wants at c;refine Yb fun n1=> ?_
 refine Yb fun n2=> ?_
 refine Zo zeroValue316 fun n3=> ?_
 refine Zo zeroValue321 fun n4=> ?_
 refine Zz ?_;apply bD (Zb1 (f:=f) (h.le leA));refine Zp ?_ ?_<;>intro y
 . replace y:f.er.at s=0:=by omega
   refine Zz ?_;apply Zv (aG _) (Jz (f:=f) (h.le leA));rintro _ _ ⟨g,rfl,rfl,r⟩;refine Zz ?_;rw [y] at c;dsimp only at c;refine Zm (fcM g::q) ?_;exact ⟨_,rfl,g,⟨⟨#[]⟩,0,0⟩,rfl,rfl,by rw [<-c,r]⟩
 obtain ⟨i,u⟩: ∃ i,f.er.at s=i+1:=⟨f.er.at s - 1,Zq⟩;have j:i<d.length:=by have:=Bp (l:=d) (s:=s) (k:=d.length);omega
 apply fQ 12 (Ad i) rfl (aQ (Value.int .i64) Zq);refine Ye ?_;refine aX 23 (.slice na d.length p) rfl (by show f.names.v=_;rw [n];rfl) ?_;refine Ye ?_;refine J9 o (by rw [e];omega) fun z t e1=> ?_;subst e1;refine Zz ?_;refine' Q1 ?_ ?_
 rotate_left
 . intro w M1;refine Zz ?_;refine aX 32 (.slice (some ⟨z,t,none⟩) d.length p) rfl (by show f.names.v=_;rw [n];rfl) ?_;exact Vi M1
 refine Zp ?_ ?_<;>intro w
 . refine Zz ?_;apply Zv (aG _) (Jz (f:=f) (h.le leA));rintro _ _ ⟨g,rfl,rfl,r⟩;refine Zz ?_;rw [u] at c;dsimp only at c;rw [show ((f.er.names.map fun x=>(x.k,x.s)).getD i (0,0))=(d[i].k,d[i].s) by rw [show f.er.names=d by simp only [FC.er,n],gD (by simpa using j)];simp] at c;dsimp only at c;rw [if_pos (by simpa using w)] at c;refine Zm (fcM g::q) ?_;exact ⟨_,rfl,g,⟨⟨#[]⟩,0,0⟩,rfl,rfl,by rw [<-c,r]⟩
 refine Zz ?_;refine dW 46 (.slice (some ⟨z,t,none⟩) d.length p) rfl (by show f.names.v=_;rw [n];rfl) ?_;refine Zz ?_;apply XD.ldS 5 (m:=i) isAgg321 sizeOf321 o j;refine stAD 6 ?_ (hh:=hlR);refine rn [8,0] ?_;rw [u] at c;dsimp only at c;rw [show ((f.er.names.map fun x=>(x.k,x.s)).getD i (0,0))=(d[i].k,d[i].s) by rw [show f.er.names=d by simp only [FC.er,n],gD (by simpa using j)];simp] at c;dsimp only at c;rw [if_neg (fun hx=>by simp at hx;omega)] at c;apply cE (q':=fcM f::_) (dP (cO h));refine Zm (fcM f::q) ?_;exact ⟨_,rfl,f,d[i],rfl,rfl,c⟩
def want_ok:CR G 278 [I64 k] (q) (.tuple [I64 (Nh k).1,I64 (Nh k).2].toArray):=by
 refine aE ntmps278 fun F cs=> ?_;refine Zp ?_ ?_<;>intro j
 rotate_left
 focus
  refine Zp ?_ ?_<;>intro i
  rotate_left
  focus
   refine Zp ?_ ?_<;>intro h
   rotate_left
   focus
    refine Zp ?_ ?_<;>intro g
    rotate_left
    focus
     refine Zp ?_ ?_<;>intro f
     rotate_left
     focus
      refine Zp ?_ ?_<;>intro e
      rotate_left
      focus
       refine Zp ?_ ?_<;>intro d
       rotate_left
       focus
        refine Zp ?_ ?_<;>intro c
        rotate_left
        focus
         refine Zp ?_ ?_<;>intro b
         rotate_left
         focus
          refine Zp ?_ ?_<;>intro a
          rotate_left
 all_goals
  refine Zm (q) ?_;exact ⟨_,rfl,by unfold Nh;repeat (first|rw [if_pos Zq]|rw [if_neg Zq]),rfl⟩
end
def FC.At.v (h:f.At M)(h1:x.At M iC)(h2:y.At M sC):({ f with vars:=x,nv:=y } :FC).At M:=⟨h1,h.arrs,h.chs,h.ths,h.bod,h2,h.na,h.nm,h.nc,h.nh,h.names⟩
def FC.At.a {c}(h:f.At M)(h1:x.At M iC)(h2:y.At M sC):({ f with cells:=c,arrs:=x,na:=y } :FC).At M:=⟨h.vars,h1,h.chs,h.ths,h.bod,h.nv,h2,h.nm,h.nc,h.nh,h.names⟩
def FC.At.m {c}(h:f.At M)(h2:y.At M sC):({ f with mu:=c,nm:=y } :FC).At M:=⟨h.vars,h.arrs,h.chs,h.ths,h.bod,h.nv,h.na,h2,h.nc,h.nh,h.names⟩
def FC.At.c {M}{f:FC}{y}{c}(h:f.At M)(h2:y.At M sC):({ f with co:=c,nc:=y } :FC).At M:=⟨h.vars,h.arrs,h.chs,h.ths,h.bod,h.nv,h.na,h.nm,h2,h.nh,h.names⟩
def FC.At.h {M}{f:FC}{x}{y}(h:f.At M)(h1:x.At M iC)(h2:y.At M sC):({ f with chs:=x,nh:=y } :FC).At M:=⟨h.vars,h.arrs,h1,h.ths,h.bod,h.nv,h.na,h.nm,h.nc,h2,h.names⟩
def FC.At.t {x}(h:f.At M)(h1:x.At M thC)(h2:Ths.At M x.l):({ f with ths:=x } :FC).At M:=⟨h.vars,h.arrs,h.chs,h1,h2,h.nv,h.na,h.nm,h.nc,h.nh,h.names⟩
def FC.At.n {x}(h:f.At M)(h1:x.At M nmC):({ f with names:=x } :FC).At M:=⟨h.vars,h.arrs,h.chs,h.ths,h.bod,h.nv,h.na,h.nm,h.nc,h.nh,h1⟩
def svI (h:Kn q fun M=>x.At M iC):Sees q x.a (x.l.map I64):=by rw [<-Ql];exact eB h
def svS {x:Sv ByteArray}(h:Kn q fun M=>x.At M sC):Sees q x.a (x.l.map Value.string):=by rw [<-Qr];exact eB h
section
variable {d:Dec}
def Zw7 (h:Kn q fun M=>f.At M)(hb:f.er.le 100000)(hk:1<=d.k/\d.k<=6)(hd: -2147483647<=d.n/\d.n<=2147483647):CF G 158 [.agg (fcC f).toArray,.agg (dcC d).toArray] (q) (Ret fun v q'=> ∃ g:FC,v= .agg (fcC g).toArray/\q'=fcM g::q/\g.er=f.er.decl d.er):=by
 refine aE ntmps158 fun F cs=> ?_;obtain ⟨k,ln,cl,nm,z,body,ba,bc⟩:=d;dsimp only at hk hd;obtain ⟨a1,z0,y0,g0,x0,w0,v0,u0,t0,p,⟨n0,m0⟩,⟨l0,k0⟩,j0,i0⟩:=hb;dsimp only [FC.er] at a1 z0 y0 g0 x0 w0 v0 u0 t0 p n0 m0 l0 k0 j0 i0;rw [aI] at g0;obtain ⟨R,r⟩: ∃ R,f.er.decl (Dec.er ⟨k,ln,cl,nm,z,body,ba,bc⟩)=R:=⟨_,rfl⟩;rw [r];obtain ⟨D,i⟩: ∃ D,f.er.decl1 ⟨k,ln,cl,nm,z,Zk body⟩=D:=⟨_,rfl⟩;replace r:(if f.er.at nm≠0 then f.er.fl 130 else if D.2.2=false then D.1 else if 64<=D.1.names.length then D.1.fl 134 else { D.1 with names:=D.1.names++ [⟨nm,k,D.2.1⟩] })=R:=by rw [<-i];exact r
 refine Yb fun n1=> ?_
 refine Yb fun n2=> ?_
 refine Zo zeroValue316 fun n3=> ?_
 refine Zz ?_;apply bD (Zb1 (f:=f) (h.le leA));refine Zp ?_ ?_<;>intro h0
 . rw [if_pos (show f.er.at nm≠0 by omega)] at r;refine Zz ?_;apply Zv (aG _) (Jz (f:=f) (h.le leA));rintro _ _ ⟨g,rfl,rfl,hg⟩;refine Zm (fcM g::q) ?_;exact ⟨_,rfl,g,rfl,rfl,hg.trans r⟩
 rw [if_neg (show ¬f.er.at nm≠0 by omega)] at r;unfold Fnd.decl1 at i;dsimp only at i;refine rn [10,0,1] ?_;refine iG (fun (x:FC×Int)=> [(5,I64 x.2),(2,pt n1),(3,pt n2),(4,pt n3)]) (fun x=>fcM x.1::pC n1 (fcC x.1) 316::pC n2 (dcC ⟨k,ln,cl,nm,z,body,ba,bc⟩) 305::pC n3 zz6 316::(q++F)) (fun x=>D=(x.1.er,x.2,true)/\x.1.names.l.length<=100000) (fun x f0=> ?_) fun K=> ?_
 . obtain ⟨g,n⟩:=x;dsimp only at f0|-;obtain ⟨r0,b1⟩:=f0;rw [r0] at r;dsimp only at r;rw [if_neg (show ¬true=false by decide)] at r;refine rn [4,0,3] ?_;refine xp 217 ?_ ?_<;>intro h1
   . rw [if_pos (show 64<=g.er.names.length by simp only [FC.er];omega)] at r;refine rn [3,0,1,0] ?_;apply Zv (aG _) (Jz (f:=g) knA);rintro _ _ ⟨g2,rfl,rfl,hg⟩;refine rn [0,1] ?_;refine Zl (fcM g2::q) func158 (rA_ results158) ⟨_,rfl,g2,rfl,rfl,hg.trans r⟩
   rw [if_neg (show ¬64<=g.er.names.length by simp only [FC.er];omega)] at r;refine rn [3,0,1,2,4,5,6,7,8,9] ?_;apply XD.le (q':=rsH nmC 3 321 none 0 ([])::_) (Zc nmC 3 321 _);refine Vd (fl:= [⟨9,231,fun g=> .slice (some ⟨g,0,none⟩) 1 1,fun g=>rsH nmC 3 321 (some ⟨g,0,none⟩) 1 ([⟨nm,k,n⟩])⟩]) ?_;refine XF.ef 2 ⟨⟨_,rfl,rfl,rfl,rfl,rfl,rfl,fun q=>Yw (u:=⟨nm,k,n⟩) nmC underlying314 Hx rfl rfl (fun _=>rfl) rfl⟩,trivial⟩ (I5 (f:=nmC) (sz:=3) (l:= []) (m:=g.names.l) underlying314 Hx rfl rfl (fun _=>rfl) rfl rfl Zj (eB (lB (φ:=fun M=>g.At M) knA fun M h=>h.names)) (fun _=>rfl) Zi Zi) ?_;refine kk2 fun aa ac=> ?_
   refine Qs (e0:=⟨9,231,fun g=> .slice (some ⟨g,0,none⟩) 1 1,fun g=>rsH nmC 3 321 (some ⟨g,0,none⟩) 1 ([⟨nm,k,n⟩])⟩) (hnd:=by simp) 9 ⟨⟨_,rfl,rfl,rfl,rfl,rfl,rfl,fun q=>Yw (u:=⟨nm,k,n⟩) nmC underlying314 Hx rfl rfl (fun _=>rfl) rfl⟩,trivial⟩ fun gl=> ?_;change XF _ _ _ _ _ _ _ [] _ _ _ ((231,.slice (some ⟨gl,0,none⟩) 1 1)::_) _ _ (rsH nmC 3 321 (some ⟨gl,0,none⟩) 1 ([⟨nm,k,n⟩])::_);refine fR ?_;try rw [bL]
   refine eT 10 rfl (Z9 (f:=nmC) (l:=g.names.l) (m:= [⟨nm,k,n⟩]) underlying314 Hx rfl rfl (fun _=>rfl) rfl rfl Zj ((bJ _).le Zj) (fun _=>rfl) Zi Zi) ?_;refine kk2 fun d0 c0=> ?_
   refine rn [12,13,0,2,0,0,1] ?_;refine Zkr ?_;refine cE (q':=fcM ({ g with names:=⟨g.names.l++ [⟨nm,k,n⟩],d0,c0⟩ } :FC)::_) (dP ((gG (φ:=fun M=>g.At M) knA (svK (x:=⟨_,d0,c0⟩) (f:=nmC))).imp fun M h=>FC.At.n h.1 h.2)) ?_;refine Zl (fcM ({ g with names:=⟨g.names.l++ [⟨nm,k,n⟩],d0,c0⟩ } :FC)::q) func158 (rA_ results158) ⟨_,rfl, { g with names:=⟨g.names.l++ [⟨nm,k,n⟩],d0,c0⟩ },rfl,rfl,r⟩
 have s0:k=1\/k=2\/k=3\/k=4\/k=5\/k=6:=Zq;rcases s0 with rfl|rfl|rfl|rfl|rfl|rfl
 . rw [if_pos rfl] at i;refine rn [6,2017,5,0,7,0,2] ?_;apply fL [26,5,4,3,2];apply V9 4 30 26 rfl
   . intro g1 w;have h1:=sp g1;refine rn [1,0,2] ?_;exact Z2 w ⟨orF g1,Yt⟩
   . intro g1 w;have h1:=sp g1;apply oo 4;exact Z2 w ⟨orT g1,Yt⟩
   apply ox 1;refine xp 30 ?_ ?_<;>intro h1
   . refine rn [3,0,1,0] ?_;apply Zv (aG _) (Jz (f:=f) (h.le leA));rintro _ _ ⟨g,rfl,rfl,hg⟩;refine rn [0,1] ?_;rw [if_pos Zq] at i;rw [<-i,if_pos rfl] at r;refine Zl (fcM g::q) func158 (rA_ results158) ⟨_,rfl,g,rfl,rfl,hg.trans r⟩
   refine rn [3,0,1,2,3,5,6] ?_;refine Ba (fe:=I64) (l:=f.vars.l) (u:=z) 3 6 7 underlying22 tinfo2 (svI (cO (h.imp fun M h=>h.vars))) fun b0 a0 e b s=> ?_;refine rn [9,10,11,0,0,1,2,3,4,6,7] ?_;refine Ba (fe:=Value.string) (l:=f.nv.l) (u:=nm) 4 7 8 underlying25 N8 (svS (cO (h.imp fun M h=>h.nv))) fun q0 p0 o j o0=> ?_;refine rn [10,11,12,13,0,1] ?_;rw [if_neg Zq] at i;apply H8 (f':=iC) (fe:=I64) Ql;apply H8 (f':=sC) (fe:=Value.string) Qr;refine cE (q':=fcM ({ f with vars:=⟨f.vars.l++ [z],e,b⟩,nv:=⟨f.nv.l++ [nm],o,j⟩ } :FC)::_) (dP ((gG (cO h) (gG (svK (x:=⟨f.vars.l++ [z],e,b⟩) (f:=iC)) (svK (x:=⟨f.nv.l++ [nm],o,j⟩) (f:=sC)))).imp fun M h=>FC.At.v h.1 h.2.1 h.2.2)) ?_;exact cH (K (({ f with vars:=⟨f.vars.l++ [z],e,b⟩,nv:=⟨f.nv.l++ [nm],o,j⟩ } :FC),(f.vars.l.length:Int)) ⟨by first|(rw [<-i];done)|(rw [<-i];rfl)|(rw [<-i];simp only [FC.er,aN,aI];done)|(rw [<-i];simp only [FC.er,aN,aI];rfl),p⟩) Z5 leA
 . rw [if_neg Zw,if_pos rfl] at i;rw [show f.er.cells=f.cells from rfl] at i;refine rn [6,1017,6,2057,5,0,7,0,2] ?_;apply fL [66,5,4,3,2];apply V9 4 70 66 rfl
   . intro g1 w;have h1:=sp g1;refine rn [1,0,2] ?_;exact Z2 w ⟨orF g1,Yt⟩
   . intro g1 w;have h1:=sp g1;apply oo 4;exact Z2 w ⟨orT g1,Yt⟩
   apply oo 1;apply fL [71,5,4,3,2];apply V9 7 78 71 rfl
   . intro g1 w;have h1:=sp g1;refine rn [1,0,1,0,3] ?_;exact Z2 w ⟨orF g1,Yt⟩
   . intro g1 w;have h1:=sp g1;apply oo 7;exact Z2 w ⟨orT g1,Yt⟩
   apply ox 1;refine xp 78 ?_ ?_<;>intro h1
   . refine rn [3,0,1,0] ?_;apply Zv (aG _) (Jz (f:=f) (h.le leA));rintro _ _ ⟨g,rfl,rfl,hg⟩;refine rn [0,1] ?_;rw [if_pos Zq] at i;rw [<-i,if_pos rfl] at r;refine Zl (fcM g::q) func158 (rA_ results158) ⟨_,rfl,g,rfl,rfl,hg.trans r⟩
   refine rn [5,0,1,0,2,0,2,0,1,2,3,5,6] ?_;refine Ba (fe:=I64) (l:=f.arrs.l) (u:=z) 3 6 7 underlying23 Zva (svI (cO (h.imp fun M h=>h.arrs))) fun b0 a0 e b s=> ?_;refine rn [9,10,11,0,0,1,2,3,4,6,7] ?_;refine Ba (fe:=Value.string) (l:=f.na.l) (u:=nm) 4 7 8 underlying25 N8 (svS (cO (h.imp fun M h=>h.na))) fun q0 p0 o j o0=> ?_;refine rn [10,11,12,13,0,1] ?_;rw [if_neg Zq] at i;apply H8 (f':=iC) (fe:=I64) Ql;apply H8 (f':=sC) (fe:=Value.string) Qr;refine cE (q':=fcM ({ f with cells:=f.cells+z,arrs:=⟨f.arrs.l++ [z],e,b⟩,na:=⟨f.na.l++ [nm],o,j⟩ } :FC)::_) (dP ((gG (cO h) (gG (svK (x:=⟨f.arrs.l++ [z],e,b⟩) (f:=iC)) (svK (x:=⟨f.na.l++ [nm],o,j⟩) (f:=sC)))).imp fun M h=>FC.At.a h.1 h.2.1 h.2.2)) ?_;exact cH (K (({ f with cells:=f.cells+z,arrs:=⟨f.arrs.l++ [z],e,b⟩,na:=⟨f.na.l++ [nm],o,j⟩ } :FC),(f.arrs.l.length:Int)) ⟨by first|(rw [<-i];done)|(rw [<-i];rfl)|(rw [<-i];simp only [FC.er,aN,aI];done)|(rw [<-i];simp only [FC.er,aN,aI];rfl),p⟩) Z5 leA
 . rw [if_neg Zw,if_neg Zw,if_pos rfl] at i;refine rn [6,1017,6,1057,6,2111,5,0,6,0,3,0,1,0,1,2,3,4,6,7] ?_;refine Ba (fe:=Value.string) (l:=f.nm.l) (u:=nm) 4 7 8 underlying25 N8 (svS (cO (h.imp fun M h=>h.nm))) fun b0 a0 e b s=> ?_;refine rn [10,11,12,13,0,1] ?_;apply H8 (f':=sC) (fe:=Value.string) Qr;refine cE (q':=fcM ({ f with mu:=f.mu+1,nm:=⟨f.nm.l++ [nm],e,b⟩ } :FC)::_) (dP ((gG (cO h) (svK (x:=⟨f.nm.l++ [nm],e,b⟩) (f:=sC))).imp fun M h=>FC.At.m h.1 h.2)) ?_;exact cH (K (({ f with mu:=f.mu+1,nm:=⟨f.nm.l++ [nm],e,b⟩ } :FC),(f.mu:Int)) ⟨by first|(rw [<-i];done)|(rw [<-i];rfl)|(rw [<-i];simp only [FC.er,aN,aI];done)|(rw [<-i];simp only [FC.er,aN,aI];rfl),p⟩) Z5 leA
 . rw [if_neg Zw,if_neg Zw,if_neg Zw,if_pos rfl] at i;refine rn [6,1017,6,1057,6,1111,6,2134,5,0,6,0,3,0,1,0,1,2,3,4,6,7] ?_;refine Ba (fe:=Value.string) (l:=f.nc.l) (u:=nm) 4 7 8 underlying25 N8 (svS (cO (h.imp fun M h=>h.nc))) fun b0 a0 e b s=> ?_;refine rn [10,11,12,13,0,1] ?_;apply H8 (f':=sC) (fe:=Value.string) Qr;refine cE (q':=fcM ({ f with co:=f.co+1,nc:=⟨f.nc.l++ [nm],e,b⟩ } :FC)::_) (dP ((gG (cO h) (svK (x:=⟨f.nc.l++ [nm],e,b⟩) (f:=sC))).imp fun M h=>FC.At.c h.1 h.2)) ?_;exact cH (K (({ f with co:=f.co+1,nc:=⟨f.nc.l++ [nm],e,b⟩ } :FC),(f.co:Int)) ⟨by first|(rw [<-i];done)|(rw [<-i];rfl)|(rw [<-i];simp only [FC.er,aN,aI];done)|(rw [<-i];simp only [FC.er,aN,aI];rfl),p⟩) Z5 leA
 . rw [if_neg Zw,if_neg Zw,if_neg Zw,if_neg Zw,if_pos rfl] at i;refine rn [6,1017,6,1057,6,1111,6,1134,6,2157,5,0,7,0,2] ?_;apply fL [166,5,4,3,2];apply V9 4 170 166 rfl
   . intro g1 w;have h1:=sp g1;refine rn [1,0,2] ?_;exact Z2 w ⟨orF g1,Yt⟩
   . intro g1 w;have h1:=sp g1;apply oo 4;exact Z2 w ⟨orT g1,Yt⟩
   apply ox 1;refine xp 170 ?_ ?_<;>intro h1
   . refine rn [3,0,1,0] ?_;apply Zv (aG _) (Jz (f:=f) (h.le leA));rintro _ _ ⟨g,rfl,rfl,hg⟩;refine rn [0,1] ?_;rw [if_pos Zq] at i;rw [<-i,if_pos rfl] at r;refine Zl (fcM g::q) func158 (rA_ results158) ⟨_,rfl,g,rfl,rfl,hg.trans r⟩
   refine rn [3,0,1,2,3,5,6] ?_;refine Ba (fe:=I64) (l:=f.chs.l) (u:=z) 3 6 7 underlying23 Zva (svI (cO (h.imp fun M h=>h.chs))) fun b0 a0 e b s=> ?_;refine rn [9,10,11,0,0,1,2,3,4,6,7] ?_;refine Ba (fe:=Value.string) (l:=f.nh.l) (u:=nm) 4 7 8 underlying25 N8 (svS (cO (h.imp fun M h=>h.nh))) fun q0 p0 o j o0=> ?_;refine rn [10,11,12,13,0,1] ?_;rw [if_neg Zq] at i;apply H8 (f':=iC) (fe:=I64) Ql;apply H8 (f':=sC) (fe:=Value.string) Qr;refine cE (q':=fcM ({ f with chs:=⟨f.chs.l++ [z],e,b⟩,nh:=⟨f.nh.l++ [nm],o,j⟩ } :FC)::_) (dP ((gG (cO h) (gG (svK (x:=⟨f.chs.l++ [z],e,b⟩) (f:=iC)) (svK (x:=⟨f.nh.l++ [nm],o,j⟩) (f:=sC)))).imp fun M h=>FC.At.h h.1 h.2.1 h.2.2)) ?_;exact cH (K (({ f with chs:=⟨f.chs.l++ [z],e,b⟩,nh:=⟨f.nh.l++ [nm],o,j⟩ } :FC),(f.chs.l.length:Int)) ⟨by first|(rw [<-i];done)|(rw [<-i];rfl)|(rw [<-i];simp only [FC.er,aN,aI];done)|(rw [<-i];simp only [FC.er,aN,aI];rfl),p⟩) Z5 leA
 rw [if_neg Zw,if_neg Zw,if_neg Zw,if_neg Zw,if_neg Zw,if_pos rfl] at i;refine rn [6,1017,6,1057,6,1111,6,1134,6,1157,6,2197,5,0,3,0,1,2,3,5,6,7] ?_;apply XD.le (q':=rsH thC 3 218 none 0 ([])::_) (Zc thC 3 218 _);refine Vd (fl:= [⟨7,210,fun g=> .slice (some ⟨g,0,none⟩) 1 1,fun g=>rsH thC 3 218 (some ⟨g,0,none⟩) 1 ([⟨nm,0, [],none,0⟩])⟩]) ?_;refine XF.ef 3 ⟨⟨_,rfl,rfl,rfl,rfl,rfl,rfl,fun q=>Yw (u:=⟨nm,0, [],none,0⟩) thC underlying24 R9 rfl rfl (fun _=>rfl) rfl⟩,trivial⟩ (I5 (f:=thC) (sz:=3) (l:= []) (m:=f.ths.l) underlying24 R9 rfl rfl (fun _=>rfl) rfl rfl Zj (eB (cO (h.imp fun M h=>h.ths))) (fun _=>rfl) Zi Zi) ?_;refine kk2 fun b0 a0=> ?_
 refine Qs (e0:=⟨7,210,fun g=> .slice (some ⟨g,0,none⟩) 1 1,fun g=>rsH thC 3 218 (some ⟨g,0,none⟩) 1 ([⟨nm,0, [],none,0⟩])⟩) (hnd:=by simp) 7 ⟨⟨_,rfl,rfl,rfl,rfl,rfl,rfl,fun q=>Yw (u:=⟨nm,0, [],none,0⟩) thC underlying24 R9 rfl rfl (fun _=>rfl) rfl⟩,trivial⟩ fun s=> ?_;change XF _ _ _ _ _ _ _ [] _ _ _ ((210,.slice (some ⟨s,0,none⟩) 1 1)::_) _ _ (rsH thC 3 218 (some ⟨s,0,none⟩) 1 ([⟨nm,0, [],none,0⟩])::_);refine fR ?_;try rw [bL]
 refine eT 8 rfl (Z9 (f:=thC) (l:=f.ths.l) (m:= [⟨nm,0, [],none,0⟩]) underlying24 R9 rfl rfl (fun _=>rfl) rfl rfl Zj ((bJ _).le Zj) (fun _=>rfl) Zi Zi) ?_;refine kk2 fun e b=> ?_
 refine rn [10,11,12,0,1] ?_;refine Zkr ?_;refine cE (q':=fcM ({ f with ths:=⟨f.ths.l++ [⟨nm,0, [],none,0⟩],e,b⟩ } :FC)::_) (dP ((gG (cO h) (svK (x:=⟨f.ths.l++ [⟨nm,0, [],none,0⟩],e,b⟩) (f:=thC))).imp fun M h=>FC.At.t h.1 h.2 (fun y hy=>by rcases bP.1 hy with hy|hy;exact h.1.bod y hy;rw [bE.1 hy];exact ⟨SlAt.nil M,trivial⟩))) ?_;exact cH (K (({ f with ths:=⟨f.ths.l++ [⟨nm,0, [],none,0⟩],e,b⟩ } :FC),(f.ths.l.length:Int)) ⟨by first|(rw [<-i];done)|(rw [<-i];rfl)|(rw [<-i];simp only [FC.er,aN,aI];done)|(rw [<-i];simp only [FC.er,aN,aI];rfl),p⟩) Z5 leA
end
mutual
def PEx.thin:PEx->Prop
 | .mk _ _ _ _ _ _ args=>args.length<=2/\Ti args
def Ti:List PEx->Prop
 | []=>True
 |e::r=>e.thin/\Ti r
end
def En {x}: ∀ {l},Ti l->x∈l->x.thin
 |y::r,⟨h1,h2⟩,h=>by
  rcases bS.1 h with rfl|h
  . exact h1
  exact En h2 h
mutual
def Nz: ∀ {e:PEx} {d},e.right d=true->e.thin
 | .mk k n nm _ _ op args,d,h=>by
  simp only [PEx.right] at h;split at h
  . cases h
  split at h
  . rw [bA,bA,dQ] at h;refine ⟨?_,R2 h.2⟩;have:=h.1.2;unfold Ra at this;split at this<;>(try split at this)<;>omega
  cases h
def R2: ∀ {l} {d},Ws l d=true->Ti l
 | [],_,_=>trivial
 |e::r,d,h=>by
  simp only [Ws,bA] at h;exact ⟨Nz h.1,R2 h.2⟩
end
def Gp: ∀ {e:PEx},e.nil=true->e.thin
 | .mk k n nm _ _ op args,h=>by
  simp only [PEx.nil,bA,dQ] at h;have a:=aW h.2;subst a;exact ⟨aZ _,trivial⟩
def Zyk {l m}(h:Ex.Ats M l)(k:Ex.Ats M m):Ex.Ats M (l++m):=Ub.2 fun x hx=>(bP.1 hx).elim (Ub.1 h x) (Ub.1 k x)
section
variable {a:Option Addr}{c:Nat}{l:List Ex}{kd n:Int}
def X.exs (h1:Le q (exsM l::q1))(h2:Le q1 (exM e::q2))(K:X P G fr Q todo p ds cs (exsM (l++ [e])::q2)):X P G fr Q todo p ds cs q:=by
 have a:Kn (exsM l::exM e::q2) fun M=>Ex.Ats M (l++ [e]):=((show Kn (exsM l::exM e::q2) fun M=>Ex.Ats M l from fJ).and (Kn.there (show Kn (exM e::q2) fun M=>e.At M from fJ))).imp fun M h=>Zyk h.1 ⟨h.2,trivial⟩
 exact .le ((h1.trans (cC _ h2)).trans ((dP (mn:=fun e h=>jS e h) a).trans (cC _ ((dS _ _).trans (dS _ _))))) K
def X.fzEs (K:X P G fr Q todo p ds cs (exM (.mk kd n nm slot loc op l a c)::q0))(hq:Le q (rsH exC 7 136 a c l::q0):=by exact Zj)(h:Kn q0 fun M=>Ex.Ats M l:=by exact knA):X P G fr Q todo p ds cs q:= .frzR (Kn.here.and h.there) K hq
end
def Zw3 (IH: ∀ (x:Ex),x.sz<e.sz->x.er.thin-> ∀ {f:FC} {pl pc:Int} {q:List HP},(Kn q fun M=>f.At M)->(Kn q fun M=>x.At M)->CF G 277 [.agg (fcC f).toArray,.agg (exC x).toArray,.agg (Al pl pc).toArray] q (Ret fun v q'=> ∃ (g:FC) (y:Ex),v= .tuple [.agg (fcC g).toArray,.agg (exC y).toArray].toArray/\q'=fcM g::exM y::q/\(g.er,y.er)=f.er.expr x.er))(hf:Kn q fun M=>f.At M)(h:Kn q fun M=>e.At M)(ht:e.er.thin):CF G 277 [.agg (fcC f).toArray,.agg (exC e).toArray,.agg (Al pl pc).toArray] (q) (Ret fun v q'=> ∃ (g:FC) (x:Ex),v= .tuple [.agg (fcC g).toArray,.agg (exC x).toArray].toArray/\q'=fcM g::exM x::q/\(g.er,x.er)=f.er.expr e.er):=by
 refine aE ntmps277 fun F cs=> ?_;obtain ⟨k,z,nm,sl,lo,op,args,aa,ac⟩:=e;have hA:=Zx5 h;have a0:=Zx (f:=exC) (sz:=7) Yn args;have j0:args.length<=2:=by have:=ht.1;rw [Ko] at this;exact this
 have d0:Ti (Yj args):=ht.2;obtain ⟨R,p⟩: ∃ R,f.er.expr (Ex.er (.mk k z nm sl lo op args aa ac))=R:=⟨_,rfl⟩;rw [p];simp only [Ex.er,Fnd.expr] at p;apply xo 2;refine Gx fun n1=> ?_
 refine Gx fun n2=> ?_
 refine Gx fun n3=> ?_
 refine iR zeroValue316 fun n4=> ?_
 refine iR zeroValue136 fun n5=> ?_
 refine rn [5,0,1] ?_;refine iG (fun (x:FC×Int×Bool)=> [(3,pt n1),(4,pt n2),(5,pt n3),(6,pt n4),(7,pt n5)]) (fun x=>fcM x.1::pC n1 (fcC x.1) 316::pC n2 (exC (.mk k z nm x.2.1 x.2.2 op args aa ac)) 136::pC n3 (Al pl pc) 104::pC n4 zz6 316::pC n5 zz3 136::(q++F)) (fun x=>R=((Fnd.exprs x.1.er (Yj args)).1,.mk k z nm x.2.1 x.2.2 op (Fnd.exprs x.1.er (Yj args)).2)) (fun x w=> ?_) fun K=> ?_
 . obtain ⟨g,i,o⟩:=x;dsimp only at w|-;clear p;apply xx 10;refine cH (bW (fun (s:FC×(Option Addr×Nat×List Ex)×Option Addr)=>s.2.1.2.2.length<=args.length/\s.2.2=aa/\R=((Fnd.exprs s.1.er (Yj (args.drop s.2.1.2.2.length))).1,.mk k z nm i o op (Yj s.2.1.2.2++(Fnd.exprs s.1.er (Yj (args.drop s.2.1.2.2.length))).2))) (fun s=> [(12,.slice s.2.1.1 s.2.1.2.2.length s.2.1.2.1),(13,I64 (s.2.1.2.2.length:Int)),(3,pt n1),(4,pt n2),(5,pt n3),(6,pt n4),(7,pt n5)]) (fun s=>rsH exC 7 136 s.2.1.1 s.2.1.2.1 s.2.1.2.2::exsM s.2.1.2.2::fcM s.1::pC n1 (fcC s.1) 316::pC n2 (exC (.mk k z nm i o op args s.2.2 ac)) 136::pC n3 (Al pl pc) 104::pC n4 zz6 316::pC n5 zz3 136::(q++F)) (fun s=>args.length - s.2.1.2.2.length) (fun s b0 ih=> ?_) (g,(none,0, []),aa) ⟨aZ _,rfl,w⟩) Z5 (aK leA (aK (Zc exC 7 136 _) (aK (dP (φ:=fun M=>Ex.Ats M []) (mn:=fun e h=>jS e h) (fun _ _ _=>trivial)) leA)));try dsimp only at b0 ih|-
   obtain ⟨k0,g0,c0⟩:=b0;obtain ⟨g,⟨a,c,d⟩,l0⟩:=s;dsimp only at*;subst g0;clear w;refine rn [5,0,3] ?_;refine xp 54 ?_ ?_<;>intro h0
   . have r:d.length<args.length:=Zq;obtain ⟨y,hy⟩: ∃ y,args[d.length]=y:=⟨_,rfl⟩;obtain ⟨k3,z3,s3,l3,o3,p3,y3,u3,w3⟩:=y;refine rn [5,0,1,2,3,4] ?_;refine Rh hA (by rw [a0];omega) fun b1 o1 e1=> ?_;subst e1;have b: ∀ (Q:List HP),Le Q q-> ∀ (j:Nat) (v:Value),nth (exC (.mk k3 z3 s3 l3 o3 p3 y3 u3 w3)) j=some v->Cl Q ⟨b1,o1+(d.length:Int).toNat*7+j,none⟩ v:=fun Q hQ j v hv=>cX hA hQ Yn r rfl j v (by rw [hy,<-Qi];exact hv)
     apply dd [4];refine iP 5 (us:=exC (.mk k3 z3 s3 l3 o3 p3 y3 u3 w3)) rfl rfl isAgg136 sizeOf136 rfl (fun k v hk=>b _ leA k v (by rw [Qi];exact hk)) ?_;apply ldAD 6;refine Vd (fl:= [⟨11,14,fun g=> pt g,fun g=>pC g zz6 316⟩,⟨12,15,fun g=> pt g,fun g=>pC g zz3 136⟩]) ?_;refine Bi 7 ⟨flA zeroValue316,flA zeroValue136,trivial⟩ (aG _) (IH (.mk k3 z3 s3 l3 o3 p3 y3 u3 w3) (by have:=Wd (aC r);rw [hy] at this;simp only [Ex.sz] at this|-;omega) (by have:=En d0 (by rw [Ww];exact cW (aC r));rw [hy] at this;exact this) (f:=g) knA (cO (by have:=Zx4 h r;rw [hy] at this;exact this) leA)) ?_ (hL:=(hlA (h:=by repeat first|exact trivial|refine ⟨clA,?_⟩|refine ⟨b _ leA 0 _ rfl,?_⟩|refine ⟨b _ leA 1 _ rfl,?_⟩|refine ⟨b _ leA 2 _ rfl,?_⟩|refine ⟨b _ leA 3 _ rfl,?_⟩|refine ⟨b _ leA 4 _ rfl,?_⟩|refine ⟨b _ leA 5 _ rfl,?_⟩|refine ⟨b _ leA 6 _ rfl,?_⟩)));rintro _ _ ⟨g2,⟨k2,z2,s2,l2,o2,p2,y2,u2,w2⟩,rfl,rfl,i0⟩;refine ⟨(hlA (h:=by repeat first|exact trivial|refine ⟨clA,?_⟩|refine ⟨b _ leA 0 _ rfl,?_⟩|refine ⟨b _ leA 1 _ rfl,?_⟩|refine ⟨b _ leA 2 _ rfl,?_⟩|refine ⟨b _ leA 3 _ rfl,?_⟩|refine ⟨b _ leA 4 _ rfl,?_⟩|refine ⟨b _ leA 5 _ rfl,?_⟩|refine ⟨b _ leA 6 _ rfl,?_⟩)),?_⟩;refine Kq 8 ⟨flA zeroValue316,flA zeroValue136,trivial⟩ (Pu.move rfl) ?_ (hL:=(hlA (h:=by repeat first|exact trivial|refine ⟨clA,?_⟩|refine ⟨b _ leA 0 _ rfl,?_⟩|refine ⟨b _ leA 1 _ rfl,?_⟩|refine ⟨b _ leA 2 _ rfl,?_⟩|refine ⟨b _ leA 3 _ rfl,?_⟩|refine ⟨b _ leA 4 _ rfl,?_⟩|refine ⟨b _ leA 5 _ rfl,?_⟩|refine ⟨b _ leA 6 _ rfl,?_⟩)));refine Kq 9 ⟨flA zeroValue316,flA zeroValue136,trivial⟩ (fP rfl rfl) ?_ (hL:=(hlA (h:=by repeat first|exact trivial|refine ⟨clA,?_⟩|refine ⟨b _ leA 0 _ rfl,?_⟩|refine ⟨b _ leA 1 _ rfl,?_⟩|refine ⟨b _ leA 2 _ rfl,?_⟩|refine ⟨b _ leA 3 _ rfl,?_⟩|refine ⟨b _ leA 4 _ rfl,?_⟩|refine ⟨b _ leA 5 _ rfl,?_⟩|refine ⟨b _ leA 6 _ rfl,?_⟩)));refine Kq 10 ⟨flA zeroValue316,flA zeroValue136,trivial⟩ (fP rfl rfl) ?_ (hL:=(hlA (h:=by repeat first|exact trivial|refine ⟨clA,?_⟩|refine ⟨b _ leA 0 _ rfl,?_⟩|refine ⟨b _ leA 1 _ rfl,?_⟩|refine ⟨b _ leA 2 _ rfl,?_⟩|refine ⟨b _ leA 3 _ rfl,?_⟩|refine ⟨b _ leA 4 _ rfl,?_⟩|refine ⟨b _ leA 5 _ rfl,?_⟩|refine ⟨b _ leA 6 _ rfl,?_⟩)));refine Qs (e0:=⟨11,14,fun g=> pt g,fun g=>pC g zz6 316⟩) (hnd:=by simp) 11 ⟨flA zeroValue316,flA zeroValue136,trivial⟩ (fun ga=> ?_) (hL:=(hlA (h:=by repeat first|exact trivial|refine ⟨clA,?_⟩|refine ⟨b _ leA 0 _ rfl,?_⟩|refine ⟨b _ leA 1 _ rfl,?_⟩|refine ⟨b _ leA 2 _ rfl,?_⟩|refine ⟨b _ leA 3 _ rfl,?_⟩|refine ⟨b _ leA 4 _ rfl,?_⟩|refine ⟨b _ leA 5 _ rfl,?_⟩|refine ⟨b _ leA 6 _ rfl,?_⟩)));change XF _ _ _ _ _ _ _ [⟨12,15,fun g=> pt g,fun g=>pC g zz3 136⟩] _ _ _ ((14,pt ga)::_) _ _ (pC ga zz6 316::_);refine Qs (e0:=⟨12,15,fun g=> pt g,fun g=>pC g zz3 136⟩) (hnd:=by simp) 12 ⟨flA zeroValue136,trivial⟩ (fun gb=> ?_) (hL:=(hlA (h:=by repeat first|exact trivial|refine ⟨clA,?_⟩|refine ⟨b _ leA 0 _ rfl,?_⟩|refine ⟨b _ leA 1 _ rfl,?_⟩|refine ⟨b _ leA 2 _ rfl,?_⟩|refine ⟨b _ leA 3 _ rfl,?_⟩|refine ⟨b _ leA 4 _ rfl,?_⟩|refine ⟨b _ leA 5 _ rfl,?_⟩|refine ⟨b _ leA 6 _ rfl,?_⟩)));change XF _ _ _ _ _ _ _ [] _ _ _ ((15,pt gb)::_) _ _ (pC gb zz3 136::_);refine fR ?_ (hL:=(hlA (h:=by repeat first|exact trivial|refine ⟨clA,?_⟩|refine ⟨b _ leA 0 _ rfl,?_⟩|refine ⟨b _ leA 1 _ rfl,?_⟩|refine ⟨b _ leA 2 _ rfl,?_⟩|refine ⟨b _ leA 3 _ rfl,?_⟩|refine ⟨b _ leA 4 _ rfl,?_⟩|refine ⟨b _ leA 5 _ rfl,?_⟩|refine ⟨b _ leA 6 _ rfl,?_⟩)));refine rn [14,15,0,2,0,0,3,0] ?_;apply bU (Yw (u:=(.mk k2 z2 s2 l2 o2 p2 y2 u2 w2)) exC underlying134 Jl rfl rfl Yn rfl);rintro _ _ ⟨gl,rfl,rfl⟩;apply bU (Z9 (f:=exC) (l:=d) (m:= [(.mk k2 z2 s2 l2 o2 p2 y2 u2 w2)]) underlying134 Jl rfl rfl Yn rfl rfl Zj ((bJ _).le Zj) Zqs Zi Zi);rintro _ _ ⟨a3,c3,rfl,rfl⟩;apply ox 8;apply X.exs (l:=d) (e:=(.mk k2 z2 s2 l2 o2 p2 y2 u2 w2)) Zj Zj
     have f0:R=((Fnd.exprs g2.er (Yj (args.drop (d.length+1)))).1,.mk k z nm i o op (Yj (d++ [(.mk k2 z2 s2 l2 o2 p2 y2 u2 w2)])++(Fnd.exprs g2.er (Yj (args.drop (d.length+1)))).2)):=by
      rw [c0,aP r,hy,I3];simp only [Yj,Fnd.exprs,<-i0,aO,List.singleton_append]
     refine cH (ih (g2,(a3,c3,d++ [(.mk k2 z2 s2 l2 o2 p2 y2 u2 w2)]),_) ⟨Zi,rfl,by rw [aA];exact f0⟩ Zi) Z5 leA
   have hl:d.length=args.length:=Zq;refine rn [6,0,2,0,1,2,3,4,0] ?_;apply X.fzEs (kd:=k) (n:=z) (nm:=nm) (slot:=i) (loc:=o) (op:=op);refine Zl (fcM g::exM (.mk k z nm i o op d a c)::q) func277 (rAA_ results277) ⟨_,rfl,g,(.mk k z nm i o op d a c),rfl,rfl,by rw [c0,hl,dU];simp only [Yj,Fnd.exprs,cA,Ex.er]⟩
 have t:k=2\/k=3\/ ¬ (k=2\/k=3):=Zq;rcases t with rfl|rfl|t
 . rw [if_pos rfl] at p;refine rn [6,2018,3,0,1,0,0] ?_;apply Zv (aG _) (wants_ok (f:=f) (cO hf));rintro _ _ ⟨g,x,rfl,rfl,hw⟩;apply oo 3;refine iR zeroValue316 fun n6=> ?_
   refine iR zeroValue321 fun n7=> ?_
   refine rn [0,0,3,0,0,1,0,1,2,3,4,5,6,7,8,9,0,1] ?_;rw [<-hw] at p;dsimp only at p;exact cH (K (g,x.s,x.k==100) p.symm) Z5 leA
 . rw [if_neg Zw,if_pos rfl] at p;refine rn [6,1018,6,2036,3,0,1,0,0] ?_;apply Zv (aG _) (wants_ok (f:=f) (cO hf));rintro _ _ ⟨g,x,rfl,rfl,hw⟩;apply oo 3;refine iR zeroValue316 fun n6=> ?_
   refine iR zeroValue321 fun n7=> ?_
   refine rn [0,0,3,0,0,3,0,1,0,2] ?_;rw [<-hw] at p;dsimp only at p;exact cH (K (g,x.s,lo) p.symm) Z5 leA
 rw [if_neg (fun e=>t (.inl e)),if_neg (fun e=>t (.inr e))] at p;refine rn [6,1018,6,1036,3] ?_;apply cE (q':=fcM f::_) (dP (cO hf));exact cH (K (f,sl,lo) p.symm) Z5 leA
def S4: ∀ (N:Nat) (x:Ex),x.sz<=N->x.er.thin-> ∀ {f} {pl pc} {q},(Kn q fun M=>f.At M)->(Kn q fun M=>x.At M)->CF G 277 [.agg (fcC f).toArray,.agg (exC x).toArray,.agg [I64 pl,I64 pc].toArray] q (Ret fun v q'=> ∃ (g:FC) (y:Ex),v= .tuple [.agg (fcC g).toArray,.agg (exC y).toArray].toArray/\q'=fcM g::exM y::q/\(g.er,y.er)=f.er.expr x.er)
 |N,x,hN,ht,_,_,_,_,hf,hx=>Zw3 (fun y d a _ _ _ _ c b=>by
  cases N with
  |zero=>omega
  |succ N=>exact S4 N y Zq a c b) hf hx ht
def Fnd.fl_eq (f:Fnd)(w:Int): ∃ x,f.fl w= { f with flaw:=x } :=by unfold Fnd.fl;split;exact ⟨_,rfl⟩;exact ⟨f.flaw,rfl⟩
def Fnd.wants_eq (f:Fnd)(s:ByteArray)(a b:Int): ∃ x,(f.wants s a b).1= { f with flaw:=x } :=by
 unfold Fnd.wants;split
 . exact f.fl_eq 131
 dsimp only;split
 . exact f.fl_eq 132
 exact ⟨f.flaw,rfl⟩
mutual
def C9: ∀ (e:PEx) (f:Fnd),∃ x,(f.expr e).1= { f with flaw:=x }
 | .mk k n nm slot loc op args,f=>by
  simp only [Fnd.expr];split
  . obtain ⟨x,b⟩:=f.wants_eq nm 1 100;obtain ⟨y,a⟩:=Mg args (f.wants nm 1 100).1;exact ⟨y,by rw [a,b]⟩
  split
  . obtain ⟨x,b⟩:=f.wants_eq nm 2 2;obtain ⟨y,a⟩:=Mg args (f.wants nm 2 2).1;exact ⟨y,by rw [a,b]⟩
  exact Mg args f
def Mg: ∀ (l:List PEx) (f:Fnd),∃ x,(f.exprs l).1= { f with flaw:=x }
 | [],f=>⟨f.flaw,rfl⟩
 |e::r,f=>by
  simp only [Fnd.exprs];obtain ⟨x,b⟩:=C9 e f;obtain ⟨y,a⟩:=Mg r (f.expr e).1;exact ⟨y,by rw [a,b]⟩
end
structure Fnd.To (f g:Fnd) (N:Nat):Prop where
 n:g.names.length<=f.names.length+N
 l:f.locals<=g.locals/\g.locals<=f.locals+N
 s:f.stm<=g.stm
 e:g.vars=f.vars/\g.arrs=f.arrs/\g.mu=f.mu/\g.co=f.co/\g.chs=f.chs/\g.ths=f.ths/\g.main=f.main/\g.nv=f.nv/\g.na=f.na/\g.nm=f.nm/\g.nc=f.nc/\g.nh=f.nh/\g.cells=f.cells
def Fnd.To.flaw (f:Fnd)(x:Int):f.To { f with flaw:=x } 0:=⟨aS _,⟨bI _,Zy⟩,bI _,rfl,rfl,rfl,rfl,rfl,rfl,rfl,rfl,rfl,rfl,rfl,rfl,rfl⟩
def Fnd.To.refl (f:Fnd):f.To f 0:=Fnd.To.flaw f f.flaw
theorem Fnd.To.trans {f h:Fnd}{M:Nat}(a:f.To g N)(b:g.To h M):f.To h (N+M):=by
 obtain ⟨a1,a2,a3,a4⟩:=a;obtain ⟨b1,b2,b3,b4⟩:=b;refine ⟨Zq,Zq,Zq,?_⟩;obtain ⟨x1,x2,x3,z,y,x,w,v,u,m,l,k,j⟩:=a4;obtain ⟨y1,t,y3,s,r,q,p,o,n,i,e,d,c⟩:=b4;exact ⟨y1.trans x1,t.trans x2,y3.trans x3,s.trans z,r.trans y,q.trans x,p.trans w,o.trans v,n.trans u,i.trans m,e.trans l,d.trans k,c.trans j⟩
def Fnd.To.up {f:Fnd}{M:Nat}(a:f.To g N)(h:N<=M):f.To g M:=⟨by have:=a.n;omega,by have:=a.l;omega,a.s,a.e⟩
def Fnd.To.back {f:Fnd}(a:f.To g N)(h:Fnd){M:Nat}(hn:h.names.length<=f.names.length+M)(hl:f.locals<=h.locals/\h.locals<=f.locals+M):f.To { g with names:=h.names,locals:=h.locals } M:=⟨hn,hl,a.s,a.e⟩
theorem Fnd.To.wants (f:Fnd)(s:ByteArray)(a b:Int):f.To (f.wants s a b).1 0:=by obtain ⟨x,c⟩:=f.wants_eq s a b;rw [c];exact .flaw f x
def Fnd.To.expr (f:Fnd)(e:PEx):f.To (f.expr e).1 0:=by obtain ⟨x,a⟩:=C9 e f;rw [a];exact .flaw f x
theorem Fnd.To.fl (f:Fnd)(w:Int):f.To (f.fl w) 0:=by obtain ⟨x,a⟩:=f.fl_eq w;rw [a];exact .flaw f x
theorem Fnd.To.loc1 (f:Fnd)(s:ByteArray):f.To (f.loc1 s) 0:=by unfold Fnd.loc1;split;exact .fl f _;exact .refl f
theorem Fnd.To.loc2 (f:Fnd):f.To f.loc2 0:=by unfold Fnd.loc2;split;exact .fl f _;exact .refl f
theorem Fnd.To.own1 (f:Fnd)(k:Int)(nm:ByteArray)(sl:Int)(lo:Bool):f.To (f.own1 k nm sl lo).1 0:=by unfold Fnd.own1;split;exact .wants ..;exact .refl f
def Fnd.To.own2 (f:Fnd)(k:Int)(nm wt:ByteArray)(sl ot:Int)(lo:Bool):f.To (f.own2 k nm wt sl ot lo).1 1:=by
 unfold Fnd.own2;split
 . have h:=(Fnd.To.loc1 f nm).trans (Fnd.To.loc2 (f.loc1 nm));refine ⟨by have:=h.n;simp [Fnd.loc3];omega,by have:=h.l;simp only [Fnd.loc3];omega,h.s,h.e⟩
 split
 . exact (Fnd.To.wants f ..).up Zw
 split
 . exact (Fnd.To.wants f ..).up Zw
 exact (Fnd.To.refl f).up Zw
def Fnd.To.own (f:Fnd)(k:Int)(nm wt:ByteArray)(sl ot:Int)(lo:Bool):f.To (f.own k nm wt sl ot lo).1 1:=(Fnd.To.own1 f k nm sl lo).trans (Fnd.To.own2 _ k nm wt _ ot _)
def Fnd.To.stm (f:Fnd)(n:Int)(h:f.stm<=n):f.To { f with stm:=n } 0:=⟨aS _,⟨bI _,Zy⟩,h,rfl,rfl,rfl,rfl,rfl,rfl,rfl,rfl,rfl,rfl,rfl,rfl,rfl⟩
mutual
theorem Fnd.To.stmt: ∀ (s:PStm) (f:Fnd),f.To (f.stmt s).1 1
 | .mk k ln cl nm wt e ix body els id slot other loc,f=>by
  simp only [Fnd.stmt];split
  . exact (Fnd.To.fl f _).up Zw
  dsimp only;have h:=((Fnd.To.stm f (f.stm+1) Zq).trans ((Fnd.To.expr { f with stm:=f.stm+1 } ix).trans (Fnd.To.expr _ e))).trans (Fnd.To.own _ k nm wt slot other loc);obtain ⟨g,b⟩: ∃ g,Fnd.own (Fnd.expr (Fnd.expr { f with stm:=f.stm+1 } ix).1 e).1 k nm wt slot other loc=g:=⟨_,rfl⟩;rw [b];have a:f.To g.1 1:=by rw [<-b];exact h
  have c:=((a.trans (Fnd.To.blk body g.1)).back g.1 a.n a.l).trans (Fnd.To.blk els _);exact c.back g.1 a.n a.l
theorem Fnd.To.blk: ∀ (l:List PStm) (f:Fnd),f.To (f.blk l).1 l.length
 | [],f=> .refl f
 |s::r,f=>by
  simp only [Fnd.blk];split
  . exact ((Fnd.To.stmt s f).trans (Fnd.To.blk r (f.stmt s).1)).up Zi
  exact (Fnd.To.refl f).up Zf
end
abbrev gZ:=@Fnd.To.blk
mutual
def PStm.thin:PStm->Prop
 | .mk _ _ _ _ _ e ix body els _ _ _ _=>e.thin/\ix.thin/\V0 body/\V0 els
def V0:List PStm->Prop
 | []=>True
 |s::r=>s.thin/\V0 r
end
def Bo {x}: ∀ {l},V0 l->x∈l->x.thin
 |y::r,⟨h1,h2⟩,h=>by
  rcases bS.1 h with rfl|h
  . exact h1
  exact Bo h2 h
mutual
def Ow: ∀ {s:PStm} {n},s.may n=true->s.thin
 | .mk k _ _ nm wt e ix body els _ _ _ _,n,h=>by
  simp only [PStm.may] at h;split at h;cases h
  split at h;cases h
  split at h;cases h
  rename_i a;split at h;cases h
  rw [bA] at h
  have f:e.thin:=by
   unfold Zjr at a
   cases hE:Ok k with
   |true=>exact Nz (d:=24) (by cases hr:e.right 24 with|true=>rfl|false=>simp [hE,hr] at a)
   |false=>exact Gp (by cases hr:e.nil with|true=>rfl|false=>simp [hE,hr] at a)
  have c:ix.thin:=by
   unfold Zjr at a;rcases Classical.em (k=3) with b|b
   . exact Nz (d:=24) (by cases hr:ix.right 24 with|true=>rfl|false=>simp [b,hr] at a)
   exact Gp (by cases hr:ix.nil with|true=>rfl|false=>simp [b,hr] at a)
  exact ⟨f,c,Kk h.1,Kk h.2⟩
def Kk: ∀ {l} {n},Y2 l n=true->V0 l
 | [],_,_=>trivial
 |s::r,n,h=>by
  simp only [Y2,bA] at h;exact ⟨Ow h.1,Kk h.2⟩
end
def Zvg {f:Fnd}{k:Int}{e:PEx}{body els:List PStm}{a b:Fnd×PEx}{c:Fnd×Int×Int×Bool}{x y:Fnd×List PStm}(h: ¬512<=f.stm)(ha:a=Fnd.expr { f with stm:=f.stm+1 } ix)(hb:b=a.1.expr e)(hc:c=b.1.own k nm wt slot other loc)(hx:x=c.1.block body)(hy:y=x.1.block els):
 f.stmt (.mk k ln cl nm wt e ix body els id slot other loc)=(y.1,.mk k ln cl nm wt b.2 a.2 x.2 y.2 f.stm c.2.1 c.2.2.1 c.2.2.2):=by
 subst ha hb hc hx hy;simp only [Fnd.stmt,if_neg h];rfl
def FC.At.s {n:Int}(h:f.At M):({ f with stm:=n } :FC).At M:=⟨h.vars,h.arrs,h.chs,h.ths,h.bod,h.nv,h.na,h.nm,h.nc,h.nh,h.names⟩
def FC.At.l {x:Sv Nm}{n m:Int}(h:f.At M)(h1:x.At M nmC):({ f with names:=x,locals:=n,most:=m } :FC).At M:=⟨h.vars,h.arrs,h.chs,h.ths,h.bod,h.nv,h.na,h.nm,h.nc,h.nh,h1⟩
def FC.At.b {g:FC}{n:Int}(h:f.At M)(h1:g.At M):({ f with names:=g.names,locals:=n } :FC).At M:=⟨h.vars,h.arrs,h.chs,h.ths,h.bod,h.nv,h.na,h.nm,h.nc,h.nh,h1.names⟩
section
variable {x:Stm}{m:List Stm}{a:Option Addr}{c:Nat}
abbrev AH (v0:FC)(v1):=([.agg (fcC v0).toArray,.agg (stC v1).toArray]:List Value)
def Zwi (IH: ∀ (m:List Stm) (a:Option Addr) (c:Nat),Zn m<x.sz->V0 (Zk m)-> ∀ {f:FC} {q:List HP},(Kn q fun M=>f.At M)->(Kn q fun M=>BlkAt M a c m)->(f.names.l.length+Zn m<=300000/\(0<=f.locals/\f.locals+Zn m<=300000)/\0<=f.stm)->CF G 161 [.agg (fcC f).toArray,.slice a m.length c] q (Ret fun v q'=> ∃ (g:FC) (b:Option Addr) (d:Nat) (m':List Stm),v= .tuple [.agg (fcC g).toArray,.slice b m'.length d].toArray/\q'=fcM g::blM b d m'::q/\(g.er,Zk m')=f.er.block (Zk m)))(hf:Kn q fun M=>f.At M)(h:Kn q fun M=>x.At M)(ht:x.er.thin)(hb:(f.names.l.length+x.sz<=300000/\(0<=f.locals/\f.locals+x.sz<=300000)/\0<=f.stm)):CF G 227 (AH f x) (q) (Ret fun v q'=> ∃ (g:FC) (y:Stm),v= .tuple (AH g y).toArray/\q'=fcM g::stM y::q/\(g.er,y.er)=f.er.stmt x.er):=by
 refine aE ntmps227 fun F cs=> ?_;obtain ⟨k,ln,cl,nm,wt,⟨k1,z1,s1,l1,o1,p1,y1,u1,w1⟩,⟨k2,z2,s2,l2,o2,p2,y2,u2,w2⟩,body,els,ba,bc,ea,ec,id,slot,other,loc⟩:=x;obtain ⟨w0,v0,u0,t0⟩:=ht;have hE:=Zx0 h;have hX:=Zxo h;have hB:=Zx1 h;have hL:=Zxe h;simp only [Stm.sz] at hb;obtain ⟨t1,⟨r1,q1⟩,m1⟩:=hb;refine Yb fun n1=> ?_
 refine Yb fun n2=> ?_
 refine Zo zeroValue316 fun n3=> ?_
 refine Zo zeroValue138 fun n4=> ?_
 refine Zp ?_ ?_<;>intro h0
 . have b0:512<=f.er.stm:=h0;refine rn [2,0,1,2,3,5] ?_;apply Wk 3 (aG _) (Jz (f:=f) (cO hf));rintro _ _ ⟨gf,rfl,rfl,hg⟩;refine ⟨hlA,?_⟩;refine rn [6,7,0] ?_;apply cE (q':=stM (.mk k ln cl nm wt (.mk k1 z1 s1 l1 o1 p1 y1 u1 w1) (.mk k2 z2 s2 l2 o2 p2 y2 u2 w2) body els ba bc ea ec id slot other loc)::_) (dP (cO h));refine Zg ?_;exact ⟨_,⟨_,rfl,gf,(.mk k ln cl nm wt (.mk k1 z1 s1 l1 o1 p1 y1 u1 w1) (.mk k2 z2 s2 l2 o2 p2 y2 u2 w2) body els ba bc ea ec id slot other loc),rfl,rfl,by simp only [Stm.er,Fnd.stmt,if_pos b0,hg]⟩,leA⟩
 have b0: ¬512<=f.er.stm:=(by show ¬512<=f.stm;omega);refine Zz ?_;apply Zv (aG _) (S4 _ (.mk k2 z2 s2 l2 o2 p2 y2 u2 w2) (aS _) v0 (f:=({ f with stm:=f.stm+1 } :FC)) ((cO hf).imp fun M h=>FC.At.s h) (cO hX));rintro _ _ ⟨g1,⟨k3,r,s3,l3,o3,p3,y3,u3,z⟩,rfl,rfl,q0⟩;refine Zz ?_;apply Zv (aG _) (S4 _ (.mk k1 z1 s1 l1 o1 p1 y1 u1 w1) (aS _) w0 (f:=g1) knA (cO hE));rintro _ _ ⟨g2,⟨k4,p,s4,l4,o4,p4,t,u4,w⟩,rfl,rfl,p0⟩;have j0:f.er.To g2.er 0:=by have h1:=(Fnd.To.stm f.er (f.stm+1) (by show f.stm<=f.stm+1;omega)).trans ((Fnd.To.expr _ _).trans (Fnd.To.expr (Fnd.expr { f.er with stm:=f.stm+1 } (Ex.er (.mk k2 z2 s2 l2 o2 p2 y2 u2 w2))).1 (Ex.er (.mk k1 z1 s1 l1 o1 p1 y1 u1 w1))));rw [show g2.er=(Fnd.expr (Fnd.expr { f.er with stm:=f.stm+1 } (Ex.er (.mk k2 z2 s2 l2 o2 p2 y2 u2 w2))).1 (Ex.er (.mk k1 z1 s1 l1 o1 p1 y1 u1 w1))).1 from by rw [show (Fnd.expr { f.er with stm:=f.stm+1 } (Ex.er (.mk k2 z2 s2 l2 o2 p2 y2 u2 w2))).1=g1.er from (aQ Prod.fst q0).symm];exact aQ Prod.fst p0];exact h1
 refine Zz ?_;refine Wb (want_ok) ?_;refine iG (fun (x:FC×Int×Bool)=> [(2,pt n1),(3,pt n2),(4,pt n3),(5,pt n4),(6,I64 k)]) (fun x=>fcM x.1::pC n1 (fcC x.1) 316::pC n2 (stC (.mk k ln cl nm wt (.mk k4 p s4 l4 o4 p4 t u4 w) (.mk k3 r s3 l3 o3 p3 y3 u3 z) body els ba bc ea ec f.stm x.2.1 other x.2.2)) 138::pC n3 zz6 316::pC n4 zz2 138::exM (.mk k3 r s3 l3 o3 p3 y3 u3 z)::exM (.mk k4 p s4 l4 o4 p4 t u4 w)::(q++F)) (fun x=>x=(x.1,x.2.1,x.2.2)/\(x.1.er,x.2.1,x.2.2)=g2.er.own1 k nm slot loc/\f.er.To x.1.er 0) (fun x e=> ?_) fun K=> ?_
 . obtain ⟨g,sl,lo⟩:=x;dsimp only at e|-;obtain ⟨_,s0,i0⟩:=e;clear j0;apply xx 5;refine iG (fun (x:FC×Int×Int×Bool)=> [(2,pt n1),(3,pt n2),(4,pt n3),(5,pt n4)]) (fun x=>fcM x.1::pC n1 (fcC x.1) 316::pC n2 (stC (.mk k ln cl nm wt (.mk k4 p s4 l4 o4 p4 t u4 w) (.mk k3 r s3 l3 o3 p3 y3 u3 z) body els ba bc ea ec f.stm x.2.1 x.2.2.1 x.2.2.2)) 138::pC n3 zz6 316::pC n4 zz2 138::exM (.mk k3 r s3 l3 o3 p3 y3 u3 z)::exM (.mk k4 p s4 l4 o4 p4 t u4 w)::(q++F)) (fun x=>(x.1.er,x.2.1,x.2.2.1,x.2.2.2)=g.er.own2 k nm wt sl other lo) (fun x e=> ?_) fun o=> ?_
   . obtain ⟨g3,c0,d0,f0⟩:=x;dsimp only at e|-;have m0:f.er.To g3.er 1:=by have h1:=i0.trans (Fnd.To.own2 g.er k nm wt sl other lo);rw [<-e] at h1;exact h1
     have a0:=m0;obtain ⟨a1,⟨e1,c1⟩,y0,_⟩:=a0;dsimp only [FC.er] at a1 e1 c1 y0;refine rn [2,0,1,0] ?_;refine Zv (aG _) (IH body ba bc (by simp only [Stm.sz];omega) u0 (f:=g3) knA (cO hB) ⟨Zq,⟨Zq,Zq⟩,Zq⟩) ?_;rintro _ _ ⟨g5,a5,c5,l5,rfl,rfl,g0⟩;have r0:g5.er.names=g3.er.names:=by rw [show g5.er=(g3.er.block (Zk body)).1 from aQ Prod.fst g0];rfl
     have j1:g5.er.locals=g3.er.locals:=by rw [show g5.er=(g3.er.block (Zk body)).1 from aQ Prod.fst g0];rfl
     have i1:g3.er.stm<=g5.er.stm:=by rw [show g5.er=(g3.er.block (Zk body)).1 from aQ Prod.fst g0];exact (gZ (Zk body) g3.er).s
     dsimp only [FC.er] at r0 j1 i1;have v1:=aQ List.length r0;refine rn [3,0,1,0,3,0,1,0] ?_;refine Zv (aG _) (IH els ea ec (by simp only [Stm.sz];omega) t0 (f:=g5) knA (cO hL) ⟨Zq,⟨Zq,Zq⟩,Zq⟩) ?_;rintro _ _ ⟨g6,a6,c6,l6,rfl,rfl,f1⟩;refine rn [3,0,1,0,2,0,1,2,3,4,0] ?_;apply Kr (.mk k ln cl nm wt (.mk k4 p s4 l4 o4 p4 t u4 w) (.mk k3 r s3 l3 o3 p3 y3 u3 z) l5 l6 a5 c5 a6 c6 f.stm c0 d0 f0) kK;refine Zl (fcM g6::stM (.mk k ln cl nm wt (.mk k4 p s4 l4 o4 p4 t u4 w) (.mk k3 r s3 l3 o3 p3 y3 u3 z) l5 l6 a5 c5 a6 c6 f.stm c0 d0 f0)::q) func227 (rAA_ results227) ⟨_,rfl,g6,(.mk k ln cl nm wt (.mk k4 p s4 l4 o4 p4 t u4 w) (.mk k3 r s3 l3 o3 p3 y3 u3 z) l5 l6 a5 c5 a6 c6 f.stm c0 d0 f0),rfl,rfl,(Zvg b0 q0 p0 (show (g3.er,c0,d0,f0)=_ from by unfold Fnd.own;dsimp only;rw [<-s0];exact e) g0 f1).symm⟩
   have j:k=1\/k=8\/k=12\/ ¬ (k=1\/k=8\/k=12):=Zq;rcases j with j|j|j|j
   . unfold Fnd.own2 at o;simp only [if_pos j] at o;refine rn [6,2083,4,0,1,0] ?_;apply bD (Zb1 (f:=g) knA);apply ox 2;refine iG (fun (x:FC)=> [(2,pt n1),(3,pt n2),(4,pt n3),(5,pt n4)]) (fun x=>fcM x::pC n1 (fcC x) 316::pC n2 (stC (.mk k ln cl nm wt (.mk k4 p s4 l4 o4 p4 t u4 w) (.mk k3 r s3 l3 o3 p3 y3 u3 z) body els ba bc ea ec f.stm sl other lo)) 138::pC n3 zz6 316::pC n4 zz2 138::exM (.mk k3 r s3 l3 o3 p3 y3 u3 z)::exM (.mk k4 p s4 l4 o4 p4 t u4 w)::(q++F)) (fun x=>x.er=g.er.loc1 nm) (fun x e=> ?_) fun K3=> ?_
     . obtain ⟨g3,o0⟩:=lV x;rw [<-o0] at e|-;clear o0;refine rn [4,0,2] ?_;refine iG (fun (x:FC)=> [(2,pt n1),(3,pt n2),(4,pt n3),(5,pt n4)]) (fun x=>fcM x::pC n1 (fcC x) 316::pC n2 (stC (.mk k ln cl nm wt (.mk k4 p s4 l4 o4 p4 t u4 w) (.mk k3 r s3 l3 o3 p3 y3 u3 z) body els ba bc ea ec f.stm sl other lo)) 138::pC n3 zz6 316::pC n4 zz2 138::exM (.mk k3 r s3 l3 o3 p3 y3 u3 z)::exM (.mk k4 p s4 l4 o4 p4 t u4 w)::(q++F)) (fun x=>x.er=(g.er.loc1 nm).loc2) (fun x e=> ?_) fun K4=> ?_
       . obtain ⟨i,n0⟩:=lV x;rw [<-n0] at e|-;clear n0;have a0:f.er.To i.er 0:=by have h1:=i0.trans ((Fnd.To.loc1 g.er nm).trans (Fnd.To.loc2 (g.er.loc1 nm)));rw [<-e] at h1;exact h1
         obtain ⟨z0,⟨d1,b1⟩,x0,_⟩:=a0;dsimp only [FC.er] at z0 d1 b1 x0;refine rn [3,0,1,0,1,0,2,0,1,2,4,5,6,7,8] ?_;apply XD.le (q':=rsH nmC 3 321 none 0 ([])::_) (Zc nmC 3 321 _);refine Vd (fl:= [⟨8,113,fun g=> .slice (some ⟨g,0,none⟩) 1 1,fun g=>rsH nmC 3 321 (some ⟨g,0,none⟩) 1 ([⟨nm,100,i.locals⟩])⟩]) ?_;refine XF.ef 2 ⟨⟨_,rfl,rfl,rfl,rfl,rfl,rfl,fun q=>Yw (u:=⟨nm,100,i.locals⟩) nmC underlying314 Hx rfl rfl (fun _=>rfl) rfl⟩,trivial⟩ (I5 (f:=nmC) (sz:=3) (l:= []) (m:=i.names.l) underlying314 Hx rfl rfl (fun _=>rfl) rfl rfl Zj (eB (lB (φ:=fun M=>i.At M) knA fun M h=>h.names)) (fun _=>rfl) Zi Zi) ?_;refine kk2 fun aa ac=> ?_
         refine Qs (e0:=⟨8,113,fun g=> .slice (some ⟨g,0,none⟩) 1 1,fun g=>rsH nmC 3 321 (some ⟨g,0,none⟩) 1 ([⟨nm,100,i.locals⟩])⟩) (hnd:=by simp) 8 ⟨⟨_,rfl,rfl,rfl,rfl,rfl,rfl,fun q=>Yw (u:=⟨nm,100,i.locals⟩) nmC underlying314 Hx rfl rfl (fun _=>rfl) rfl⟩,trivial⟩ fun gl=> ?_;change XF _ _ _ _ _ _ _ [] _ _ _ ((113,.slice (some ⟨gl,0,none⟩) 1 1)::_) _ _ (rsH nmC 3 321 (some ⟨gl,0,none⟩) 1 ([⟨nm,100,i.locals⟩])::_);refine fR ?_;try rw [bL]
         refine eT 9 rfl (Z9 (f:=nmC) (l:=i.names.l) (m:= [⟨nm,100,i.locals⟩]) underlying314 Hx rfl rfl (fun _=>rfl) rfl rfl Zj ((bJ _).le Zj) (fun _=>rfl) Zi Zi) ?_;refine kk2 fun l0 k0=> ?_
         refine rn [11,12,0,3,0,2,0,3,0,1,0,2,0,2] ?_;refine Zkr ?_;refine cE (q':=fcM ({ i with names:=⟨i.names.l++ [⟨nm,100,i.locals⟩],l0,k0⟩,locals:=i.locals+1,most:=max i.most (i.locals+1) } :FC)::_) (dP ((gG (φ:=fun M=>i.At M) knA (svK (x:=⟨_,l0,k0⟩) (f:=nmC))).imp fun M h=>FC.At.l h.1 h.2)) ?_;exact cH (o (({ i with names:=⟨i.names.l++ [⟨nm,100,i.locals⟩],l0,k0⟩,locals:=i.locals+1,most:=max i.most (i.locals+1) } :FC),i.locals,other,true) (by rw [<-e];rfl)) Z5 leA
       refine xp 96 ?_ ?_<;>intro h4
       . refine rn [2,0,1,0] ?_;apply Zv (aG _) (Jz (f:=g3) knA);rintro _ _ ⟨gf,rfl,rfl,hg⟩;refine rn [0,1] ?_;exact cH (K4 gf (by rw [<-e];unfold Fnd.loc2;rw [if_pos (show 32<=g3.er.locals from h4)];exact hg)) Z5 leA
       apply xx 2;exact cH (K4 g3 (by rw [<-e];unfold Fnd.loc2;rw [if_neg (show ¬32<=g3.er.locals from (by show ¬32<=g3.locals;omega))])) Z5 leA
     refine xp 89 ?_ ?_<;>intro h3
     . refine rn [2,0,1,0] ?_;apply Zv (aG _) (Jz (f:=g) knA);rintro _ _ ⟨gf,rfl,rfl,hg⟩;refine rn [0,1] ?_;exact cH (K3 gf (by unfold Fnd.loc1;rw [if_pos (show g.er.at nm≠0 by omega)];exact hg)) Z5 leA
     apply xx 2;exact cH (K3 g (by unfold Fnd.loc1;rw [if_neg (show ¬g.er.at nm≠0 by omega)])) Z5 leA
   . unfold Fnd.own2 at o;simp only [if_neg (show ¬k=1 by omega),if_pos j] at o;refine rn [6,1083,6,2126,3,0,1,0,1,0] ?_;apply Zv (aG _) (wants_ok (f:=g) knA);rintro _ _ ⟨gw,xw,rfl,rfl,n⟩;apply oo 3;refine iR zeroValue316 fun n5=> ?_
     refine iR zeroValue321 fun n6=> ?_
     refine rn [0,0,3,0,0,3,0,1,0,2] ?_;exact cH (o (gw,sl,xw.s,lo) (by rw [<-n])) Z5 leA
   . unfold Fnd.own2 at o;simp only [if_neg (show ¬k=1 by omega),if_neg (show ¬k=8 by omega),if_pos j] at o;refine rn [6,1083,6,1126,6,2141,3,0,1,0,1,0] ?_;apply Zv (aG _) (wants_ok (f:=g) knA);rintro _ _ ⟨gw,xw,rfl,rfl,n⟩;apply oo 3;refine iR zeroValue316 fun n5=> ?_
     refine iR zeroValue321 fun n6=> ?_
     refine rn [0,0,3,0,0,1,0,1,2,3,4,5,6,7,8,9,0,1] ?_;exact cH (o (gw,sl,xw.s,xw.k==100) (by rw [<-n])) Z5 leA
   unfold Fnd.own2 at o;simp only [if_neg (show ¬k=1 by omega),if_neg (show ¬k=8 by omega),if_neg (show ¬k=12 by omega)] at o;refine rn [6,1083,6,1126,6,1141,3] ?_;exact cH (o (g,sl,other,lo) rfl) Z5 leA
 refine Zp ?_ ?_<;>intro h1
 . refine Zz ?_;apply Zv (aG _) (wants_ok (f:=g2) knA);rintro _ _ ⟨gw,xw,rfl,rfl,n⟩;refine Zo zeroValue316 fun n5=> ?_
   refine Zo zeroValue321 fun n6=> ?_
   refine rn [0,0,3,0,0,1,0,1,2,3,4,5,6,7,8,9,0] ?_;exact cH (K (gw,xw.s,xw.k==100) ⟨rfl,by unfold Fnd.own1;rw [if_pos (by simpa using h1),<-n],by have h2:=j0.trans (Fnd.To.wants g2.er nm (Nh k).1 (Nh k).2);rw [<-n] at h2;exact h2⟩) Z5 leA
 apply xx 2;exact cH (K (g2,slot,loc) ⟨rfl,by unfold Fnd.own1;rw [if_neg (by simpa using h1)],j0⟩) Z5 leA
end
section
variable {x:Stm}{m:List Stm}{a:Option Addr}{c:Nat}
def Zzj {l:List Stm}(h:k<l.length):Zn (l.drop k)=l[k].sz+Zn (l.drop (k+1)):=by rw [aP h];rfl
def Stm.sz_pos (x:Stm):1<=x.sz:=by cases x;simp only [Stm.sz];omega
def C3: ∀ (l:List Stm),l.length<=Zn l
 | []=>aZ _
 |x::r=>by have:=Stm.sz_pos x;have:=C3 r;simp only [Zn,aJ];omega
def Cs (IH: ∀ (x:Stm),x.sz<=Zn m->x.er.thin-> ∀ {f:FC} {q:List HP},(Kn q fun M=>f.At M)->(Kn q fun M=>x.At M)->(f.names.l.length+x.sz<=300000/\(0<=f.locals/\f.locals+x.sz<=300000)/\0<=f.stm)->CF G 227 (AH f x) q (Ret fun v q'=> ∃ (g:FC) (y:Stm),v= .tuple (AH g y).toArray/\q'=fcM g::stM y::q/\(g.er,y.er)=f.er.stmt x.er))(hf:Kn q fun M=>f.At M)(h:Kn q fun M=>BlkAt M a c m)(ht:V0 (Zk m))(hb:(f.names.l.length+Zn m<=300000/\(0<=f.locals/\f.locals+Zn m<=300000)/\0<=f.stm)):CF G 161 [.agg (fcC f).toArray,.slice a m.length c] (q) (Ret fun v q'=> ∃ (g:FC) (b:Option Addr) (d:Nat) (m':List Stm),v= .tuple [.agg (fcC g).toArray,.slice b m'.length d].toArray/\q'=fcM g::blM b d m'::q/\(g.er,Zk m')=f.er.block (Zk m)):=by
 refine aE ntmps161 fun F cs=> ?_;have m3:=C3 m;have hA:=Zyq h;have w2:=Zx (f:=stC) (sz:=25) Z7 m;refine gW (fun w s=>Zx8 (h.le leA) s) fun q3=> ?_;obtain ⟨R,hR⟩: ∃ R,f.er.blk (Zk m)=R:=⟨_,rfl⟩;obtain ⟨fn,o3⟩:=lV f.names;obtain ⟨fl,p3⟩:=lV f.locals;refine Yb fun n1=> ?_
 refine Zo zeroValue316 fun n2=> ?_
 refine Zz ?_;refine cH (bW (fun (s:FC×(Option Addr×Nat×List Stm)×Option Addr)=>s.2.1.2.2.length<=m.length/\s.2.2=a/\R=((Fnd.blk s.1.er (Zk (m.drop s.2.1.2.2.length))).1,Zk s.2.1.2.2++(Fnd.blk s.1.er (Zk (m.drop s.2.1.2.2.length))).2)/\(s.1.names.l.length+Zn (m.drop s.2.1.2.2.length)<=300000/\(0<=s.1.locals/\s.1.locals+Zn (m.drop s.2.1.2.2.length)<=300000)/\0<=s.1.stm)) (fun s=> [(8,.slice s.2.1.1 s.2.1.2.2.length s.2.1.2.1),(9,I64 (s.2.1.2.2.length:Int)),(1,.slice s.2.2 m.length c),(2,pt n1),(4,pt n2),(5,.slice none 0 0),(6,f.names.v),(7,I64 f.locals)]) (fun s=>rsH stC 25 138 s.2.1.1 s.2.1.2.1 s.2.1.2.2::stsM s.2.1.2.2::fcM s.1::pC n1 (fcC s.1) 316::pC n2 zz6 316::(q++F)) (fun s=>m.length - s.2.1.2.2.length) (fun s x2 ih=> ?_) (f,(none,0, []),a) ⟨aZ _,rfl,hR.symm,hb⟩) Z5 (aK leA (aK (Zc stC 25 138 _) (aK Nv (aK (dP (φ:=fun M=>f.At M) (mn:=fun e h=>FC.At.mono e h) (cO hf)) leA))));try dsimp only at x2 ih|-
 obtain ⟨n3,j3,u2,y2⟩:=x2;obtain ⟨g,⟨a2,c2,n⟩,r3⟩:=s;dsimp only at*;subst j3;refine Zz ?_;refine' Vo ?_;refine Wg ?_ ?_<;>intro h0
 . obtain ⟨b0,h9⟩:n.length<m.length/\g.flaw=0:=(by rw [bA] at h0;exact ⟨by simpa using h0.1,by simpa using h0.2⟩);have hz:=Zzj b0;rw [hz] at y2;obtain ⟨y,hy⟩: ∃ y,m[n.length]=y:=⟨_,rfl⟩;rw [hy] at y2;obtain ⟨k3,y0,i1,x0,m0,⟨d1,j0,s0,a1,w0,u0,l0,q0,o0⟩,⟨c1,i0,r0,z0,v0,t0,k0,p0,n0⟩,t,d0,k1,j1,h1,g1,f1,r,o,c0⟩:=y;have hp:=Stm.sz_pos (.mk k3 y0 i1 x0 m0 (.mk d1 j0 s0 a1 w0 u0 l0 q0 o0) (.mk c1 i0 r0 z0 v0 t0 k0 p0 n0) t d0 k1 j1 h1 g1 f1 r o c0);refine Zz ?_;refine Rh hA (by rw [w2];omega) fun b1 o1 e1=> ?_;subst e1;have t2: ∀ (Q:List HP),Le Q q-> ∀ (j:Nat) (v:Value),nth (stC (.mk k3 y0 i1 x0 m0 (.mk d1 j0 s0 a1 w0 u0 l0 q0 o0) (.mk c1 i0 r0 z0 v0 t0 k0 p0 n0) t d0 k1 j1 h1 g1 f1 r o c0)) j=some v->Cl Q ⟨b1,o1+(n.length:Int).toNat*25+j,none⟩ v:=fun Q hQ j v hv=>cX hA hQ Z7 b0 rfl j v (by rw [hy,<-Qi];exact hv)
   have e3: ∀ (Q:List HP) (i:Nat),Le Q q->HL Q (rdA i b1 (o1+(n.length:Int).toNat*25) (stC (.mk k3 y0 i1 x0 m0 (.mk d1 j0 s0 a1 w0 u0 l0 q0 o0) (.mk c1 i0 r0 z0 v0 t0 k0 p0 n0) t d0 k1 j1 h1 g1 f1 r o c0))):=fun Q i hQ=>HL.rdA fun j v hk=>t2 Q hQ j v (by rw [Qi];exact hk)
   refine Zz ?_;refine iP 4 (us:=stC (.mk k3 y0 i1 x0 m0 (.mk d1 j0 s0 a1 w0 u0 l0 q0 o0) (.mk c1 i0 r0 z0 v0 t0 k0 p0 n0) t d0 k1 j1 h1 g1 f1 r o c0)) rfl rfl isAgg138 sizeOf138 rfl (fun k v hk=>t2 _ leA k v (by rw [Qi];exact hk)) ?_;refine Vd (fl:= [⟨9,10,fun g=> pt g,fun g=>pC g zz6 316⟩,⟨10,11,fun g=> pt g,fun g=>pC g zz2 138⟩]) ?_;refine Bi 5 ⟨flA zeroValue316,flA zeroValue138,trivial⟩ (aG _) (IH (.mk k3 y0 i1 x0 m0 (.mk d1 j0 s0 a1 w0 u0 l0 q0 o0) (.mk c1 i0 r0 z0 v0 t0 k0 p0 n0) t d0 k1 j1 h1 g1 f1 r o c0) (by have:=Qx (aC b0);rw [hy] at this;exact this) (by have:=Bo ht (by rw [Yl];exact cW (aC b0));rw [hy] at this;exact this) (f:=g) knA (cO (by have:=Zx9 h b0;rw [hy] at this;exact this) leA) ⟨Zq,⟨Zq,Zq⟩,Zq⟩) ?_ (hL:=(hlA (h:=by repeat first|exact trivial|refine ⟨clA,?_⟩|refine HL.app (e3 _ _ leA) ?_|refine ⟨t2 _ leA 0 _ rfl,?_⟩|refine ⟨t2 _ leA _ _ rfl,?_⟩)));rintro _ _ ⟨g2,⟨k2,f2,q2,e2,r1,⟨l2,m1,x1,i2,d2,z1,q1,v1,t1⟩,⟨j2,l1,w1,h2,b2,y1,p1,u1,s1⟩,a0,g0,s2,r2,p2,o2,m2,z,p,f0⟩,rfl,rfl,z2⟩;refine ⟨trivial,?_⟩;refine Kq 6 ⟨flA zeroValue316,flA zeroValue138,trivial⟩ (Pu.move rfl) ?_;refine Kq 7 ⟨flA zeroValue316,flA zeroValue138,trivial⟩ (fP rfl rfl) ?_;refine Kq 8 ⟨flA zeroValue316,flA zeroValue138,trivial⟩ (fP rfl rfl) ?_;refine Qs (e0:=⟨9,10,fun g=> pt g,fun g=>pC g zz6 316⟩) (hnd:=by simp) 9 ⟨flA zeroValue316,flA zeroValue138,trivial⟩ fun ga=> ?_;change XF _ _ _ _ _ _ _ [⟨10,11,fun g=> pt g,fun g=>pC g zz2 138⟩] _ _ _ ((10,pt ga)::_) _ _ (pC ga zz6 316::_);refine Qs (e0:=⟨10,11,fun g=> pt g,fun g=>pC g zz2 138⟩) (hnd:=by simp) 10 ⟨flA zeroValue138,trivial⟩ fun gb=> ?_;change XF _ _ _ _ _ _ _ [] _ _ _ ((11,pt gb)::_) _ _ (pC gb zz2 138::_);refine fR ?_;refine rn [12,13,0,2,0,0,3,0] ?_;apply bU (Yw (u:=(.mk k2 f2 q2 e2 r1 (.mk l2 m1 x1 i2 d2 z1 q1 v1 t1) (.mk j2 l1 w1 h2 b2 y1 p1 u1 s1) a0 g0 s2 r2 p2 o2 m2 z p f0)) stC underlying128 Us rfl rfl Z7 rfl);rintro _ _ ⟨gl,rfl,rfl⟩;apply bU (Z9 (f:=stC) (l:=n) (m:= [(.mk k2 f2 q2 e2 r1 (.mk l2 m1 x1 i2 d2 z1 q1 v1 t1) (.mk j2 l1 w1 h2 b2 y1 p1 u1 s1) a0 g0 s2 r2 p2 o2 m2 z p f0)]) underlying128 Us rfl rfl Z7 rfl rfl Zj ((bJ _).le Zj) Mz Zi Zi);rintro _ _ ⟨a3,c3,rfl,rfl⟩;refine Zz ?_;apply X.sts (l:=n) (s:=(.mk k2 f2 q2 e2 r1 (.mk l2 m1 x1 i2 d2 z1 q1 v1 t1) (.mk j2 l1 w1 h2 b2 y1 p1 u1 s1) a0 g0 s2 r2 p2 o2 m2 z p f0)) Zj Zj;have v2:=Fnd.To.stmt (Stm.er (.mk k3 y0 i1 x0 m0 (.mk d1 j0 s0 a1 w0 u0 l0 q0 o0) (.mk c1 i0 r0 z0 v0 t0 k0 p0 n0) t d0 k1 j1 h1 g1 f1 r o c0)) g.er;rw [<-aQ Prod.fst z2] at v2;obtain ⟨f3,⟨h3,g3⟩,d3,_⟩:=v2;dsimp only [FC.er] at f3 h3 g3 d3
   have b3:R=((Fnd.blk g2.er (Zk (m.drop (n.length+1)))).1,Zk (n++ [(.mk k2 f2 q2 e2 r1 (.mk l2 m1 x1 i2 d2 z1 q1 v1 t1) (.mk j2 l1 w1 h2 b2 y1 p1 u1 s1) a0 g0 s2 r2 p2 o2 m2 z p f0)])++(Fnd.blk g2.er (Zk (m.drop (n.length+1)))).2):=by
    rw [u2,aP b0,hy,Ns];simp only [Zk,Fnd.blk];rw [if_pos (show g.er.flaw=0 from h9)];simp only [<-z2,aO,List.singleton_append]
   have i3:(g2.names.l.length+Zn (m.drop (n.length+1))<=300000/\(0<=g2.locals/\g2.locals+Zn (m.drop (n.length+1))<=300000)/\0<=g2.stm):=⟨Zq,⟨Zq,Zq⟩,Zq⟩;refine Zs (ih (g2,(a3,c3,n++ [(.mk k2 f2 q2 e2 r1 (.mk l2 m1 x1 i2 d2 z1 q1 v1 t1) (.mk j2 l1 w1 h2 b2 y1 p1 u1 s1) a0 g0 s2 r2 p2 o2 m2 z p f0)]),_) ⟨Zi,rfl,by rw [aA];exact b3,by rw [aA];exact i3⟩ Zi)
 have l3:R=(g.er,Zk n):=by
  rcases dN n.length m.length with b0|b0
  . rw [u2,aP b0];simp only [Zk,Fnd.blk];rw [if_neg (show ¬g.er.flaw=0 from fun hg=>by revert h0;rw [dB (show (n.length:Int)<m.length by omega),show g.flaw=0 from hg];decide)];simp
  rw [u2,cN b0];simp only [Zk,Fnd.blk,cA]
 refine Zz ?_;apply cE (q':=fcM ({ g with names:=f.names,locals:=f.locals } :FC)::_) (dP ((gG (φ:=fun M=>g.At M) knA (cO hf)).imp fun M h=>FC.At.b h.1 h.2));apply X.fzB (m:=n);refine Zg ?_;exact ⟨_,⟨_,rfl,({ g with names:=f.names,locals:=f.locals } :FC),a2,c2,n,rfl,rfl,by unfold Fnd.block;rw [hR,l3];rfl⟩,leA⟩
def Zg5: ∀ N:Nat,(∀ (x:Stm),x.sz<=N->x.er.thin-> ∀ {f:FC} {q},(Kn q fun M=>f.At M)->(Kn q fun M=>x.At M)->(f.names.l.length+x.sz<=300000/\(0<=f.locals/\f.locals+x.sz<=300000)/\0<=f.stm)->CF G 227 [.agg (fcC f).toArray,.agg (stC x).toArray] q (Ret fun v q'=> ∃ (g:FC) (y:Stm),v= .tuple [.agg (fcC g).toArray,.agg (stC y).toArray].toArray/\q'=fcM g::stM y::q/\(g.er,y.er)=f.er.stmt x.er))/\(∀ (m:List Stm) (a:Option Addr) (c:Nat),Zn m<=N->V0 (Zk m)-> ∀ {f:FC} {q},(Kn q fun M=>f.At M)->(Kn q fun M=>BlkAt M a c m)->(f.names.l.length+Zn m<=300000/\(0<=f.locals/\f.locals+Zn m<=300000)/\0<=f.stm)->CF G 161 [.agg (fcC f).toArray,.slice a m.length c] q (Ret fun v q'=> ∃ (g:FC) (b:Option Addr) (d:Nat) (m':List Stm),v= .tuple [.agg (fcC g).toArray,.slice b m'.length d].toArray/\q'=fcM g::blM b d m'::q/\(g.er,Zk m')=f.er.block (Zk m))):=by
 intro N
 induction N with
 |zero=>
  have k: ∀ (x:Stm),x.sz<=0->x.er.thin-> ∀ {f:FC} {q:List HP},(Kn q fun M=>f.At M)->(Kn q fun M=>x.At M)->(f.names.l.length+x.sz<=300000/\(0<=f.locals/\f.locals+x.sz<=300000)/\0<=f.stm)->CF G 227 [.agg (fcC f).toArray,.agg (stC x).toArray] q (Ret fun v q'=> ∃ (g:FC) (y:Stm),v= .tuple [.agg (fcC g).toArray,.agg (stC y).toArray].toArray/\q'=fcM g::stM y::q/\(g.er,y.er)=f.er.stmt x.er):=fun x n=>by have:=Stm.sz_pos x;omega
  exact ⟨k,fun m a c o e _ _ i h j=>Cs (fun x n=>k x Zq) i h e j⟩
 |succ N ih=>
  have k: ∀ (x:Stm),x.sz<=N+1->x.er.thin-> ∀ {f:FC} {q:List HP},(Kn q fun M=>f.At M)->(Kn q fun M=>x.At M)->(f.names.l.length+x.sz<=300000/\(0<=f.locals/\f.locals+x.sz<=300000)/\0<=f.stm)->CF G 227 [.agg (fcC f).toArray,.agg (stC x).toArray] q (Ret fun v q'=> ∃ (g:FC) (y:Stm),v= .tuple [.agg (fcC g).toArray,.agg (stC y).toArray].toArray/\q'=fcM g::stM y::q/\(g.er,y.er)=f.er.stmt x.er):=fun x n e _ _ i h j=>Zwi (fun m a c o=>ih.2 m a c Zq) i h e j
  exact ⟨k,fun m a c o e _ _ i h j=>Cs (fun x n=>k x Zq) i h e j⟩
end
end Go.Proofs.YtadahhbefdnabaaGreatDoor
