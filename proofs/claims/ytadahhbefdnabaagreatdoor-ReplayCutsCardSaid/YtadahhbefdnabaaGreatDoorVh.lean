/- Contracts. -/
import Derived.Test.YtadahhbefdnabaaGreatDoorVg
import Derived.Deep.AppendSrc
set_option maxHeartbeats 16000000
set_option maxRecDepth 100000
set_option linter.all false
namespace Go.Proofs.YtadahhbefdnabaaGreatDoor
open Go Go.RowKit Wx Go.Proofs.Tryz
variable {l m L T:List Int}{n p c i n4 n5:Nat}{s k:Int}{G:World}{q r R:List HP}{a b:Option Addr}{φ:Prop}{P:Program}{d:Option Tmp}{pos:String}{af:Array Edge}{gd:Option (Nat×Bool)}{x:Cod}{y:Operand}{u:Int->List Int}{f:Fc}{Q:Yp}{p0:PE}{ds:List Deferred}{fv:Value}{I:List Ins}
def Ke:(prog.info? 5).map (fun i=>(i.zero,i.size,i.bytes))=some (some (.int .u8 0),1,1):=by kernel_rfl
def Ts:(prog.info? 3).map (fun i=>(i.zero,i.size,i.bytes))=some (some (I64 0),1,8):=by kernel_rfl
def Zyw:(prog.info? 2).map (fun i=>(i.zero,i.size,i.bytes))=some (some (I64 0),1,8):=by kernel_rfl
def Ty:(prog.info? 49).map (fun i=>(i.zero,i.size,i.bytes))=some (some (.agg #[I64 0,I64 0]),2,16):=by kernel_rfl
abbrev Ux:=Int×Int
abbrev Zvj:=Int×Int×Int×Int
structure Tkn where
 hash:Int
 turns:List Ux
 e:Zvj
variable {t:Tkn}
def tcs (x:Ux):List Value:= [I64 x.1,I64 x.2]
def ocs (x:Zvj):List Value:= [I64 x.1,I64 x.2.1,I64 x.2.2.1,I64 x.2.2.2]
def Tkn.cs (t:Tkn)(a:Option Addr)(c:Nat):List Value:= [.int .u32 t.hash,.slice a t.turns.length c,I64 t.e.1,I64 t.e.2.1,I64 t.e.2.2.1,I64 t.e.2.2.2]
def Tkn.v (t:Tkn)(a:Option Addr)(c:Nat):Value:= .agg (t.cs a c).toArray
def okE (o:Zvj):Prop:=(1<=o.1/\o.1<=3/\o.2.1=0/\o.2.2.1=0/\o.2.2.2=0)\/(o.1=4/\1<=o.2.1/\o.2.1<=5/\0<=o.2.2.1/\o.2.2.1<=7/\0<=o.2.2.2/\o.2.2.2<=511)
instance (o:Zvj):Decidable (okE o):=by unfold okE;infer_instance
def goT:Option Int->Int->List Ux->Prop
 |_,_, []=>True
 |p,s,x::r=>(0<=x.1/\x.1<=7/\1<=x.2/\s+x.2<=2147483647/\p≠some x.1)/\goT (some x.1) (s+x.2) r
instance goT.dec:(p:Option Int)->(s:Int)->(l:List Ux)->Decidable (goT p s l)
 |_,_, []=> .isTrue trivial
 |p,s,x::r=>have:=goT.dec (some x.1) (s+x.2) r;by unfold goT;infer_instance
def okT (t:Tkn):Prop:=t.turns.length<=65536/\okE t.e/\goT none 0 t.turns
instance (t:Tkn):Decidable (okT t):=by unfold okT;infer_instance
def chk (t:Tkn):Int:=if okT t then 0 else 2
def Cp (l:List Ux)(n:Nat):Option Int:=if n=0 then none else (l[n - 1]?).map (·.1)
def goT_end {l:List Ux}{p}(h:l.length<=n):goT p s (l.drop n):=by rw [cN h];trivial
def Zj2 {l}{p}(h:n<l.length):goT p s (l.drop n)↔(0<=l[n].1/\l[n].1<=7/\1<=l[n].2/\s+l[n].2<=2147483647/\p≠some l[n].1)/\goT (Cp l (n+1)) (s+l[n].2) (l.drop (n+1)):=by
 rw [aP h];simp [goT,Cp,h]
def Oo {l}(h:n<l.length)(h0:0<n):Cp l n=some (l[n - 1]'Zq).1:=by
 simp [Cp,Nat.ne_of_gt h0,aB (show n - 1<l.length by omega)]
def Lp (l:List Ux):Cp l 0=none:=rfl
def L0 (n:Int):CR G 15 [I64 n] ([]) (I64 n):=by
 refine aE ntmps15 fun F cs=> ?_;refine Zm [] ?_;exact ⟨_,rfl,rfl,rfl⟩
def within64_ok (n l m:Int):CR G 49 [I64 n,I64 l,I64 m] ([]) (.bool (decide (l<=n/\n<=m))):=by
 refine We ntmps49 fun F cs=> ?_;refine' Vo ?_;refine Zm [] ?_;exact ⟨_,rfl,aQ Value.bool Qw,rfl⟩
def Ee (n l m:Int):CR G 121 [I64 n,I64 l,I64 m] ([]) (.bool (decide (l<=n/\n<=m))):=by
 refine We ntmps121 fun F cs=> ?_;refine' Vo ?_;refine Zm [] ?_;exact ⟨_,rfl,aQ Value.bool Qw,rfl⟩
def Zvr (n l m:Int):CR G 191 [I64 n,I64 l,I64 m] ([]) (.bool (decide (l<=n/\n<=m))):=by
 refine We ntmps191 fun F cs=> ?_;refine' Vo ?_;refine Zm [] ?_;exact ⟨_,rfl,aQ Value.bool Qw,rfl⟩
def K9 (n:Int):CR G 119 [I64 n] ([]) (.bool (decide (0<=n/\n<=7))):=by
 refine We ntmps119 fun F cs=> ?_;apply Wn (Ee _ _ _);refine kd0 ?_;refine Zm [] ?_;exact ⟨_,rfl,rfl,rfl⟩
def Zg7 (x:Zvj):CR G 120 [.agg (ocs x).toArray] ([]) (.bool (decide (okE x))):=by
 refine aE ntmps120 fun F cs=> ?_;simp [ocs];refine Yb fun d=> ?_
 refine Zp ?_ ?_<;>intro h
 focus
  refine Zz ?_;refine Va (Gg rfl rfl (by kernel_rfl) (jJ underlying45 (by kernel_rfl) (by kernel_rfl) ⟨_,_,_,_,rfl,rfl,isAgg42,(eO underlying42 _ _),⟨_,_,_,_,rfl,rfl,isAgg43,(eO underlying43 _ _),⟨_,_,_,_,rfl,rfl,isAgg3,(eO underlying3 _ _),⟨_,_,_,_,rfl,rfl,isAgg3,(eO underlying3 _ _),rfl,rfl⟩,rfl⟩,rfl⟩,rfl⟩)) ?_
 rotate_left
 focus
  refine Zp ?_ ?_<;>intro g
  focus
   refine Zz ?_;refine Va (Gg rfl rfl (by kernel_rfl) (jJ underlying45 (by kernel_rfl) (by kernel_rfl) ⟨_,_,_,_,rfl,rfl,isAgg42,(eO underlying42 _ _),⟨_,_,_,_,rfl,rfl,isAgg43,(eO underlying43 _ _),⟨_,_,_,_,rfl,rfl,isAgg3,(eO underlying3 _ _),⟨_,_,_,_,rfl,rfl,isAgg3,(eO underlying3 _ _),rfl,rfl⟩,rfl⟩,rfl⟩,rfl⟩)) ?_
  rotate_left
  focus
   refine Zp ?_ ?_<;>intro f
   focus
    refine Zz ?_;refine Va (Gg rfl rfl (by kernel_rfl) (jJ underlying45 (by kernel_rfl) (by kernel_rfl) ⟨_,_,_,_,rfl,rfl,isAgg42,(eO underlying42 _ _),⟨_,_,_,_,rfl,rfl,isAgg43,(eO underlying43 _ _),⟨_,_,_,_,rfl,rfl,isAgg3,(eO underlying3 _ _),⟨_,_,_,_,rfl,rfl,isAgg3,(eO underlying3 _ _),rfl,rfl⟩,rfl⟩,rfl⟩,rfl⟩)) ?_
   rotate_left
   focus
    refine Zp ?_ ?_<;>intro e
    focus
     refine Zz ?_;apply Wn (Zvr _ _ _);refine kd0 ?_;refine Zz ?_;refine' Q1 ?_ ?_
     rotate_left
     . intro b a;refine Zz ?_;apply Wn (K9 _);refine kd0 ?_;exact Vi a
     refine Zz ?_;refine' Q1 ?_ ?_
     rotate_left
     . intro b a;refine Zz ?_;apply Wn (Ee _ _ _);refine kd0 ?_;exact Vi a
    rotate_left
 all_goals
  refine Zm [] ?_;exact ⟨_,rfl,cB (by rw [cD,decide_eq_true_iff];unfold okE;simp;try omega),rfl⟩
def Zgl (hs:Sees q a (t.turns.flatMap tcs)):CR G 60 [t.v a c] (q) (I64 (chk t)):=by
 refine aE ntmps60 fun F cs=> ?_;unfold Tkn.v Tkn.cs;refine Yb fun w=> ?_
 refine Zz ?_;refine' Qc ?_ ?_
 rotate_left
 . intro d j;refine Zz ?_;apply Wn (Zg7 t.e);refine kd0 ?_;exact Vi j
 refine Zp ?_ ?_<;>intro d
 . refine Zz ?_;refine Zl (q) func60 (Qq results60 rfl) ⟨_,rfl,by rw [chk,if_neg (by unfold okT;rintro ⟨x,y,_⟩;rcases d with d|d;omega;exact d y)],rfl⟩
 refine Zz ?_;refine Zs (bW (fun (s:Nat×Int)=>(s.1<=t.turns.length/\0<=s.2/\s.2<=2147483647)/\(goT none 0 t.turns↔goT (Cp t.turns s.1) s.2 (t.turns.drop s.1))) (fun s=> [(19,I64 (s.1:Int)),(3,I64 s.2),(1,pt w),(17,.slice a t.turns.length c),(18,I64 t.turns.length)]) (fun s=>pC w (t.cs a c) 47::(q++F)) (fun s=>t.turns.length - s.1) (fun s o z=> ?_) (0,0) ⟨⟨Zq,Zq,Zq⟩,by simp [Lp]⟩);try dsimp only at o z|-
 have ⟨⟨d0,c0,b0⟩,r⟩:=o;have ⟨i,s⟩:=s;dsimp only at*;refine Zp ?_ ?_<;>intro h0
 . have e0:i<t.turns.length:=Zq;refine Zz ?_;refine J9 hs (by rw [Zx (f:=tcs) (sz:=2) (fun _=>rfl) t.turns];omega) fun f0 a0 e_=> ?_;subst e_;refine Zz ?_;apply Jb (n:=i) isAgg49 sizeOf49 hs Zq;refine Zo zeroValue49 fun n2=> ?_
   refine Zz ?_;apply Q2 2 (K9 _);refine kc0 ?_;apply dd [3,4];apply XD.sb [28,4,5,19,3,1,17,18];apply Bl 16 [0,1,2,3,4,5,6,7,8,9,10,11] 35 28 rfl
   . intro b j;have d:=sp b;refine Zz ?_;apply Q2 9 (Ee _ _ _);refine kc0 ?_;apply dd [10,11];exact Ud j ⟨orF b,Yt⟩
   . intro b j;have d:=sp b;apply dd [5,6,7,8,9,10,11];exact Ud j ⟨orT b,Yt⟩
   intro L_;apply dd [12];apply XD.sb [36,4,5,19,3,1,17,18];apply Bl 0 [0,1,2,3,4,5,6,7,8,9,10,11,12,13,14,15,16,17,18,19,20,21,22,23,24,25,26,27] 51 36 rfl
   . intro b j;have d:=sp b;refine Zz ?_;apply XD.sb [39,36,4,5,19,3,1,17,18];apply Tu 1 [0,1,2,3,4,5,6,7,8,9,10,11,12,13,14,15,16,17,18,19,20,21,22,23,24,25,26] 50 39 rfl
     . intro l u;have h2:=sp l;refine rn [17,18,19,20,21,22,23,24,25,26,27] ?_;exact Ud u ⟨Rb l,Yt⟩
     . intro l u;have h2:=sp l;apply dd [16,17,18,19,20,21,22,23,24,25,26];exact Ud u ⟨Rf l,Yt⟩
     intro L_;apply dd [27];exact Ud j ⟨orF b,Yt⟩
   . intro b j;have d:=sp b;apply dd [13,14,15,16,17,18,19,20,21,22,23,24,25,26,27];exact Ud j ⟨orT b,Yt⟩
   intro L_;refine Zp ?_ ?_<;>intro d
   . refine Zz ?_;have k:=Zj2 (p:=Cp t.turns i) (s:=s) (by omega);refine Zl (q) func60 (Qq results60 rfl) ⟨_,rfl,by rw [chk,if_neg];rintro ⟨_,_,g⟩;rw [r,k] at g;have ⟨⟨b,l,g3,g4,g5⟩,_⟩:=g;first|omega|(exact g5 (by rw [Oo Zq Zq];exact aQ some Zq)),rfl⟩
   refine Ye ?_;refine cH (z (i+1,s+t.turns[i].2) ⟨⟨Zy,Zy,Zy⟩,r.trans ((Zj2 (by omega)).trans ⟨fun h=>h.2,fun h=>⟨⟨Zq,Zq,Zq,Zq,by rcases cQ i with e|e;exact (by subst e;simp [Lp]);rw [Oo Zq e];simp [ne_eq,Option.some.injEq];omega⟩,h⟩⟩)⟩ Zy) Z5 leA
 refine Zm (q) ?_;exact ⟨_,rfl,by rw [chk,if_pos ⟨Zq,d.2,r.2 (goT_end Zq)⟩],rfl⟩
def Hb (l:List Int):Int:=l.foldl (fun n x=>(n*33+x) % 4294967296) 5381
def Oc (h:n<l.length):Hb (l.take (n+1))=(Hb (l.take n)*33+l[n]) % 4294967296:=by
 unfold Hb;rw [aM h,List.foldl_append];rfl
def sumB_rng (l:List Int):0<=Hb l/\Hb l<4294967296:=by
 have: ∀ (l:List Int) (n:Int),0<=n/\n<4294967296->0<=l.foldl (fun n x=>(n*33+x) % 4294967296) n/\l.foldl (fun n x=>(n*33+x) % 4294967296) n<4294967296:=by
  intro l
  induction l with
  |nil=>intro n h;exact h
  |cons x r ih=>intro n _;exact ih _ Zy
 exact this l 5381 Zq
def le4 (n:Int):List Int:= [n % 256,n / 256 % 256,n / 65536 % 256,n / 16777216 % 256]
def Do (l:List Int):List Int:=l++le4 (Hb l)
def By8 (l:List Int):Prop:= ∀ x∈l,0<=x/\x<=255
def By8.app (h:By8 l)(k:By8 m):By8 (l++m):=fun x hx=>(bP.1 hx).elim (h x) (k x)
def le4_bs (n:Int):By8 (le4 n):=by
 intro x a;simp [le4,] at a;omega
def sealB_bs (h:By8 l):By8 (Do l):=h.app (le4_bs _)
def le4_take (s:Int)(i:Nat)(h:i<4)(h0:0<=s):(le4 s).take (i+1)=(le4 s).take i++ [(s / 256 ^ i) % 256]:=by
 rcases i with _|_|_|_|i
 . simp [le4]
 . simp [le4]
 . simp [le4]
 . simp [le4]
 omega
def pow_step (s:Int)(i:Nat):s / 256 ^ (i+1)=s / 256 ^ i / 256:=by
 rw [Int.pow_succ,Int.ediv_ediv_of_nonneg (Int.pow_nonneg Zq)]
def vbF:Nat->Nat->List Int
 |0,n=> [(n:Int)]
 |k+1,n=>if n<128 then [(n:Int)] else ((n % 128+128:Nat):Int)::vbF k (n / 128)
def vb (n:Nat):List Int:=vbF 10 n
def vbF_low {k}(h:n<128)(hk:0<k):vbF k n= [(n:Int)]:=by
 cases k with
 |zero=>omega
 |succ k=>simp [vbF,h]
def vbF_high {k}(h: ¬n<128):vbF (k+1) n=((n % 128+128:Nat):Int)::vbF k (n / 128):=by simp [vbF,h]
def vbF_bs (k n:Nat)(h:n<128 ^ k):By8 (vbF k n):=by
 induction k generalizing n with
 |zero=>intro x a;simp [vbF] at a;omega
 |succ k ih=>
  intro x a;unfold vbF at a;split at a
  . simp at a;omega
  rw [bS] at a;rcases a with rfl|a
  . omega
  exact ih _ (by omega) x a
def vbF_len (k n:Nat):1<=(vbF k n).length/\(vbF k n).length<=k+1:=by
 induction k generalizing n with
 |zero=>simp [vbF]
 |succ k ih=>
  unfold vbF;split
  . simp
  have:=ih (n / 128);simp;omega
def U2 (n:Nat):1<=(vb n).length/\(vb n).length<=11:=vbF_len 10 n
def Zzs (n:Nat)(h:n<1180591620717411303424):By8 (vb n):=vbF_bs 10 n (by simpa using h)
def fullB (a:Option Addr)(c:Nat)(l:List Int):HP:=ex fun b=>star (pure (a=some ⟨b,0,none⟩/\c=l.length/\0<l.length)) (ex fun z=>im b (.cells (l.map (Value.int .u8)).toArray 5 z))
def bH (φ:Prop)(a:Option Addr)(c:Nat)(l:List Int):HP:=orH (lsH (Value.int .u8) 5 a c l) (star (pure φ) (fullB a c l))
def Xt (φ:Prop)(a:Option Addr)(c:Nat)(l:List Int)(q:List HP):Le (lsH (Value.int .u8) 5 a c l::q) (bH φ a c l::q):=Le.orl _ _ _
def Zxs (hφ:φ){b}{z}(h0:0<l.length)(q:List HP):Le (im b (.cells (l.map (Value.int .u8)).toArray 5 z)::q) (bH φ (some ⟨b,0,none⟩) l.length l::q):=
 .one fun M x p=> .inr ⟨fun _=>none,x,fun _=> .inl rfl,fun _ _ e=>by simp at e,.refl _,hφ,b,fun _=>none,x,fun _=> .inl rfl,fun _ _ e=>by simp at e,.refl _,⟨rfl,rfl,h0⟩,z,p⟩
def Zfy {p}{ty'}{x}{t}{c'}
 (ht:P.underlying t=some (.slice 5)) (hi:(P.info? 5).map (fun i=>(i.zero,i.size,i.bytes))=some (some (.int .u8 0),1,1))
 (hx:evp p x=some (.slice a l.length c)) (hy:evp p y=some (.slice b m.length c')) (hq:Le q (bH φ a c l::r)) (hs:Sees r b (m.map (Value.int .u8))) (hm:0<m.length) (hl:l.length+m.length<=1000000000):
 Ef P G p q ⟨d,.call ⟨.builtin .append, [x,y].toArray, [t,t].toArray⟩,ty',pos,af,gd⟩ fun v q'=> ∃ a' c',v= .slice a' (l++m).length c'/\q'=lsH (Value.int .u8) 5 a' c' (l++m)::r:=by
 intro j w u s;rcases (s.le hq).or_elim with h|h
 . exact Wu ht hi rfl hx hy (.refl _) hs.there (fun _=>rfl) Zq Zq j w u h
 have o:=h.le (.split _ _ _);have e:=o.le (.drop _ _);have ⟨g,e⟩:=e.get_ex;have k:=e.le (.split _ _ _);obtain ⟨rfl,rfl,h0⟩:=k.get_pure;have ⟨z,s5⟩:=(k.le (.drop _ _)).get_ex;obtain ⟨v,w',q',h1,h2,a',c',rfl,rfl⟩:=Ou (ty':=ty') ht hi rfl rfl hx hy Zq hm h0 (Sees.im r) Zf hs.there Zf Zq Zq j w u s5;refine ⟨_,w',_,h1,?_,a',c',Zf,rfl⟩;unfold Wx.lsH;rw [aA,aN];exact h2.le (cC _ (.drop _ _))
section
variable {u:Tkn}{d:Nat}{l m:List Ux}
def Zgi (hs:Sees q a (l.flatMap tcs))(hL:l.length<=1000000000):CF G 61 [.slice a l.length c] (q) (Ret fun v q'=> ∃ a' c',v= .slice a' l.length c'/\q'=rsH tcs 2 49 a' c' l::q):=by
 refine aE ntmps61 fun F cs=> ?_;rcases cQ l.length with d|d
 . obtain rfl:=aW d;refine Wg ?_ ?_<;>intro k
   . refine Zg ?_;exact ⟨_,⟨_,rfl,none,0,rfl,rfl⟩,((leA).trans (Zc _ _ _ _))⟩
   refine Zz ?_;apply bU (Q7 tcs underlying41 Ty);rintro _ _ ⟨g,rfl,rfl⟩;refine Zz ?_;apply bU (Z9 underlying41 Ty rfl rfl (fun _=>rfl) rfl rfl Zj (hs.le leA) (fun _=>rfl) Qw Qw);rintro _ _ ⟨h,e,rfl,rfl⟩;refine Zg ?_;exact ⟨_,⟨_,rfl,h,e,Zf,rfl⟩,leA⟩
 refine Yq hs (by rw [Zx (sz:=2) (fun _=>rfl) l];omega) fun n j i=> ?_;subst i;refine Zz ?_;apply bU (Q7 tcs underlying41 Ty);rintro _ _ ⟨g,rfl,rfl⟩;refine Zz ?_;apply bU (Z9 underlying41 Ty rfl rfl (fun _=>rfl) rfl rfl Zj (hs.le leA) (fun _=>rfl) Qw Qw);rintro _ _ ⟨h,e,rfl,rfl⟩;refine Zg ?_;exact ⟨_,⟨_,rfl,h,e,Zf,rfl⟩,leA⟩
end
section
variable {d:Nat}
def Sum_ok (hs:Sees q a (l.map (Value.int .u8)))(hb:By8 l)(hL:l.length<=1000000000):CR G 47 [.slice a l.length c] (q) (.int .u32 (Hb l)):=by
 refine aE ntmps47 fun F cs=> ?_;refine Zs (bW (fun (s:Nat)=>s<=l.length) (fun s=> [(3,.int .u32 (Hb (l.take s))),(6,.slice a l.length c),(7,I64 l.length),(8,I64 s)]) (fun s=>q++F) (fun s=>l.length - s) (fun s b f=> ?_) 0 Zq)
 refine Wg ?_ ?_<;>intro d
 . have d:=cY d;refine Yq hs Zi fun j h g=> ?_;subst g;refine rn [7,0,8] ?_;refine aX 16 (.int .u32 (Hb (l.take (s+1)))) rfl (aQ _ (by rw [Oc Zq];simp only [wu32];omega)) ?_;refine Zs (f (s+1) Zq Zq)
 have d:=of_decide_eq_false d;refine Zm (q) ?_;exact ⟨_,rfl,by rw [bX Zq],rfl⟩
end
def or128 {x}(h:0<=x)(h2:x<256):IntKind.u8.wrap ((BitVec.ofInt IntKind.u8.bits x|||BitVec.ofInt IntKind.u8.bits 128).toNat:Int)=x % 128+128:=by
 have a: ∀ k:Fin 256,IntKind.u8.wrap ((BitVec.ofInt IntKind.u8.bits (k.val:Int)|||BitVec.ofInt IntKind.u8.bits 128).toNat:Int)=(k.val:Int) % 128+128:=Zw;have:=a ⟨x.toNat,Zq⟩;simpa [Int.toNat_of_nonneg h] using this
def pow128 {k m}(h:m<128 ^ k)(hm: ¬m<128): ∃ j,k=j+2/\m / 128<128 ^ (j+1):=by
 rcases k with _|_|k
 . omega
 . omega
 exact ⟨k,rfl,by omega⟩
def wrB (p:Nat)(l:List Int):HP:=ex fun z:Option Addr×Nat=>stars [pC p [.slice z.1 (l).length z.2] 230,bH True z.1 z.2 l]
def wrO (p:Nat)(l:List Int):HP:=ex fun z:Option Addr×Nat=>stars [pC p [.slice z.1 (l).length z.2] 230,lsH (Value.int .u8) 5 z.1 z.2 l]
def Xs (h:Le q (pC p [.slice a (l).length c] 230::lsH (Value.int .u8) 5 a c l::r)):Le q (wrO p l::r):=h.trans (Vt (a,c) (Zh [_,_] r))
def wrB_in (h:Le q (pC p [.slice a (l).length c] 230::bH True a c l::r)):Le q (wrB p l::r):=h.trans (Vt (a,c) (Zh [_,_] r))
def Mt (h:Le q (wrO p l::r)):Le q (wrB p l::r):=
 h.trans (Le.of_ex fun z=>(Zb _ r).trans (wrB_in (cC _ (Xt _ _ _ _ _))))
section
variable {k:List Item}{cs:List Frame}
def X.wrB (x: ∀ a c,X P G f Q k p0 ds cs (pC p [.slice a (l).length c] 230::bH True a c l::r))(hq:Le q (Go.Proofs.YtadahhbefdnabaaGreatDoor.wrB p l::r):=by exact Zj):X P G f Q k p0 ds cs q:= .le hq (.ex fun z=> .le (Zb _ r) (x _ _))
def X.wrO (x: ∀ a c,X P G f Q k p0 ds cs (pC p [.slice a (l).length c] 230::lsH (Value.int .u8) 5 a c l::r))(hq:Le q (Go.Proofs.YtadahhbefdnabaaGreatDoor.wrO p l::r):=by exact Zj):X P G f Q k p0 ds cs q:= .le hq (.ex fun z=> .le (Zb _ r) (x _ _))
def XO.wrO {ops lo:List Oper}(x: ∀ a c,XO P G f Q ops.toArray k lo p0 ds cs (pC p [.slice a (l).length c] 230::lsH (Value.int .u8) 5 a c l::r))(hq:Le q (Go.Proofs.YtadahhbefdnabaaGreatDoor.wrO p l::r):=by exact Zj):XO P G f Q ops.toArray k lo p0 ds cs q:= .le hq (.ex fun z=> .le (Zb _ r) (x _ _))
end
def Zy3 (hn:n<9223372036854775808)(hl:l.length<=500000000):CF G 184 [pt p,.int .u64 (n:Int)] (wrB p l::q) (Ret fun v q'=>q'=wrO p (l++vb n)::q):=by
 refine aE ntmps184 fun F cs=> ?_;refine X.wrB fun a c=> ?_
 refine Zs (bW (fun (s:(Nat×Nat)×List Int×Option Addr×Nat)=>s.1.2<128 ^ s.1.1/\s.1.2<9223372036854775808/\s.2.1++vbF s.1.1 s.1.2=l++vb n/\1<=s.1.1) (fun s=> [(0,pt p),(1,.int .u64 (s.1.2:Int))]) (fun s=>pC p [.slice s.2.2.1 (s.2.1).length s.2.2.2] 230::bH True s.2.2.1 s.2.2.2 s.2.1::(q++F)) (fun s=>s.1.2) (fun s e o=> ?_) ((10,n),l,a,c) ⟨Zy,hn,rfl,Zy⟩);try dsimp only at e o|-
 have ⟨x,h2,f,z⟩:=e;have ⟨⟨k,m⟩,d,a,c⟩:=s;dsimp only at*;have r:=U2 n;have t:d.length<=900000000:=by have:=aQ List.length f;rw [aA,aA] at this;omega
 refine Wg ?_ ?_<;>intro g
 . have g:=cY g;refine Zz ?_;obtain ⟨j,rfl,w⟩:=pow128 x Zq;refine aX 14 (.int .u8 ((m % 128+128:Nat):Int)) rfl (aQ _ (by rw [or128 (by rw [wu8];omega) (by rw [wu8];omega),wu8];omega)) ?_;apply bU (Qd _ underlying88 Ke rfl rfl);rintro _ _ ⟨y,rfl,rfl⟩;refine bU (Zfy underlying88 Ke rfl rfl Zj ((bV _).le leA) Zf (by simp [];omega)) ?_;rintro _ _ ⟨i,h,rfl,rfl⟩;refine rn [3,0,4] ?_;refine aX 21 (.int .u64 ((m / 128:Nat):Int)) rfl (aQ _ (by rw [show (2:Int) ^ min _ IntKind.u64.bits=128 from rfl,Int.fdiv_eq_ediv_of_nonneg _ Zq];rfl)) ?_;refine Zz ?_;refine cH (o ((j+1,m / 128),d++ [((m % 128+128:Nat):Int)],i,h) ⟨w,Zy,by rw [vbF_high Zq] at f;dsimp only;rw [aO];exact f,Zy⟩ Zy) Z5 (bC Zj (aK Zj (aK (Xt True _ _ _ _) leA)))
 have g:=of_decide_eq_false g;refine Zz ?_;refine aX 29 (.int .u8 (m:Int)) rfl (aQ _ (by rw [wu8];omega)) ?_;rw [vbF_low Zq Zq] at f;apply bU (Qd _ underlying88 Ke rfl rfl);rintro _ _ ⟨y,rfl,rfl⟩;refine bU (Zfy underlying88 Ke rfl rfl Zj ((bV _).le leA) Zf (by simp [];omega)) ?_;rintro _ _ ⟨i,h,rfl,rfl⟩;rw [f];refine Zg ?_;exact ⟨_,⟨_,rfl,rfl⟩,(Xs leA)⟩
def V5 (hn:n<9223372036854775808)(hl:l.length<=500000000):CF G 103 [pt p,I64 n] (wrB p l::q) (Ret fun v q'=>q'=wrO p (l++vb n)::q):=by
 refine We ntmps103 fun F cs=> ?_;refine aX 6 (.int .u64 (n:Int)) rfl (aQ _ (by rw [wu64];omega)) ?_;apply Zv (aG _) (Zy3 hn hl);rintro _ _ rfl;refine Zg ?_;exact ⟨_,⟨_,rfl,rfl⟩,leA⟩
def sgU (k:Int):Nat:=(if k<0 then -2*k - 1 else 2*k).toNat
def Ea (hk: -4611686018427387903<=k/\k<=4611686018427387903)(hl:l.length<=500000000):CF G 101 [pt p,I64 k] (wrB p l::q) (Ret fun v q'=>q'=wrO p (l++vb (sgU k))::q):=by
 refine aE ntmps101 fun F cs=> ?_;have ⟨N,a⟩:=lV (sgU k);rw [<-a];unfold sgU at a;refine Zp ?_ ?_<;>intro b
 focus
  refine Zz ?_;refine aX 10 (.int .u64 (N:Int)) rfl (aQ _ (by rw [wu64];omega)) ?_
 rotate_left
 focus
  refine Zz ?_;refine aX 15 (.int .u64 (N:Int)) rfl (aQ _ (by rw [wu64];omega)) ?_
 all_goals
  apply Zv (aG _) (Zy3 (n:=N) Zq hl);rintro _ _ rfl;refine Zg ?_;exact ⟨_,⟨_,rfl,rfl⟩,leA⟩
def byI (s:ByteArray):List Int:=s.data.toList.map fun b=>(b.toNat:Int)
def Zhy (s:ByteArray):byteCells s=(byI s).map (Value.int .u8):=by simp [byteCells,byI]
def Zq5 (s:ByteArray):(byI s).length=s.size:=by simp [byI]
def byI_rng (s:ByteArray):By8 (byI s):=fun x a=>by
 obtain ⟨b,_,rfl⟩:=cF.1 a;have:=b.toNat_lt;omega
def Dc (w:World)(t tn ty e:TypeId)(i:TypeInfo)(ht:P.underlying t=some (.slice e))(htn:P.underlying tn=some .string)(hi:P.info? e=some i)(h1s:i.size=1)
 (g sLen sCap:Nat) (cur:Array Value) (hg:w.heap[g]? =some (.cells cur e (0,0))) (s:ByteArray) (hroom:sLen+s.size<=sCap) (hfit:sLen+s.size<=cur.size):
 (Builtin.append_ #[t,tn] ty #[.slice (some ⟨g,0,none⟩) sLen sCap,.string s]).run P w= .ok (.slice (some ⟨g,0,none⟩) (sLen+s.size) sCap) (w.setRow g (cur.toList.take sLen++byteCells s++cur.toList.drop (sLen+s.size)).toArray):=by
 have a:=run_storeCells_at P g sLen e _ 0 cur w hg (by rw [byteCells_length];omega) (fun u b=>by obtain ⟨_,_,rfl⟩:=cF.1 b;rfl);rw [byteCells_length] at a;simp [Builtin.append_,run_underlying ht,run_underlying htn,Go.sizeOf,typeInfo,hi,h1s,(Src.ofString w htn s).len,hroom,firstCells_string s w,Vu,a]
def Ef.appS {p}{ty t tn e}{x}{sb}
 (ht:P.underlying t=some (.slice e)) (htn:P.underlying tn=some .string) (hi:(P.info? e).map (fun i=>(i.zero,i.size,i.bytes))=some (some (.int .u8 0),1,1))
 (hx:evp p x=some (.slice a l.length c)) (hy:evp p y=some (.string sb)) (hq:Le q (lsH (Value.int .u8) e a c l::r)) (h63:l.length+sb.size<=1000000000):
 Ef P G p q ⟨d,.call ⟨.builtin .append, [x,y].toArray, [t,tn].toArray⟩,ty,pos,af,gd⟩ fun v q'=> ∃ a' c',v= .slice a' (l++byI sb).length c'/\q'=lsH (Value.int .u8) e a' c' (l++byI sb)::r:=by
 have ⟨I,hI,e1,e2,e3⟩:=info_parts hi;intro tm w ag s;have l0:evl p [x,y]=some [.slice a l.length c,.string sb]:=by simp [evl,hx,hy]
 rw [Qm ag l0]
 have m: ∀ v w',(Builtin.append_ #[t,tn] ty #[.slice a l.length c,.string sb]).run P w= .ok v w'->(builtin .append [t,tn].toArray ty ([x,y].toArray.map fun| .const _=>true|_=>false) [.slice a l.length c,.string sb].toArray).run P w= .ok (.value v) w':=by
  intro v w' h;simp [builtin,h]
 have d0:(l++byI sb).map (Value.int .u8)=l.map (Value.int .u8)++byteCells sb:=by rw [aN,Zhy]
 have b0:(l++byI sb).length=l.length+sb.size:=by rw [aA,Zq5]
 have s0:=s.le hq;unfold lsH at s0|-;rw [d0,b0];have ⟨e0,c0⟩:=s0.slH_elim;have q0:(l.length+sb.size)*I.bytes<=140737488355328:=by rw [e3];omega
 have f0: ∀ w:World,Src P I.size tn (.string sb) sb.size (byteCells sb) w:=fun w=>by rw [e2];exact Src.ofString w htn sb
 have o:=byteCells_length sb;have zc: ∀ k,(Builtin.zeroCells (Value.int .u8 0).cells k).size=k:=fun k=>by simp [Builtin.zeroCells,Value.cells]
 have z: ∀ {b:Option Addr} {olds:List Value},olds.length=l.length->(Builtin.firstCells I.size l.length (.slice b l.length c)).run P w.drew= .ok olds.toArray w.drew->olds=l.map (Value.int .u8)->c<l.length+sb.size->St G w r->a=b-> ∃ (v:Value) (w':World) (q':List HP),(((builtin .append [t,tn].toArray ty ([x,y].toArray.map fun| .const _=>true|_=>false) [.slice a l.length c,.string sb].toArray).run P w= .ok (.value v) w')\/(v=undef/\(builtin .append [t,tn].toArray ty ([x,y].toArray.map fun| .const _=>true|_=>false) [.slice a l.length c,.string sb].toArray).run P w= .ok .skip w'))/\St G w' q'/\ ∃ a' c',v= .slice a' (l.length+sb.size) c'/\q'=slH a' c' e 1 (l.length+sb.size) (l.map (Value.int .u8)++byteCells sb)::r:=by
  intro b olds ho n m0 hg sr t0;subst t0;have hr:=run_append_grow_src w t tn ty e I (.int .u8 0) ht hI e1 a l.length c olds n (.string sb) sb.size (byteCells sb) (f0 w) hg Zq (growslice_fits Zq q0);have i0:=grownCap_ge w (l.length+sb.size) c e;refine ⟨_,_,_,.inl (m _ _ hr),?_,some ⟨w.heap.size,0,none⟩,grownCap w (l.length+sb.size) c e,rfl,rfl⟩;have s2:=St.new (w':=w.drew.alloc (.cells ((olds++byteCells sb).toArray++Builtin.zeroCells (Value.int .u8 0).cells (grownCap w (l.length+sb.size) c e - (l.length+sb.size))) e)) (sr.same rfl rfl rfl rfl) rfl rfl rfl rfl;refine s2.le (Yo i0 (grownCap_le_maxLen w (l.length+sb.size) c e (by simp [maxLen];omega)) ?_ ?_ r)
  . rw [kN,zc];simp [gI,aA,o,ho];omega
  rw [m0];have:(l.map (Value.int .u8)++byteCells sb).length=l.length+sb.size:=by rw [aA,aI,o]
  rw [lJ,jR,<-this];exact jD
 rcases c0 with ⟨ha,hc,hl,s'⟩|⟨g,f,ha,u0,o0,n0,a0,s'⟩
 . subst ha hc;have g0:l= []:=aW hl;subst g0;rcases cQ sb.size with h0|h0
   . refine ⟨.slice none 0 0,w,_,.inl (m _ _ ?_),s'.le (Nw e 1 r),none,0,by rw [h0];rfl,?_⟩
     . have hc:=firstCells_string (P:=P) sb w;rw [h0] at hc;simp [Builtin.append_,run_underlying ht,run_underlying htn,Go.sizeOf,typeInfo,hI,Builtin.lenOf,h0,e2,hc]
     have r0:byteCells sb= []:=aW Zq;rw [h0,r0];rfl
   exact z rfl (by rw [e2];exact run_firstCells_none w.drew 1 0 0 0) rfl (by simpa using h0) s' rfl
 subst ha;have hg:w.heap[g]? =some (.cells f e (0,0)):=s'.has (dV _ _ _);rw [jR] at n0 a0 e0;by_cases hroom:l.length+sb.size<=c
 . refine ⟨_,_,_,.inl (m _ _ (Dc w t tn ty e I ht htn hI e2 g l.length c f hg sb hroom Zq)),?_,some ⟨g,0,none⟩,c,rfl,rfl⟩;refine (s'.put (o':= .cells (f.toList.take l.length++byteCells sb++f.toList.drop (l.length+sb.size)).toArray e (0,0)) (setRow_heap w g f _ e (0,0) hg) (fun j hj=>setRow_other w g j _ hj) Zf rfl rfl rfl).le (Yo hroom o0 ?_ ?_ r)
   . simp [gI,aA,bB,bY,o,lK];omega
   rw [a0,jR];have:(l.map (Value.int .u8)++byteCells sb).length=l.length+sb.size:=by rw [aA,aI,o]
   rw [<-this];exact jD
 have n:(Builtin.firstCells I.size l.length (.slice (some ⟨g,0,none⟩) l.length c)).run P w.drew= .ok (l.map (Value.int .u8)).toArray w.drew:=by
  rw [e2];refine run_firstCells_some w.drew 1 l.length ⟨g,0,none⟩ l.length c (l.map (Value.int .u8)) Zf fun j u hu=> ?_;rw [Vu,eE];rw [<-a0,kB] at hu;have j0:w.drew.heap[g]? =some (.cells f e (0,0)):=hg;split at hu
  . simp [World.cell?,j0];simpa using hu
  cases hu
 exact z Zf n rfl Zq (s'.le (.drop _ _)) rfl
def Zgs (i:Ins)(d:Int):List Int:= [i.c]++(if nmA i.c=true then vb i.a.toNat else [])++(if i.c=26 then vb i.b.toNat else [])++(if i.c=1 then vb (sgU i.n) else [])++vb (sgU d)
def Bc:Int->List Ins->List Int->List Int
 |ah,i::r,n::s=>Zgs i (n - ah)++Bc n r s
 |_,_,_=> []
def Zvs (x:ByteArray×Int×List Ins×List Int):List Int:=vb x.1.size++byI x.1++vb x.2.1.toNat++vb x.2.2.1.length++Bc 0 x.2.2.1 x.2.2.2
def Zql {α:Type}(u:α->List Int)(L:List α)(i:Nat):((L.take i).flatMap u).length<=(L.flatMap u).length:=by
 conv=>rhs;rw [<-dJ i L,eJ,aA]
 omega
def Db {α:Type}(u:α->List Int){L:List α}(h:i<L.length):(L.take (i+1)).flatMap u=(L.take i).flatMap u++u L[i]:=by
 rw [aM h,eJ];simp
def Zvt (hs:Sees q a (L.map I64))(hL:L.length<=1000000)(hB:l.length+11+(L.flatMap u).length<=500000000)(ho: ∀ x∈L,∀ l:List Int,l.length+(u x).length<=500000000->CallV prog G fv [I64 x] (wrO p l::q) (Ret fun v q'=>q'=wrO p (l++u x)::q)):CF G 100 [pt p,.slice a L.length c,fv] (wrB p l::q) (Ret fun v q'=>q'=wrO p (l++vb L.length++L.flatMap u)::q):=by
 refine aE ntmps100 fun F cs=> ?_;have j:=U2 L.length;refine Zz ?_;apply Zv (aG _) (V5 (n:=L.length) Zq Zq);rintro _ _ rfl;refine Zz ?_;refine cH (bW (fun (s:Nat)=>s<=L.length) (fun s=> [(2,fv),(13,I64 L.length),(14,I64 s),(12,.slice a L.length c)]) (fun s=>wrO p (l++vb L.length++(L.take s).flatMap u)::(q++F)) (fun s=>L.length - s) (fun s e h=> ?_) 0 (aZ _)) Z5 (by simp [];exact aG _)
 refine Zp ?_ ?_<;>intro o
 . have b:s<L.length:=Zq;have g:=Zql u L (s+1);rw [Db u b,aA] at g;refine Yq (hs.le leA) (by rw [aI _];omega) fun r k i=> ?_;have f:=hs;rw [i] at f;refine Zz ?_;refine jE leA (jO F (ho _ (aC b) _ (by simp only [aA];omega))) ?_;rintro _ _ ⟨_,rfl,rfl⟩;refine Zz ?_;apply fQ 12 _ rfl (by rw [<-i]);rw [show l++vb L.length++(L.take s).flatMap u++u L[s]=l++vb L.length++(L.take (s+1)).flatMap u by rw [Db u b,<-aO]];refine Zs (h (s+1) Zq Zq)
 obtain rfl:s=L.length:=Zq;rw [bR];refine Zg ?_;exact ⟨_,⟨_,rfl,rfl⟩,leA⟩
def Zzr (hs:Sees q a (L.map I64))(hL:L.length<=1000000)(hB:l.length+11+(L.flatMap u).length<=500000000)(ho: ∀ x∈L,∀ l:List Int,l.length+(u x).length<=500000000->CallV prog G fv [I64 x] (wrO p l::q) (Ret fun v q'=>q'=wrO p (l++u x)::q)):CF G 102 [pt p,.slice a L.length c,fv] (wrB p l::q) (Ret fun v q'=>q'=wrO p (l++vb L.length++L.flatMap u)::q):=by
 refine aE ntmps102 fun F cs=> ?_;have j:=U2 L.length;refine Zz ?_;apply Zv (aG _) (V5 (n:=L.length) Zq Zq);rintro _ _ rfl;refine Zz ?_;refine cH (bW (fun (s:Nat)=>s<=L.length) (fun s=> [(2,fv),(13,I64 L.length),(14,I64 s),(12,.slice a L.length c)]) (fun s=>wrO p (l++vb L.length++(L.take s).flatMap u)::(q++F)) (fun s=>L.length - s) (fun s e h=> ?_) 0 (aZ _)) Z5 (by simp [];exact aG _)
 refine Zp ?_ ?_<;>intro o
 . have b:s<L.length:=Zq;have g:=Zql u L (s+1);rw [Db u b,aA] at g;refine Yq (hs.le leA) (by rw [aI _];omega) fun r k i=> ?_;have f:=hs;rw [i] at f;refine Zz ?_;refine jE leA (jO F (ho _ (aC b) _ (by simp only [aA];omega))) ?_;rintro _ _ ⟨_,rfl,rfl⟩;refine Zz ?_;apply fQ 12 _ rfl (by rw [<-i]);rw [show l++vb L.length++(L.take s).flatMap u++u L[s]=l++vb L.length++(L.take (s+1)).flatMap u by rw [Db u b,<-aO]];refine Zs (h (s+1) Zq Zq)
 obtain rfl:s=L.length:=Zq;rw [bR];refine Zg ?_;exact ⟨_,⟨_,rfl,rfl⟩,leA⟩
def Zfg {L:List Cod}{u}(hs:Sees q a (L.flatMap Vs))(hL:L.length<=1000000)(hB:l.length+11+(L.flatMap u).length<=500000000)(ho: ∀ x∈L,∀ l:List Int,l.length+(u x).length<=500000000->CallV prog G fv [(fun x=> .agg (Vs x).toArray) x] (wrO p l::q) (Ret fun v q'=>q'=wrO p (l++u x)::q)):CF G 104 [pt p,.slice a L.length c,fv] (wrB p l::q) (Ret fun v q'=>q'=wrO p (l++vb L.length++L.flatMap u)::q):=by
 refine aE ntmps104 fun F cs=> ?_;have m:=U2 L.length;refine Zz ?_;apply Zv (aG _) (V5 (n:=L.length) Zq Zq);rintro _ _ rfl;refine Zz ?_;refine cH (bW (fun (s:Nat)=>s<=L.length) (fun s=> [(2,fv),(13,I64 L.length),(14,I64 s),(12,.slice a L.length c)]) (fun s=>wrO p (l++vb L.length++(L.take s).flatMap u)::(q++F)) (fun s=>L.length - s) (fun s g i=> ?_) 0 (aZ _)) Z5 (by simp [];exact aG _);try dsimp only at g i|-
 obtain t:=g;refine Zp ?_ ?_<;>intro w
 . have b:s<L.length:=Zq;have h:=Zql u L (s+1);rw [Db u b,aA] at h;refine Yq (hs.le leA) (by rw [Zx (sz:=4) (fun _=>rfl) L];omega) fun y o k=> ?_;have d:=hs;rw [k] at d;refine Zz ?_;apply H2 isAgg224 sizeOf224 rfl (eX d leA (fun _=>rfl) b rfl);refine Zo zeroValue224 fun r=> ?_
   refine Zz ?_;refine jE leA (jO F (ho _ (aC b) _ (by simp only [aA];omega))) ?_;rintro _ _ ⟨_,rfl,rfl⟩;refine Zz ?_;apply fQ 12 _ rfl (by rw [<-k]);rw [show l++vb L.length++(L.take s).flatMap u++u L[s]=l++vb L.length++(L.take (s+1)).flatMap u by rw [Db u b,<-aO]];refine Zs (i (s+1) Zq Zq)
 obtain rfl:s=L.length:=Zq;rw [bR];refine Zg ?_;exact ⟨_,⟨_,rfl,rfl⟩,leA⟩
def osum_ok (hs:Sees q a (l.map (Value.int .u8)))(hb:By8 l)(hL:l.length<=5000000000):CR G 186 (Ae a l c) (q) (.int .u32 (Hb l)):=by
 refine aE ntmps186 fun F cs=> ?_;refine Zs (bW (fun (s:Nat)=>s<=l.length) (fun s=> [(3,.int .u32 (Hb (l.take s))),(6,.slice a l.length c),(7,I64 l.length),(8,I64 s),(2,.int .u32 0)]) (fun s=>(q++F)) (fun s=>l.length - s) (fun s b e=> ?_) 0 (aZ _))
 refine Zp ?_ ?_<;>intro j
 . have d:s<l.length:=Zq;refine Yq (hs.le leA) Zi fun k g f=> ?_;subst f;refine rf [7,0,8] hs ?_;refine aX 16 (.int .u32 (Hb _)) rfl (aQ _ (by rw [Oc d];simp only [wu32];omega)) ?_;refine Zs (e (s+1) Zq Zq)
 refine Zm (q) ?_;exact ⟨_,rfl,by rw [bX Zq],rfl⟩
def olast_ok (hb:By8 l)(hL:l.length<=500000000):CF G 106 [pt p] (wrO p l::q) (Ret fun v q'=>q'=wrO p (Do l)::q):=by
 refine aE ntmps106 fun F cs=> ?_;refine X.wrO fun k h=> ?_;have a:=sumB_rng l
 refine Zz ?_;refine Wb (osum_ok ((bV _).le leA) hb Zq) ?_;refine cH (bW (fun (s:Nat×Option Addr×Nat)=>s.1<=4) (fun s=> [(0,pt p),(2,.int .u32 (Hb l / 256 ^ s.1)),(9,I64 (s.1:Int))]) (fun s=>pC p [.slice s.2.1 (l++(le4 (Hb l)).take s.1).length s.2.2] 230::lsH (Value.int .u8) 5 s.2.1 s.2.2 (l++(le4 (Hb l)).take s.1)::(q++F)) (fun s=>4 - s.1) (fun s b d=> ?_) (0,k,h) Zy) Z5 (by simp [];exact leA);try dsimp only at b d|-
 obtain r:=b;have ⟨i,y,x⟩:=s;dsimp only at*;refine Zp ?_ ?_<;>intro t
 . have o:0<=Hb l / 256 ^ i:=Int.ediv_nonneg a.1 (Int.pow_nonneg Zq);have e:Hb l / 256 ^ i<4294967296:=(by have:=Int.ediv_le_self (256 ^ i) a.1;omega);refine Zz ?_;apply aX 18 (.int .u8 ((Hb l / 256 ^ i) % 256)) rfl (aQ (Value.int .u8) (wu8 _));apply bU (Qd (Value.int .u8) underlying88 Ke rfl rfl);rintro _ _ ⟨w,rfl,rfl⟩;refine bU (Wu underlying88 Ke rfl rfl rfl Zj ((bV _).le leA) (fun _=>rfl) (by simp [];omega) (by simp [];omega)) ?_;rintro _ _ ⟨n,j,rfl,rfl⟩;refine rn [3,0,4] ?_;apply aX 25 (.int .u32 (Hb l / 256 ^ (i+1))) rfl (aQ (Value.int .u32) (by rw [pow_step,show (2:Int) ^ min (Int.toNat 8) IntKind.u32.bits=256 from rfl,Int.fdiv_eq_ediv_of_nonneg _ Zq]));refine Zz ?_;rw [aO,<-le4_take _ _ Zq a.1];refine Zs (d (i+1,n,j) Zy Zy)
 have g:l++(le4 _).take i=Do l:=(by rw [show i=4 by omega];rfl);rw [g];refine Zg ?_;exact ⟨_,⟨_,rfl,rfl⟩,(Xs leA)⟩
def NmR (i:Ins)(vs:List Value)(A:HP):Prop:=(∃ s,vs= [.agg [.string s,.bool (nmA i.c),.bool (decide (i.c=26)),.bool (decide (i.c=1))].toArray,.agg (Y7 i).toArray])/\A=stars []
section
variable {pre:List HP}{J:Nat->HP}{y:Nat}
def named_ok:CF G 185 [.slice a n c] (q) (Ret fun v q'=> ∃ n1,v= .func (.func 245) [].toArray [pt n1].toArray/\q'=pC n1 [.slice a n c] 213::q):=by
 refine aE ntmps185 fun F cs=> ?_;refine Yb fun b=> ?_
 refine Zg ?_;exact ⟨_,⟨_,rfl,b,rfl,rfl⟩,leA⟩
def Zgh (hc:Cl pre ⟨n,0,none⟩ (Aj a I c))(hs:Sees pre a (I.flatMap Y7))(hi: ∀ i∈I,1<=i.c/\i.c<=34)(hb:I.length<=1000000)(gc:GC pre)(hy: ∀ i (h:i<I.length) vs A,NmR I[i] vs A->CallV prog G (Ai y) vs (J i::A::pre) (Ret fun v q=>v= .bool true/\q=J (i+1)::pre)):CF G 245 (AN y n) (J 0::pre) (Ret fun v q'=>q'=J I.length::pre):=by
 refine aE ntmps245 fun F cs=> ?_;refine Zz ?_;refine ld ?_ (hc:=(hc.le leA));refine Zs (bW (fun (s:Nat)=>s<=I.length) (fun s=> [(0,.func (.yield y) #[] #[]),(7,.slice a I.length c),(8,I64 I.length),(9,I64 s)]) (fun s=>J s::(pre++F)) (fun s=>I.length - s) (fun s k m=> ?_) 0 (aZ _))
 refine Zp ?_ ?_<;>intro x
 . have d:s<I.length:=Zq;refine Yq (hs.le leA) (by rw [Zx (sz:=4) (fun _=>rfl) I];omega) fun z t p=> ?_;have e:=hs;rw [p] at e;refine Zz ?_;apply H2 isAgg222 sizeOf222 rfl (eX e leA (fun _=>rfl) d rfl);refine Zo zeroValue222 fun w=> ?_
   refine Zz ?_;apply Zv (aG _) (Xw (gc.le leA));rintro _ _ ⟨(⟨o,rfl⟩|⟨o,r,rfl⟩),rfl⟩
   . exact aV (hi _ (aC d)) o
   refine Zo zeroValue350 fun u=> ?_
   refine Zz ?_;refine jE (aK leA (cC _ (Y9 _))) (jO F (hy s d _ _ ⟨⟨r,rfl⟩,rfl⟩)) ?_;rintro _ _ ⟨_,⟨rfl,rfl⟩,rfl⟩;refine Zz ?_;apply fQ 7 (Aj a I c) rfl (by rw [<-p]);refine Zs (m (s+1) Zq Zq)
 obtain rfl:s=I.length:=Zq;refine Zg ?_;exact ⟨_,⟨_,rfl,rfl⟩,leA⟩
def Zww (hc:Cl pre ⟨n,0,none⟩ (Aj a I c))(hs:Sees pre a (I.flatMap Y7))(hi: ∀ i∈I,1<=i.c/\i.c<=34)(hb:I.length<=1000000)(gc:GC pre):IterT prog G (.func (.func 245) [].toArray [pt n].toArray) NmR I pre:=
 fun y J hy=>gA call245 (Zgh hc hs hi hb gc hy)
end
def Ta {bk o}{S}{y}(h:Sees R (some ⟨bk,o,none⟩) (L.map I64))(e:L=y::S)(hq:Le q R):Cl q ⟨bk,o+(0:Int).toNat*1,none⟩ (I64 y):=by
 subst e;exact (h.le hq).at rfl (jP _)
def ahd (L:List Int)(i:Nat):Int:=if i=0 then 0 else L.getD (i - 1) 0
def codB_at (h:i<I.length)(h2:i<L.length):Bc (ahd L i) (I.drop i) (L.drop i)=Zgs I[i] (L[i] - ahd L i)++Bc (ahd L (i+1)) (I.drop (i+1)) (L.drop (i+1)):=by
 rw [aP h,aP h2,Bc];congr 2;unfold ahd;rw [iT,aH,aB h2];rfl
def tcI (p n4 n5:Nat)(x:Cod)(R:List HP)(T:List Int)(i:Nat):HP:=ex fun z:List Int×Option Addr×Nat=>stars [pure ((z.1++Bc (ahd x.lines i) (x.ins.drop i) (x.lines.drop i)=T)/\Sees R z.2.1 ((x.lines.drop i).map I64)/\x.lines.length - i<=z.2.2),wrO p z.1,pC n4 [I64 (ahd x.lines i)] 3,pC n5 [.slice z.2.1 (x.lines.length - i) z.2.2] 23]
def tcI_in {W}(e:W++Bc (ahd x.lines i) (x.ins.drop i) (x.lines.drop i)=T)(h1:Sees R a ((x.lines.drop i).map I64))(h2:x.lines.length - i<=c)(h:Le q (wrO p W::pC n4 [I64 (ahd x.lines i)] 3::pC n5 [.slice a (x.lines.length - i) c] 23::r)):Le q (tcI p n4 n5 x R T i::r):=
 h.trans (Vt (W,a,c) ((Yu ⟨e,h1,h2⟩ _).trans (Zh [_,_,_,_] r)))
def X.tcO {k}{cs}(h: ∀ W a c,W++Bc (ahd x.lines i) (x.ins.drop i) (x.lines.drop i)=T->Sees R a ((x.lines.drop i).map I64)->x.lines.length - i<=c->X P G f Q k p0 ds cs (Go.Proofs.YtadahhbefdnabaaGreatDoor.wrO p W::pC n4 [I64 (ahd x.lines i)] 3::pC n5 [.slice a (x.lines.length - i) c] 23::r))(hq:Le q (tcI p n4 n5 x R T i::r):=by exact Zj):X P G f Q k p0 ds cs q:=
 .le hq (.ex fun z=> .le (Zb _ r) (.pure fun e=>h _ _ _ e.1 e.2.1 e.2.2))
abbrev Au (v0)(v1:Cod):=((.cells [.slice v0 v1.ins.length v1.ic].toArray 213 (0,0)):Obj)
def Zv8 (ok:Gj x)(hlc:x.lines.length<=x.lc)(hx:CodQ q x)(gc:GC q)(hB:l.length+(Zvs (x.name,x.locals,x.ins,x.lines)).length<=500000000):CF G 105 [pt p,.agg (Vs x).toArray] (wrO p l::q) (Ret fun v q'=>q'=wrO p (l++Zvs (x.name,x.locals,x.ins,x.lines))::q):=by
 refine aE ntmps105 fun F cs=> ?_;have ⟨k1,k2,k3,k4,k5⟩:=ok;unfold Ym at k1 k2;have ⟨NL,q0⟩:=aU k2.1;have ⟨TT,o⟩:=lV (l++Zvs (x.name,x.locals,x.ins,x.lines));have e1:TT.length<=500000000:=(by rw [o,aA];exact hB);rw [<-o];have b1:=Zq5 x.name;have a1:=U2 x.name.size;have z0:=U2 NL;have y0:=U2 x.ins.length;unfold Zvs at o hB;dsimp only at o hB;rw [q0,show ((NL:Nat):Int).toNat=NL from rfl] at o hB;simp [aA] at hB
 refine Yb fun n1=> ?_
 refine Yb fun n2=> ?_
 refine Zz ?_;apply Zv (Mt leA) (V5 (n:=x.name.size) Zq Zq);rintro _ _ rfl;have ⟨W1,t⟩:=lV (l++vb x.name.size);rw [<-t];apply ox 1;refine X.wrO fun aw cw=> ?_
 refine Zz ?_;refine eT 8 rfl (Ef.appS (l:=W1) (sb:=x.name) underlying88 underlying9 Ke rfl rfl Zj (by rw [t];simp [aA];omega)) ?_;refine kk2 fun a2 c2=> ?_
 refine rn [10,11,12,13,0] ?_;have ⟨W2,f0⟩:=lV (W1++byI x.name);rw [<-f0];apply cE (q':=wrO p W2::_) (Xs (bC Zj Zj));refine Zz ?_;apply aX 27 (Ad NL) rfl (by rw [<-q0]);refine Zv (Mt Zj) (V5 (n:=NL) Zq (by rw [f0,t];simp [aA];omega)) ?_;rintro _ _ rfl;have ⟨W3,g0⟩:=lV (W2++vb NL);rw [<-g0];refine Zz ?_;refine Zv (Mt Zj) (V5 (n:=x.ins.length) Zq (by rw [g0,f0,t];simp [aA];omega)) ?_;rintro _ _ rfl;have ⟨W4,p0⟩:=lV (W3++vb x.ins.length);rw [<-p0];refine Zz ?_;refine Vd (fl:= [⟨2,4,fun g=> pt g,fun g=>pC g zz5 3⟩,⟨3,5,fun g=> pt g,fun g=>pC g zz9 23⟩]) ?_;refine Qs (e0:=⟨2,4,fun g=> pt g,fun g=>pC g zz5 3⟩) (hnd:=by simp) 2 ⟨flA zeroValue3,flA zeroValue23,trivial⟩ fun nx=> ?_;change XF _ _ _ _ _ _ _ [⟨3,5,fun g=> pt g,fun g=>pC g zz9 23⟩] _ _ _ ((4,pt nx)::_) _ _ (pC nx zz5 3::_);refine Qs (e0:=⟨3,5,fun g=> pt g,fun g=>pC g zz9 23⟩) (hnd:=by simp) 3 ⟨flA zeroValue23,trivial⟩ fun ny=> ?_;change XF _ _ _ _ _ _ _ [] _ _ _ ((5,pt ny)::_) _ _ (pC ny zz9 23::_);refine fR ?_;refine Zz ?_;apply Zv (aG _) (named_ok);rintro _ _ ⟨nb,rfl,rfl⟩;refine Zz ?_;refine cE (q':=pC nb [.slice x.ia x.ins.length x.ic] 213::_) Zj (fX ?_);refine Zkd (xs:=x.ins) (im nb (Au x.ia x)::pC n1 [pt p] 226::pC n2 (Vs x) 224::q) (fun k:Nat=> [tcI p nx ny x q TT k]) (F:=F) (Zww (dK (iQ _ _ _) 0 _ rfl) (hx.i.le leA) (fun i h=>(k4.2 i h).1) Zq (gc.le leA)) rfl ?_ (by rintro _ _ _ ⟨⟨_,rfl⟩,_⟩;rfl) rfl (by rw [func105];rfl) rfl (fun i hi vs A hA l9 rec F0 f1=> ?_) fun r=> ?_
 . simp [ca,na];exact tcI_in (W:=W4) (a:=x.la) (c:=x.lc) (by rw [o,p0,g0,f0,t];simp [ahd]) hx.l Zq (by rw [Nat.sub_zero];exact leA)
 . obtain ⟨⟨sn,rfl⟩,rfl⟩:=hA;have ⟨y,hy⟩:=lV x.ins[i];rw [<-hy];have c0:i<x.lines.length:=Zq;refine X.sub (p':= [(40,_),(39,_),(38,_),(5,_),(4,_),(2,_)]) ⟨rfl,rfl,rfl,rfl,rfl,rfl,trivial⟩ ?_;simp [ca,na];refine X.tcO fun W a5 c5 d e t0=> ?_;rw [codB_at hi c0,<-hy] at d;have ⟨x0,j0,i0,s0⟩:=(k4.2 y (hy ▸ aC hi))
   have ⟨ah,n0⟩:=lV (ahd x.lines i);rw [<-n0] at d|-;have d1:0<=ah/\ah<=65536:=(by rw [n0];unfold ahd;split;exact ⟨Zw,Zw⟩;rw [aH,aB (show i - 1<x.lines.length by omega)];exact k5.2 _ (aC _));have ⟨ln,b0⟩:=lV x.lines[i];rw [<-b0] at d;have c1:0<=ln/\ln<=65536:=(by rw [b0];exact k5.2 _ (aC c0));have ⟨D,hD⟩:=lV (Bc (ahd x.lines (i+1)) (x.ins.drop (i+1)) (x.lines.drop (i+1)));rw [<-hD] at d;have d0:=aQ List.length d;unfold Zgs at d0 d;simp [aA,aJ,aT] at d0;have m0:(x.lines.drop i).length=x.lines.length - i:=bY;have j:x.lines.drop i=ln::x.lines.drop (i+1):=(by rw [b0];exact aP c0);refine Yq (e.le leA) (by rw [aI,m0];omega) fun b6 o6 e6=> ?_;subst e6;refine X.wrO fun aw cw=> ?_
   have ⟨PA,a0⟩:=lV (if nmA y.c=true then vb y.a.toNat else []);have ⟨PB,z⟩:=lV (if y.c=26 then vb y.b.toNat else []);have ⟨PN,w⟩:=lV (if y.c=1 then vb (sgU y.n) else []);rw [<-a0,<-z,<-w] at d;replace d:W++ [y.c]++PA++PB++PN++vb (sgU (ln - ah))++D=TT:=(by rw [<-d];simp);refine Zo zeroValue350 fun n3=> ?_
   refine Zo zeroValue222 fun n4=> ?_
   refine Zz ?_;apply gE rfl leA;refine Zz ?_;refine dW 49 (.int .u8 y.c) rfl (aQ (Value.int .u8) (by rw [wu8];omega)) ?_;apply eT 9 rfl (Qd (u:=y.c) (Value.int .u8) underlying88 Ke rfl rfl);rintro _ _ ⟨g2,rfl,rfl⟩;refine ⟨(hlA (h:=by repeat first|exact trivial|refine ⟨clA,?_⟩|refine ⟨Ta e j leA,?_⟩)),?_⟩;refine eT 10 rfl (Wu (f:=Value.int .u8) (l:=W) (m:= [y.c]) underlying88 Ke rfl rfl rfl Zj ((bV _).le leA) (fun _=>rfl) (by simp [aA,aJ,aT] at d0|-;omega) (by simp [aA,aJ,aT] at d0|-;omega)) ?_;rintro _ _ ⟨a3,c3,rfl,rfl⟩;refine ⟨(hlA (h:=by repeat first|exact trivial|refine ⟨clA,?_⟩|refine ⟨Ta e j leA,?_⟩)),?_⟩;refine Zz ?_;apply cE (q':=wrO p (W++ [y.c])::_) (Xs (bC Zj Zj));refine Zz ?_;refine iG (fun (s:Unit)=> [(2,pt n1),(4,pt nx),(5,pt ny),(6,pt n3),(7,pt n4)]) (fun s=>wrO p (W++ [y.c]++PA)::lp rec l9 .busy none::pC n4 (Y7 y) 222::pC n3 [.string sn,.bool (nmA y.c),.bool (decide (y.c=26)),.bool (decide (y.c=1))] 350::pC nx [I64 ah] 3::pC ny [.slice (some ⟨b6,o6,none⟩) (x.lines.length - i) c5] 23::im nb (Au x.ia x)::pC n1 [pt p] 226::pC n2 (Vs x) 224::(q++F0)) (fun s=>True) (fun s k0=> ?_) fun K=> ?_
   . have ⟨WA,w0⟩:=lV (W++ [y.c]++PA);rw [<-w0] at d|-;refine Zz ?_;refine iG (fun (s:Unit)=> [(2,pt n1),(4,pt nx),(5,pt ny),(6,pt n3),(7,pt n4)]) (fun s=>wrO p (WA++PB)::lp rec l9 .busy none::pC n4 (Y7 y) 222::pC n3 [.string sn,.bool (nmA y.c),.bool (decide (y.c=26)),.bool (decide (y.c=1))] 350::pC nx [I64 ah] 3::pC ny [.slice (some ⟨b6,o6,none⟩) (x.lines.length - i) c5] 23::im nb (Au x.ia x)::pC n1 [pt p] 226::pC n2 (Vs x) 224::(q++F0)) (fun s=>True) (fun s k0=> ?_) fun K=> ?_
     . have ⟨WB,v0⟩:=lV (WA++PB);rw [<-v0] at d|-;refine Zz ?_;refine iG (fun (s:Unit)=> [(2,pt n1),(4,pt nx),(5,pt ny),(6,pt n3),(7,pt n4)]) (fun s=>wrO p (WB++PN)::lp rec l9 .busy none::pC n4 (Y7 y) 222::pC n3 [.string sn,.bool (nmA y.c),.bool (decide (y.c=26)),.bool (decide (y.c=1))] 350::pC nx [I64 ah] 3::pC ny [.slice (some ⟨b6,o6,none⟩) (x.lines.length - i) c5] 23::im nb (Au x.ia x)::pC n1 [pt p] 226::pC n2 (Vs x) 224::(q++F0)) (fun s=>True) (fun s k0=> ?_) fun K=> ?_
       . have ⟨WN,u0⟩:=lV (WB++PN);rw [<-u0] at d|-;refine Zz ?_;refine ldD 3 ?_ (hc:=(Ta e j leA));refine Zz ?_;refine Wk 6 (Mt Zj) (Ea (l:=WN) (k:=ln - ah) Zq (by have h:=aQ List.length d;simp [aA] at h;omega)) ?_;rintro _ _ rfl;refine ⟨(hlA (h:=by repeat first|exact trivial|refine ⟨clA,?_⟩|refine ⟨Ta e j leA,?_⟩)),?_⟩;refine Zz ?_;refine ldD 2 ?_ (hc:=(Ta e j leA));refine rn [4,5] ?_;refine stD 5 ?_;refine Zz ?_;refine gK ⟨rfl,rfl,?_⟩;simp only [ca,na];refine bC Zj (tcI_in (c:=c5 - 1) (by rw [<-hD];exact d) (by have:=e.suf (l:=1) (c:=c5) (sz:=1) (by rw [aI,m0];omega);rw [j] at this;simpa using this) Zq ?_);rw [show ahd x.lines (i+1)=ln by unfold ahd;rw [if_neg Zq,iT,aH,aB c0,b0];rfl];exact leA
       refine Zp ?_ ?_<;>intro hc
       . rw [if_pos hc] at w s0;subst w;refine Zz ?_;refine Zv (Mt Zj) (Ea (k:=y.n) Zq (by have h:=aQ List.length d;simp only [aA] at h;omega)) ?_;rintro _ _ rfl;apply ox 1;exact cH (K () trivial) Z5 leA
       rw [if_neg (by first|exact hc|(rw [hc];decide))] at w;subst w;simp only [cA] at K;apply xx 2;exact cH (K () trivial) Z5 leA
     refine Zp ?_ ?_<;>intro hc
     . rw [if_pos hc] at z i0;subst z;refine Zz ?_;have ⟨An,h0⟩:=aU i0.1;have hAt:y.b.toNat=An:=Zq;rw [hAt] at d;apply aX 65 (Ad An) rfl (by rw [<-h0]);refine Zv (Mt Zj) (V5 (n:=An) Zq (by have h:=aQ List.length d;simp [aA] at h;omega)) ?_;rintro _ _ rfl;rw [<-hAt];apply ox 1;exact cH (K () trivial) Z5 leA
     rw [if_neg (by first|exact hc|(rw [hc];decide))] at z;subst z;simp only [cA] at K;apply xx 2;exact cH (K () trivial) Z5 leA
   refine Zp ?_ ?_<;>intro hc
   . rw [if_pos hc] at a0 j0;subst a0;refine Zz ?_;obtain ⟨An,h0⟩:=aU j0.1;have hAt:y.a.toNat=An:=Zq;rw [hAt] at d;apply aX 59 (Ad An) rfl (by rw [<-h0]);refine Zv (Mt Zj) (V5 (n:=An) Zq (by have h:=aQ List.length d;simp only [aA] at h|-;omega)) ?_;rintro _ _ rfl;rw [<-hAt];apply ox 1;exact cH (K () trivial) Z5 leA
   rw [if_neg (by first|exact hc|(rw [hc];decide))] at a0;subst a0;simp only [cA] at K;apply xx 2;exact cH (K () trivial) Z5 leA
 simp [ca,na];refine X.tcO fun W a5 c5 d e t0=> ?_;rw [cN (aS _)] at d;have o0:W=TT:=(by rw [<-d];simp [Bc]);rw [o0]
 refine Zz ?_;refine gK ⟨rfl,Kx ?_⟩;exact fS (q':=wrO p TT::q) func105 (Pj results105) ⟨_,rfl,rfl⟩ leA
end Go.Proofs.YtadahhbefdnabaaGreatDoor
namespace Go.Proofs.YtadahhbefdnabaaGreatDoor
open Go Go.RowKit Wx Go.Proofs.Tryz
attribute [local irreducible] lsH rsH stars
variable {i:Ins}{l L:List Ins}{D:List Int}{a e b t n x d k id B lo sl ot T:Int}{m:Mdl}{s p q f:Nat}{ix:PEx}{c:Cn}{ts r:List Tk}{F:Fnd}
def N7:Ins:=⟨0,0,0,0⟩
def getD_lt' {α:Type}{l:List α}{i}{z}(h:i<l.length):l.getD i z=l[i]:=by grind
structure Snd (l:List Ins) (D:Nat->Int):Prop where
 pos:0<l.length
 z:D 0=0
 go: ∀ a,a<l.length->0<=D a-> ¬D a<(Y4 (l.getD a N7).c).1/\D a - (Y4 (l.getD a N7).c).1+(Y4 (l.getD a N7).c).2<=25/\(((l.getD a N7).c=23\/(l.getD a N7).c=34)->D a=0)/\
  ∀ y∈nxt (l.getD a N7) a,0<=y/\y.toNat<l.length/\D y.toNat=D a - (Y4 (l.getD a N7).c).1+(Y4 (l.getD a N7).c).2
section
variable {D:Nat->Int}
def Snd.nn (h:Snd l D){a}(ha:a<l.length)(hd:0<=D a):0<=D a - (Y4 (l.getD a N7).c).1+(Y4 (l.getD a N7).c).2:=by
 have b:=(h.go a ha hd).1;have:=Pc (l.getD a N7).c;omega
end
def Cb {b}{E:Nat->Int}(hb:0<=b): ∀ {l D},(∀ x∈l,0<=x/\x.toNat<D.length/\E x.toNat=b)->(∀ j,0<=dAt D j->dAt D j=E j)-> ∃ D',Ji b D l=some D'/\D'.length=D.length/\ ∀ j,0<=dAt D' j->dAt D' j=E j
 | [],D,_,h=>⟨D,rfl,rfl,h⟩
 |x::r,D,hx,h=>by
  have ⟨f,a,d⟩:=hx x (bO ..);unfold Ji;have e:=fun j=>Pr (j:=j) (b:=b) a
  obtain ⟨D',n,m,k⟩:=Cb hb (D:=D.set x.toNat b) (fun y c=>by rw [aR];exact hx y (bQ _ c)) (fun j g=>by
   grind)
  grind
def Od {ins}{E:Nat->Int}(hE: ∀ a,a<ins.length->0<=E a->(Jy ins a (E a)).2=0/\0<=(Jy ins a (E a)).1/\ ∀ x∈D9 (ins.getD a zI) a,0<=x/\x.toNat<ins.length/\E x.toNat=(Jy ins a (E a)).1):
 ∀ (k:Nat) (D:List Int) (dn:List Bool),D.length=ins.length->(∀ j,0<=dAt D j->dAt D j=E j)->(P6 ins k D dn).2=0
 |0,_,_,_,_=>rfl
 |k+1,D,dn,hl,h=>by
  unfold P6;split
  . rfl
  rename_i a c;have ⟨q,⟨b,_⟩,_⟩:=Bh c;have f:=h a b;rw [f] at b|-;have ⟨p,g,o⟩:=hE a Zq b;rw [if_neg Zq];have ⟨i,e,n,d⟩:=Cb g (l:=D9 (ins.getD a zI) a) (fun x m=>by grind) h;rw [e];exact Od hE k i _ Zq d
def Snd.dOf {m}{t}{E}(h:Snd t.ins E)(hs: ∀ x∈t.ins,Bk m t x):(dOf m t).2=0:=by
 unfold Go.Proofs.YtadahhbefdnabaaGreatDoor.dOf;have v:=h.pos;rw [if_neg Zq,if_neg (fun k=>k hs)];refine Od (E:=E) (fun a d n=> ?_) _ _ _ (by simp [Me]) fun j q=> ?_
 . rw [Me] at d;have ⟨s,r,o,g⟩:=h.go a d n;have l:=h.nn d n;rw [getD_lt' d] at s r o g l
   have e:Jy (Ng t) a (E a)=(E a - (Y4 t.ins[a].c).1+(Y4 t.ins[a].c).2,0):=by
    unfold Jy;rw [Nt d];dsimp only [Ins.t];rw [if_neg Zq,if_neg (fun k=>k.2 (o k.1)),if_neg];rintro ⟨x,p,f⟩;have:=g x p;rw [Me] at f;omega
   rw [e,Nt d,Me];exact ⟨rfl,l,g⟩
 rw [Pr Zi] at q|-;split
 . rename_i u;rw [u,h.z]
 grind [dAt]
def vchk_of (h:Nd m)(hd: ∀ t∈m.threads,(dOf m t).2=0):Ho m=0:=by
 unfold Ho;rw [if_neg (by rw [Bf.2 h];decide)]
 have: ∀ {l:List Cod},(∀ t∈l,(dOf m t).2=0)->X0 m l=0:=by
  intro l
  induction l<;>grind [X0,List.mem_cons_self]
 exact this hd
mutual
/-- How deep the stack is ahead of each instruction of an expression's code. -/
def PEx.dl:PEx->Int->List Int
 | .mk k n nm slot loc op args,d=>
  if (PEx.one (.mk k n nm slot loc op args))=true then [d]
  else if k=2 then [d]
  else if k=1 then [d]
  else
   let a:=(N1 args).getD 0 (fun _=> []) d
   if k=6/\op<=2 then a++ [d+1]++(N1 args).getD 1 (fun _=> []) d++ [d+1,d+1,d]
   else if k=3 then a++ [d+1]
   else if k=4 then a++ [d+1]
   else if k=5 then a++ [d+1]
   else a++(N1 args).getD 1 (fun _=> []) (d+1)++ [d+2]
def N1:List PEx->List (Int->List Int)
 | []=> []
 |e::r=>e.dl::N1 r
end
def Atl {α:Type}(L:List α)(s:Nat)(C:List α):Prop:= ∀ i,i<C.length->L[s+i]? =C[i]?
def Atl.app {α}{L A B:List α}:Atl L s (A++B)↔Atl L s A/\Atl L (s+A.length) B:=by
 constructor
 . intro h;refine ⟨fun i a=> ?_,fun i a=> ?_⟩
   . rw [h i (by grind),dX a]
   rw [fW,h _ (by grind),dT Zq,iK]
 rintro ⟨c,b⟩ i a;rw [aA] at a;by_cases hl:i<A.length
 . rw [c i hl,dX hl]
 have:=b (i - A.length) Zq;grind
abbrev dY:=@Atl.app
def Atl.one {α}{L:List α}{x}:Atl L s [x]↔L[s]? =some x:=by
 constructor
 . intro h;have:=h 0 Zf;grind
 intro h i a;grind
abbrev eM:=@Atl.one
theorem Atl.cons {α}{L r:List α}{x}:Atl L s (x::r)↔L[s]? =some x/\Atl L (s+1) r:=by
 rw [show x::r= [x]++r from rfl,dY,eM];rfl
def Cnd (L:List Ins)(D:List Int)(p:Nat):Prop:=
 ∃ i e,L[p]? =some i/\D[p]? =some e/\0<=e/\ ¬e<(Y4 i.c).1/\e - (Y4 i.c).1+(Y4 i.c).2<=25/\((i.c=23\/i.c=34)->e=0)/\ ∀ y∈nxt i p,0<=y/\D[y.toNat]? =some (e - (Y4 i.c).1+(Y4 i.c).2)
theorem Cnd.go (hL:L[p]? =some i)(hD:D[p]? =some e)(he:0<=e)(hf:Y4 i.c=(a,b))(h1:a<=e)(h2:e - a+b<=25)(hc:i.c=23\/i.c=34->e=0)(h3: ∀ y∈nxt i p,0<=y/\D[y.toNat]? =some (e - a+b)):Cnd L D p:=
 ⟨i,e,hL,hD,he,by grind,by grind,hc,by grind⟩
def Cnd.on (hL:L[p]? =some i)(hD:D[p]? =some e)(hn:D[p+1]? =some (e - a+b))(he:0<=e)(hf:Y4 i.c=(a,b))(h1:a<=e)(h2:e - a+b<=25)(hc: ¬ (i.c=19\/i.c=20\/i.c=21\/i.c=34))(hm:i.c=23->e=0):Cnd L D p:=by
 grind [Cnd.go,nxt]
def Cnd.jmp {t:Nat}(hL:L[p]? =some i)(hD:D[p]? =some e)(hc:i.c=19)(ht:i.a=t)(hn:D[t]? =some e)(he:0<=e)(h2:e<=25):Cnd L D p:=by
 refine .go (b:=0) hL hD he (by rw [hc];decide) he Zq (fun k=>by omega) fun y d=> ?_
 grind [nxt]
def Cnd.jif {t:Nat}(hL:L[p]? =some i)(hD:D[p]? =some e)(hc:i.c=20\/i.c=21)(ht:i.a=t)(hn:D[t]? =some (e - 1))(hn2:D[p+1]? =some (e - 1))(he:1<=e)(h2:e<=25):Cnd L D p:=by
 refine .go (b:=0) hL hD Zq (by rcases hc with hc|hc<;>rw [hc]<;>decide) he Zq (fun k=>by omega) fun y f=> ?_
 have d:y=i.a\/y=(p:Int)+1:=by
  grind [nxt]
 grind
def Cnds (L:List Ins)(D:List Int)(s n:Nat):Prop:= ∀ p,s<=p->p<s+n->Cnd L D p
def Cnds.app {n m}(h:Cnds L D s n)(h2:Cnds L D (s+n) m):Cnds L D s (n+m):=fun p a b=>by
 by_cases k:p<s+n
 . exact h p a k
 exact h2 p Zq Zq
def Cnds.one (h:Cnd L D s):Cnds L D s 1:=fun p b a=>by
 grind
def Cnds.len {n m}(h:Cnds L D s n)(e:n=m):Cnds L D s m:=e ▸ h
def J7 {x}(h:D[p]? =x)(e:p=q):D[q]? =x:=e ▸ h
def Cq {D:List Ins}{x}(h:D[p]? =x)(e:p=q):D[q]? =x:=e ▸ h
def Atl.at {α}{L C:List α}{t}(h:Atl L s C)(e:s=t):Atl L t C:=e ▸ h
def Cnd.pt (h:Cnd L D p)(e:p=q):Cnd L D q:=e ▸ h
def PEx.sz_pos (e:PEx):1<=e.sz:=by cases e;grind [PEx.sz]
def Ka: ∀ (N:Nat) (e:PEx),e.sz<=N->e.fit-> ∀ (s d:Int),(e.dl d).length=(e.code s).length/\(e.dl d)[0]? =some d
 |0,e,hN,_,_,_=>by have:=e.sz_pos;omega
 |N+1,.mk k n nm slot loc op args,hN,⟨hk,hm,hn1,hop,hfa⟩,s,d=>by
  simp only [PEx.dl,PEx.code];split
  . exact ⟨rfl,rfl⟩
  split
  . exact ⟨rfl,rfl⟩
  split
  . exact ⟨rfl,rfl⟩
  rename_i o p
  have a: ∀ x∈args,∀ s d,(x.dl d).length=(x.code s).length/\(x.dl d)[0]? =some d:=fun x a s d=>by
   obtain ⟨i,g,rfl⟩:=eH a;have:=Du g;simp [PEx.sz] at hN;exact Ka N _ Zq (Ua hfa a) s d
  have b: ∀ {x:PEx} {r:List Int},(∀ s d,(x.dl d).length=(x.code s).length/\(x.dl d)[0]? =some d)->(x.dl d++r)[0]? =some d:=fun {x r} h=>by
   have f:=(h s d).2;rw [dX (by have ⟨l,_⟩:=cL.1 f;exact l)];exact f
  by_cases h6:k=6
  . obtain ⟨x,y,rfl⟩: ∃ x y,args= [x,y]:=by
     match args,hm with
     | [x,y],_=>exact ⟨x,y,rfl⟩
     | [],hm=>rw [h6] at hm;cases hm
     | [_],hm=>rw [h6] at hm;cases hm
     |_::_::_::_,hm=>rw [h6] at hm;simp [Ra] at hm
    have ix:=a x Zf;have c:=a y Zf;simp only [N1,PEx.codes,eS,iI];subst h6;by_cases ho:op<=2
    . simp only [ho,and_true,true_and,and_false,false_and,if_true,if_false,reduceIte];refine ⟨by simp [aA,aJ,aT];rw [(ix s d).1,(c _ d).1],?_⟩;rw [aO,aO];exact b ix
    simp (decide:=true) only [ho,and_true,true_and,and_false,false_and,if_true,if_false,reduceIte];refine ⟨by simp [aA,aJ,aT];rw [(ix s d).1,(c _ (d+1)).1],?_⟩;rw [aO];exact b ix
  obtain ⟨x,rfl⟩: ∃ x,args= [x]:=by
   have m:args.length=1:=by rw [hm];unfold Ra;rw [if_pos Zq]
   match args,m with
   | [x],_=>exact ⟨x,rfl⟩
  have ix:=a x Zf;simp [N1,PEx.codes,eS];have j:k=3\/k=4\/k=5:=Zq;rcases j with rfl|rfl|rfl<;>simp (decide:=true) only [false_and,if_true,if_false,reduceIte]<;>exact ⟨by simp [aA,aJ,aT];rw [(ix s d).1],b ix⟩
def Atl.hd {L C}(h:Atl L s C)(h0:C[0]? =some d):L[s]? =some d:=by
 have:=h 0 (by grind);grind
def PEx.snd (L:List Ins)(D:List Int): ∀ (N:Nat) (e:PEx),e.sz<=N->e.fit-> ∀ (s:Nat) (d:Int),0<=d->d+e.dep<=25->Atl L s (e.code s)->Atl D s (e.dl d)->D[s+(e.code s).length]? =some (d+1)->Cnds L D s (e.code s).length
 |0,e,hN,_,_,_,_,_,_,_,_=>by have:=e.sz_pos;omega
 |N+1,.mk k n nm slot loc op args,hN,⟨hk,hm,hn1,hop,hfa⟩,s,d,hd,hdep,hL,hD,hE=>by
  have c: ∀ x∈args,∀ (s:Nat) (d:Int),0<=d->d+x.dep<=25->Atl L s (x.code s)->Atl D s (x.dl d)->D[s+(x.code s).length]? =some (d+1)->Cnds L D s (x.code s).length:=fun x c=>by
   obtain ⟨i,hi,rfl⟩:=eH c;have:=Du hi;simp [PEx.sz] at hN;exact PEx.snd L D N _ Zq (Ua hfa c)
  have w: ∀ x∈args,∀ (s d:Int),(x.dl d).length=(x.code s).length/\(x.dl d)[0]? =some d:=fun x c=>Ka _ x (aS _) (Ua hfa c)
  simp [PEx.dep] at hdep;simp only [PEx.code] at hL hE|-;simp only [PEx.dl] at hD;split at hL
  . rename_i p;rw [if_pos p] at hD hE|-;rw [eM] at hL hD;exact .one (.on hL hD (by simpa using hE) hd (show Y4 1=(0,1) by decide) hd Zq (show ¬ ((1:Int)=19\/(1:Int)=20\/(1:Int)=21\/(1:Int)=34) by decide) (fun h=>aV (show (1:Int)=23 from h) Zw))
  rename_i p;rw [if_neg p] at hD hE|-;split at hL
  . rename_i o;rw [if_pos o] at hD hE|-;rw [eM] at hL hD;refine .one (.on hL hD (by simpa using hE) hd ?_ hd Zq ?_ (fun h=> ?_))
    . dsimp only;split<;>decide
    . dsimp only;split<;>decide
    dsimp only at h;split at h<;>exact aV h Zw
  rename_i o;rw [if_neg o] at hD hE|-;split at hL
  . rename_i z;rw [if_pos z] at hD hE|-;rw [eM] at hL hD;exact .one (.on (b:=1) hL hD (by simpa using hE) hd (show Y4 1=(0,1) by decide) hd Zq (show ¬ ((1:Int)=19\/(1:Int)=20\/(1:Int)=21\/(1:Int)=34) by decide) (fun h=>aV (show (1:Int)=23 from h) Zw))
  rename_i z;rw [if_neg z] at hD hE|-;(try dsimp only at hL);(try dsimp only at hD);(try dsimp only at hE);(try dsimp only);by_cases h6:k=6
  . obtain ⟨x,y,rfl⟩: ∃ x y,args= [x,y]:=by
     match args,hm with
     | [x,y],_=>exact ⟨x,y,rfl⟩
     | [],hm=>rw [h6] at hm;cases hm
     | [_],hm=>rw [h6] at hm;cases hm
     |_::_::_::_,hm=>rw [h6] at hm;simp [Ra] at hm
    have ix:=c x Zf;have iy:=c y Zf;have m:=w x Zf;have u:=w y Zf;simp only [N1,PEx.codes,eS,iI] at hL hD hE|-;simp only [Ys] at hdep;subst h6;by_cases ho:op<=2
    . simp (decide:=true) only [ho,and_true,true_and,and_false,false_and,if_true,if_false,reduceIte] at hL hD hE|-;rw [dY,dY,dY,eM,Atl.cons,Atl.cons,eM] at hL hD;obtain ⟨⟨⟨L1,r⟩,l⟩,L4,L5,L6⟩:=hL;obtain ⟨⟨⟨D1,j⟩,g⟩,D4,D5,D6⟩:=hD;have e1:=(m s d).1;have e2:=(u (s+(x.code s).length+1) d).1;obtain ⟨B,v⟩: ∃ B,y.code (s+(x.code s).length+1)=B:=⟨_,rfl⟩;rw [v] at r l L4 L5 L6 e2 hE|-;simp only [aA,aJ,aT,e1,e2] at r l L4 L5 L6 j g D4 D5 D6 hE|-;have f:((s+(x.code s).length+1:Nat):Int)=(s:Int)+((x.code s).length:Int)+1:=Zq;have c1:=ix s d hd Zq L1 D1 j;have q:=iy (s+(x.code s).length+1) d hd Zq (by rw [f,v];exact l.at Zq) (g.at Zq) (by rw [f,v];exact J7 D4 Zq);rw [f,v] at q;have cJ:Cnd L D (s+(x.code s).length):= .jif (t:=s+(x.code s).length+1+B.length+2) r j (by dsimp only;by_cases o:op=2<;>simp [o]) Zy (J7 (by rw [show d+1 - 1=d by omega];exact D6) Zq) (J7 (by rw [show d+1 - 1=d by omega];exact (Atl.hd g (u 0 d).2)) Zq) Zq Zq;have c3:Cnd L D (s+(x.code s).length+1+B.length):= .on (Cq L4 Zq) (J7 D4 Zq) (J7 (by rw [show d+1 - 1+1=d+1 by omega];exact D5) Zq) Zq (show Y4 22=(1,1) by decide) Zq Zq (show ¬ ((22:Int)=19\/(22:Int)=20\/(22:Int)=21\/(22:Int)=34) by decide) (fun h=>aV (show (22:Int)=23 from h) Zw);have c4:Cnd L D (s+(x.code s).length+1+B.length+1):= .jmp (t:=s+(x.code s).length+1+B.length+2+1) (Cq L5 Zq) (J7 D5 Zq) rfl Zy (J7 hE Zq) Zq Zq;have c5:Cnd L D (s+(x.code s).length+1+B.length+1+1):= .on (Cq L6 Zq) (J7 D6 Zq) (J7 (by rw [show d - 0+1=d+1 by omega];exact hE) Zq) Zq (show Y4 1=(0,1) by decide) Zq Zq (show ¬ ((1:Int)=19\/(1:Int)=20\/(1:Int)=21\/(1:Int)=34) by decide) (fun h=>aV (show (1:Int)=23 from h) Zw);exact (((((c1.app (.one cJ)).app q).app (.one (c3.pt Zq))).app (.one (c4.pt Zq))).app (.one (c5.pt Zq))).len Zq
    simp (decide:=true) only [ho,and_true,true_and,and_false,false_and,if_true,if_false,reduceIte] at hL hD hE|-;obtain ⟨n1,a0⟩: ∃ n1,(x.code s).length=n1:=⟨_,rfl⟩;rw [dY,dY,eM] at hL hD;obtain ⟨⟨L1,r⟩,l⟩:=hL;obtain ⟨⟨D1,j⟩,g⟩:=hD;rw [(m s d).1] at j;rw [aA,(m s d).1,(u (s+(x.code s).length) (d+1)).1] at g;rw [aA] at l;simp [aA,aJ,aT] at hE|-;have f:(((s+(x.code s).length:Nat)):Int)=(s:Int)+((x.code s).length:Int):=Zq;have d2:=Atl.hd j (u (s+(x.code s).length) (d+1)).2;have c1:=ix s d hd Zq L1 D1 d2;have q:=iy (s+(x.code s).length) (d+1) Zq Zq (by rw [f];exact r) j (by rw [f,fW];rw [show d+1+1=d+2 by omega];exact g);rw [f] at q;refine (c1.app q).app (.one (.on (a:=2) (b:=1) l g ?_ Zq ?_ Zq Zq ?_ (fun h=> ?_)))
    . rw [show d+2 - 2+1=d+1 by omega];rw [<-hE];congr 1
    . dsimp only;have:op+7=10\/op+7=11\/op+7=12\/op+7=13\/op+7=14\/op+7=15\/op+7=16\/op+7=17\/op+7=18:=by have:=hop rfl;omega
      rcases this with h|h|h|h|h|h|h|h|h<;>rw [h]<;>decide
    . dsimp only;have:=hop rfl;omega
    dsimp only at h;have:=hop rfl;omega
  obtain ⟨x,rfl⟩: ∃ x,args= [x]:=by
   have p:args.length=1:=by rw [hm];unfold Ra;rw [if_pos Zq]
   match args,p with
   | [x],_=>exact ⟨x,rfl⟩
  have ix:=c x Zf;have m:=w x Zf;simp [N1,PEx.codes,eS] at hL hD hE|-;simp [Ys] at hdep;have e1:=(m s d).1;have hc:k=3\/k=4\/k=5:=Zq;rcases hc with rfl|rfl|rfl<;>simp (decide:=true) only [false_and,if_true,if_false,reduceIte] at hL hD hE|- <;>rw [dY,eM] at hL hD<;>simp [aA,aJ,aT,e1] at hD hE|- <;>refine (ix s d hd Zq hL.1 hD.1 hD.2).app (.one (.on hL.2 hD.2 (by rw [show d+1 - 1+1=d+1 by omega];exact hE) Zq (by dsimp only;decide) Zq Zq (by dsimp only;decide) (fun h=>by dsimp only at h;omega)))
def Zqk (k:Int)(e ix:PEx):List Int:=
 let d:Int:=if k=3 then 1 else 0
 (if k=3 then [0]++ix.dl 0 else [0])++(if k<=5\/k=11\/k=15 then e.dl d else [])
def preE (k:Int):Int:=if k=3 then 2 else if k<=5\/k=11\/k=15 then 1 else 0
def Zz2 (k:Int):List Int:=if k=3 then [2] else if k=12 then [0,1] else [preE k]
mutual
def PStm.dl:PStm->List Int
 | .mk k _ _ _ _ e ix body els _ _ _ _=>
  if k=4 then (if els= [] then Zqk k e ix++ [1]++Vc body else Zqk k e ix++ [1]++Vc body++ [0]++Vc els)
  else if k=5 then Zqk k e ix++ [1]++Vc body++ [0]
  else Zqk k e ix++Zz2 k
def Vc:List PStm->List Int
 | []=> []
 |s::r=>s.dl++Vc r
end
def Zjq {e}(h:k<=5\/k=11\/k=15->e.fit)(h2:k=3->ix.fit):(Zqk k e ix).length=(Js k e ix id t).length/\(Zqk k e ix)[0]? =some 0:=by
 have a:=fun (h:e.fit) s d=>Ka _ e (aS _) h s d
 have b:=fun (h:ix.fit) s d=>Ka _ ix (aS _) h s d
 grind [Zqk,Js]
def pre_snd {e}(h:k<=5\/k=11\/k=15->e.fit/\e.dep<=24)(h2:k=3->ix.fit/\ix.dep<=24)(hL:Atl L s (Js k e ix id s))(hD:Atl D s (Zqk k e ix))(hE:D[s+(Js k e ix id s).length]? =some (preE k)):Cnds L D s (Js k e ix id s).length:=by
 have a:=fun (h:e.fit) s d=>Ka _ e (aS _) h s d
 have b:=fun (h:ix.fit) s d=>Ka _ ix (aS _) h s d
 have v:=fun (h:e.fit)=>PEx.snd L D _ e (aS _) h
 have mk: ∀ {p:Nat},L[p]? =some ⟨23,id,0,0⟩->D[p]? =some 0->D[p+1]? =some 0->Cnd L D p:=fun x h2 j=> .on (a:=0) (b:=0) x h2 j Zq (show Y4 23=(0,0) by decide) Zq Zq (show ¬ ((23:Int)=19\/(23:Int)=20\/(23:Int)=21\/(23:Int)=34) by decide) (fun _=>rfl)
 unfold Zqk at hD;unfold Js at hL hE|-;unfold preE at hE;by_cases j:k=3
 . subst j;obtain ⟨g,y⟩:=h Zw;obtain ⟨n,g2⟩:=h2 rfl;simp (decide:=true) only [if_true,true_or,reduceIte] at hL hD hE|-;rw [dY,dY,eM] at hL hD;obtain ⟨⟨r,q⟩,L3⟩:=hL;obtain ⟨⟨u,f⟩,t⟩:=hD;simp only [aA,aJ,aT,(b n (s+1) 0).1] at q L3 f t hE|-;have m:(((s+1:Nat)):Int)=(s:Int)+1:=Zq;have l:((s+(1+(ix.code (s+1)).length):Nat):Int)=(s:Int)+((0+1+(ix.code (s+1)).length:Nat):Int):=Zq;have c:=Atl.hd f (b n 0 0).2;have a0:=Atl.hd t (a g 0 1).2;have o:=mk r u (J7 c Zq);have i:=(fun (h:ix.fit)=>PEx.snd L D _ ix (aS _) h) n (s+1) 0 Zq Zq (by grind) (f.at Zq) (by grind);rw [m] at i;have w:=v g (s+(1+(ix.code (s+1)).length)) 1 Zq Zq (by grind) (t.at Zq) (by grind);rw [l] at w;exact ((Cnds.one o).app (i.app (by rw [show s+1+(ix.code (s+1)).length=s+(1+(ix.code (s+1)).length) by omega];exact w))).len Zq
 simp only [if_neg j] at hL hD hE|-;by_cases h4:k<=5\/k=11\/k=15
 . obtain ⟨g,y⟩:=h h4;simp only [if_pos h4] at hL hD hE|-;rw [dY,eM] at hL hD;obtain ⟨r,q⟩:=hL;obtain ⟨u,f⟩:=hD;simp only [aA,aJ,aT] at q f hE|-;have m:(((s+1:Nat)):Int)=(s:Int)+((0+1:Nat):Int):=Zq;have o:=mk r u (J7 (Atl.hd f (a g 0 0).2) Zq);have i:=v g (s+1) 0 Zq Zq (by grind) (f.at Zq) (by grind);rw [m] at i;exact ((Cnds.one o).app i).len Zq
 simp_all [if_neg,eM,Cnds.one]
theorem tail_len (m k s o:Int)(l:Bool)(h:1<=k/\k<=15)(h4: ¬k=4)(h5: ¬k=5):(Zz2 k).length=(V7 m k s o l).length:=by
 have a:k=1\/k=2\/k=3\/k=6\/k=7\/k=8\/k=9\/k=10\/k=11\/k=12\/k=13\/k=14\/k=15:=Zq;rcases a with rfl|rfl|rfl|rfl|rfl|rfl|rfl|rfl|rfl|rfl|rfl|rfl|rfl<;>simp (decide:=true) [Zz2,V7]
def app_hd {A B:List Int}(h:A[0]? =some d):(A++B)[0]? =some d:=by
 grind
mutual
def B1 {c}{lo}(m:Int): ∀ {s:PStm},s.wl c lo-> ∀ t,s.dl.length=(s.code m t).length/\s.dl[0]? =some 0
 | .mk k ln _ _ _ e ix body els id slot other loc,⟨h1,h2,h3,_,_,h6,h7⟩,t=>by
  have a:=Zjq (k:=k) (e:=e) (ix:=ix) (id:=id) (t:=t) (fun h=>(h2 h).1) (fun h=>(h3 h).1);have d:=fun t=>Qn (c:=c) (lo:=lo) m h6 t
  have b:=fun t=>Qn (c:=c) (lo:=lo) m h7 t
  simp only [PStm.dl,PStm.code];by_cases h4:k=4
  . grind [Yx]
  simp only [if_neg h4];by_cases h5:k=5
  . grind [Yx]
  grind [Yx,tail_len]
def Qn {c}{lo}(m:Int): ∀ {l},Wv c lo l-> ∀ t,(Vc l).length=(PStm.codes m l t).length
 | [],_,_=>rfl
 |s::r,⟨h1,h2⟩,t=>by
  simp only [Vc,PStm.codes,aA];rw [(B1 (c:=c) (lo:=lo) m h1 t).1,Qn (c:=c) (lo:=lo) m h2 (t+((s.code m t).length:Int))]
end
def Ju (m:Int){l}(h:Wv c lo l)(hD:Atl D p (Vc l))(hE:D[p+(PStm.codes m l t).length]? =some 0):D[p]? =some 0:=by
 cases l with
 |nil=>exact hE
 |cons s r=>exact Atl.hd hD (app_hd (B1 (c:=c) (lo:=lo) m h.1 t).2)
def tail_snd {m}{lo}(h:1<=k/\k<=15)(h4: ¬k=4)(h5: ¬k=5)(hL:Atl L p (V7 m k sl ot lo))(hD:Atl D p (Zz2 k))(hE:D[p+(V7 m k sl ot lo).length]? =some 0):Cnds L D p (V7 m k sl ot lo).length/\D[p]? =some (preE k):=by
 have f: ∀ {i:Ins} {a:Int},Atl L p [i]->D[p]? =some a->D[p+1]? =some 0->0<=a->a<=2->Y4 i.c=(a,0)-> ¬ (i.c=19\/i.c=20\/i.c=21\/i.c=34)-> ¬i.c=23->Cnds L D p 1:=fun {i a} h1 h2 h3 h4 h5 h6 h7 h8=>
  .one (.on (a:=a) (b:=0) (eM.1 h1) h2 (by grind) h4 h6 Zq Zq h7 (fun k=>aV k h8))
 have e: ∀ (s:Int),Y4 (intoS s lo).c=(1,0)/\ ¬ ((intoS s lo).c=19\/(intoS s lo).c=20\/(intoS s lo).c=21\/(intoS s lo).c=34)/\ ¬ (intoS s lo).c=23:=fun s=>by
  have d:(intoS s lo).c=5\/(intoS s lo).c=6:=match lo with
   |false=> .inl rfl
   |true=> .inr rfl
  rcases d with d|d<;>rw [d]<;>exact ⟨Zw,Zw,Zw⟩
 have d:k=1\/k=2\/k=3\/k=6\/k=7\/k=8\/k=9\/k=10\/k=11\/k=12\/k=13\/k=14\/k=15:=Zq;rcases d with rfl|rfl|rfl|rfl|rfl|rfl|rfl|rfl|rfl|rfl|rfl|rfl|rfl<;>simp (decide:=true) only [V7,Zz2,preE,if_true,if_false,reduceIte,or_true,true_or,or_false,false_or,or_self] at hL hD hE|-
 all_goals (try (rw [eM] at hD))
 . grind
 . grind
 . grind [Y4]
 . grind [Y4]
 . grind [Y4]
 . grind [Y4]
 . grind [Y4]
 . grind [Y4]
 . grind [Y4]
 . rw [Atl.cons,eM] at hL hD;refine ⟨(Cnds.one (.on (a:=0) (b:=1) hL.1 hD.1 hD.2 Zw (show Y4 30=(0,1) by decide) Zw Zw (show ¬ ((30:Int)=19\/(30:Int)=20\/(30:Int)=21\/(30:Int)=34) by decide) (fun h=>aV (show (30:Int)=23 from h) Zw))).app (m:=1) (.one (.on (a:=1) (b:=0) hL.2 hD.2 hE Zw (e ot).1 Zw Zw (e ot).2.1 (fun h=>aV h (e ot).2.2))),hD.1⟩
 all_goals grind [Y4]
mutual
def PStm.snd {c}{lo}(m:Int)(L:List Ins)(D:List Int): ∀ {s:PStm},s.wl c lo-> ∀ (p:Nat),Atl L p ((s.code m p).map Prod.fst)->Atl D p s.dl->D[p+(s.code m p).length]? =some 0->Cnds L D p (s.code m p).length
 | .mk k ln _ _ _ e ix body els id slot other loc,⟨h1,h2,h3,_,_,h6,h7⟩,p,hL,hD,hE=>by
  have j:=Zjq (k:=k) (e:=e) (ix:=ix) (id:=id) (t:=p) (fun h=>(h2 h).1) (fun h=>(h3 h).1);have hb:=fun t=>Qn (c:=c) (lo:=lo) m h6 t
  have he:=fun t=>Qn (c:=c) (lo:=lo) m h7 t
  obtain ⟨C,hC⟩: ∃ C,Js k e ix id p=C:=⟨_,rfl⟩;have pre:=pre_snd (L:=L) (D:=D) (k:=k) (e:=e) (ix:=ix) (id:=id) (s:=p) (fun h=>⟨(h2 h).1,(h2 h).2.1⟩) (fun h=>⟨(h3 h).1,(h3 h).2.1⟩);simp only [PStm.dl] at hD;simp only [PStm.code] at hL hE|-;rw [hC] at hL hE j pre|-;have x:((p+C.length+1:Nat):Int)=(p:Int)+(C.length:Int)+1:=Zq;obtain ⟨B,l⟩: ∃ B,PStm.codes m body ((p:Int)+(C.length:Int)+1)=B:=⟨_,rfl⟩;have bl:(Vc body).length=B.length:=by grind
  by_cases h4:k=4
  . subst h4;simp only [if_true] at hD hL hE|-;rw [l] at hL hE|-;by_cases hn:els= []
    . simp only [if_pos hn] at hD hL hE|-;rw [aN,Uh,dY,dY,eM] at hL;rw [dY,dY,eM] at hD;obtain ⟨⟨i,g⟩,v⟩:=hL;obtain ⟨⟨f,a⟩,b⟩:=hD;simp only [aA,Yx,aJ,aT,j.1] at v a b hE|-;have o:=Ju (c:=c) (lo:=lo) m h6 (p:=p+C.length+1) (t:=(p:Int)+(C.length:Int)+1) (b.at Zq) (by grind);have r:=pre i f a;have q:Cnd L D (p+C.length):= .jif (t:=p+C.length+1+B.length) g a (.inl rfl) Zf (J7 hE Zq) o Zq Zq;have d:=Mu (c:=c) (lo:=lo) m L D h6 (p+C.length+1) (by grind) (b.at Zq) (by grind);rw [x,l] at d;exact ((r.app (.one q)).app d).len Zq
    simp only [if_neg hn] at hD hL hE|-;obtain ⟨O,hO⟩: ∃ O,PStm.codes m els ((p:Int)+(C.length:Int)+1+(B.length:Int)+1)=O:=⟨_,rfl⟩;have ol:(Vc els).length=O.length:=by grind
    rw [hO] at hL hE|-;have z2:((p+C.length+1+B.length+1:Nat):Int)=(p:Int)+(C.length:Int)+1+(B.length:Int)+1:=Zq;rw [aN,aN,aN,Uh,Uh,dY,dY,dY,dY,eM,eM] at hL;rw [dY,dY,dY,dY,eM,eM] at hD;obtain ⟨⟨⟨⟨i,g⟩,v⟩,u⟩,L5⟩:=hL;obtain ⟨⟨⟨⟨f,a⟩,b⟩,w⟩,D5⟩:=hD;simp only [aA,Yx,aI,aJ,aT,j.1,bl] at v u L5 a b w D5 hE|-;have o:=Ju (c:=c) (lo:=lo) m h6 (p:=p+C.length+1) (t:=(p:Int)+(C.length:Int)+1) (b.at Zq) (by grind);have r:=pre i f a;have q:Cnd L D (p+C.length):= .jif (t:=p+C.length+1+B.length+1) g a (.inl rfl) Zf (Ju (c:=c) (lo:=lo) m h7 (p:=p+C.length+1+B.length+1) (t:=(p:Int)+(C.length:Int)+1+(B.length:Int)+1) (D5.at Zq) (by grind)) o Zq Zq;have d:=Mu (c:=c) (lo:=lo) m L D h6 (p+C.length+1) (by grind) (b.at Zq) (by grind);have z:Cnd L D (p+C.length+1+B.length):= .jmp (t:=p+C.length+1+B.length+1+O.length) (Cq u Zq) (J7 w Zq) rfl Zf (J7 hE Zq) Zq Zq;have c3:=Mu (c:=c) (lo:=lo) m L D h7 (p+C.length+1+B.length+1) (by grind) (D5.at Zq) (by grind);rw [x,l] at d;rw [z2,hO] at c3;exact ((((r.app (.one q)).app d).app (.one (z.pt Zq))).app (n:=C.length+1+B.length+1) (by rw [show p+(C.length+1+B.length+1)=p+C.length+1+B.length+1 by omega];exact c3)).len Zq
  simp only [if_neg h4] at hD hL hE|-;by_cases h5:k=5
  . subst h5;simp only [if_true] at hD hL hE|-;rw [l] at hL hE|-;rw [aN,aN,Uh,Uh,dY,dY,dY,eM,eM] at hL;rw [dY,dY,dY,eM,eM] at hD;obtain ⟨⟨⟨i,g⟩,v⟩,u⟩:=hL;obtain ⟨⟨⟨f,a⟩,b⟩,w⟩:=hD;simp only [aA,Yx,aI,aJ,aT,j.1,bl] at v u a b w hE|-;have q:Cnd L D (p+C.length):= .jif (t:=p+C.length+1+B.length+1) g a (.inl rfl) Zf (J7 hE Zq) (Ju (c:=c) (lo:=lo) m h6 (p:=p+C.length+1) (t:=(p:Int)+(C.length:Int)+1) (b.at Zq) (by grind)) Zq Zq;have d:=Mu (c:=c) (lo:=lo) m L D h6 (p+C.length+1) (by grind) (b.at Zq) (by grind);have z:Cnd L D (p+C.length+1+B.length):= .jmp (t:=p) (Cq u Zq) (J7 w Zq) rfl rfl (Atl.hd f j.2) Zq Zq;rw [x,l] at d;exact ((((pre i f a).app (.one q)).app d).app (.one (z.pt Zq))).len Zq
  simp only [if_neg h5] at hD hL hE|-;rw [Uh,dY] at hL;rw [dY] at hD;obtain ⟨f,a⟩:=hD;simp only [aA,Yx,j.1] at a hE|-;obtain ⟨t1,t2⟩:=tail_snd h1 h4 h5 hL.2 a (J7 hE Zq);exact (pre hL.1 f t2).app t1
def Mu {c}{lo}(m:Int)(L:List Ins)(D:List Int): ∀ {l},Wv c lo l-> ∀ (p:Nat),Atl L p ((PStm.codes m l p).map Prod.fst)->Atl D p (Vc l)->D[p+(PStm.codes m l p).length]? =some 0->Cnds L D p (PStm.codes m l p).length
 | [],_,p,_,_,_=>fun q b a=>by grind [PStm.codes]
 |s::r,⟨b,a⟩,p,hL,hD,hE=>by
  simp only [PStm.codes] at hL hE|-;simp only [Vc] at hD;have z:((p+(s.code m p).length:Nat):Int)=(p:Int)+((s.code m p).length:Int):=Zq;rw [aN,dY,aI] at hL;rw [dY,(B1 (c:=c) (lo:=lo) m b p).1] at hD;rw [aA] at hE|-;have e:=PStm.snd (c:=c) (lo:=lo) m L D b p hL.1 hD.1 (Ju (c:=c) (lo:=lo) m a (t:=(p:Int)+((s.code m p).length:Int)) hD.2 (J7 hE Zq));have d:=Mu (c:=c) (lo:=lo) m L D a (p+(s.code m p).length) (by grind) hD.2 (by grind);rw [z] at d;exact e.app d
end
def th_snd (m:Int){t}(h:Wv c lo t.body):Snd ((Yz m t).map Prod.fst) (fun k=>(Vc t.body++ [0]).getD k (-1)):=by
 have o:=Qn (c:=c) (lo:=lo) m h 0;obtain ⟨L,p⟩: ∃ L,(Yz m t).map Prod.fst=L:=⟨_,rfl⟩;obtain ⟨D,q⟩: ∃ D,Vc t.body++ [0]=D:=⟨_,rfl⟩;have j:L=(PStm.codes m t.body 0).map Prod.fst++ [⟨34,0,0,0⟩]:=by grind [Yz,Uh]
 have v:L.length=(PStm.codes m t.body 0).length+1:=by rw [j];simp
 have w:D.length=(PStm.codes m t.body 0).length+1:=by grind
 have r:Atl L 0 L:=fun i _=>by rw [eE]
 have u:Atl D 0 D:=fun i _=>by rw [eE]
 have g:=r;have s:=u;rw [j] at g;rw [<-j] at g;have f:Atl L 0 ((PStm.codes m t.body 0).map Prod.fst++ [⟨34,0,0,0⟩]):=by grind
 have d:Atl D 0 (Vc t.body++ [0]):=by grind
 rw [dY,eM,aI] at f;rw [dY,eM,o] at d
 have l: ∀ a,a<L.length->Cnd L D a:=fun a n=>by
  by_cases k:a<(PStm.codes m t.body 0).length
  . exact (Mu (c:=c) (lo:=lo) m L D h 0 f.1 d.1 d.2) a (aZ _) (by grind)
  obtain rfl:a=(PStm.codes m t.body 0).length:=by omega
  refine .go (a:=0) (b:=0) (Cq f.2 Zq) (J7 d.2 Zq) Zq (show Y4 34=(0,0) by decide) Zq Zq (fun _=>rfl) fun y x=> ?_
  grind [nxt]
 have dz:D[0]? =some 0:=Ju (c:=c) (lo:=lo) m h (t:=0) d.1 d.2;rw [p,q];refine ⟨Zq,?_,fun a n h0=> ?_⟩
 . grind
 obtain ⟨i,e,h1,h2,h3,h4,h5,h6,z⟩:=l a n;grind
def El (main:Int): ∀ (l:List PTh) (i:Nat),(i:Int)<=main->main<i+l.length->(Ui main l i).length+1=l.length
 | [],i,h1,h2=>by simp at h2;omega
 |x::r,i,h1,h2=>by
  simp only [Ui];by_cases k:(i:Int)=main
  . rw [if_pos k]
    have: ∀ (l:List PTh) (j:Nat),main<j->(Ui main l j).length=l.length:=by
     intro l
     induction l with
     |nil=>intro j _;rfl
     |cons y r ih=>intro j a;simp only [Ui];rw [if_neg Zq,aJ,ih (j+1) Zq,aJ]
    rw [this r (i+1) Zq,aJ]
  rw [if_neg k,aJ,El main r (i+1) Zq (by rw [aJ] at h2;omega),aJ]
structure IG (c:Cn) (lo T:Int) (i:Ins):Prop where
 k:1<=i.c/\i.c<=34
 n:if i.c=1 then -2147483648<=i.n/\i.n<=2147483647 else i.n=0
 b:if i.c=26 then 0<=i.b/\i.b<c.mu else i.b=0
 z:0<=i.a
 o:nmA i.c=false->i.a=0
 v:i.c=2\/i.c=5->i.a<c.v
 l:i.c=3\/i.c=6->i.a<lo
 a:i.c=4\/i.c=7->i.a<c.a
 j:i.c=19\/i.c=20\/i.c=21->i.a<=T
 m:i.c=23->i.a<512
 mu:i.c=24\/i.c=25->i.a<c.mu
 co:i.c=26\/i.c=27\/i.c=28->i.a<c.co
 ch:i.c=29\/i.c=30->i.a<c.ch
 th:i.c=31->i.a<c.th
def IG.bare (h:x=8\/x=9\/(10<=x/\x<=18)\/x=22\/(32<=x/\x<=34)):IG c lo T ⟨x,0,0,0⟩:=
 ⟨by grind,Zf,by grind,bI 0,fun _=>rfl,by grind,by grind,by grind,by grind,Zf,by grind,by grind,by grind,by grind⟩
def IG.push (h: -2147483648<=n/\n<=2147483647):IG c lo T ⟨1,0,0,n⟩:=
 ⟨show (1:Int)<=1/\(1:Int)<=34 by decide,by grind,Zf,bI 0,fun _=>rfl,Zf,Zf,Zf,Zf,Zf,Zf,Zf,Zf,Zf⟩
def IG.nm (h:2<=x/\x<=31/\ ¬x=26)(h0:nmA x=true)(hz:0<=a)(h1:x=2\/x=5->a<c.v)(h2:x=3\/x=6->a<lo)(h3:x=4\/x=7->a<c.a)(h4:x=19\/x=20\/x=21->a<=T)(h5:x=23->a<512)(h6:x=24\/x=25->a<c.mu)(h7:x=27\/x=28->a<c.co)(h8:x=29\/x=30->a<c.ch)(h9:x=31->a<c.th):IG c lo T ⟨x,a,0,0⟩:=
 ⟨by grind,Zf,by grind,hz,fun e=>aV (show nmA x=false from e) (by grind),h1,h2,h3,h4,h5,h6,fun e=>h7 (by grind),h8,h9⟩
def IG.jump (h:x=19\/x=20\/x=21)(hz:0<=a)(hT:a<=T):IG c lo T ⟨x,a,0,0⟩:=
 .nm Zq (by grind [nmA]) hz Zq Zq Zq (fun _=>hT) Zq Zq Zq Zq Zq
def Wj {α:Type}{φ:α->Prop}{l m:List α}(h: ∀ x∈l,φ x)(h2: ∀ x∈m,φ x): ∀ x∈l++m,φ x:=fun x a=>by
 grind
def Y8 {α:Type}{φ:α->Prop}{a}(h:φ a): ∀ x∈ [a],φ x:=fun x b=>by grind
def Jd {c}{lo}: ∀ (N:Nat) (e:PEx),e.sz<=N->e.fit->e.wl c lo-> ∀ (s T:Int),0<=s->s+(e.code s).length<=T-> ∀ i∈e.code s,IG c lo T i
 |0,e,hN,_,_,_,_,_,_=>by have:=e.sz_pos;omega
 |N+1,.mk k n nm slot loc op args,hN,hfit,hw,s,T,hs,hT=>by
  have d:=Kl hfit;obtain ⟨hk,a,m,l,b0⟩:=hfit
  have f: ∀ x∈args,x.fit/\x.sz<=N:=fun x f=>by
   grind [List.getElem_of_mem,Du,PEx.sz,Ua]
  simp only [PEx.code] at hT|-;split
  . exact Y8 (.push d)
  rename_i q;rw [if_neg q] at hT;split
  . rename_i p;have b:=hw.1 p;unfold vaOk at b;refine Y8 ?_;by_cases hl:loc=true
    . rw [if_pos hl] at b|-;exact .nm Zw Zw b.1 Zq (fun _=>b.2) Zq Zq Zq Zq Zq Zq Zq
    rw [if_neg hl] at b|-;exact .nm Zw Zw b.1 (fun _=>b.2) Zq Zq Zq Zq Zq Zq Zq Zq
  rename_i p;rw [if_neg p] at hT;split
  . rename_i o;have:=m o;exact Y8 (.push Zq)
  rename_i o;rw [if_neg o] at hT;(try dsimp only at hT);(try dsimp only);by_cases h6:k=6
  . obtain ⟨x,y,rfl⟩: ∃ x y,args= [x,y]:=by
     match args,a with
     | [x,y],_=>simp
     | [],a=>rw [h6] at a;cases a
     | [_],a=>rw [h6] at a;cases a
     |_::_::_::_,a=>grind [Ra]
    obtain ⟨r,h⟩:=f x Zf;obtain ⟨z,v⟩:=f y Zf;obtain ⟨g,t,_⟩:=hw.2.2;have ix:=Jd (c:=c) (lo:=lo) N x h r g s T hs;simp only [PEx.codes,eS,iI] at hT|-;subst h6;have a0:=l rfl;by_cases ho:op<=2
    . simp (decide:=true) only [ho,and_true,true_and,and_false,false_and,if_true,if_false,reduceIte] at hT|-;have j:=Jd (c:=c) (lo:=lo) N y v z t (s+((x.code s).length:Int)+1) T Zq;simp only [aA,aJ,aT] at hT;refine Wj (Wj (Wj (ix Zq) (Y8 (.jump ?_ Zq Zq))) (j Zq)) ?_
      . omega
      intro i w;simp only [bS,gO,or_false] at w;rcases w with rfl|rfl|rfl
      . exact .bare Zq
      . exact .jump (.inl rfl) Zq Zq
      exact .push Zq
    simp (decide:=true) only [ho,and_true,true_and,and_false,false_and,if_true,if_false,reduceIte] at hT|-;simp only [aA,aJ,aT] at hT;exact Wj (Wj (ix Zq) ((Jd (c:=c) (lo:=lo) N y v z t (s+((x.code s).length:Int)) T Zq) Zq)) (Y8 (.bare Zq))
  obtain ⟨x,rfl⟩: ∃ x,args= [x]:=by
   have q:args.length=1:=by grind [Ra]
   match args,q with
   | [x],_=>simp
  obtain ⟨r,h⟩:=f x Zf;obtain ⟨g,_⟩:=hw.2.2;simp only [PEx.codes,eS] at hT|-;have hc:k=3\/k=4\/k=5:=Zq;rcases hc with rfl|rfl|rfl<;>simp (decide:=true) only [false_and,if_true,if_false,reduceIte] at hT|- <;>simp only [aA,aJ,aT] at hT<;>refine Wj ((Jd (c:=c) (lo:=lo) N x h r g s T hs) Zq) (Y8 ?_)
  . obtain ⟨a1,a2⟩:=hw.2.1 rfl;exact .nm Zw Zw a1 Zq Zq (fun _=>a2) Zq Zq Zq Zq Zq Zq
  . exact .bare Zq
  exact .bare Zq
def preS_ig {e}(h:k<=5\/k=11\/k=15->e.fit/\e.dep<=24/\e.wl c lo)(h2:k=3->ix.fit/\ix.dep<=24/\ix.wl c lo)(hi:0<=id/\id<512)(ht:0<=t)(hT:t+(Js k e ix id t).length<=T): ∀ i∈Js k e ix id t,IG c lo T i:=by
 have mk:IG c lo T ⟨23,id,0,0⟩:= .nm Zw Zw hi.1 Zq Zq Zq Zq (fun _=>hi.2) Zq Zq Zq Zq;unfold Js at hT|-;dsimp only at hT|-
 have b: ∀ {C1:List Ins},(∀ i∈C1,IG c lo T i)->(k<=5\/k=11\/k=15->t+(C1++e.code (t+C1.length)).length<=T)-> ∀ i∈(if k<=5\/k=11\/k=15 then C1++e.code (t+C1.length) else C1),IG c lo T i:=fun {C1} hC hL=>by
  by_cases a:k<=5\/k=11\/k=15
  . rw [if_pos a];have:=hL a;rw [aA] at this;exact Wj hC (Jd (c:=c) (lo:=lo) _ e (aS _) (h a).1 (h a).2.2 _ T Zq Zq)
  grind
 refine b ?_ (fun a=>by grind);by_cases h3:k=3
 . rw [if_pos h3];rw [if_pos Zq,if_pos h3] at hT;simp only [aA,aJ,aT] at hT;exact Wj (Y8 mk) (Jd (c:=c) (lo:=lo) _ ix (aS _) (h2 h3).1 (h2 h3).2.2 _ T Zq Zq)
 grind
theorem Zqc {s}{l}(h:vaOk c lo s l):IG c lo T (intoS s l):=by
 unfold vaOk at h;unfold intoS;by_cases hl:l=true
 . rw [if_pos hl] at h|-;exact .nm Zw Zw h.1 Zq (fun _=>h.2) Zq Zq Zq Zq Zq Zq Zq
 rw [if_neg hl] at h|-;exact .nm Zw Zw h.1 (fun _=>h.2) Zq Zq Zq Zq Zq Zq Zq Zq
def tailS_ig {m}{l}(h:1<=k/\k<=15)(h4: ¬k=4)(h5: ¬k=5)(ho:ownOk c lo k sl ot l)(hm:0<=m/\m<c.th): ∀ i∈V7 m k sl ot l,IG c lo T i:=by
 obtain ⟨r,p,d,a,o,b,n,j⟩:=ho;have q:k=1\/k=2\/k=3\/k=6\/k=7\/k=8\/k=9\/k=10\/k=11\/k=12\/k=13\/k=14\/k=15:=Zq;rcases q with rfl|rfl|rfl|rfl|rfl|rfl|rfl|rfl|rfl|rfl|rfl|rfl|rfl<;>simp (decide:=true) only [V7,if_true,if_false,reduceIte,or_true,true_or,or_false,false_or,or_self]
 . grind [Zqc]
 . grind [Zqc]
 . have:=p rfl;exact Y8 (.nm Zw Zw this.1 Zq Zq (fun _=>this.2) Zq Zq Zq Zq Zq Zq)
 focus
  have:=d (.inl rfl)
 rotate_left
 focus
  have:=d (.inr rfl)
 rotate_left
 . have g:=a (.inl rfl);have s:=o rfl;exact Y8 ⟨show (1:Int)<=26/\(26:Int)<=34 by decide,Zf,by grind,g.1,fun e=>aV (show nmA 26=false from e) Zw,Zf,Zf,Zf,Zf,Zf,Zf,fun _=>g.2,Zf,Zf⟩
 . have:=a (.inr (.inl rfl));exact Y8 (.nm Zw Zw this.1 Zq Zq Zq Zq Zq Zq (fun _=>this.2) Zq Zq)
 . have:=a (.inr (.inr rfl));exact Y8 (.nm Zw Zw this.1 Zq Zq Zq Zq Zq Zq (fun _=>this.2) Zq Zq)
 . have:=b (.inl rfl);exact Y8 (.nm Zw Zw this.1 Zq Zq Zq Zq Zq Zq Zq (fun _=>this.2) Zq)
 . have:=b (.inr rfl);intro i f;simp only [bS,gO,or_false] at f;rcases f with rfl|rfl
   . exact .nm Zw Zw this.1 Zq Zq Zq Zq Zq Zq Zq (fun _=>this.2) Zq
   exact Zqc (n rfl)
 . have:=j rfl;refine Y8 (.nm Zw Zw ?_ Zq Zq Zq Zq Zq Zq Zq Zq (fun _=> ?_))
   all_goals grind [Vr]
 . exact Y8 (.bare Zq)
 . exact Y8 (.bare Zq)
 all_goals
  exact Y8 (.nm Zw Zw this.1 Zq Zq Zq Zq Zq (fun _=>this.2) Zq Zq Zq)
def Nc {φ:Ins->Prop}(h: ∀ i∈l,φ i): ∀ x∈lnd l n,φ x.1:=fun x a=>by
 grind [lnd]
mutual
def Zzf {c}{lo m}(hm:0<=m/\m<c.th): ∀ {s:PStm},s.wl c lo-> ∀ (t T:Int),0<=t->t+(s.code m t).length<=T-> ∀ x∈s.code m t,IG c lo T x.1
 | .mk k ln _ _ _ e ix body els id slot other loc,⟨h1,h2,h3,h4',h5',h6,h7⟩,t,T,ht,a=>by
  simp only [PStm.code] at a|-;obtain ⟨C,h⟩: ∃ C,Js k e ix id t=C:=⟨_,rfl⟩;have pre:=fun a=>preS_ig (c:=c) (lo:=lo) (k:=k) (id:=id) (t:=t) (T:=T) (e:=e) (ix:=ix) h2 h3 h4' ht a
  rw [h] at a pre|-;obtain ⟨B,d⟩: ∃ B,PStm.codes m body (t+(C.length:Int)+1)=B:=⟨_,rfl⟩;have b:=Q3 (c:=c) (lo:=lo) hm h6 (t+(C.length:Int)+1) T Zq;rw [d] at b;by_cases h4:k=4
  . simp only [if_pos h4] at a|-;rw [d] at a|-;by_cases hn:els= []
    . simp only [if_pos hn] at a|-;simp only [aA,Yx,aJ,aT] at a;exact Wj (Nc (Wj (pre Zq) (Y8 (.jump (.inr (.inl rfl)) Zq Zq)))) (b Zq)
    simp only [if_neg hn] at a|-;have f:=Q3 (c:=c) (lo:=lo) hm h7 (t+(C.length:Int)+1+(B.length:Int)+1) T Zq;obtain ⟨O,g⟩: ∃ O,PStm.codes m els (t+(C.length:Int)+1+(B.length:Int)+1)=O:=⟨_,rfl⟩;rw [g] at a f|-;simp only [aA,Yx,aJ,aT] at a;exact Wj (Wj (Wj (Nc (Wj (pre Zq) (Y8 (.jump (.inr (.inl rfl)) Zq Zq)))) (b Zq)) (Nc (Y8 (.jump (.inl rfl) Zq Zq)))) (f Zq)
  simp only [if_neg h4] at a|-;by_cases h5:k=5
  . simp only [if_pos h5] at a|-;rw [d] at a|-;simp only [aA,Yx,aJ,aT] at a;exact Wj (Wj (Nc (Wj (pre Zq) (Y8 (.jump (.inr (.inl rfl)) Zq Zq)))) (b Zq)) (Nc (Y8 (.jump (.inl rfl) Zq Zq)))
  simp only [if_neg h5] at a|-;rw [Yx,aA] at a;exact Nc (Wj (pre Zq) (tailS_ig h1 h4 h5 h5' hm))
def Q3 {c}{lo m}(hm:0<=m/\m<c.th): ∀ {l},Wv c lo l-> ∀ (t T:Int),0<=t->t+(PStm.codes m l t).length<=T-> ∀ x∈PStm.codes m l t,IG c lo T x.1
 | [],_,_,_,_,_=>fun x a=>by grind [PStm.codes]
 |s::r,⟨h1,h2⟩,t,T,ht,hT=>by
  simp only [PStm.codes] at hT|-;rw [aA] at hT;exact Wj (Zzf (c:=c) (lo:=lo) hm h1 t T ht Zq) (Q3 (c:=c) (lo:=lo) hm h2 (t+((s.code m t).length:Int)) T Zq Zq)
end
mutual
def PStm.lnb (B:Int):PStm->Prop
 | .mk _ ln _ _ _ _ _ body els _ _ _ _=>(0<=ln/\ln<=B)/\Y3 B body/\Y3 B els
def Y3 (B:Int):List PStm->Prop
 | []=>True
 |s::r=>s.lnb B/\Y3 B r
end
mutual
def Zzp {B}: ∀ (s:PStm) (f:Fnd),s.lnb B->(f.stmt s).2.lnb B
 | .mk k ln cl nm wt e ix body els id slot other loc,f,⟨h1,h2,h3⟩=>by
  simp only [Fnd.stmt];split
  . exact ⟨h1,h2,h3⟩
  exact ⟨h1,N4 body _ h2,N4 els _ h3⟩
def N4 {B}: ∀ (l:List PStm) (f:Fnd),Y3 B l->Y3 B (f.blk l).2
 | [],f,_=>trivial
 |s::r,f,⟨h1,h2⟩=>by
  simp only [Fnd.blk];split
  . exact ⟨Zzp s f h1,N4 r _ h2⟩
  trivial
end
mutual
def PStm.code_ln {B m}: ∀ {s:PStm},s.lnb B-> ∀ t,∀ x∈s.code m t,0<=x.2/\x.2<=B
 | .mk k ln _ _ _ e ix body els id slot other loc,⟨h1,h2,h3⟩,t=>by
  have b: ∀ l:List Ins,∀ x∈lnd l ln,0<=x.2/\x.2<=B:=fun l x a=>by
   grind [lnd]
  have d:=fun t=>Hz (m:=m) h2 t
  have c:=fun t=>Hz (m:=m) h3 t
  grind [PStm.code]
def Hz {B m}: ∀ {l},Y3 B l-> ∀ t,∀ x∈PStm.codes m l t,0<=x.2/\x.2<=B
 | [],_,_=>fun x a=>by grind [PStm.codes]
 |s::r,⟨h1,h2⟩,t=>by
  simp only [PStm.codes];exact Wj (PStm.code_ln h1 t) (Hz h2 _)
end
def Su: ∀ {g} {l} {ln cl} {ts},Nf g l ln cl=some ts->0<=ln-> ∀ t∈ts,0<=t.ln/\t.ln<=ln+l.length
 |0,_,_,_,_,h,_=>by cases h
 |g+1, [],ln,cl,ts,h,_=>by cases h;simp
 |g+1,c::r,ln,cl,ts,h,h0=>by
  rw [Nf] at h;split at h
  . intro t a;have:=Su h Zq t a;grind
  split at h
  . intro t a;have:=Su h h0 t a;grind
  split at h
  . intro t a;have:=Su h h0 t a;grind [List.dropWhile_sublist]
  split at h
  . cases h
  rename_i k w n b
  cases hl:Nf g ((c::r).drop w.length) ln (cl+w.length) with
  |none=>grind
  |some us=>
   rw [hl] at h;cases h
   intro t a;rcases bS.1 a with rfl|a
   . grind
   have:=Su hl h0 t a;grind
theorem Dz {s}(h:tkW s ts=some r): ∀ t∈r,t∈ts:=by
 grind [tkW,List.mem_of_mem_tail]
def Vx {s}{u}(h:Un s ts=some (u,r)): ∀ t∈r,t∈ts:=Dz (Fl.1 h)
def Tm {x}(h:Hm ts=some (x,r)): ∀ t∈r,t∈ts:=by
 cases ts<;>grind [Hm,List.mem_cons_of_mem]
theorem Dw (h:H5 ts=some (x,r)): ∀ t∈r,t∈ts:=by
 cases ts<;>grind [H5,List.mem_cons_of_mem]
def Zj8: ∀ f,(∀ n ts e r,Ve f n ts=some (e,r)-> ∀ t∈r,t∈ts)/\(∀ n x ts e r,Rl f n x ts=some (e,r)-> ∀ t∈r,t∈ts)/\
 (∀ ts e r,unS f ts=some (e,r)-> ∀ t∈r,t∈ts)/\(∀ ts e r,Q0 f ts=some (e,r)-> ∀ t∈r,t∈ts):=by
 intro f
 induction f with
 |zero=>exact ⟨fun _ _ _ _ h=>(by cases h),fun _ _ _ _ _ h=>(by cases h),fun _ _ _ h=>(by cases h),fun _ _ _ h=>by cases h⟩
 |succ f ih=>
  refine ⟨fun n ts e r h=> ?_,fun n x ts e r h=> ?_,fun ts e r h=> ?_,fun ts e r h=> ?_⟩
  . grind [Ve]
  . grind [Rl,List.mem_of_mem_tail]
  . grind [unS,Dz]
  rw [Q0] at h;split at h
  . rename_i l b;split at h
    . cases h
    rename_i i k g;split at h
    . cases h
    rename_i j d
    cases h
    exact fun t c=>Dz b t (ih.1 _ _ _ _ g t (Dz d t c))
  split at h
  . grind [Dw]
  split at h
  . cases h
  rename_i u l b;split at h
  . cases h;exact Tm b
  rename_i k g;split at h
  . cases h
  rename_i i j d;split at h
  . cases h
  rename_i s q
  cases h
  exact fun t c=>Tm b t (Dz g t (ih.1 _ _ _ _ d t (Dz q t c)))
def TB (B:Int)(ts:List Tk):Prop:= ∀ t∈ts,0<=t.ln/\t.ln<=B
theorem TB.sub (h:TB B ts)(k: ∀ t∈r,t∈ts):TB B r:=fun t ht=>h t (k t ht)
def TB.tl (h:TB B ts):TB B ts.tail:=fun t ht=>h t (lI ht)
def TB.pos (h:TB B ts)(hB:0<=B):0<=(Z0 ts).1/\(Z0 ts).1<=B:=by
 cases ts with
 |nil=>exact ⟨bI 0,hB⟩
 |cons t r=>exact h t (bO ..)
def Zyu {p}{nm}{s}(hp:0<=p.1/\p.1<=B)(hB:TB B ts)(h:Qe f k p nm ts=some (s,r)):s.lnb B/\TB B r:=by
 have ex:=fun {ts e r} (h:Ve f 1 ts=some (e,r))=>(Zj8 f).1 1 ts e r h
 unfold Qe at h;split at h
 . split at h
   . obtain ⟨ix,o,l,h⟩:=Zd h;obtain ⟨_,n,j,h⟩:=Zd h;obtain ⟨_,i,c,h⟩:=Zd h;obtain ⟨e,g,b,h⟩:=Zd h;obtain ⟨_,d,a,h⟩:=Zd h
     cases h
     exact ⟨⟨hp,trivial,trivial⟩,((((hB.tl.sub (ex l)).sub (Vx j)).sub (Vx c)).sub (ex b)).sub (Vx a)⟩
   obtain ⟨_,i,c,h⟩:=Zd h;obtain ⟨e,g,b,h⟩:=Zd h;obtain ⟨_,d,a,h⟩:=Zd h
   cases h
   exact ⟨⟨hp,trivial,trivial⟩,((hB.sub (Vx c)).sub (ex b)).sub (Vx a)⟩
 split at h
 . obtain ⟨_,i,c,h⟩:=Zd h;obtain ⟨e,g,b,h⟩:=Zd h;obtain ⟨_,d,a,h⟩:=Zd h
   cases h
   exact ⟨⟨hp,trivial,trivial⟩,((hB.sub (Vx c)).sub (ex b)).sub (Vx a)⟩
 split at h
 . obtain ⟨m,i,c,h⟩:=Zd h;obtain ⟨_,d,a,h⟩:=Zd h
   cases h
   exact ⟨⟨hp,trivial,trivial⟩,(hB.sub (Tm c)).sub (Vx a)⟩
 split at h
 . obtain ⟨e,g,b,h⟩:=Zd h;obtain ⟨_,d,a,h⟩:=Zd h
   cases h
   exact ⟨⟨hp,trivial,trivial⟩,(hB.sub (ex b)).sub (Vx a)⟩
 obtain ⟨_,d,a,h⟩:=Zd h
 cases h
 exact ⟨⟨hp,trivial,trivial⟩,hB.sub (Vx a)⟩
def stmt_ln (b0:0<=B): ∀ f,(∀ ts s r,TB B ts->Hf f ts=some (s,r)->s.lnb B/\TB B r)/\(∀ ts l r,TB B ts->Tz f ts=some (l,r)->Y3 B l/\TB B r)/\(∀ ts l r,TB B ts->Jw f ts=some (l,r)->Y3 B l/\TB B r):=by
 intro f
 induction f with
 |zero=>exact ⟨fun _ _ _ _ h=>(by cases h),fun _ _ _ _ h=>(by cases h),fun _ _ _ _ h=>by cases h⟩
 |succ f ih=>
  obtain ⟨n,i,g⟩:=ih
  refine ⟨fun ts s r c h=> ?_,fun ts l r c h=> ?_,fun ts l r c h=> ?_⟩
  . have k:=c.pos b0;rw [Hf] at h;split at h
    . obtain ⟨e,m,d,h⟩:=Zd h;obtain ⟨b,p,j,h⟩:=Zd h;have a:=i _ _ _ (c.tl.sub ((fun {ts e r} (h:Ve f 1 ts=some (e,r))=>(Zj8 f).1 1 ts e r h) d)) j;split at h
      . obtain ⟨x,u,o,h⟩:=Zd h
        cases h
        have q:=i _ _ _ a.2.tl o;exact ⟨⟨k,a.1,q.1⟩,q.2⟩
      cases h;exact ⟨⟨k,a.1,trivial⟩,a.2⟩
    split at h
    . exact Zyu k c.tl h
    obtain ⟨w,m,d,h⟩:=Zd h;exact Zyu k (TB.sub (by split<;>first|exact c.tl|exact c) (Tm d)) h
  . rw [Tz] at h;obtain ⟨_,m,d,h⟩:=Zd h;obtain ⟨v,p,j,h⟩:=Zd h;obtain ⟨_,u,o,h⟩:=Zd h
    cases h
    have a:=g _ _ _ (c.sub (Vx d)) j;exact ⟨a.1,a.2.sub (Vx o)⟩
  rw [Jw] at h;split at h
  . cases h;exact ⟨trivial,c⟩
  obtain ⟨s,m,d,h⟩:=Zd h;obtain ⟨v,p,j,h⟩:=Zd h
  cases h
  have t:=n _ _ _ c d;have a:=g _ _ _ t.2 j;exact ⟨⟨t.1,a.1⟩,a.2⟩
def decl_ln (b0:0<=B){d}(hB:TB B ts)(h:Ni f ts=some (d,r)):Y3 B d.body/\TB B r:=by
 unfold Ni at h;split at h
 . cases h
 obtain ⟨s,q,l,h⟩:=Zd h;have c:=hB.tl.sub (Tm l);split at h
 . obtain ⟨b,g,a,h⟩:=Zd h
   cases h
   exact (stmt_ln b0 f).2.1 _ _ _ c a
 obtain ⟨n,g,a,h⟩:=Zd h;obtain ⟨_,p,k,h⟩:=Zd h
 cases h
 refine ⟨trivial,TB.sub ?_ (Vx k)⟩;unfold L7 at a;split at a
 . obtain ⟨_,o,j,a⟩:=Zd a;have e:=c.sub (Vx j);split at a
   . obtain ⟨z,m,i,a⟩:=Zd a
     cases a
     exact e.tl.sub (Dw i)
   exact e.sub (Dw a)
 split at a
 . exact c.sub (Dw a)
 grind
def Zkj {B}(b0:0<=B){G}: ∀ {f} {ts} {ds},TB B ts->Qa G f ts=some ds-> ∀ d∈ds,Y3 B d.body
 |0,_,_,_,h=>by cases h
 |f+1,ts,ds,hB,h=>by
  rw [Qa] at h;split at h
  . cases h;exact fun d a=>by cases a
  obtain ⟨d,r,e,h⟩:=Zd h
  cases h2:Qa G f r with
  |none=>rw [h2] at h;cases h
  |some us=>
   rw [h2] at h;cases h
   have b:=decl_ln b0 hB e;intro d a;rcases bS.1 a with rfl|a
   . exact b.1
   exact (Zkj b0 b.2 h2) d a
def parse_ln {l}{ds}(h:Kd l=some ds): ∀ d∈ds,Y3 (l.length+1) d.body:=by
 unfold Kd at h;split at h
 . cases h
 split at h
 . cases h
 rename_i ts c;split at h
 . cases h
 rename_i e b;split at h
 . cases h
 cases h
 exact Zkj Zq (fun t a=>by have:=Su c Zq t a;omega) b
def Qf {l}(h:U6 l=some F):PrgOk (fun b=>Za b<=7*l.length/\Y3 (l.length+1) b) F/\l.length<=65536:=by
 unfold U6 at h;split at h
 . cases h
 rename_i ds a;obtain ⟨i,e⟩:=O2 a;refine ⟨Sl h ⟨aZ _,trivial⟩ fun d c f g=>⟨?_,N4 _ _ (parse_ln a d c)⟩,e⟩;grind [Ny,Zq7,Pb]
def IG.ok (h:IG c lo T i)(hc:c.v<=64/\c.a<=64/\c.mu<=64/\c.co<=64/\c.ch<=64/\c.th<=64)(hl:lo<=32)(hT:T<=65535):M3 i:=by
 obtain ⟨k,n,b,z,o,v,l,a,j,m,mu,co,ch,th⟩:=h;refine ⟨k,?_,?_,n⟩
 all_goals grind [nmA]
def modOf_ok {N}(hF:PrgOk (fun b=>Za b<=7*N/\Y3 (N+1) b) F)(hN:N<=5000)(hm:ModOf F m):Ho m=0:=by
 obtain ⟨k1,k2,k3,k4,⟨k5,s⟩,k6,r⟩:=hF.k
 have ml:m.threads.length=F.ths.length:=by
  have:=aQ List.length hm.t;rw [aI,aI] at this;rw [this];unfold V4;rw [aJ];exact El F.main F.ths 0 hF.m.1 (by have:=hF.m.2;omega)
 have b0:F.main.toNat<F.ths.length:=by have:=hF.m;omega
 have thr: ∀ x∈m.threads,∃ t∈F.ths,x.name=t.nm/\x.locals=t.loc/\x.ins=(Yz F.main t).map Prod.fst/\x.lines=(Yz F.main t).map Prod.snd:=fun x o=>by
  have h1:(fun x:Cod=>(x.name,x.locals,x.ins,x.lines)) x∈(V4 F).map (thP F.main):=by rw [<-hm.t];grind
  obtain ⟨t,ht,e⟩:=cF.1 h1;unfold thP at e;simp only [iM] at e;grind [V4,Hh]
 have q: ∀ x∈m.threads,Gj x/\(dOf m x).2=0:=fun x o=>by
  obtain ⟨t,ht,e1,e2,e3,e4⟩:=thr x o;obtain ⟨w1,w,u,w4,w5⟩:=hF.t t ht;have a0:=Bq F.main t;have cl:(Yz F.main t).length=(PStm.codes F.main t.body 0).length+1:=by grind [Yz,Yx]
  have ig: ∀ i∈x.ins,IG F.cn t.loc ((PStm.codes F.main t.body 0).length:Int) i:=fun i p=>by
   rw [e3] at p;obtain ⟨y,f,rfl⟩:=cF.1 p;unfold Yz at f;rcases bP.1 f with f|f
   . exact Q3 (c:=F.cn) (lo:=t.loc) hF.m u 0 _ (bI 0) Zq y f
   exact Nc (Y8 (.bare Zq)) y f
  have li:x.ins.length=(PStm.codes F.main t.body 0).length+1:=by grind
  have ll:x.lines.length=(PStm.codes F.main t.body 0).length+1:=by grind
  refine ⟨⟨by grind [Ym],by rw [e2];exact w,Zq,⟨Zq,fun i p=>(ig i p).ok ⟨by show (F.vars.length:Int)<=64;omega,by show (F.arrs.length:Int)<=64;omega,s,r,by show (F.chs.length:Int)<=64;omega,by show (F.ths.length:Int)<=64;omega⟩ w.2 Zq⟩,⟨Zq,fun n d=> ?_⟩⟩,?_⟩
  . rw [e4] at d;obtain ⟨y,f,rfl⟩:=cF.1 d;unfold Yz at f;rcases bP.1 f with f|f
    . have:=Hz w5 0 y f;unfold Ym;omega
    grind [lnd,Ym]
  have z:=th_snd (c:=F.cn) (lo:=t.loc) F.main u;rw [<-e3] at z;refine z.dOf fun i p=> ?_
  have g:=ig i p;refine ⟨fun n d=> ?_,fun hc=>by have:=g.b;rw [if_pos hc] at this;rw [hm.mu];exact this.2⟩;unfold Qv at d;split at d
  . rename_i h;cases d;rw [hm.v];exact g.v h
  split at d
  . rename_i h;cases d;rw [e2];exact g.l h
  split at d
  . rename_i h;cases d;rw [hm.a];exact g.a h
  split at d
  . rename_i h;cases d;have:=g.j h;omega
  split at d
  . rename_i h;cases d;rw [hm.mu];exact g.mu h
  split at d
  . rename_i h;cases d;rw [hm.co];exact g.co h
  split at d
  . rename_i h;cases d;rw [hm.c];exact g.ch h
  split at d
  . rename_i h;cases d;rw [ml];exact g.th h
  cases d
 refine vchk_of ⟨by rw [hm.mu];exact ⟨k5,s⟩,by rw [hm.co];exact ⟨k6,r⟩,⟨by rw [hm.v];omega,by rw [hm.v];exact hF.v⟩,⟨by rw [hm.a];omega,by rw [hm.a];exact fun n d=>by have:=hF.a n d;unfold Ym;omega⟩,⟨by rw [hm.c];omega,by rw [hm.c];exact hF.c⟩,⟨Zq,fun x o=>(q x o).1⟩⟩ fun x o=>(q x o).2
end Go.Proofs.YtadahhbefdnabaaGreatDoor
namespace Go.Proofs.YtadahhbefdnabaaGreatDoor
open Go Go.RowKit Wx Go.Proofs.Tryz
variable {m:Mdl}{G:World}{q:List HP}{g:FC}{l:Bs}{F:Fnd}
def X3 (x:Cod):List Int:=Zvs (x.name,x.locals,x.ins,x.lines)
def Bu (m:Mdl):List Int:= [87,65,82,80]++vb m.vars.length++m.vars.flatMap (fun n=>vb (sgU n))++vb m.arrays.length++m.arrays.flatMap (fun n=>vb n.toNat)++vb m.chans.length++m.chans.flatMap (fun n=>vb n.toNat)++vb m.mutexes.toNat++vb m.conds.toNat++vb m.threads.length++m.threads.flatMap X3
def Si {α:Type}{f:α->List Int}{b}: ∀ {l:List α},(∀ x∈l,(f x).length<=b)->(l.flatMap f).length<=l.length*b
 | [],_=>by simp
 |x::r,h=>by
  have d:=h x (bO ..);have c:=Si fun y a=>h y (bQ _ a)
  rw [cM,aA,aJ,Nat.succ_mul];omega
def By8.fm {α:Type}{f}{l:List α}(h: ∀ x∈l,By8 (f x)):By8 (l.flatMap f):=fun y a=>by
 obtain ⟨x,b,a⟩:=List.mem_flatMap.1 a;exact h x b y a
def Zv1 {k}{b:Nat}(h: -(b:Int)<=k/\k<=b):sgU k<=2*b:=by unfold sgU;split<;>omega
def insB_f {i}{d}(h:M3 i)(hd: -65536<=d/\d<=65536):By8 (Zgs i d)/\(Zgs i d).length<=45:=by
 obtain ⟨s,q,p,o⟩:=h;have v: ∀ n:Nat,n<=8589934592->By8 (vb n)/\(vb n).length<=11:=fun n r=>⟨Zzs n Zq,(U2 n).2⟩
 have z:By8 []/\([]:List Int).length<=11:=⟨fun _ h=>(gO h).elim,Zw⟩;have l:By8 [i.c]:=fun x m=>by rw [bE.1 m];omega
 have j:By8 (if nmA i.c=true then vb i.a.toNat else [])/\(if nmA i.c=true then vb i.a.toNat else []).length<=11:=by
  split at q
  . rw [if_pos Vp];exact v _ Zq
  rw [if_neg Vp];exact z
 have g:By8 (if i.c=26 then vb i.b.toNat else [])/\(if i.c=26 then vb i.b.toNat else []).length<=11:=by
  split at p
  . rw [if_pos Vp];exact v _ Zq
  rw [if_neg Vp];exact z
 have f:By8 (if i.c=1 then vb (sgU i.n) else [])/\(if i.c=1 then vb (sgU i.n) else []).length<=11:=by
  split at o
  . rw [if_pos Vp];have:=Zv1 (k:=i.n) (b:=2147483648) Zq;exact v _ Zq
  rw [if_neg Vp];exact z
 have e:=v (sgU d) (by have:=Zv1 (k:=d) (b:=65536) Zq;omega);unfold Zgs;refine ⟨(((l.app j.1).app g.1).app f.1).app e.1,?_⟩;simp only [aA,aJ,aT];omega
def codB_f: ∀ {I} {L} {a},(∀ i∈I,M3 i)->(∀ n∈L,Ym n 0 65536)->Ym a 0 65536->By8 (Bc a I L)/\(Bc a I L).length<=I.length*45
 | [],_,_,_,_,_=>⟨fun _ h=>by simp [Bc] at h,by simp [Bc]⟩
 |_::_, [],_,_,_,_=>⟨fun _ h=>by simp [Bc] at h,by simp [Bc]⟩
 |i::r,n::s,a,h1,h2,h3=>by
  have c:=h2 n (bO ..);have f:=insB_f (d:=n - a) (h1 i (bO ..)) (by unfold Ym at c h3;omega);have e:=codB_f (I:=r) (L:=s) (a:=n) (fun j b=>h1 j (bQ _ b)) (fun j b=>h2 j (bQ _ b)) c;unfold Bc;refine ⟨f.1.app e.1,?_⟩;rw [aA,aJ,Nat.succ_mul];omega
def thrX_f {x}(h:Gj x):By8 (X3 x)/\(X3 x).length<=2950000:=by
 obtain ⟨f,e,l,d,b⟩:=h;unfold Ym at f e;have c:=codB_f (a:=0) d.2 b.2 (by unfold Ym;omega);have k:=U2 x.name.size;have j:=U2 x.locals.toNat;have i:=U2 x.ins.length;have g:=Zq5 x.name;unfold X3 Zvs;refine ⟨((((Zzs _ Zy).app (byI_rng _)).app (Zzs _ Zy)).app (Zzs _ Zy)).app c.1,?_⟩;simp only [aA];omega
def encM_f (h:Nd m):By8 (Bu m)/\(Bu m).length<=200000000:=by
 obtain ⟨u,t,s,r,q,p⟩:=h;unfold Ym at u t;have v: ∀ n:Nat,n<=8589934592->By8 (vb n)/\(vb n).length<=11:=fun n a=>⟨Zzs n Zq,(U2 n).2⟩
 have f: ∀ n∈m.vars,By8 (vb (sgU n))/\(vb (sgU n)).length<=11:=fun n a=>v _ (by have:=s.2 n a;unfold Ym at this;have:=Zv1 (k:=n) (b:=2147483648) Zq;omega)
 have e: ∀ n∈m.arrays,By8 (vb n.toNat)/\(vb n.toNat).length<=11:=fun n a=>v _ (by have:=r.2 n a;unfold Ym at this;omega)
 have d: ∀ n∈m.chans,By8 (vb n.toNat)/\(vb n.toNat).length<=11:=fun n a=>v _ (by have:=q.2 n a;unfold Ym at this;omega)
 have c: ∀ x∈m.threads,By8 (X3 x)/\(X3 x).length<=2950000:=fun x o=>thrX_f (p.2 x o)
 have l3:=Si fun n a=>(f n a).2;have z:=Si fun n a=>(e n a).2;have y:=Si fun n a=>(d n a).2;have w:=Si fun n a=>(c n a).2
 have l:=v m.vars.length Zq;have n4:=v m.arrays.length Zq;have n5:=v m.chans.length Zq;have j:=v m.threads.length Zq;have i:=v m.mutexes.toNat Zq;have g:=v m.conds.toNat Zq;unfold Bu;refine ⟨((((((((((show By8 [87,65,82,80] by unfold By8;decide).app l.1).app (.fm fun n a=>(f n a).1)).app n4.1).app (.fm fun n a=>(e n a).1)).app n5.1).app (.fm fun n a=>(d n a).1)).app i.1).app g.1).app j.1).app (.fm fun n a=>(c n a).1),?_⟩;simp only [aA,aJ,aT];omega
def Zwq (gc:GC q)(hq:MdlQ q m)(hlc: ∀ x∈m.threads,x.lines.length<=x.lc)(ok:Nd m):CF G 46 [.agg (J0 m).toArray] (q) (Ret fun v q'=> ∃ a c,v= .tuple [.slice a (Do (Bu m)).length c,I64 0].toArray/\q'=lsH (Value.int .u8) 5 a c (Do (Bu m))::q):=by
 refine aE ntmps46 fun F cs=> ?_;have hE:=encM_f ok;have b0:=hE.2;unfold Bu at b0;simp only [aA,aJ,aT] at b0;have n0:=ok;obtain ⟨h1,h2,h3,h4,h5,h6⟩:=n0;unfold Ym at h1 h2;obtain ⟨nm,o0⟩:=aU h1.1;obtain ⟨nc,p0⟩:=aU h2.1;have l0:m.mutexes.toNat=nm:=Zq;have m0:m.conds.toNat=nc:=Zq;rw [l0,m0] at b0;have b1:=U2 m.vars.length;have b2:=U2 m.arrays.length;have b3:=U2 m.chans.length;have b4:=U2 m.threads.length;have b5:=U2 nm;have b6:=U2 nc;refine Yb fun n1=> ?_
 refine Zz ?_;apply bD (Zvu (gc.le leA) (hq.le leA));rw [Bf.2 ok];refine Zz ?_;apply bU (Qu (Value.int .u8) [87,65,82,80] underlying88 Ke rfl rfl rfl rfl rfl rfl (fun _=>rfl));rintro _ _ ⟨g2,rfl,rfl⟩;apply bU (Zvp (vs:=([87,65,82,80]:List Int).map (Value.int .u8)) rfl underlying88 underlying5 Zj rfl);rintro _ _ ⟨rfl,rfl⟩;refine Yb fun n2=> ?_
 refine Zz ?_;apply eN (q':=wrB n2 [87,65,82,80]::_) (wrB_in (a:=some ⟨g2,0,none⟩) (c:=4) (bC Zj (aK Zj (Zxs (φ:=True) trivial (b:=g2) (l:= [87,65,82,80]) (z:=(4,4+1)) Zw _))));obtain ⟨W0,a0⟩:=lV ([87,65,82,80]:List Int);have s0:W0.length=4:=(by rw [a0];rfl);rw [<-a0];refine Zv (aG _) (Zvt (l:=W0) (L:=m.vars) (u:=(fun n=>vb (sgU n))) (hq.v.le leA) Zq Zq (fun n hn l hl=>(by exact Yh (a:= [pt n2]) (b:= []) call101 (eC (Mt (aG _)) (Ea (l:=l) (k:=n) (by have:=h3.2 n hn;unfold Ym at this;omega) Zq) (fun _ _ h=>⟨_,h,aG _⟩))))) ?_;rintro _ _ rfl;obtain ⟨W1,y⟩:=lV (W0++vb m.vars.length);have k0:=aQ List.length y;simp only [aA] at k0;rw [<-y];obtain ⟨W2,s⟩:=lV (W1++m.vars.flatMap (fun n=>vb (sgU n)));have j0:=aQ List.length s;simp only [aA] at j0;rw [<-s];refine Zz ?_;refine Zv (Mt Zj) (Zzr (l:=W2) (L:=m.arrays) (u:=(fun n=>vb n.toNat)) (hq.a.le leA) Zq Zq (fun n hn l hl=>(by have e:=h4.2 n hn;unfold Ym at e;obtain ⟨N,rfl⟩:=aU (show (0:Int)<=n by omega);exact Yh (a:= [pt n2]) (b:= []) call103 (eC (Mt (aG _)) (V5 (l:=l) (n:=N) Zq Zq) (fun _ _ h=>⟨_,h,aG _⟩))))) ?_;rintro _ _ rfl;obtain ⟨W3,r⟩:=lV (W2++vb m.arrays.length);have i0:=aQ List.length r;simp only [aA] at i0;rw [<-r];obtain ⟨W4,p⟩:=lV (W3++m.arrays.flatMap (fun n=>vb n.toNat));have h0:=aQ List.length p;simp only [aA] at h0;rw [<-p];refine Zz ?_;refine Zv (Mt Zj) (Zzr (l:=W4) (L:=m.chans) (u:=(fun n=>vb n.toNat)) (hq.c.le leA) Zq Zq (fun n hn l hl=>(by have e:=h5.2 n hn;unfold Ym at e;obtain ⟨N,rfl⟩:=aU (show (0:Int)<=n by omega);exact Yh (a:= [pt n2]) (b:= []) call103 (eC (Mt (aG _)) (V5 (l:=l) (n:=N) Zq Zq) (fun _ _ h=>⟨_,h,aG _⟩))))) ?_;rintro _ _ rfl;obtain ⟨W5,o⟩:=lV (W4++vb m.chans.length);have g0:=aQ List.length o;simp only [aA] at g0;rw [<-o];obtain ⟨W6,j⟩:=lV (W5++m.chans.flatMap (fun n=>vb n.toNat));have f0:=aQ List.length j;simp only [aA] at f0;rw [<-j];refine Zz ?_;apply aX 36 (Ad nm) rfl (by rw [<-o0]);apply Zv (Mt Zj) (V5 (l:=W6) (n:=nm) Zq Zq);rintro _ _ rfl;obtain ⟨W7,i⟩:=lV (W6++vb nm);have e0:=aQ List.length i;simp only [aA] at e0;rw [<-i];refine Zz ?_;apply aX 40 (Ad nc) rfl (by rw [<-p0]);apply Zv (Mt Zj) (V5 (l:=W7) (n:=nc) Zq Zq);rintro _ _ rfl;obtain ⟨W8,g⟩:=lV (W7++vb nc);have d0:=aQ List.length g;simp only [aA] at d0;rw [<-g];refine Zz ?_;apply Zv (Mt Zj) (Zfg (l:=W8) (L:=m.threads) (u:=X3) (hq.t.le leA) Zq Zq (fun x hx l hl=>Yh (a:= [pt n2]) (b:= []) call105 (Zv8 (h6.2 x hx) (hlc x hx) ((hq.x x hx).le leA) (gc.le leA) hl)));rintro _ _ rfl;obtain ⟨W9,f⟩:=lV (W8++vb m.threads.length);have c0:=aQ List.length f;simp only [aA] at c0;rw [<-f];obtain ⟨r0,d⟩:=lV (W9++m.threads.flatMap X3);have w:=aQ List.length d;simp only [aA] at w;rw [<-d];refine Zz ?_;have q0:r0=Bu m:=(by rw [d,f,g,i,j,o,p,r,s,y,a0];unfold Bu;rw [l0,m0]);rw [q0];apply Zv Zj (olast_ok (l:=Bu m) hE.1 Zq);rintro _ _ rfl;refine XO.wrO fun aw cw=> ?_
 refine Zg ?_;exact ⟨_,⟨_,rfl,aw,cw,rfl,rfl⟩,leA⟩
def Gl (h:U6 l=some F)(hl:l.length<=5000)(hm:ModOf F m):Ho m=0:=modOf_ok (Qf h).1 hl hm
def Zza (h:Ho m=0):Nd m:=by
 unfold Ho at h;split at h
 . contradiction
 rename_i k;exact Bf.1 (by simpa using k)
def Wa (F:Fnd):Mdl:=⟨F.vars,F.arrs,F.chs,F.mu,F.co,((V4 F).map (thP F.main)).map (fun x=>⟨x.1,x.2.1,x.2.2.1,x.2.2.2,none,0,none,0⟩),none,0,none,0,none,0,none,0⟩
def Oz (F:Fnd):ModOf F (Wa F):=⟨rfl,rfl,rfl,rfl,rfl,by unfold Wa;rw [fO];exact List.map_id _⟩
def enc_of {m'}(h:ModOf F m)(h':ModOf F m'):Bu m=Bu m':=by
 have e: ∀ m:Mdl,m.threads.flatMap X3=(m.threads.map fun x=>(x.name,x.locals,x.ins,x.lines)).flatMap Zvs:=fun m=>by rw [jN];rfl
 have n:m.threads.length=m'.threads.length:=by have:=aQ List.length (h.t.trans h'.t.symm);rw [aI,aI] at this;exact this
 unfold Bu;rw [e m,e m',h.t,h'.t,h.v,h'.v,h.a,h'.a,h.c,h'.c,h.mu,h'.mu,h.co,h'.co,n]
def Hu (F:Fnd):Int:=Hb (Do (Bu (Wa F)))
def MdAt.cap {r}{w}(s:St G w q)(h:Le q (mdM m::r)): ∀ x∈m.threads,x.lines.length<=x.lc:=Kn.fact (knA (φ:=fun M=>MdAt M m) h) (fun M k x hx=>(k.x x hx).2.1) s
def Zfx (hT:U6 l=some g.er)(hl:l.length<=5000)(hK:Kn q fun M=>g.At M)(hg:GO q)(gc:GC q):CR G 13 (Av g) (q) (.tuple [.int .u32 (Hu g.er),I64 0].toArray):=by
 refine aE ntmps13 fun F cs=> ?_;refine Yb fun j=> ?_
 refine Zz ?_;apply Zv (aG _) (S8 hT (hK.le leA) (hg.le leA));rintro _ _ ⟨m,rfl,rfl,a,c⟩;refine Zo zeroValue109 fun i=> ?_
 refine Zz ?_;refine XO.fact (fun w s=>MdAt.cap s Zj) fun b=> ?_
 have d:=Zza (Gl hT hl a);have e:=encM_f d;have h:=e.2;have f:(Do (Bu m)).length=(Bu m).length+4:=(by unfold Do;rw [aA];rfl);apply Zv (aG _) (Zwq (gc.le leA) (Zx2 (knA (φ:=fun M=>MdAt M m)) c) b d);rintro _ _ ⟨n,k,rfl,rfl⟩;refine Zz ?_;apply bD (Sum_ok (l:=Do (Bu m)) ((bV _).le leA) (sealB_bs e.1) Zq);rw [enc_of a (Oz g.er),show Hb (Do (Bu (Wa g.er)))=Hu g.er from rfl];exact Vz q
end Go.Proofs.YtadahhbefdnabaaGreatDoor
namespace Go.Proofs.YtadahhbefdnabaaGreatDoor
open Go Go.RowKit Wx Go.Proofs.Tryz
attribute [local irreducible] lsH rsH stars
variable {m:Mdl}{G:World}{p who ga c xb xf N:Nat}{n u sl ot:Int}{xa:Addr}{e:EvC}{ev:PEv}{r:List HP}{P:Program}{ops lo:List Oper}{g:FC}{fn:FuncId}{vs:List Value}{R:Wx.Uc}{bb:Bool}{i:Ins}
def Zfn (h:Ho m=0):Zqp m=0/\ ∀ t∈m.threads,(dOf m t).2=0:=by
 unfold Ho at h;split at h
 . contradiction
 rename_i c;refine ⟨Zq,?_⟩;generalize m.threads=l at h|-
 induction l with
 |nil=>intro t a;cases a
 |cons x r ih=>
  unfold X0 at h;split at h
  . contradiction
  rename_i b;intro t a;rcases bS.1 a with rfl|a
  . omega
  exact ih h t a
def Sb (h:Ho m=0):Nd m:=Bf.1 (Zfn h).1
def cntS (m:Mdl):Int:=m.vars.length+Wy m.arrays
def Zz3 (h:Nd m)(n:Nat):0<=Wy (m.arrays.take n)/\Wy (m.arrays.take n)<=16384:=by
 have b:=H9 (l:=m.arrays.take n) (k:=256) (fun y a=>by have:=h.2.2.2.1.2 y (fA a);exact this) Zw;have c:=h.2.2.2.1.1;rw [bB] at b;omega
section
variable {q:List HP}{th:Nat}
def Zfm (gc:GC q)(g:GE q)(hq:MdlQ q m)(hk:Ho m=0):CR G 190 (Ak p n) (pC p (J0 m) 109::q) (.bool (decide (0<=n/\n<(m.threads.length:Int)))):=by
 refine aE ntmps190 fun F cs=> ?_;refine rn [8,0] ?_;apply bD (Xn (gc.le leA) (g.le leA) (hq.le leA));apply aX 8 (I64 0) rfl (by rw [hk]);apply oo 2;apply fL [10,4,0,1];apply Vb 3 13 10 rfl
 . intro a b;have c:=sp a;apply oo 3;exact Z2 b ⟨Rb a,Yt⟩
 . intro a b;have c:=sp a;apply oo 3;exact Z2 b ⟨Rf a,Yt⟩
 apply oo 1;apply fL [14,4,0,1];apply Vb 8 22 14 rfl
 . intro a b;have c:=sp a;refine rn [4,0,3] ?_;exact Z2 b ⟨Rb a,Yt⟩
 . intro a b;have c:=sp a;apply oo 8;exact Z2 b ⟨Rf a,Yt⟩
 refine Zm (pC p (J0 m) 109::q) ?_ (h0:=J2);exact ⟨_,rfl,cB (by rw [cD,decide_eq_true_iff];simp;try omega),rfl⟩
def vNew_ok (gc:GC q)(g:GE q)(hq:MdlQ q m)(hk:Ho m=0)(ht:th<m.threads.length):CF G 114 [.agg (J0 m).toArray,I64 th] (q) (Ret fun v q'=> ∃ la lc,v= .tuple [.agg [I64 th,I64 0,.slice la m.threads[th].locals.toNat lc,.slice none 0 0].toArray,I64 0].toArray/\q'=lsH I64 2 la lc (List.replicate m.threads[th].locals.toNat 0)::q):=by
 refine aE ntmps114 fun F cs=> ?_;have k:=hq.nt;have a:=((Sb hk).2.2.2.2.2.2 _ (aC ht)).2.1;unfold Ym at a;obtain ⟨b,c⟩:=aU a.1;refine Yq (hq.t.le leA) (by rw [Zx (f:=Vs) (sz:=4) (fun _=>rfl) m.threads];omega) fun r l j=> ?_;have d:=hq.t;rw [j] at d;refine Yb fun p=> ?_
 refine Zo zeroValue145 fun o=> ?_
 refine Zz ?_;apply Zv Zj (Zfm (gc.le leA) (g.le leA) (hq.le leA) hk);rintro _ _ ⟨rfl,rfl⟩;refine rf [2,1008,6,0,1,3012,2] j ?_;refine ld ?_ (hc:=(cX (n:=th) d leA (fun _=>rfl) ht rfl 1 _ rfl));apply aX 16 (Ad b) rfl (aQ (Value.int .i64) c);apply bU (Ef.make (n:=b) rfl rfl underlying22 iA rfl rfl Zq Zq);rintro _ _ ⟨i,rfl,rfl⟩;apply eN (q':=lsH I64 2 (some ⟨i,0,none⟩) b (List.replicate b 0)::_) (aK Zj (Fa _ _ _ _ _));refine Zm (lsH I64 2 (some ⟨i,0,none⟩) b (List.replicate b 0)::q) ?_;exact ⟨_,rfl,some ⟨i,0,none⟩,b,by rw [c];rfl,by rw [c];rfl⟩
def count_ok (hq:MdlQ q m)(hk:Ho m=0):CR G 112 [pt p] (pC p (J0 m) 109::q) (I64 (cntS m)):=by
 refine aE ntmps112 fun F cs=> ?_;have b:=Sb hk;have j:=b.2.2.1.1;have f:=b.2.2.2.1;refine Zz ?_;apply fQ 3 (I64 ((m.vars.length:Int)+Wy (m.arrays.take 0))) rfl (aQ (Value.int .i64) (by simp [Wy]));refine Zs (bW (fun (s:Nat)=>s<=m.arrays.length) (fun s=> [(16,I64 s),(15,I64 m.arrays.length),(14,.slice m.aa m.arrays.length m.ac),(3,I64 ((m.vars.length:Int)+Wy (m.arrays.take s))),(2,I64 0)]) (fun s=>pC p (J0 m) 109::(q++F)) (fun s=>m.arrays.length - s) (fun s e h=> ?_) 0 (aZ _));try dsimp only at e h|-
 obtain l:=e;refine Zp ?_ ?_<;>intro o
 . have c:s<m.arrays.length:=Zq;have k:=Zz3 b s;have i:=f.2 _ (aC c);unfold Ym at i;refine Yq (hq.a.le leA) Zi fun r n g=> ?_;have d:=hq.a;rw [g] at d;refine rf [6,3014,1] g ?_;refine ld ?_ (hc:=(gF d leA c rfl));refine Zz ?_;refine fQ 3 (I64 ((m.vars.length:Int)+Wy (m.arrays.take (s+1)))) rfl (aQ (Value.int .i64) (by rw [aM c,P8];simp [Wy];omega)) ?_;apply fQ 14 (.slice m.aa m.arrays.length m.ac) rfl (by rw [g]);refine Zs (h (s+1) Zq Zq)
 refine Zg ?_;exact ⟨_,⟨_,rfl,by unfold cntS;rw [bX Zq],rfl⟩,leA⟩
def Zfu (gc:GC q)(g:GE q)(hq:MdlQ q m)(hk:Ho m=0):CF G 52 [.agg (J0 m).toArray] (q) (Ret fun v q'=> ∃ a' c',v= .tuple [.slice a' (m.vars++List.replicate (Wy m.arrays).toNat 0).length c',I64 0].toArray/\q'=lsH I64 2 a' c' (m.vars++List.replicate (Wy m.arrays).toNat 0)::q):=by
 refine aE ntmps52 fun F cs=> ?_;have b:=Sb hk;have d:=b.2.2.1.1;have a:=Zz3 b m.arrays.length;rw [bR] at a;obtain ⟨N,e⟩:=aU a.1;rw [e,show ((N:Nat):Int).toNat=N from rfl];refine Yb fun h=> ?_
 refine Zz ?_;apply bD (Xn (gc.le leA) (g.le leA) (hq.le leA));apply aX 7 (I64 0) rfl (by rw [hk]);refine Zz ?_;apply Zv Zj (count_ok (hq.le leA) hk);rintro _ _ ⟨rfl,rfl⟩;refine aX 10 (I64 ((m.vars.length+N:Nat):Int)) rfl (aQ (Value.int .i64) (by unfold cntS;omega)) ?_;apply bU (Ef.make (n:=m.vars.length+N) rfl rfl underlying22 iA rfl rfl Zq Zq);rintro _ _ ⟨c,rfl,rfl⟩;apply eN (q':=lsH I64 2 (some ⟨c,0,none⟩) (m.vars.length+N) (List.replicate (m.vars.length+N) 0)::_) (aK Zj (Fa _ _ _ _ _));refine Zz ?_;apply aX 12 (.slice (some ⟨c,0,none⟩) (List.replicate (m.vars.length+N) (0:Int)).length (m.vars.length+N)) rfl (by rw [dA]);refine bU (Zvn (f:=I64) (l:=List.replicate (m.vars.length+N) 0) (m:=m.vars) underlying22 iA rfl rfl Zj (hq.v.le leA) (fun _=>rfl) (by rw [dA];omega)) ?_;rintro _ _ ⟨rfl,rfl⟩;rw [List.drop_replicate,iK];refine Zg ?_;exact ⟨_,⟨_,rfl,some ⟨c,0,none⟩,m.vars.length+N,Zf,rfl⟩,leA⟩
end
structure MTh where
 decl:Int
 st:Int
 code:Int
 pc:Int
 loc:List Int
 stk:List Int
 sp:List Int
abbrev zMTh:MTh:=⟨0,0,0,0, [], [], []⟩
structure MS where
 cells:List Int
 sy:Sy
 ths:List MTh
 out:POut
 cnt:Int
variable {s:MS}
def MS.th (s:MS)(n:Nat):MTh:=s.ths.getD n zMTh
def MS.put (s:MS)(n:Nat)(t:MTh):MS:= { s with ths:=s.ths.set n t }
def Ek (m:Mdl)(code pc:Int):Ins:=((m.threads.map (·.ins)).getD code.toNat []).getD pc.toNat N7
def MTh.at (m:Mdl)(t:MTh):Ins:=Ek m t.code t.pc
def Z4 (l:List Int):Int:=l.getD (l.length - 1) 0
def MTh.push (t:MTh)(v:Int):MTh:= { t with stk:=t.stk++ [v] }
def MTh.pop (t:MTh):MTh:= { t with stk:=t.stk.take (t.stk.length - 1) }
def PEv.ac (e:PEv)(l:List Ac):PEv:= { e with acc:=e.acc++l }
def PEv.sn (e:PEv)(l:List Sn):PEv:= { e with syn:=e.syn++l }
def Gv (x:Ac):(acC x).length=3:=rfl
def Fb (x:Sn):(snC x).length=3:=rfl
def acC_one (x:Ac):(acC x).all (·.oneCell')=true:=rfl
def snC_one (x:Sn):(snC x).all (·.oneCell')=true:=rfl
structure MTC where
 t:MTh
 la:Option Addr
 lc:Nat
 ta:Option Addr
 tc:Nat
 sa:Option Addr
 sc:Nat
variable {x:MTC}
def mtC (x:MTC):List Value:= [I64 x.t.decl,I64 x.t.st,I64 x.t.code,I64 x.t.pc,.slice x.la x.t.loc.length x.lc,.slice x.ta x.t.stk.length x.tc,.slice x.sa x.t.sp.length x.sc]
def Zr (x:MTC):(mtC x).length=7:=rfl
def Zqh (x:MTC):(mtC x).all (·.oneCell')=true:=rfl
def mtL (x:MTC):List HP:= [lsH I64 2 x.la x.lc x.t.loc,lsH I64 2 x.ta x.tc x.t.stk,lsH I64 3 x.sa x.sc x.t.sp]
def mtH (x:MTC):HP:=stars (mtL x)
structure MC where
 ca:Option Addr
 cc:Nat
 cells:List Int
 sp:Nat
 sy:Sy
 ha:Option Addr
 hc:Nat
 ths:List MTC
 out:POut
 cnt:Int
variable {σ:MC}
def MC.er (σ:MC):MS:=⟨σ.cells,σ.sy,σ.ths.map MTC.t,σ.out,σ.cnt⟩
structure MK where
 pp:Nat
 mp:Nat
 mb:Nat
variable {k K:MK}
def mcC (k:MK)(σ:MC):List Value:= [.pointer (some ⟨k.pp,0,none⟩),.pointer (some ⟨k.mp,0,none⟩),.map (some k.mb),.slice σ.ca σ.cells.length σ.cc,.pointer (some ⟨σ.sp,0,none⟩),.slice σ.ha σ.ths.length σ.hc,I64 σ.out.kind,I64 σ.out.trap,I64 σ.out.th,I64 σ.out.stmt,I64 σ.cnt]
def mcL (σ:MC):List HP:= [lsH I64 2 σ.ca σ.cc σ.cells,yH σ.sp σ.sy,rsH mtC 7 147 σ.ha σ.hc σ.ths,stars (σ.ths.map mtH)]
abbrev mcP (p:Nat)(k:MK)(σ:MC):HP:=pC p (mcC k σ) 127
def maH (p:Nat)(k:MK)(s:MS):HP:=ex fun σ:MC=>stars (pure (σ.er=s)::mcP p k σ::mcL σ)
abbrev msP (p:Nat)(k:MK)(who:Nat)(xa:Addr)(σ:MC)(e:EvC):HP:=pC p (mcC k σ++(I64 who:: .pointer (some xa)::evC e)) 181
def spH (p:Nat)(k:MK)(who:Nat)(xa:Addr)(s:MS)(ev:PEv):HP:=ex fun z:MC×EvC=>stars (pure (z.1.er=s/\z.2.e=ev)::msP p k who xa z.1 z.2::(mcL z.1++evL z.2))
abbrev msF (p:Nat)(k:MK)(who:Nat)(xa:Addr)(σ:MC)(ga:Nat)(x:MTC)(e:EvC)(r:List HP):List HP:=
 msP p k who xa { σ with ha:=some ⟨ga,0,none⟩ } e::lsH I64 2 σ.ca σ.cc σ.cells::yH σ.sp σ.sy::rsH mtC 7 147 (some ⟨ga,0,none⟩) σ.hc (σ.ths.set who x)::lsH I64 2 x.la x.lc x.t.loc::lsH I64 2 x.ta x.tc x.t.stk::lsH I64 3 x.sa x.sc x.t.sp::stars ((σ.ths.eraseIdx who).map mtH)::rsH acC 3 158 e.aa e.ac e.e.acc::rsH snC 3 161 e.na e.nc e.e.syn::r
def Zhr (σ:MC)(n:Nat)(x:MTC):({ σ with ths:=σ.ths.set n x } :MC).er=σ.er.put n x.t:=by
 unfold MC.er MS.put;simp [iF]
def Y5 {n}(hn:n<σ.ths.length):σ.er.th n=(σ.ths[n]).t:=by
 unfold MS.th MC.er;rw [aH,bZ,aB hn];rfl
theorem MC.nth (σ:MC):σ.er.ths.length=σ.ths.length:=aI _
abbrev gS:=@MC.nth
def U4 {q}(hw:who<σ.ths.length)(hs:σ.er.put who x.t=s)(he:e.e=ev)(h:Le q (msF p k who xa σ ga x e r)):Le q (spH p k who xa s ev::r):=
 h.trans (by
  obtain ⟨ca,g,a,sp,d,i,f,ths,b,c⟩:=σ;dsimp only at hw hs;have l:(⟨ca,g,a,sp,d,some ⟨ga,0,none⟩,f,ths.set who x,b,c⟩:MC).er=s:=by rw [<-hs];unfold MC.er MS.put;simp [iF]
  have j:Le (msF p k who xa ⟨ca,g,a,sp,d,i,f,ths,b,c⟩ ga x e r) ((msP p k who xa ⟨ca,g,a,sp,d,some ⟨ga,0,none⟩,f,ths.set who x,b,c⟩ e::(mcL ⟨ca,g,a,sp,d,some ⟨ga,0,none⟩,f,ths.set who x,b,c⟩++evL e))++r):=by
   unfold msF msP mcC mcL evL;simp only [aR,bN,bL];exact cC _ (cC _ (cC _ (cC _ (aK (Zh (mtL x) _) (Fv mtH hw x _)))))
  exact j.trans (Vt ((⟨ca,g,a,sp,d,some ⟨ga,0,none⟩,f,ths.set who x,b,c⟩:MC),e) ((Yu ⟨l,he⟩ _).trans (Zh (pure _::msP p k who xa _ e::(mcL _++evL e)) r))))
def Zqm (hw:who<σ.ths.length)(ha:σ.ha=some ⟨ga,0,none⟩):Le (msP p k who xa σ e::(mcL σ++evL e)++r) (msF p k who xa σ ga σ.ths[who] e r):=by
 obtain ⟨ca,g,a,sp,d,h,f,ths,b,c⟩:=σ;dsimp only at ha hw|-;subst ha;unfold msF msP mcC mcL evL;simp only [eG,bN,bL];refine cC _ (cC _ (cC _ (cC _ ?_)));exact (kG mtH hw _).trans (Zb (mtL ths[who]) _)
def U7 {q}(hs:σ.er=s)(he:e.e=ev)(h:Le q ((msP p k who xa σ e::(mcL σ++evL e))++r)):Le q (spH p k who xa s ev::r):=
 h.trans (Vt (σ,e) ((Yu ⟨hs,he⟩ _).trans (Zh (pure _::msP p k who xa σ e::(mcL σ++evL e)) _)))
section
variable {f:Fc}{Q:Yp}{k:List Item}{pe:PE}{ds:List Deferred}{cs:List Frame}{q:List HP}
def Td (x: ∀ σ e,σ.er=s->e.e=ev->X P G f Q k pe ds cs (msP p K who xa σ e::lsH I64 2 σ.ca σ.cc σ.cells::yH σ.sp σ.sy::rsH mtC 7 147 σ.ha σ.hc σ.ths::stars (σ.ths.map mtH)::rsH acC 3 158 e.aa e.ac e.e.acc::rsH snC 3 161 e.na e.nc e.e.syn::r))(hq:Le q (spH p K who xa s ev::r):=by exact Zj):X P G f Q k pe ds cs q:=
 .le hq (.ex fun z=> .le (Zb _ r) (.pure fun h=>x z.1 z.2 h.1 h.2))
def Iv (x: ∀ σ e,σ.er=s->e.e=ev->XO P G f Q ops.toArray k lo pe ds cs (msP p K who xa σ e::lsH I64 2 σ.ca σ.cc σ.cells::yH σ.sp σ.sy::rsH mtC 7 147 σ.ha σ.hc σ.ths::stars (σ.ths.map mtH)::rsH acC 3 158 e.aa e.ac e.e.acc::rsH snC 3 161 e.na e.nc e.e.syn::r))(hq:Le q (spH p K who xa s ev::r):=by exact Zj):XO P G f Q ops.toArray k lo pe ds cs q:=
 .le hq (.ex fun z=> .le (Zb _ r) (.pure fun h=>x z.1 z.2 h.1 h.2))
def X.spF (hw:who<s.ths.length)(x: ∀ σ ga (h:who<σ.ths.length) e,σ.er=s->e.e=ev->X P G f Q k pe ds cs (msF p K who xa σ ga σ.ths[who] e r))(hq:Le q (spH p K who xa s ev::r):=by exact Zj):X P G f Q k pe ds cs q:=
 Td (fun σ e b d=>by
  have a:who<σ.ths.length:=by rw [<-b,gS] at hw;exact hw
  exact Vq (l:=σ.ths) Zq (fun g c=> .le (Zqm a c) (x σ g a e b d)) Zj) hq
abbrev kL:=@X.spF
def XO.spF (hw:who<s.ths.length)(x: ∀ σ ga (h:who<σ.ths.length) e,σ.er=s->e.e=ev->XO P G f Q ops.toArray k lo pe ds cs (msF p K who xa σ ga σ.ths[who] e r))(hq:Le q (spH p K who xa s ev::r):=by exact Zj):XO P G f Q ops.toArray k lo pe ds cs q:=
 .le hq (.ex fun z=> .le (Zb _ r) (.pure fun h=>by
  have a:who<z.1.ths.length:=by rw [<-h.1,gS] at hw;exact hw
  exact Gw (l:=z.1.ths) Zq (fun g b=> .le (Zqm a b) (x z.1 g a z.2 h.1 h.2)) (by unfold mcL;exact Zj)))
end
structure ME (q:List HP) (K:MK) (g:FC) (m:Mdl):Prop where
 hp:CellsAt q K.pp 0 (pgC g)
 hK:Kn q fun M=>g.At M
 hm:CellsAt q K.mp 0 (J0 m)
 hM:Kn q fun M=>MdAt M m
 hB:MdB m
def ME.le {q q'}(h:ME q' K g m)(l:Le q q'):ME q K g m:=⟨h.hp.le l,h.hK.le l,h.hm.le l,h.hM.le l,h.hB⟩
def ME.q {q}{K}{g}{m}(h:ME q K g m):MdlQ q m:=Zx2 h.hM h.hB
def Zz6 {q}(hw:who<s.ths.length)(h: ∀ σ ga (h:who<σ.ths.length) e,σ.er=s->e.e=ev->CallF P G fn vs (msF p K who xa σ ga σ.ths[who] e q) R):CallF P G fn vs (spH p K who xa s ev::q) R:=by
 intro F w st cs;obtain ⟨z,i⟩:=St.get_ex st;have d:=i.le (Zb _ (q++F));have b:=d.get_pure;have c:=d.le (dS _ _);have a:who<z.1.ths.length:=by rw [<-b.1,gS] at hw;exact hw
 obtain ⟨g,j⟩:=(c.le (aK (dS _ _) (aK (dS _ _) (dS _ _)))).rsAddr Zq;exact h z.1 g a z.2 b.1 b.2 F w (c.le (Zqm (r:=q++F) a j)) cs
def spO_call {q}(h: ∀ σ e,σ.er=s->e.e=ev->CallF P G fn vs (msP p K who xa σ e::lsH I64 2 σ.ca σ.cc σ.cells::yH σ.sp σ.sy::rsH mtC 7 147 σ.ha σ.hc σ.ths::stars (σ.ths.map mtH)::rsH acC 3 158 e.aa e.ac e.e.acc::rsH snC 3 161 e.na e.nc e.e.syn::q) R):CallF P G fn vs (spH p K who xa s ev::q) R:=by
 intro F w st cs;obtain ⟨z,c⟩:=St.get_ex st;have a:=c.le (Zb _ (q++F));have b:=a.get_pure;exact h z.1 z.2 b.1 b.2 F w (a.le (dS _ _)) cs
def Xf:(prog.info? 158).map (fun i=>(i.zero,i.size,i.bytes))=some (some (.agg #[I64 0,.bool false,I64 0]),3,24):=by kernel_rfl
def Xb:(prog.info? 161).map (fun i=>(i.zero,i.size,i.bytes))=some (some (.agg #[I64 0,I64 0,I64 0]),3,24):=by kernel_rfl
def Kt:(prog.info? 147).map (fun i=>(i.zero,i.size,i.bytes))=some (some (.agg #[I64 0,I64 0,I64 0,I64 0,.slice none 0 0,.slice none 0 0,.slice none 0 0]),7,104):=by kernel_rfl
section
variable {q:List HP}{k:Int}
def Je {m}(h5:Cl q ⟨p,0+5,none⟩ (.slice (some ⟨ga,0,none⟩) m c))(h11:Cl q ⟨p,11,none⟩ (I64 who))(hn:who<m):CR G 139 [pt p] (q) (.pointer (some ⟨ga,0+(who:Int).toNat*7,none⟩)):=by
 refine We ntmps139 fun F cs=> ?_;refine ldD 4 ?_ (hc:=(h5.le leA));refine Zz ?_;refine ldD 8 ?_ (hc:=(h11.le leA));exact Vz q
def Sk (hl:e.e.syn.length<=4000000000000):CF G 142 [pt p,I64 k,I64 sl,I64 ot] (msP p K who xa σ e::rsH snC 3 161 e.na e.nc e.e.syn::q) (Ret fun v q'=> ∃ e':EvC,(e'.e=e.e.sn [(k,sl,ot)]/\e'.aa=e.aa/\e'.ac=e.ac)/\q'=msP p K who xa σ e'::rsH snC 3 161 e'.na e'.nc e'.e.syn::q):=by
 refine We ntmps142 fun F cs=> ?_;apply bU (Yw (u:=(k,sl,ot)) snC underlying61 Xb rfl rfl Fb rfl);rintro _ _ ⟨c,rfl,rfl⟩;apply bU (Z9 (f:=snC) (l:=e.e.syn) (m:= [(k,sl,ot)]) underlying61 Xb rfl rfl Fb rfl rfl Zj ((bJ _).le leA) snC_one Zi Zi);rintro _ _ ⟨b,a,rfl,rfl⟩;refine Zg ?_;exact ⟨_,⟨_,rfl,({ e with e:=e.e.sn [(k,sl,ot)],na:=b,nc:=a } :EvC),⟨rfl,rfl,rfl⟩,rfl⟩,leA⟩
def Kc (hl:ev.syn.length<=4000000000000):CF G 142 [pt p,I64 k,I64 sl,I64 ot] (spH p K who xa s ev::q) (Ret fun v q'=>q'=spH p K who xa s (ev.sn [(k,sl,ot)])::q):=
 spO_call fun σ e c d=>by
  subst c d;exact eC (bC Zj (bC Zj (aG _))) (Sk hl) (by rintro _ _ ⟨_,rfl,b,⟨a,g,f⟩,rfl⟩;refine ⟨_,⟨_,rfl,rfl⟩,U7 (σ:=σ) (e:=b) rfl a ?_⟩;unfold mcL evL;rw [g,f,show b.e.acc=e.e.acc by rw [a];rfl];exact leA)
def Sm {n}(hn:n<s.cells.length)(hl:ev.acc.length<=100000000):CF G 257 [pt p,I64 n,.bool bb] (spH p K who xa s ev::q) (Ret fun v q'=>q'=spH p K who xa s (ev.ac [((n:Int),bb,s.cells.getD n 0)])::q):=by
 refine aE ntmps257 fun F cs=> ?_;refine Td fun σ e c d=> ?_;subst c d
 replace hn:n<σ.cells.length:=hn;refine Uz (l:=σ.cells) Zq fun g b=> ?_;have a: ∀ r,Sees (lsH I64 2 σ.ca σ.cc σ.cells::r) (some ⟨g,0,none⟩) (σ.cells.map I64):=fun r=>by rw [<-b];exact bV r
 refine rf [0,1,2,3,4,5,6,7,8,9,10,11,12,13,14,3018,15] b ?_;refine ldD 15 ?_ (hc:=(((a _).le leA).at Zq hn));apply dd [16];refine eT 17 rfl (Yw (u:=((n:Int),bb,σ.cells.getD n 0)) acC underlying60 Xf rfl rfl Gv (by rw [show σ.cells.getD n 0=σ.cells[n] by rw [aH,aB hn];rfl];rfl)) ?_;rintro _ _ ⟨k,rfl,rfl⟩;refine ⟨(hlA (h:=by repeat first|exact trivial|refine ⟨clA,?_⟩|refine ⟨((a _).le leA).at Zq hn,?_⟩)),?_⟩;apply eT 18 rfl (Z9 (f:=acC) (l:=e.e.acc) (m:= [((n:Int),bb,σ.cells.getD n 0)]) underlying60 Xf rfl rfl Gv rfl rfl Zj ((bJ _).le leA) acC_one Zi Zi);rintro _ _ ⟨j,i,rfl,rfl⟩;refine ⟨(hlA (h:=by repeat first|exact trivial|refine ⟨clA,?_⟩|refine ⟨((a _).le leA).at Zq hn,?_⟩)),?_⟩;refine Zg ?_ (h0:=J2);exact ⟨_,⟨_,rfl,rfl⟩,(U7 (σ:=σ) (e:=({ e with e:=e.e.ac [((n:Int),bb,σ.cells.getD n 0)],aa:=j,ac:=i } :EvC)) rfl rfl (by unfold mcL evL;exact leA))⟩
def O8 (hw0:who<σ.ths.length)(hl:x.t.stk.length<=1000000):CF G 205 [pt p,I64 u] (msF p K who xa σ ga x e q) (Ret fun v q'=> ∃ a2 c2,q'=msF p K who xa σ ga { x with t:=x.t.push u,ta:=a2,tc:=c2 } e q):=by
 refine We ntmps205 fun F cs=> ?_;refine Wb (Je (p:=p) (who:=who) (ga:=ga) (m:=σ.ths.length) (c:=σ.hc) clA clA hw0) ?_;refine ld ?_ (hc:=(cX (n:=who) (bJ _) leA Zr (show who<(σ.ths.set who x).length by rw [aR];exact hw0) rfl 5 _ (by rw [aY];rfl)));refine Zz ?_;apply bU (Qd (u:=u) I64 underlying22 Zyw rfl rfl);rintro _ _ ⟨a,rfl,rfl⟩;refine bU (Wu (f:=I64) (l:=(x).t.stk) (m:= [u]) underlying22 Zyw rfl rfl rfl Zj ((bV _).le leA) (fun _=>rfl) (by simp only [cI];omega) (by simp only [cI];omega)) ?_;rintro _ _ ⟨a2,c2,rfl,rfl⟩;refine Zz ?_;refine cU (Wq (g:=ga) (f:=mtC) (l:=σ.ths.set who x) (u:=({ x with t:=(x).t.push u,ta:=a2,tc:=c2 } :MTC)) (n:=who) (k:=5) (j:=(who:Int)) rfl rfl sizeOf22 Zr rfl (by rw [aR];exact hw0) rfl (by rw [aY];rfl) rfl rfl Zj) ?_;rintro _ _ ⟨rfl,rfl⟩;rw [eV];refine Zg ?_;exact ⟨_,⟨_,rfl,a2,c2,rfl⟩,leA⟩
def By (hw:who<s.ths.length)(hl:(s.th who).stk.length<=1000000):CF G 205 [pt p,I64 u] (spH p K who xa s ev::q) (Ret fun v q'=>q'=spH p K who xa (s.put who ((s.th who).push u)) ev::q):=
 Zz6 hw fun σ ga a e b c=>by
  subst b c;rw [Y5 a] at hl|-;exact eC (aG _) (O8 a hl) (by rintro _ _ ⟨_,rfl,f,d,rfl⟩;exact ⟨_,⟨_,rfl,rfl⟩,U4 a rfl rfl (aG _)⟩)
def Sj (hw0:who<σ.ths.length)(hl:1<=x.t.stk.length/\x.t.stk.length<=1000000):CF G 206 [pt p] (msF p K who xa σ ga x e q) (Ret fun v q'=>v= I64 (Z4 x.t.stk)/\q'=msF p K who xa σ ga { x with t:=x.t.pop } e q):=by
 refine aE ntmps206 fun F cs=> ?_;obtain ⟨L,y⟩:=lV x.t.stk;have w:L.length - 1<L.length:=(by rw [y];omega);refine Uz (l:=x.t.stk) Zq fun a d=> ?_
 have h:Z4 x.t.stk=x.t.stk[x.t.stk.length - 1]'Zq:=(by unfold Z4;rw [aH,aB Zq];rfl);refine Zb4 (l:=x.t.stk) fun i=> ?_;refine X.lsmax (l:=x.t.stk) fun s=> ?_;refine cE (q':=lsH I64 2 (some ⟨a,0,none⟩) x.tc x.t.stk::_) (by rw [<-d];exact Zj) ?_;refine Zz ?_;refine Wb (Je (p:=p) (who:=who) (ga:=ga) (m:=σ.ths.length) (c:=σ.hc) clA clA hw0) ?_;refine ldD 3 ?_ (hc:=(cX (n:=who) (bJ _) leA Zr (show who<(σ.ths.set who x).length by rw [aR];exact hw0) rfl 5 _ (by rw [aY];rfl)));refine rf [3012,5,6,7] d ?_;refine ldD 7 ?_ (hc:=(cX (n:=who) (bJ _) leA Zr (show who<(σ.ths.set who x).length by rw [aR];exact hw0) rfl 5 _ (by rw [aY];rfl)));refine rf [3016,9,10,11] d ?_;refine ldD 11 ?_ (hc:=((((fun r=>bV r) _).le leA).at (n:=x.t.stk.length - 1) Zq Zq));refine rn [13,0,1,0,1,2,3,4] ?_;refine ldD 4 ?_ (hc:=(cX (n:=who) (bJ _) leA Zr (show who<(σ.ths.set who x).length by rw [aR];exact hw0) rfl 5 _ (by rw [aY];rfl)));refine Zz ?_;refine ldD 8 ?_ (hc:=(cX (n:=who) (bJ _) leA Zr (show who<(σ.ths.set who x).length by rw [aR];exact hw0) rfl 5 _ (by rw [aY];rfl)));refine Zz ?_;refine dW 32 (.slice (some ⟨a,0,none⟩) (x.t.pop).stk.length x.tc) rfl (by unfold MTh.pop;rw [bB];congr 1;omega) ?_;refine gL 14 rfl (Wq (g:=ga) (f:=mtC) (l:=σ.ths.set who x) (u:=({ x with t:=(x).t.pop,ta:=some ⟨a,0,none⟩ } :MTC)) (n:=who) (k:=5) (j:=(who:Int)) rfl rfl sizeOf22 Zr rfl (by rw [aR];exact hw0) rfl (by rw [aY];rfl) rfl rfl Zj) ?_;refine kk0 ?_;rw [eV];refine Zz ?_;apply cE (q':=lsH I64 2 (some ⟨a,0,none⟩) x.tc (x.t.stk.take (x.t.stk.length - 1))::_) (aK (b:=lsH I64 2 (some ⟨a,0,none⟩) x.tc x.t.stk::_) Zj (C8 _ _ _ _ _ _ _));refine Zg ?_;exact ⟨_,⟨_,rfl,by rw [h],rfl⟩,(by rw [show ({ x with t:=x.t.pop } :MTC)=({ x with t:=(x).t.pop,ta:=some ⟨a,0,none⟩ } :MTC) by cases x;dsimp only at d|-;rw [d]];exact leA)⟩
def Q9 (hw:who<s.ths.length)(hl:1<=(s.th who).stk.length/\(s.th who).stk.length<=1000000):CF G 206 [pt p] (spH p K who xa s ev::q) (Ret fun v q'=>v= I64 (Z4 (s.th who).stk)/\q'=spH p K who xa (s.put who (s.th who).pop) ev::q):=
 Zz6 hw fun σ ga a e b c=>by
  subst b c;rw [Y5 a] at hl|-;exact eC (aG _) (Sj a hl) (by rintro _ _ ⟨_,rfl,rfl,rfl⟩;exact ⟨_,⟨_,rfl,rfl,rfl⟩,U4 a rfl rfl (aG _)⟩)
def Zjp {n}(hw:who<s.ths.length)(hn:n<s.cells.length)(hl:ev.acc.length<=100000000)(hk:(s.th who).stk.length<=1000000):CF G 207 [pt p,I64 n] (spH p K who xa s ev::q) (Ret fun v q'=>q'=spH p K who xa (s.put who ((s.th who).push (s.cells.getD n 0))) (ev.ac [((n:Int),false,s.cells.getD n 0)])::q):=by
 refine We ntmps207 fun F cs=> ?_;apply Zv (aG _) (Sm (n:=n) hn hl);rintro _ _ rfl;obtain ⟨g,a⟩:=lV (ev.ac [((n:Int),false,s.cells.getD n 0)]);rw [<-a];refine Iv fun σ e b d=> ?_;subst b d
 replace hn:n<σ.cells.length:=hn;refine XO.lsadr (l:=σ.cells) Zq fun f h=> ?_;have c: ∀ r,Sees (lsH I64 2 σ.ca σ.cc σ.cells::r) (some ⟨f,0,none⟩) (σ.cells.map I64):=fun r=>by rw [<-h];exact bV r
 refine Zz ?_;refine ld ?_ (hc:=(((c _).le leA).at Zq hn));refine aX 15 (I64 (σ.er.cells.getD n 0)) rfl (by rw [show σ.er.cells.getD n 0=σ.cells[n] from (by show σ.cells.getD n 0=_;rw [aH,aB hn];rfl)]) ?_;refine Zv (U7 (σ:=σ) (e:=e) rfl rfl (by unfold mcL evL;exact leA)) (By (s:=σ.er) (ev:=e.e) hw hk) ?_;rintro _ _ rfl;refine Zg ?_;exact ⟨_,⟨_,rfl,rfl⟩,leA⟩
def O6 {n}(hn:n<s.cells.length)(hl:ev.acc.length<=100000000):CF G 208 [pt p,I64 n,I64 u] (spH p K who xa s ev::q) (Ret fun v q'=>q'=spH p K who xa { s with cells:=s.cells.set n u } (ev.ac [((n:Int),true,u)])::q):=by
 refine aE ntmps208 fun F cs=> ?_;refine Td fun σ e c d=> ?_;subst c d
 replace hn:n<σ.cells.length:=hn;refine Uz (l:=σ.cells) Zq fun b a=> ?_;have g: ∀ r,Sees (lsH I64 2 σ.ca σ.cc σ.cells::r) (some ⟨b,0,none⟩) (σ.cells.map I64):=fun r=>by rw [<-a];exact bV r
 refine Zz ?_;refine eN (q':=lsH I64 2 (some ⟨b,0,none⟩) σ.cc σ.cells::_) (by rw [<-a];exact Zj) ?_;apply cU (Mh (f:=I64) (l:=σ.cells) (n:=n) (u:=u) rfl rfl sizeOf2 rfl hn rfl rfl Zj);rintro _ _ ⟨rfl,rfl⟩;refine Zz ?_;rw [<-a];refine Zv (U7 (σ:=({ σ with cells:=σ.cells.set n u } :MC)) (e:=e) rfl rfl (by unfold mcL evL msP mcC;simp only [aR];exact leA)) (Sm (s:=(({ σ with cells:=σ.cells.set n u } :MC)).er) (ev:=e.e) (n:=n) (by show n<(σ.cells.set n u).length;rw [aR];exact hn) hl) ?_;rintro _ _ rfl;refine Zz ?_;rw [show ((({ σ with cells:=σ.cells.set n u } :MC)).er.cells.getD n 0)=u from (by show (σ.cells.set n u).getD n 0=u;rw [aH,jA hn];rfl)];refine Zg ?_;exact ⟨_,⟨_,rfl,rfl⟩,leA⟩
end
section
variable {q:List HP}{k:Int}{a:Nat}
def Sf (hE:ME q K g m)(h1:Cl q ⟨p,0+1,none⟩ (.pointer (some ⟨K.mp,0,none⟩)))(h2:Cl q ⟨c,a+2,none⟩ (I64 k))(h3:Cl q ⟨c,a+2+1,none⟩ (I64 n))(hk:0<=k/\k<m.threads.length)(hn:0<=n/\n<(m.threads[k.toNat]'Zq).ins.length):CR G 115 (Aa p c a) (q) (.agg (Y7 (Ek m k n)).toArray):=by
 refine aE ntmps115 fun F cs=> ?_;obtain ⟨e,rfl⟩:=aU hk.1;obtain ⟨j,rfl⟩:=aU hn.1;replace hk:e<m.threads.length:=Zq;obtain ⟨x,l⟩:=lV m.threads[e];replace hn:j<x.ins.length:=(by rw [l];have:=hn.2;simp only [cG] at this;omega);have hi:Ek m e j=x.ins[j]:=(by unfold Ek;rw [aH,aH,bZ];simp only [cG];rw [aB hk,<-l];simp [aB hn]);rw [hi];have o:=hE.q;have d:=o.x x (l ▸ aC hk);have a0:=o.nt;have b0:=d.ni;refine Yq (o.t.le leA) (by rw [Zx (f:=Vs) (sz:=4) (fun _=>rfl) m.threads];omega) fun tb to z=> ?_;have u:=o.t;rw [z] at u;refine Yq (d.i.le leA) (by rw [Zx (f:=Y7) (sz:=4) (fun _=>rfl) x.ins];omega) fun ib io y=> ?_;have v:=d.i;rw [y] at v;have w:CellsAt q tb (to+e*4) (Vs x):=(by rw [l];exact eX (j:=(e:Int)) u (aG _) (fun _=>rfl) hk rfl);have b:CellsAt q ib (io+j*4) (Y7 x.ins[j]):=eX (j:=(j:Int)) v (aG _) (fun _=>rfl) hn rfl;refine Zo zeroValue222 fun n1=> ?_
 refine Zz ?_;refine ldD 3 ?_ (hc:=(h1.le leA));refine Zz ?_;refine ldD 6 ?_ (hc:=((hE.hm.le leA) 5 _ rfl));refine Zz ?_;refine ldD 11 ?_ (hc:=(h2.le leA));refine rg [3011,13,14,15,16,17,18,19] z w ?_;refine ldD 19 ?_ (hc:=(h3.le leA));refine rf [3019,21] y ?_;apply eT 21 rfl (Rd.ef (Ig (us:=Y7 x.ins[j]) rfl isAgg222 sizeOf222 rfl (b.le leA)));rintro _ _ ⟨rfl,rfl⟩;refine ⟨(hlA (h:=by repeat first|exact trivial|refine ⟨clA,?_⟩|refine ⟨(h1.le leA),?_⟩|refine ⟨(h2.le leA),?_⟩|refine ⟨(h3.le leA),?_⟩|refine ⟨(hE.hm.le leA) 5 _ rfl,?_⟩|refine ⟨(w.le leA) 2 _ rfl,?_⟩|refine ⟨(b.le leA) 0 _ rfl,?_⟩|refine ⟨(b.le leA) _ _ rfl,?_⟩)),?_⟩;refine rn [23,0] ?_;refine Zl (q) func115 (rA_ results115) ⟨_,rfl,rfl,rfl⟩
abbrev AE (v0:Mdl)(v1):=(⟨⟨v0.vars,v0.va,v0.vc⟩,⟨v0.arrays.take v1,v0.aa,v0.ac⟩,0,0,.z,.z,0,0,.z,.z,.z,.z,.z,.z,0,0,0,0,0,0⟩:FC)
def Zgu (hE:ME q K g m)(h1:Cl q ⟨p,0+1,none⟩ (.pointer (some ⟨K.mp,0,none⟩)))(ok:Nd m)(ha:a<=m.arrays.length):CR G 259 [pt p,I64 a] (q) (I64 (m.vars.length+Wy (m.arrays.take a))):=by
 refine aE ntmps259 fun F cs=> ?_;have i:=hE.hB.2.2.2.2.1;have c:=ok.2.2.1.1;have b:=ok.2.2.2.1;refine gW (fun w s=>Kn.fact (hE.hM.le leA) (fun M k=>k.a.2.1) s) fun e=> ?_;refine Zz ?_;refine ldD 3 ?_ (hc:=(h1.le leA));refine Zz ?_;refine ldD 6 ?_ (hc:=((hE.hm.le leA) 0 _ rfl));refine Zz ?_;refine ldD 10 ?_ (hc:=(h1.le leA));refine Zz ?_;refine ldD 13 ?_ (hc:=((hE.hm.le leA) 1 _ rfl));refine Zz ?_;refine dW 21 (.agg (pgC (AE m a)).toArray) rfl (by have f:(m.arrays.take a).length=a:=(by rw [bB];omega);simp only [pgC,Sv.v,Sv.z,f,aT,cG]) ?_;refine Yf 17 (Lt (g:=(AE m a)) (by dsimp only;rw [lS];exact (hE.q.a.le leA).take a) Zy (by dsimp only;rw [bB];omega) (fun n d=>b.2 n (fA d))) ?_ (hL:=(hlA (h:=by repeat first|exact trivial|refine ⟨clA,?_⟩|refine ⟨(h1.le leA),?_⟩|refine ⟨(hE.hm.le leA) 0 _ rfl,?_⟩|refine ⟨(hE.hm.le leA) 1 _ rfl,?_⟩)));exact Vz q
def O9 (hE:ME q K g m)(ok:Nd m)(ha:a<m.arrays.length):CF G 209 [pt p,I64 a,I64 u] (spH p K who xa s ev::q) (RP (fun v q'=>((0<=u/\u<m.arrays.getD a 0)/\v= I64 (m.vars.length+Wy (m.arrays.take a)+u))/\q'=spH p K who xa s ev::q) (fun ch q'=>(¬ (0<=u/\u<m.arrays.getD a 0)/\ch= [P5 3])/\q'=spH p K who xa s ev::q)):=by
 refine aE ntmps209 fun F cs=> ?_;refine Td fun σ e w he=> ?_;subst w he
 have o:=hE.q;have b:=ok.2.2.2.1;have x:=ok.2.2.1.1;have n:=b.2 _ (aC ha);unfold Ym at n;have j:m.arrays.getD a 0=m.arrays[a]:=(by rw [aH,aB ha];rfl);rw [j];have d:=H9 (l:=m.arrays.take a) (k:=256) (fun y t=>by have:=b.2 y (fA t);exact this) Zw;rw [bB] at d;refine Yq (o.a.le leA) Zi fun ab ao e_=> ?_;have f:=o.a;have c:=hE.hm;unfold J0 at c;rw [e_] at f c;refine Zz ?_;refine' Yi ?_;refine Zp ?_ ?_<;>intro r
 . refine Zz ?_;refine Vj (aG _) (Rk (z:=3)) ?_ ?_
   . rintro _ _ ⟨rfl,rfl⟩;exact cZ func209 (dZ ⟨⟨(by first|omega|(simp at r;omega)),rfl⟩,rfl⟩) (U7 (σ:=σ) (e:=e) rfl rfl (by unfold mcL evL;exact leA))
   rintro _ _ ⟨⟩
 refine Zz ?_;apply bD (Zgu (p:=p) (K:=K) (g:=g) (m:=m) (a:=a) (hE.le leA) clA ok Zq);refine Zg ?_;exact ⟨_,(dC ⟨⟨(by first|omega|(simp at r;omega)),rfl⟩,rfl⟩),(U7 (σ:=σ) (e:=e) rfl rfl (by unfold mcL evL;exact leA))⟩
def mboth_ok (ho:10<=n/\n<=18)(hu:val u)(hz:val k):CF G 213 [I64 n,I64 u,I64 k] (q) (RP (fun v q'=>((Uf (n - 7) u k).2=0/\v= I64 (Uf (n - 7) u k).1)/\q'=q) (fun ch q'=>((Uf (n - 7) u k).2≠0/\ch= [P5 (Uf (n - 7) u k).2])/\q'=q)):=by
 refine aE ntmps213 fun F cs=> ?_;have i:=hu;have g:=hz;unfold val at i g;have e:n=10\/n=11\/n=12\/n=13\/n=14\/n=15\/n=16\/n=17\/n=18:=Zq;rcases e with rfl|rfl|rfl|rfl|rfl|rfl|rfl|rfl|rfl
 focus
  rw [show (10:Int) - 7=3 by decide]
 rotate_left
 focus
  rw [show (11:Int) - 7=4 by decide]
 rotate_left
 focus
  rw [show (12:Int) - 7=5 by decide]
 rotate_left
 focus
  rw [show (13:Int) - 7=6 by decide]
 rotate_left
 . rw [show (14:Int) - 7=7 by decide];refine Zz ?_;have a:Uf 7 u k=if val (u+k) then ((u+k),0) else (0,2):=by rfl
   refine Vj (aG _) (Mn (z:=(u+k)) (q:=q++F)) ?_ ?_
   . rintro _ _ ⟨⟨d,rfl⟩,rfl⟩;exact cZ func213 (dZ ⟨⟨by rw [a,if_neg d];decide,by rw [a,if_neg d]⟩,rfl⟩)
   rintro _ _ ⟨⟨c,rfl⟩,rfl⟩;refine Zm (q) ?_;exact (dC ⟨⟨by rw [a,if_pos c],by rw [a,if_pos c]⟩,rfl⟩)
 . rw [show (15:Int) - 7=8 by decide];refine Zz ?_;have a:Uf 8 u k=if val (u - k) then ((u - k),0) else (0,2):=by rfl
   refine Vj (aG _) (Mn (z:=(u - k)) (q:=q++F)) ?_ ?_
   . rintro _ _ ⟨⟨d,rfl⟩,rfl⟩;exact cZ func213 (dZ ⟨⟨by rw [a,if_neg d];decide,by rw [a,if_neg d]⟩,rfl⟩)
   rintro _ _ ⟨⟨c,rfl⟩,rfl⟩;refine Zm (q) ?_;exact (dC ⟨⟨by rw [a,if_pos c],by rw [a,if_pos c]⟩,rfl⟩)
 . rw [show (16:Int) - 7=9 by decide];have j:=Zyx hu hz;refine rn [15,1008,6,1014,6,1020,6,1026,6,1032,6,1038,6,2044,5] ?_;apply Va (Pu.mul rfl rfl Zq Zq);have a:Uf 9 u k=if val (u*k) then ((u*k),0) else (0,2):=by rfl
   refine Vj (aG _) (Mn (z:=(u*k)) (q:=q++F)) ?_ ?_
   . rintro _ _ ⟨⟨d,rfl⟩,rfl⟩;exact cZ func213 (dZ ⟨⟨by rw [a,if_neg d];decide,by rw [a,if_neg d]⟩,rfl⟩)
   rintro _ _ ⟨⟨c,rfl⟩,rfl⟩;refine Zm (q) ?_;exact (dC ⟨⟨by rw [a,if_pos c],by rw [a,if_pos c]⟩,rfl⟩)
 . rw [show (17:Int) - 7=10 by decide];have j:=Zyb (b:=k) hu;refine Zp ?_ ?_<;>intro f
   . refine Zz ?_;refine Vj (aG _) (Rk) ?_ ?_
     . rintro _ _ ⟨rfl,rfl⟩;exact cZ func213 (dZ ⟨⟨by simp [Uf,f],by simp [Uf,f]⟩,rfl⟩)
     rintro _ _ ⟨⟩
   refine rn [8,2054,5] ?_;apply Va (Zzx rfl rfl Zq);apply aX 57 (I64 (u.tdiv k)) rfl (aQ (Value.int .i64) (show IntKind.i64.wrap (u.tdiv k)=u.tdiv k from Ue Zq Zq));have a:Uf 10 u k=if val (u.tdiv k) then ((u.tdiv k),0) else (0,2):=by unfold Uf;rw [if_neg Zw,if_neg Zw,if_neg Zw,if_neg Zw,if_neg (fun h=>f h.2)];rfl
   refine Vj (aG _) (Mn (z:=(u.tdiv k)) (q:=q++F)) ?_ ?_
   . rintro _ _ ⟨⟨d,rfl⟩,rfl⟩;exact cZ func213 (dZ ⟨⟨by rw [a,if_neg d];decide,by rw [a,if_neg d]⟩,rfl⟩)
   rintro _ _ ⟨⟨c,rfl⟩,rfl⟩;refine Zm (q) ?_;exact (dC ⟨⟨by rw [a,if_pos c],by rw [a,if_pos c]⟩,rfl⟩)
 . rw [show (18:Int) - 7=11 by decide];have j:=Zyy (b:=k) hu;refine Zp ?_ ?_<;>intro f
   . refine Zz ?_;refine Vj (aG _) (Rk) ?_ ?_
     . rintro _ _ ⟨rfl,rfl⟩;exact cZ func213 (dZ ⟨⟨by simp [Uf,f],by simp [Uf,f]⟩,rfl⟩)
     rintro _ _ ⟨⟩
   refine rn [8,1054,6] ?_;apply Va (Pu.rem rfl rfl Zq);have a:Uf 11 u k=if val (u.tmod k) then ((u.tmod k),0) else (0,2):=by unfold Uf;rw [if_neg Zw,if_neg Zw,if_neg Zw,if_neg Zw,if_neg (fun h=>f h.2)];rfl
   refine Vj (aG _) (Mn (z:=(u.tmod k)) (q:=q++F)) ?_ ?_
   . rintro _ _ ⟨⟨d,rfl⟩,rfl⟩;exact cZ func213 (dZ ⟨⟨by rw [a,if_neg d];decide,by rw [a,if_neg d]⟩,rfl⟩)
   rintro _ _ ⟨⟨c,rfl⟩,rfl⟩;refine Zm (q) ?_;exact (dC ⟨⟨by rw [a,if_pos c],by rw [a,if_pos c]⟩,rfl⟩)
 all_goals
  refine Zz ?_;apply bD (Gi);refine Zm (q) ?_;exact (dC ⟨⟨by simp [Uf],by simp [Uf]<;>first|rfl|(congr 1;rw [cD];simp)⟩,rfl⟩)
end
def V6 {n}(h:n<s.ths.length)(t:MTh):(s.put n t).th n=t:=by
 unfold MS.th MS.put;rw [aH,jA h];rfl
def Jg (s:MS)(n:Nat)(t u:MTh):(s.put n t).put n u=s.put n u:=by unfold MS.put;simp
def Vh (s:MS)(n:Nat)(t:MTh):(s.put n t).ths.length=s.ths.length:=by unfold MS.put;simp
def Cc (i:Ins)(t:MTh):MTh:=if i.c=19 then { t with pc:=i.a } else if decide (Z4 t.stk=0)=decide (i.c=20) then { t.pop with pc:=i.a } else t.pop
def Tp (kd:Int)(i:Ins)(t:MTh)(ev:PEv):PEv:=if i.c=20/\(kd=4\/kd=5) then { ev with value:=Z4 t.stk } else ev
section
variable {q:List HP}{k:Int}{x:Stm}
def mjump_ok (hX:CellsAt q xb xf (stC x))(hw:who<s.ths.length)(hc:i.c=19\/i.c=20\/i.c=21)(hl:i.c≠19->1<=(s.th who).stk.length/\(s.th who).stk.length<=1000000):CF G 212 [pt p,.agg (Y7 i).toArray] (spH p K who ⟨xb,xf,none⟩ s ev::q) (Ret fun v q'=>q'=spH p K who ⟨xb,xf,none⟩ (s.put who (Cc i (s.th who))) (Tp x.er.kd i (s.th who) ev)::q):=by
 refine aE ntmps212 fun F cs=> ?_;obtain ⟨t,ht⟩:=lV (s.th who);rw [<-ht] at hl|-;obtain ⟨ic,r,ib,w⟩:=i;dsimp only at hc hl;obtain ⟨kd,l0⟩:=lV x.er.kd;rw [<-l0];have h0:Cl q ⟨xb,xf,none⟩ (I64 kd):=(by have:=hX 0 (I64 kd) (by rw [l0];cases x;rfl);simpa using this);have m0:(ic=19)\/(ic=20/\(kd=4\/kd=5))\/(ic=20/\ ¬ (kd=4\/kd=5))\/ic=21:=Zq;rcases m0 with rfl|⟨rfl,hk⟩|⟨rfl,hk⟩|rfl
 . rw [show Cc ⟨19,r,ib,w⟩ t= { t with pc:=r } from rfl,show Tp kd ⟨19,r,ib,w⟩ t ev=ev from if_neg (by rintro ⟨h,_⟩;exact aV h (show ¬ (19:Int)=20 by decide))];refine kL hw fun σ ga a e hs he=> ?_;subst hs he;have e0:=Y5 a
   rw [e0] at ht;subst ht;apply xo 2;refine Gx fun n1=> ?_
   refine rn [9,0,2,1008,7,0,1,3,4] ?_;apply Yf 1 (Je (p:=p) (who:=who) (ga:=ga) (m:=σ.ths.length) (c:=σ.hc) clA clA a);apply dd [4,5,6];refine gL 7 rfl (Wq (g:=ga) (f:=mtC) (l:=σ.ths.set who σ.ths[who]) (u:=({ σ.ths[who] with t:= { σ.ths[who].t with pc:=r } } :MTC)) (n:=who) (k:=3) (j:=(who:Int)) rfl rfl sizeOf3 Zr rfl (by rw [aR];exact a) rfl (by rw [aY];rfl) rfl rfl Zj) ?_;refine kk0 ?_;rw [eV];refine XD.nil ?_;refine Dn (spH p K who ⟨xb,xf,none⟩ (σ.er.put who { σ.ths[who].t with pc:=r }) e.e::q) func212 (Pj results212) ⟨_,rfl,rfl⟩ (U4 (σ:=σ) (ga:=ga) (x:=({ σ.ths[who] with t:= { σ.ths[who].t with pc:=r } } :MTC)) (e:=e) a rfl rfl leA)
 . replace hl:=hl (show ¬ (20:Int)=19 by decide);rw [show Tp kd ⟨20,r,ib,w⟩ t ev= { ev with value:=Z4 t.stk } from if_pos ⟨rfl,hk⟩];rw [show Cc ⟨20,r,ib,w⟩ t=if decide (Z4 t.stk=0)=true then { t.pop with pc:=r } else t.pop from if_neg (show ¬ (20:Int)=19 by decide)];apply xo 2;refine Gx fun n1=> ?_
   refine rn [9,0,2,2008,4] ?_;refine Zv Zj (Q9 hw (by rw [<-ht];exact hl)) ?_;rintro _ _ ⟨rfl,rfl⟩;rw [<-ht];obtain ⟨s1,b⟩:=lV (s.put who t.pop);rw [<-b];refine Iv fun σ e hs he=> ?_;subst hs he
   refine rn [7,0,7,0,2] ?_;apply fL [20,4,5,3,0];apply Vb 19 39 20 rfl
   . intro o c0;have k0:=sp o;refine rn [3,0,2] ?_;refine ld ?_ (hc:=(h0.le leA));apply oo 2;apply fL [29,20,4,5,3,0];apply V9 9 38 29 rfl
     . intro d b0;have j0:=sp d;refine rn [3,0,2] ?_;refine ld ?_ (hc:=(h0.le leA));apply oo 2;exact Z2 b0 ⟨orF d,Yt⟩
     . intro d b0;have j0:=sp d;apply oo 9;exact Z2 b0 ⟨orT d,Yt⟩
     apply oo 1;exact Z2 c0 ⟨Rb o,Yt⟩
   . intro o c0;have k0:=sp o;apply oo 19;exact Z2 c0 ⟨Rf o,Yt⟩
   apply ox 1;refine X.part 39 rfl ?_ ?_<;>intro h1
   . replace h1:=sp h1;refine rn [7,0,5] ?_;refine xp 45 ?_ ?_<;>intro h2
     . rw [if_pos (by first|exact h2|simpa using h2)];have d0:who<σ.er.ths.length:=(by rw [b,Vh];exact hw);have a0:σ.er.th who=t.pop:=(by rw [b];exact V6 hw _);have g0: ∀ u,σ.er.put who u=s.put who u:=fun u=>(by rw [b];exact Jg _ _ _ _)
       obtain ⟨i0,z⟩: ∃ y,y=(({ e with e:= { e.e with value:=Z4 t.stk } } :EvC).e):=⟨_,rfl⟩;refine cE (q':=spH p K who ⟨xb,xf,none⟩ σ.er i0::_) (U7 (σ:=σ) (e:= { e with e:= { e.e with value:=Z4 t.stk } }) rfl z.symm (by unfold mcL evL;exact leA)) ?_;rw [<-g0];obtain ⟨s2,f0⟩:=lV σ.er;rw [<-f0] at d0 a0|-;clear g0 b f0;refine kL d0 fun σ ga a e hs he=> ?_;subst hs;have e0:=Y5 a;rw [e0] at a0
       refine rn [1,0,1,3,4] ?_;apply Yf 1 (Je (p:=p) (who:=who) (ga:=ga) (m:=σ.ths.length) (c:=σ.hc) clA clA a);apply dd [4,5,6];refine gL 7 rfl (Wq (g:=ga) (f:=mtC) (l:=σ.ths.set who σ.ths[who]) (u:=({ σ.ths[who] with t:= { σ.ths[who].t with pc:=r } } :MTC)) (n:=who) (k:=3) (j:=(who:Int)) rfl rfl sizeOf3 Zr rfl (by rw [aR];exact a) rfl (by rw [aY];rfl) rfl rfl Zj) ?_;refine kk0 ?_;rw [eV];refine XD.nil ?_;rw [<-a0];refine Dn (spH p K who ⟨xb,xf,none⟩ (σ.er.put who { σ.ths[who].t with pc:=r }) e.e::q) func212 (Pj results212) ⟨_,rfl,by rw [he,z]⟩ (U4 (σ:=σ) (ga:=ga) (x:=({ σ.ths[who] with t:= { σ.ths[who].t with pc:=r } } :MTC)) (e:=e) a rfl rfl leA)
     rw [if_neg (by first|exact h2|simpa using h2)];apply xx 2;refine Dn (spH p K who ⟨xb,xf,none⟩ σ.er (({ e with e:= { e.e with value:=Z4 t.stk } } :EvC).e)::q) func212 (Pj results212) ⟨_,rfl,by rw [b]⟩ (U7 (σ:=σ) (e:= { e with e:= { e.e with value:=Z4 t.stk } }) rfl rfl (by unfold mcL evL;exact leA))
   exact aV (sp h1) (by rcases hk with h|h<;>simp [h])
 focus
  replace hl:=hl (show ¬ (20:Int)=19 by decide);rw [show Tp kd ⟨20,r,ib,w⟩ t ev=ev from if_neg (by rintro ⟨h,h2⟩;first|exact aV h (show ¬ (21:Int)=20 by decide)|exact hk h2)];rw [show Cc ⟨20,r,ib,w⟩ t=if decide (Z4 t.stk=0)=true then { t.pop with pc:=r } else t.pop from if_neg (show ¬ (20:Int)=19 by decide)]
 rotate_left
 focus
  replace hl:=hl (show ¬ (21:Int)=19 by decide);rw [show Tp kd ⟨21,r,ib,w⟩ t ev=ev from if_neg (by rintro ⟨h,h2⟩;first|exact aV h (show ¬ (21:Int)=20 by decide)|exact hk h2)];rw [show Cc ⟨21,r,ib,w⟩ t=if decide (Z4 t.stk=0)=false then { t.pop with pc:=r } else t.pop from if_neg (show ¬ (21:Int)=19 by decide)]
 all_goals
  apply xo 2;refine Gx fun n1=> ?_
  refine rn [9,0,2,2008,4] ?_;refine Zv Zj (Q9 hw (by rw [<-ht];exact hl)) ?_;rintro _ _ ⟨rfl,rfl⟩;rw [<-ht];obtain ⟨s1,b⟩:=lV (s.put who t.pop);rw [<-b];refine Iv fun σ e hs he=> ?_;subst hs he
  refine rn [7,0,7,0,2] ?_;apply fL [20,4,5,3,0];apply Vb 19 39 20 rfl
  . intro o c0;have k0:=sp o;refine rn [3,0,2] ?_;refine ld ?_ (hc:=(h0.le leA));apply oo 2;apply fL [29,20,4,5,3,0];apply V9 9 38 29 rfl
    . intro d b0;have j0:=sp d;refine rn [3,0,2] ?_;refine ld ?_ (hc:=(h0.le leA));apply oo 2;exact Z2 b0 ⟨orF d,Yt⟩
    . intro d b0;have j0:=sp d;apply oo 9;exact Z2 b0 ⟨orT d,Yt⟩
    apply oo 1;exact Z2 c0 ⟨Rb o,Yt⟩
  . intro o c0;have k0:=sp o;apply oo 19;exact Z2 c0 ⟨Rf o,Yt⟩
  apply ox 1;refine xp 39 ?_ ?_<;>intro h1
  . exact aV h1 (by first|omega|simp_all)
  apply xx 6;refine xp 45 ?_ ?_<;>intro h2
  . rw [if_pos (by first|exact h2|simpa using h2)];have d0:who<σ.er.ths.length:=(by rw [b,Vh];exact hw);have a0:σ.er.th who=t.pop:=(by rw [b];exact V6 hw _);have g0: ∀ u,σ.er.put who u=s.put who u:=fun u=>(by rw [b];exact Jg _ _ _ _)
    obtain ⟨i0,z⟩:=lV (e.e);refine cE (q':=spH p K who ⟨xb,xf,none⟩ σ.er i0::_) (U7 (σ:=σ) (e:=e) rfl z.symm (by unfold mcL evL;exact leA)) ?_;rw [<-g0];obtain ⟨s2,f0⟩:=lV σ.er;rw [<-f0] at d0 a0|-;clear g0 b f0;refine kL d0 fun σ ga a e hs he=> ?_;subst hs;rw [Y5 a] at a0
    refine rn [1,0,1,3,4] ?_;apply Yf 1 (Je (p:=p) (who:=who) (ga:=ga) (m:=σ.ths.length) (c:=σ.hc) clA clA a);apply dd [4,5,6];refine gL 7 rfl (Wq (g:=ga) (f:=mtC) (l:=σ.ths.set who σ.ths[who]) (u:=({ σ.ths[who] with t:= { σ.ths[who].t with pc:=r } } :MTC)) (n:=who) (k:=3) (j:=(who:Int)) rfl rfl sizeOf3 Zr rfl (by rw [aR];exact a) rfl (by rw [aY];rfl) rfl rfl Zj) ?_;refine kk0 ?_;rw [eV];refine XD.nil ?_;rw [<-a0];refine Dn (spH p K who ⟨xb,xf,none⟩ (σ.er.put who { σ.ths[who].t with pc:=r }) e.e::q) func212 (Pj results212) ⟨_,rfl,by rw [he,z]⟩ (U4 (σ:=σ) (ga:=ga) (x:=({ σ.ths[who] with t:= { σ.ths[who].t with pc:=r } } :MTC)) (e:=e) a rfl rfl leA)
  rw [if_neg (by first|exact h2|simpa using h2)];apply xx 2;refine Dn (spH p K who ⟨xb,xf,none⟩ σ.er (e.e)::q) func212 (Pj results212) ⟨_,rfl,by rw [b]⟩ (U7 (σ:=σ) (e:=e) rfl rfl (by unfold mcL evL;exact leA))
end
def set_mem {l:List Int}{i}{v x}(h:x∈l.set i v):x∈l\/x=v:=cT h
def Te {s}{m t}(h:s.ok N):(Vv s m t).1.ok N:=by
 unfold Vv;split
 . split
   . split
     . refine ⟨by simpa using h.no,h.nc,h.nh,fun o a=> ?_,h.c,h.h⟩;rcases set_mem a with a|rfl
       . exact h.o o a
       omega
     exact h
   exact h
 exact h
def J6 (main:Int)(m:Mdl)(d:Int):MTh:=
 let t:MTh:=⟨d,1,Vr main d,0,List.replicate ((m.threads.map (fun x:Cod=>x.locals)).getD (Vr main d).toNat 0).toNat 0, [], []⟩
 if (t.at m).c=34 then { t with st:=4 } else t
section
variable {q:List HP}{k:Int}{x:Stm}
def Xq (hE:ME q K g m)(gc:GC q)(ge:GE q)(h0:Cl q ⟨p,0,none⟩ (.pointer (some ⟨K.pp,0,none⟩)))(h1:Cl q ⟨p,0+1,none⟩ (.pointer (some ⟨K.mp,0,none⟩)))(hk:Ho m=0)(hn:0<=n/\n<g.ths.l.length)(hb:g.ths.l.length<=1000000)(hpl:0<=Vr g.main n/\Vr g.main n<m.threads.length)(hin:0<(m.threads[(Vr g.main n).toNat]'Zq).ins.length):CF G 54 (Ak p n) (q) (Ret fun v q'=> ∃ T:MTC,T.t=J6 g.main m n/\v= .agg (mtC T).toArray/\q'=mtH T::q):=by
 refine aE ntmps54 fun F cs=> ?_;obtain ⟨c,hc⟩:=aU hpl.1;obtain ⟨u,d⟩:=lV (J6 g.main m n);rw [<-d];unfold J6 at d;rw [hc] at d;have h:c<m.threads.length:=Zq;have i:(m.threads.map (fun x:Cod=>x.locals)).getD (c:Int).toNat 0=m.threads[c].locals:=(by rw [aH,bZ,cG,aB h];rfl);rw [i] at d;dsimp only at d;replace hin:0<m.threads[c].ins.length:=(by have:=hin;simp only [hc,cG] at this;exact this);refine Zo zeroValue147 fun s=> ?_
 refine Zz ?_;refine ld ?_ (hc:=(h0.le leA));refine Zz ?_;apply H2 (us:=pgC g) isAgg29 sizeOf29 rfl (hE.hp.le leA);refine Zz ?_;apply bD (O0 (g:=g) hn hb);rw [hc];refine Zz ?_;refine ld ?_ (hc:=(h1.le leA));refine Zz ?_;apply H2 (us:=J0 m) isAgg109 sizeOf109 rfl (hE.hm.le leA);refine Zz ?_;apply Zv (aG _) (vNew_ok (th:=c) (gc.le leA) (ge.le leA) (hE.q.le leA) hk h);rintro _ _ ⟨f,e,rfl,rfl⟩;refine Zo zeroValue145 fun r=> ?_
 refine Zo zeroValue147 fun o=> ?_
 refine Zz ?_;refine bD (Sf (p:=p) (K:=K) (g:=g) (m:=m) (c:=o) (a:=0) (k:=(c:Int)) (n:=0) (hE.le leA) (h1.le leA) clA clA ⟨Zq,Zq⟩ ⟨Zq,by simp only [cG];omega⟩) ?_;refine Zp ?_ ?_<;>intro j
 . rw [if_pos (by exact j)] at d;refine Zg ?_;exact ⟨_,⟨_,rfl,(⟨⟨n,4,(c:Int),0,List.replicate m.threads[c].locals.toNat 0, [], []⟩,f,e,none,0,none,0⟩:MTC),by rw [d],by simp only [mtC,dA,aT];rfl,rfl⟩,(aK (b:=lsH I64 2 f e (List.replicate m.threads[c].locals.toNat 0)::(q++F)) leA ((aK (bC (aG _) (aK (Yy I64 2 _) (cC _ (Yy I64 3 _))))) (Zh (mtL (⟨⟨n,4,(c:Int),0,List.replicate m.threads[c].locals.toNat 0, [], []⟩,f,e,none,0,none,0⟩:MTC)) _)))⟩
 rw [if_neg (by exact j)] at d;refine Zg ?_;exact ⟨_,⟨_,rfl,(⟨⟨n,1,(c:Int),0,List.replicate m.threads[c].locals.toNat 0, [], []⟩,f,e,none,0,none,0⟩:MTC),by rw [d],by simp only [mtC,dA,aT];rfl,rfl⟩,(aK (b:=lsH I64 2 f e (List.replicate m.threads[c].locals.toNat 0)::(q++F)) leA ((aK (bC (aG _) (aK (Yy I64 2 _) (cC _ (Yy I64 3 _))))) (Zh (mtL (⟨⟨n,1,(c:Int),0,List.replicate m.threads[c].locals.toNat 0, [], []⟩,f,e,none,0,none,0⟩:MTC)) _)))⟩
abbrev RM (p:Nat)(K:MK)(who:Nat)(xa:Addr)(R:MS×PEv×Int)(q:List HP):Wx.Uc:=RP (fun v q'=>R.2.2=0/\q'=spH p K who xa R.1 R.2.1::q) (fun ch q'=>(R.2.2≠0/\ch= [P5 R.2.2])/\q'=spH p K who xa R.1 R.2.1::q)
def Ej (s:MS)(who:Nat)(mu:Int)(ev:PEv):MS×PEv×Int:=
 let s1:MS:= { s with sy:=(Jp s.sy mu who).1 }
 if (Jp s.sy mu who).2.1=true then (s1,ev.sn [(1,mu,0)],0) else (s1,ev,4)
def Rs (s:MS)(who:Nat)(mu:Int)(ev:PEv):MS×PEv×Int:=
 let s1:MS:= { s with sy:=(Vv s.sy mu who).1 }
 if (Vv s.sy mu who).2≠0 then (s1,ev,4) else (s1,ev.sn [(2,mu,0)],0)
def Cy (s:MS)(who:Nat)(co mu:Int)(ev:PEv):MS×PEv×Int:=
 if ev.woke=true then Ej s who mu ev
 else
  let r:=Rs s who mu ev
  if r.2.2≠0 then r
  else (({ r.1 with sy:=(H4 r.1.sy co who).1 } :MS).put who { r.1.th who with st:=2,pc:=(r.1.th who).pc - 2 },r.2.1,0)
def Hw (s:MS)(co t:Int)(ev:PEv):MS×PEv:=(s.put t.toNat { s.th t.toNat with st:=3 },ev.sn [(3,co,t)])
def Zjc (hys:s.sy.ok N)(hN:N<=1000000000)(hl:ev.syn.length<=4000000000000):CF G 260 [pt p,I64 n] (spH p K who xa s ev::q) (RM p K who xa (Ej s who n ev) q):=by
 refine aE ntmps260 fun F cs=> ?_;refine Td fun σ e c d=> ?_;subst c d
 obtain ⟨R,a⟩:=lV (Ej σ.er who n e.e);rw [<-a];unfold Ej at a;dsimp only at a;rw [show σ.er.sy=σ.sy from rfl] at a hys;refine Zz ?_;apply Q2 10 (Lock_Y (m:=n) (t:=(who:Int)) hys Zq);refine kc0 ?_;refine Zp ?_ ?_<;>intro b
 . rw [if_neg (by first|exact b|(rw [b];decide)|(simp at b;rw [b];decide))] at a;refine Zz ?_;refine Vj (aG _) (Rk (z:=4)) ?_ ?_
   . rintro _ _ ⟨rfl,rfl⟩;exact cZ (q':=spH p K who xa (({ σ with sy:=(Jp σ.sy n who).1 } :MC)).er e.e::q) func260 (dZ (by rw [a];exact ⟨⟨(show (4:Int)≠0 by decide),rfl⟩,rfl⟩)) (U7 (σ:=({ σ with sy:=(Jp σ.sy n who).1 } :MC)) (e:=e) rfl rfl (by unfold mcL evL;exact leA))
   rintro _ _ ⟨⟩
 rw [if_pos (by first|exact b|(simpa using b))] at a;refine Zz ?_;refine Zv (U7 (σ:=({ σ with sy:=(Jp σ.sy n who).1 } :MC)) (e:=e) rfl rfl (by unfold mcL evL;exact leA)) (Kc (s:=(({ σ with sy:=(Jp σ.sy n who).1 } :MC)).er) (ev:=e.e) (k:=1) (sl:=n) (ot:=0) hl) ?_;rintro _ _ rfl;refine Zg ?_;exact ⟨_,(dC (by rw [a];exact ⟨rfl,rfl⟩)),leA⟩
def Zjt (hys:s.sy.ok N)(hN:N<=1000000000)(hl:ev.syn.length<=4000000000000):CF G 261 [pt p,I64 n] (spH p K who xa s ev::q) (RM p K who xa (Rs s who n ev) q):=by
 refine aE ntmps261 fun F cs=> ?_;refine Td fun σ e c d=> ?_;subst c d
 obtain ⟨R,a⟩:=lV (Rs σ.er who n e.e);rw [<-a];unfold Rs at a;dsimp only at a;rw [show σ.er.sy=σ.sy from rfl] at a hys;refine Zz ?_;apply Q2 10 (Unlock_Y (m:=n) (t:=(who:Int)) hys Zq);refine kc0 ?_;refine Zp ?_ ?_<;>intro b
 . rw [if_pos (by first|exact b|(rw [b];decide)|(simp at b;rw [b];decide))] at a;refine Zz ?_;refine Vj (aG _) (Rk (z:=4)) ?_ ?_
   . rintro _ _ ⟨rfl,rfl⟩;exact cZ (q':=spH p K who xa (({ σ with sy:=(Vv σ.sy n who).1 } :MC)).er e.e::q) func261 (dZ (by rw [a];exact ⟨⟨(show (4:Int)≠0 by decide),rfl⟩,rfl⟩)) (U7 (σ:=({ σ with sy:=(Vv σ.sy n who).1 } :MC)) (e:=e) rfl rfl (by unfold mcL evL;exact leA))
   rintro _ _ ⟨⟩
 rw [if_neg (by first|exact b|(simpa using b))] at a;refine Zz ?_;refine Zv (U7 (σ:=({ σ with sy:=(Vv σ.sy n who).1 } :MC)) (e:=e) rfl rfl (by unfold mcL evL;exact leA)) (Kc (s:=(({ σ with sy:=(Vv σ.sy n who).1 } :MC)).er) (ev:=e.e) (k:=2) (sl:=n) (ot:=0) hl) ?_;rintro _ _ rfl;refine Zg ?_;exact ⟨_,(dC (by rw [a];exact ⟨rfl,rfl⟩)),leA⟩
def mtH_same {l:List MTC}{n}{y}(hn:n<l.length)(h:y=mtH l[n]):(l.map mtH).set n y=l.map mtH:=by
 rw [h,<-fN mtH (h:=by simpa using hn),eG]
def Zjn (hc:c<s.ths.length)(hl:ev.syn.length<=4000000000000):CF G 264 [pt p,I64 k,I64 c] (spH p K who xa s ev::q) (Ret fun v q'=>q'=spH p K who xa (Hw s k c ev).1 (Hw s k c ev).2::q):=by
 refine aE ntmps264 fun F cs=> ?_;obtain ⟨R,a⟩:=lV (Hw s k c ev);rw [<-a];unfold Hw at a;rw [show ((c:Nat):Int).toNat=c from rfl] at a;refine Td fun σ e d h=> ?_;subst d h
 replace hc:c<σ.ths.length:=(by rw [gS] at hc;exact hc);rw [Y5 hc] at a;refine Vq (l:=σ.ths) Zq fun ga b=> ?_;refine Zz ?_;refine eN (q':=rsH mtC 7 147 (some ⟨ga,0,none⟩) σ.hc σ.ths::_) (by rw [<-b];exact Zj) ?_;apply cU (Wq (g:=ga) (f:=mtC) (l:=σ.ths) (u:=({ σ.ths[c] with t:= { σ.ths[c].t with st:=3 } } :MTC)) (n:=c) (k:=1) (j:=(c:Int)) rfl rfl sizeOf143 Zr rfl hc rfl rfl rfl rfl Zj);rintro _ _ ⟨rfl,rfl⟩;rw [<-b];refine Zz ?_;refine Zv (U7 (σ:=({ σ with ths:=σ.ths.set c ({ σ.ths[c] with t:= { σ.ths[c].t with st:=3 } } :MTC) } :MC)) (e:=e) rfl rfl (by unfold mcL evL msP mcC;simp only [aR];rw [show (σ.ths.set c ({ σ.ths[c] with t:= { σ.ths[c].t with st:=3 } } :MTC)).map mtH=σ.ths.map mtH by rw [iF];exact mtH_same hc rfl];exact leA)) (Kc (s:=(({ σ with ths:=σ.ths.set c ({ σ.ths[c] with t:= { σ.ths[c].t with st:=3 } } :MTC) } :MC)).er) (ev:=e.e) (k:=3) (sl:=k) (ot:=(c:Int)) hl) ?_;rintro _ _ rfl;refine Zm (spH p K who xa (({ σ with ths:=σ.ths.set c ({ σ.ths[c] with t:= { σ.ths[c].t with st:=3 } } :MTC) } :MC)).er (e.e.sn [(3,k,(c:Int))])::q) ?_;exact ⟨_,rfl,by rw [a,Zhr σ c ({ σ.ths[c] with t:= { σ.ths[c].t with st:=3 } } :MTC)]⟩
def mwait_ok (hys:s.sy.ok N)(hN:N<=1000000000)(hl:ev.syn.length<=4000000000000)(hw:who<s.ths.length)(hpc: -1000000<=(s.th who).pc/\(s.th who).pc<=1000000000):CF G 262 [pt p,I64 n,I64 k] (spH p K who xa s ev::q) (RM p K who xa (Cy s who n k ev) q):=by
 refine aE ntmps262 fun F cs=> ?_;obtain ⟨R,d⟩:=lV (Cy s who n k ev);rw [<-d];unfold Cy at d;refine Td fun σ e hs he=> ?_;subst hs he
 obtain ⟨wk,o⟩:=lV e.e.woke;rw [<-o] at d;refine Wg ?_ ?_<;>intro r
 . replace r:wk=true:=by rw [o];simpa using r
   refine Zz ?_;rw [if_pos r] at d;refine Vj (U7 (σ:=σ) (e:=e) rfl rfl (by unfold mcL evL;exact leA)) (Zjc (s:=σ.er) (ev:=e.e) (n:=k) hys hN hl) ?_ ?_
   . rintro _ _ ⟨⟨i,rfl⟩,rfl⟩;exact cZ func262 (dZ (by rw [d];exact ⟨⟨i,rfl⟩,rfl⟩))
   rintro _ _ ⟨i,rfl⟩;refine Zz ?_;obtain ⟨z,b⟩:=lV (Ej σ.er who k e.e);rw [<-b] at d i|-;refine Zg ?_;exact ⟨_,(dC (by rw [d];exact ⟨i,rfl⟩)),leA⟩
 replace r:wk=false:=by rw [o];simpa using r
 refine Zz ?_;rw [if_neg (by rw [r];decide)] at d;dsimp only at d;obtain ⟨z,b⟩:=lV (Rs σ.er who k e.e);rw [<-b] at d;refine Vj (U7 (σ:=σ) (e:=e) rfl rfl (by unfold mcL evL;exact leA)) (Zjt (s:=σ.er) (ev:=e.e) (n:=k) hys hN hl) ?_ ?_
 . rintro _ _ ⟨⟨i,rfl⟩,rfl⟩;rw [<-b] at i|-;exact cZ func262 (dZ (by rw [d,if_pos i];exact ⟨⟨i,rfl⟩,rfl⟩))
 rintro _ _ ⟨i,rfl⟩;rw [<-b] at i|-;rw [if_neg (fun k=>k i)] at d;obtain ⟨v,w,y⟩:z.1.sy.ok N/\who<z.1.ths.length/\z.1.th who=σ.er.th who:=(by rw [b];unfold Rs;dsimp only;split<;>exact ⟨Te hys,hw,rfl⟩);rw [<-y] at hpc;obtain ⟨s2,e2,z2⟩:=z;dsimp only at v w hpc d|-;clear b y;refine XO.spF w fun a ga h e3 hs he=> ?_;subst hs he;rw [Y5 h] at hpc d
 refine Zz ?_;apply Q2 10 (Wait_Y (k:=n) (t:=(who:Int)) (N:=N) (s:=a.sy) v Zq);refine kc0 ?_;refine Zz ?_;refine Wb (Je (p:=p) (who:=who) (ga:=ga) (m:=a.ths.length) (c:=a.hc) clA clA h) ?_;refine cU (Wq (g:=ga) (f:=mtC) (l:=a.ths.set who a.ths[who]) (u:=({ a.ths[who] with t:= { a.ths[who].t with st:=2 } } :MTC)) (n:=who) (k:=1) (j:=(who:Int)) rfl rfl sizeOf143 Zr rfl (by rw [aR];exact h) rfl (by rw [aY];rfl) rfl rfl Zj) ?_;rintro _ _ ⟨rfl,rfl⟩;rw [eV];refine Zz ?_;refine ld ?_ (hc:=(cX (n:=who) (bJ _) leA Zr (show who<(a.ths.set who ({ a.ths[who] with t:= { a.ths[who].t with st:=2 } } :MTC)).length by rw [aR];exact h) rfl 3 _ (by rw [aY];rfl)));refine Zz ?_;refine cU (Wq (g:=ga) (f:=mtC) (l:=a.ths.set who ({ a.ths[who] with t:= { a.ths[who].t with st:=2 } } :MTC)) (u:=({ a.ths[who] with t:= { a.ths[who].t with st:=2,pc:=a.ths[who].t.pc - 2 } } :MTC)) (n:=who) (k:=3) (j:=(who:Int)) rfl rfl sizeOf3 Zr rfl (by rw [aR];exact h) rfl (by rw [aY];rfl) rfl rfl Zj) ?_;rintro _ _ ⟨rfl,rfl⟩;rw [eV];refine Zm (spH p K who xa ((({ a with sy:=(H4 a.sy n who).1 } :MC)).er.put who (({ a.ths[who] with t:= { a.ths[who].t with st:=2,pc:=a.ths[who].t.pc - 2 } } :MTC)).t) e3.e::q) ?_ (hq:=(U4 (σ:=({ a with sy:=(H4 a.sy n who).1 } :MC)) (ga:=ga) (x:=({ a.ths[who] with t:= { a.ths[who].t with st:=2,pc:=a.ths[who].t.pc - 2 } } :MTC)) (e:=e3) h rfl rfl leA));exact (dC (by rw [d];exact ⟨rfl,rfl⟩))
end
end Go.Proofs.YtadahhbefdnabaaGreatDoor
