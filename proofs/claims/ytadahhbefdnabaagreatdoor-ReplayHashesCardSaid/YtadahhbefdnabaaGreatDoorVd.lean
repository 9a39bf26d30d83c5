/- Contracts. -/
import Derived.Test.YtadahhbefdnabaaGreatDoorVc
set_option maxHeartbeats 16000000
set_option maxRecDepth 100000
set_option linter.all false
namespace Go.Proofs.YtadahhbefdnabaaGreatDoor
open Go Go.RowKit Wx Go.Proofs.Tryz
attribute [local irreducible] lsH rsH stars
variable {G w:World}{q q1 q2 q0:List HP}{i k B N:Nat}{r ts:List Tk}{ln cl pl pc slot:Int}{d:PDec}{nm wt:ByteArray}{e:Ex}{ix:PEx}{loc:Bool}{p:PE}{M M':Hp}{P:Program}{fr:Fc}{Q:Yw}{todo:List Item}{ds:List Deferred}{cs:List Frame}
theorem lettI (c:UInt8):(decide (97<=(c.toNat:Int)) && decide ((c.toNat:Int)<=122))=Zz7 c:=by rw [cN];simp [Zz7];omega
theorem digI (c:UInt8):(decide (48<=(c.toNat:Int)) && decide ((c.toNat:Int)<=57))=Jo c:=by rw [cN];simp [Jo];omega
theorem Zki {l:Bs}{n:Nat}(h:n<l.length):Rf (l.drop n)=if By (l.getD n 0)=true then Rf (l.drop (n+1))+1 else 0:=by
 rw [aP h,gD h];unfold Rf;rw [lG];split<;>simp
theorem runS_end {l:Bs}{n:Nat}(h:l.length<=n):Rf (l.drop n)=0:=by rw [cL h];rfl
theorem F2 (l:Bs):Rf l<=l.length:=by unfold Rf;exact (List.takeWhile_sublist _).length_le
section
variable {s:ByteArray}{c:UInt8}{n:Nat}
theorem Ey:CallF prog G 275 [.int .u8 (c.toNat:Int)] (q) (Ret fun v q'=>v= .bool (Zz7 c)/\q'=q):=by
 refine aB func275 ntmps275 rfl fun F cs=> ?_;refine xo 9 ?_;refine bB [5,2,0] ?_;apply Zg 3 8 5 rfl
 . intro a b;have d:=sp a;refine oo 3 ?_;exact Zz b ⟨Yi a,Zw⟩
 . intro a b;have d:=sp a;refine oo 3 ?_;exact Zz b ⟨Yl a,Zw⟩
 refine ox 2 ?_;refine Zq (q) func275 (Zf results275 rfl) ⟨_,rfl,cB (lettI c),rfl⟩
theorem Dp:CallF prog G 270 [.int .u8 (c.toNat:Int)] (q) (Ret fun v q'=>v= .bool (Jo c)/\q'=q):=by
 refine aB func270 ntmps270 rfl fun F cs=> ?_;refine xo 9 ?_;refine bB [5,2,0] ?_;apply Zg 3 8 5 rfl
 . intro a b;have d:=sp a;refine oo 3 ?_;exact Zz b ⟨Yi a,Zw⟩
 . intro a b;have d:=sp a;refine oo 3 ?_;exact Zz b ⟨Yl a,Zw⟩
 refine ox 2 ?_;refine Zq (q) func270 (Zf results270 rfl) ⟨_,rfl,cB (digI c),rfl⟩
theorem run_ok (hn:n<=s.size)(h63:s.size<=65536):CallF prog G 269 [.string s,I64 n] (q) (Ret fun v q'=>v= I64 (Rf ((bs s).drop n):Nat)/\q'=q):=by
 refine aB func269 ntmps269 rfl fun F cs=> ?_;refine xx 10 ?_;refine aX (cC (fun (k:Nat)=>n+k<=s.size/\Rf ((bs s).drop n)=k+Rf ((bs s).drop (n+k))) (fun k=> [(5,I64 k),(0,.string s),(1,I64 n),(4,I64 0)]) (fun k=>(q++F)) (fun k=>s.size - k) (fun k b i=> ?_) 0 ⟨hn,by rw [dO];rfl⟩) Zn leA;try dsimp only at b i|-
 obtain ⟨l,a⟩:=b;have m:=Nf s;refine xo 10 ?_;refine bB [12,5,0,1,4] ?_;apply Zg 15 27 12 rfl
 . intro f h;have d:=sp f;refine oo 4 ?_;refine Vl (Wc rfl rfl underlying9 (by omega) (by omega)) ?_;refine aW 17 (.int .u8 (((bs s).getD (n+k) 0).toNat:Int)) rfl (rfl) ?_;refine bM call275 (Ey (c:=(bs s).getD (n+k) 0)) ?_;refine oo 1 ?_;refine bB [19,12,5,0,1,4] ?_;apply Zb 7 26 19 rfl
   . intro e g;have p:=sp e;refine oo 4 ?_;refine Vl (Wc rfl rfl underlying9 (by omega) (by omega)) ?_;refine aW 24 (.int .u8 (((bs s).getD (n+k) 0).toNat:Int)) rfl (rfl) ?_;refine bM call270 (Dp (c:=(bs s).getD (n+k) 0)) ?_;refine oo 1 ?_;exact Zz g ⟨orF e,Zw⟩
   . intro e g;have p:=sp e;refine oo 7 ?_;exact Zz g ⟨orT e,Zw⟩
   refine oo 1 ?_;exact Zz h ⟨Yi f,Zw⟩
 . intro f h;have d:=sp f;refine oo 15 ?_;exact Zz h ⟨Yl f,Zw⟩
 refine ox 1 ?_;refine xp 27 ?_ ?_<;>intro d
 . refine xx 9 ?_;refine aX (i (k+1) ⟨by omega,by rw [a,Zki (n:=n+k) (by omega),if_pos (by unfold By;simp_all),show n+(k+1)=n+k+1 from rfl];omega⟩ (by omega)) Zn leA
 refine xx 7 ?_;refine Zq (q) func269 (Zf results269 rfl) ⟨_,rfl,by rw [a];rcases dJ (n+k) s.size with j|j;rw [Zki (n:=n+k) (by omega),if_neg (fun o=>by unfold By at o;rcases d with d|d;omega;simp_all)];rfl;rw [runS_end (by omega)];rfl,rfl⟩
theorem Zwf {l:Bs}(h:i<l.length):N7 (l.take (i+1))=N7 (l.take i)*10+((l.getD i 0).toNat - 48):=by
 rw [aN h,gD h];unfold N7;rw [List.foldl_append];rfl
theorem Zkp {l:Bs}(h:l.all Jo=true):0<=N7 l/\N7 l<10 ^ l.length:=by
 have b: ∀ (l:Bs) (a:Int),0<=a->l.all Jo=true->0<=l.foldl (fun n c=>n*10+((c.toNat:Int) - 48)) a/\l.foldl (fun n c=>n*10+((c.toNat:Int) - 48)) a<(a+1)*10 ^ l.length:=by
  intro l
  induction l with
  |nil=>intro a e _;exact ⟨e,by simp;omega⟩
  |cons c r ih=>
   intro a e h;rw [iK,aR] at h;have g:48<=c.toNat/\c.toNat<=57:=by have:=h.1;simp [Jo] at this;exact this
   obtain ⟨d,f⟩:=ih (a*10+((c.toNat:Int) - 48)) (by omega) h.2;refine ⟨d,lJ f ?_⟩;rw [aJ,Int.pow_succ,Int.mul_comm (10 ^ r.length) 10,<-Int.mul_assoc];exact Int.mul_le_mul_of_nonneg_right (by omega) (Int.pow_nonneg (by decide))
 have d:=b l 0 (by decide) h;simpa [N7] using d
theorem S6 {w:Bs}(ha:w.all Jo=true)(hl:w.length<=10):Xf w=if (decide (N7 w<=2147483647) && (decide (w.length=1)||decide (((w.getD 0 0).toNat:Int)≠48)))=true then some (N7 w) else none:=by
 unfold Xf;rw [if_pos (by rw [ha];simpa using hl)];have e:(w.getD 0 0≠48)↔((w.getD 0 0).toNat:Int)≠48:=by rw [Ne,Ne,<-UInt8.toNat_inj];simp;omega
 simp only [e,aR,eS,cP]
theorem numS_no {w:Bs}(hlt:k<w.length)(h:Jo (w.getD k 0)=false\/10<=k):Xf w=none:=by
 unfold Xf;rw [if_neg];rw [aR,cQ];rintro ⟨b,a⟩;rcases h with h|h
 . have:=b _ (aC hlt);rw [<-gD (d:=0) hlt,h] at this;cases this
 simp at a;omega
theorem all_take {l:Bs}(h:i<l.length)(ha:(l.take i).all Jo=true):(l.take (i+1)).all Jo=Jo (l.getD i 0):=by
 rw [aN h,kY,ha,gD h];simp
abbrev AE (v0:ByteArray)(v1):=((.int .u8 (((bs v0).getD v1 0).toNat:Int)):Value)
theorem Zzl (h0s:0<s.size)(h63:s.size<=65536):CallF prog G 271 [.string s] (q) (Ret fun v q'=> ∃ (x:Int) (ok:Bool),v= .tuple [I64 x,.bool ok].toArray/\q'=q/\Xf (bs s)=(if ok=true then some x else none)):=by
 refine aB func271 ntmps271 rfl fun F cs=> ?_;have y:=Nf s;refine xx 15 ?_;refine aX (cC (fun (k:Nat)=>k<=s.size/\k<=10/\((bs s).take k).all Jo=true) (fun k=> [(5,I64 k),(0,.string s),(4,I64 (N7 ((bs s).take k))),(2,I64 0),(3,.bool false)]) (fun k=>(q++F)) (fun k=>s.size - k) (fun k g o=> ?_) 0 ⟨bC _,by omega,rfl⟩) Zn leA;try dsimp only at g o|-
 obtain ⟨u,t,b⟩:=g;have m:=Zkp b;rw [bI] at m;have hp:(10:Int) ^ min k (bs s).length<=10 ^ 10:=by have:(10:Nat) ^ min k (bs s).length<=10 ^ 10:=Nat.pow_le_pow_right (by decide) (by omega);exact_mod_cast this
 refine xx 8 ?_;refine xp 9 ?_ ?_<;>intro h0
 . have d:k<(bs s).length:=by omega
   refine xo 9 ?_;refine Vl (Wc rfl rfl underlying9 (by omega) (by omega)) ?_;refine aW 14 (AE s k) rfl (rfl) ?_;refine bM call270 (Dp (c:=(bs s).getD k 0)) ?_;refine oo 2 ?_;refine bB [17,5,0,4,2,3] ?_;apply Zb 3 20 17 rfl
   . intro j n;have a:=sp j;refine oo 3 ?_;exact Zz n ⟨orF j,Zw⟩
   . intro j n;have a:=sp j;refine oo 3 ?_;exact Zz n ⟨orT j,Zw⟩
   refine ox 1 ?_;refine xp 20 ?_ ?_<;>intro a
   . refine xx 6 ?_;refine Zq (q) func271 (Q4 results271 rfl rfl) ⟨_,rfl,0,false,rfl,rfl,by rw [if_neg (by decide)];exact numS_no d (by rcases a with a|a;exact .inl (by simpa using a);exact .inr (by omega))⟩
   refine xo 7 ?_;refine Vl (Wc rfl rfl underlying9 (by omega) (by omega)) ?_;refine aW 25 (AE s k) rfl (rfl) ?_;have i:Jo ((bs s).getD k 0)=true:=by simpa using a.1
   have w:48<=((bs s).getD k 0).toNat/\((bs s).getD k 0).toNat<=57:=by have h:=i;simp only [Jo,aR,cP] at h;exact h
   have p:k<10:=by omega
   have r:N7 ((bs s).take k)<10 ^ 9*10:=by omega
   refine oo 1 ?_;refine aW 26 (.int .u8 ((((bs s).getD k 0).toNat:Int) - 48)) rfl (aQ (Value.int .u8) (by rw [wu8];omega)) ?_;refine ox 10 ?_;have z:=Zwf d;refine aX (o (k+1) ⟨by omega,by omega,by rw [all_take d b];exact i⟩ (by omega)) Zn leA
 obtain rfl:k=s.size:=by omega
 have e:(bs s).take s.size=bs s:=bQ (by omega);rw [e] at b;refine fR 4 (I64 (N7 (bs s))) rfl (by rw [e]) ?_;refine rn [3,0,1,2,3,4] ?_;refine eY 32 rfl ?_ ?_<;>intro a
 . replace a:=sp a;refine dd [4,5,6,7,13] ?_;refine eY 36 rfl ?_ ?_<;>intro l
   . replace l:=sp l;refine rn [9,10,11,12,13,15,0] ?_;refine Zq (q) func271 (Q4 results271 rfl rfl) ⟨_,rfl,N7 (bs s),_,rfl,rfl,by rw [S6 b (by omega)];have f:(bs s).length=1:=(by omega);simp [a,f]⟩
   replace l:=sp l;refine dd [8] ?_;refine Fv 9 rfl (Wc rfl rfl underlying9 (by omega) (by show 0<_;omega)) ?_;refine dY 38 (.int .u8 (((bs s).getD 0 0).toNat:Int)) rfl (rfl) ?_;refine rn [11,12,13,15,0] ?_;refine Zq (q) func271 (Q4 results271 rfl rfl) ⟨_,rfl,N7 (bs s),_,rfl,rfl,by rw [S6 b (by omega)];have f: ¬ (bs s).length=1:=(by omega);simp [a,f]⟩
 replace a:=sp a;refine rn [5,6,7,8,14,9,10,11,12,13,15,0] ?_;refine Zq (q) func271 (Q4 results271 rfl rfl) ⟨_,rfl,N7 (bs s),_,rfl,rfl,by rw [S6 b (by omega)];have f: ¬N7 (bs s)<=2147483647:=(by omega);simp [f]⟩
theorem words_ok:CallF prog G 303 [] ([]) (Ret fun v q'=> ∃ g,v= .slice (some ⟨g,0,none⟩) 20 20/\q'= [lsH (fun w:Bs=>Value.string (ba w)) 9 (some ⟨g,0,none⟩) 20 wordsS]):=by
 refine aB func303 ntmps303 rfl fun F cs=> ?_;refine xo 6 ?_;refine bU (Yu (fun w:Bs=>Value.string (ba w)) wordsS underlying25 Wi rfl rfl rfl rfl rfl rfl (fun _=>rfl)) ?_;rintro _ _ ⟨g,rfl,rfl⟩;refine ox 2 ?_;refine Zq [lsH (fun w:Bs=>Value.string (ba w)) 9 (some ⟨g,0,none⟩) 20 wordsS] func303 (Zf results303 rfl) ⟨_,rfl,g,rfl,rfl⟩
theorem signs_ok:CallF prog G 273 [] ([]) (Ret fun v q'=> ∃ g,v= .slice (some ⟨g,0,none⟩) 20 20/\q'= [lsH (fun w:Bs=>Value.string (ba w)) 9 (some ⟨g,0,none⟩) 20 signsS]):=by
 refine aB func273 ntmps273 rfl fun F cs=> ?_;refine xo 6 ?_;refine bU (Yu (fun w:Bs=>Value.string (ba w)) signsS underlying25 Wi rfl rfl rfl rfl rfl rfl (fun _=>rfl)) ?_;rintro _ _ ⟨g,rfl,rfl⟩;refine ox 2 ?_;refine Zq [lsH (fun w:Bs=>Value.string (ba w)) 9 (some ⟨g,0,none⟩) 20 signsS] func273 (Zf results273 rfl) ⟨_,rfl,g,rfl,rfl⟩
theorem Km:CallF prog G 272 [.string s] (q) (Ret fun v q'=>v= .bool (kwS (bs s))/\q'=q):=by
 refine aB func272 ntmps272 rfl fun F cs=> ?_;refine xo 6 ?_;refine Vg call303 (words_ok) ?_;refine kd1 fun g=> ?_
 refine ox 8 ?_;refine aX (cC (fun (k:Nat)=>k<=20/\kwS (bs s)=(wordsS.drop k).any (· ==bs s)) (fun k=> [(4,I64 k),(3,.slice (some ⟨g,0,none⟩) 20 20),(0,.string s),(2,.bool false)]) (fun k=>lsH (fun w:Bs=>Value.string (ba w)) 9 (some ⟨g,0,none⟩) 20 wordsS::(q++F)) (fun k=>20 - k) (fun k c e=> ?_) 0 ⟨bC _,rfl⟩) Zn leA;try dsimp only at c e|-
 obtain ⟨h,b⟩:=c;refine xx 8 ?_;refine xp 9 ?_ ?_<;>intro i
 . have a:k<wordsS.length:=by show k<20;omega
   refine xo 9 ?_;refine ld ?_ (hc:=(gP (n:=k) (bY _) Zj a rfl));refine ox 3 ?_;refine xp 17 ?_ ?_<;>intro f
   . refine xx 5 ?_;have d:wordsS.drop k=wordsS[k]::wordsS.drop (k+1):=aP a;refine Zq (q) func272 (Zf results272 rfl) ⟨_,rfl,by rw [b,d,lK,<-Qt wordsS[k],sTr f];rfl,rfl⟩
   refine xx 8 ?_;have d:wordsS.drop k=wordsS[k]::wordsS.drop (k+1):=aP a;refine aX (e (k+1) ⟨by omega,by rw [b,d,lK,<-Qt wordsS[k],sNe f];rfl⟩ (by omega)) Zn leA
 obtain rfl:k=20:=by omega
 refine xx 6 ?_;refine Zq (q) func272 (Zf results272 rfl) ⟨_,rfl,by rw [b];rfl,rfl⟩
def OneOut (l:Bs)(v:Value):Prop:=(∃ k w z,S4 l=some (k,w,z)/\0<w.length/\w.length<=l.length/\v= .tuple [.agg [I64 k,.string (ba w),I64 z,I64 0,I64 0].toArray,I64 (w.length:Nat),I64 0].toArray)\/(S4 l=none/\ ∃ t z e,e≠0/\v= .tuple [.agg (tkC t).toArray,I64 z,I64 e].toArray)
theorem Zxr {l:Bs}(h:k<signsS.length):(signsS.drop k).find? (fun s=>s==l.take s.length)=if (signsS[k]==l.take signsS[k].length)=true then some signsS[k] else (signsS.drop (k+1)).find? (fun s=>s==l.take s.length):=by
 rw [aP h,List.find?_cons];cases signsS[k]==l.take signsS[k].length<;>rfl
theorem oneW_eq {s:ByteArray}{n r:Nat}{W:Bs}(hr:Rf ((bs s).drop n)=r)(hW:((bs s).drop n).take r=W):S4 ((bs s).drop n)=if 0<r/\Jo ((bs s).getD n 0)=true then (match Xf W with|some x=>some ((2:Int),W,x)|none=>none) else if 0<r/\kwS W=true then some (3,W,0) else if 16<r then none else if 0<r then some (1,W,0) else match signsS.find? (fun z=>z==((bs s).drop n).take z.length) with|some z=>some (4,z,0)|none=>none:=by
 unfold S4;rw [hr,hW,show ((bs s).drop n).getD 0 0=(bs s).getD n 0 by simp [List.getD]]<;>rfl
theorem Zwr: ∀ k,(h:k<20)->0<(signsS[k]'h).length/\(signsS[k]'h).length<=2:=by decide
theorem extr {s:ByteArray}{n m:Nat}:s.extract n (n+m)=ba (((bs s).drop n).take m):=by rw [<-ba_bs (s.extract n (n+m)),Zjp];congr 2;omega
abbrev Al (v0):=((I64 v0):Value)
theorem lxone_ok (hn:n<s.size)(h63:s.size<=65536):CallF prog G 215 [.string s,I64 n] (q) (Ret fun v q'=>OneOut ((bs s).drop n) v/\q'=q):=by
 refine aB func215 ntmps215 rfl fun F cs=> ?_;have e0:=Nf s;have y:=F2 ((bs s).drop n);rw [cE] at y;obtain ⟨r,hr⟩: ∃ r,Rf ((bs s).drop n)=r:=⟨_,rfl⟩;rw [hr] at y;obtain ⟨W,hW⟩: ∃ W,((bs s).drop n).take r=W:=⟨_,rfl⟩;have t:W.length=r:=by rw [<-hW,bI,cE];omega
 have j:=oneW_eq hr hW;obtain ⟨O,f⟩: ∃ O,S4 ((bs s).drop n)=O:=⟨_,rfl⟩;rw [f] at j
 have a:(0<r/\Jo ((bs s).getD n 0)=true)\/(0<r/\Jo ((bs s).getD n 0)=false/\kwS W=true)\/(16<r/\Jo ((bs s).getD n 0)=false/\kwS W=false)\/((0<r/\r<=16)/\Jo ((bs s).getD n 0)=false/\kwS W=false)\/r=0:=by
  cases Jo ((bs s).getD n 0)<;>cases kwS W<;>simp<;>omega
 rcases a with a|a|a|a|a
 iterate 5
  focus
   refine xo 2 ?_;refine Zh zeroValue310 fun n1=> ?_
   refine oo 7 ?_;refine bM call269 (run_ok (n:=n) (by omega) h63) ?_;refine aW 16 (Al r) rfl (by rw [hr]) ?_;refine oo 9 ?_;refine Vl (Sz rfl rfl rfl underlying9 (by omega) (by omega) (by omega)) ?_;refine aW 22 (.string (ba W)) rfl (by rw [show ((n:Int)+r).toNat=n+r by omega,cT,extr,hW]) ?_;refine oo 9 ?_;refine bB [26,8,7,6,5,4,0,1] ?_;apply Zg 5 31 26 rfl
   . intro b d;have i:=sp b;refine oo 2 ?_;refine Vl (Wc rfl rfl underlying9 (by omega) (by omega)) ?_;refine aW 29 (AE s n) rfl (rfl) ?_;refine bM call270 (Dp (c:=(bs s).getD n 0)) ?_;refine oo 1 ?_;exact Zz d ⟨Yi b,Zw⟩
   . intro b d;have i:=sp b;refine oo 5 ?_;exact Zz d ⟨Yl b,Zw⟩
   refine ox 2 ?_
  rotate_left
 . refine jC 23 ?_ rfl (by rw [a.2];simp [a.1]);refine xo 4 ?_;have d0:(ba W).size=r:=t;refine Zv call271 (aH _) (Zzl (s:=ba W) (by omega) (by omega)) ?_;rintro _ _ ⟨x,ok,rfl,rfl,m⟩;rw [Qt] at m;refine ox 12 ?_;refine xp 38 ?_ ?_<;>intro i
   . refine rn [4,0,3] ?_;rw [if_pos a,m] at j;refine Zq (q) func215 (Kf results215) ⟨_,rfl,.inr ⟨by rw [f,j,if_neg (by simp_all)],⟨0,⟨#[]⟩,0,0,0⟩,0,112,by decide,rfl⟩,rfl⟩
   refine rn [8,0,3] ?_;rw [if_pos a,m] at j;refine Zq (q) func215 (Kf results215) ⟨_,rfl,.inl ⟨2,W,x,by rw [f,j,if_pos (by simpa using i)],by omega,by rw [cE];omega,by rw [t];rfl⟩,rfl⟩
 . refine gG 23 ?_ rfl (by rw [a.2.1];simp);refine xo 6 ?_;refine bB [47,8,7,6,5,4,0,1] ?_;apply Zg 3 50 47 rfl
   . intro b d;have i:=sp b;refine oo 1 ?_;refine bM call272 (Km (s:=ba W)) ?_;refine aW 49 (.bool (kwS W)) rfl (by rw [Qt]) ?_;refine oo 1 ?_;exact Zz d ⟨Yi b,Zw⟩
   . intro b d;have i:=sp b;refine oo 3 ?_;exact Zz d ⟨Yl b,Zw⟩
   refine ox 2 ?_;refine jC 44 ?_ rfl (by rw [a.2.2];simp [a.1]);refine rn [6,0,3] ?_;rw [if_neg (by rw [a.2.1];simp),if_pos ⟨a.1,a.2.2⟩] at j;refine Zq (q) func215 (Kf results215) ⟨_,rfl,.inl ⟨3,W,0,by rw [f,j],by omega,by rw [cE];omega,by rw [t];rfl⟩,rfl⟩
 . refine gG 23 ?_ rfl (by rw [a.2.1];simp);refine xo 6 ?_;refine bB [47,8,7,6,5,4,0,1] ?_;apply Zg 3 50 47 rfl
   . intro b d;have i:=sp b;refine oo 1 ?_;refine bM call272 (Km (s:=ba W)) ?_;refine aW 49 (.bool (kwS W)) rfl (by rw [Qt]) ?_;refine oo 1 ?_;exact Zz d ⟨Yi b,Zw⟩
   . intro b d;have i:=sp b;refine oo 3 ?_;exact Zz d ⟨Yl b,Zw⟩
   refine ox 2 ?_;refine gG 44 ?_ rfl (by rw [a.2.2];simp);refine rn [7,2054,4,0,3] ?_;rw [if_neg (by rw [a.2.1];simp),if_neg (by rw [a.2.2];simp),if_pos a.1] at j;refine Zq (q) func215 (Kf results215) ⟨_,rfl,.inr ⟨by rw [f,j],⟨0,⟨#[]⟩,0,0,0⟩,0,111,by decide,rfl⟩,rfl⟩
 . refine gG 23 ?_ rfl (by rw [a.2.1];simp);refine xo 6 ?_;refine bB [47,8,7,6,5,4,0,1] ?_;apply Zg 3 50 47 rfl
   . intro b d;have i:=sp b;refine oo 1 ?_;refine bM call272 (Km (s:=ba W)) ?_;refine aW 49 (.bool (kwS W)) rfl (by rw [Qt]) ?_;refine oo 1 ?_;exact Zz d ⟨Yi b,Zw⟩
   . intro b d;have i:=sp b;refine oo 3 ?_;exact Zz d ⟨Yl b,Zw⟩
   refine ox 2 ?_;refine gG 44 ?_ rfl (by rw [a.2.2];simp);refine rn [7,1054,7] ?_;refine fR 58 bT rfl (cB (by simp;omega)) ?_;refine rn [6,0,3] ?_;rw [if_neg (by rw [a.2.1];simp),if_neg (by rw [a.2.2];simp),if_neg (by omega),if_pos a.1.1] at j;refine Zq (q) func215 (Kf results215) ⟨_,rfl,.inl ⟨1,W,0,by rw [f,j],by omega,by rw [cE];omega,by rw [t];rfl⟩,rfl⟩
 refine gG 23 ?_ rfl (by simp [a]);refine xo 6 ?_;refine bB [47,8,7,6,5,4,0,1] ?_;apply Zg 3 50 47 rfl
 . intro b d;have i:=sp b;refine oo 1 ?_;refine bM call272 (Km (s:=ba W)) ?_;refine aW 49 (.bool (kwS W)) rfl (by rw [Qt]) ?_;refine oo 1 ?_;exact Zz d ⟨Yi b,Zw⟩
 . intro b d;have i:=sp b;refine oo 3 ?_;exact Zz d ⟨Yl b,Zw⟩
 refine ox 2 ?_;refine gG 44 ?_ rfl (by simp [a]);refine xx 7 ?_;refine gG 54 ?_ rfl (by simp [a]);refine xx 7 ?_;refine gG 58 ?_ rfl (by simp [a]);refine xo 5 ?_;refine Vg call273 (signs_ok) ?_;refine kd1 fun g=> ?_
 refine ox 8 ?_;rw [if_neg (by omega),if_neg (by omega),if_neg (by omega),if_neg (by omega)] at j;refine aX (cC (fun (k:Nat)=>k<=20/\signsS.find? (fun z=>z==((bs s).drop n).take z.length)=(signsS.drop k).find? (fun z=>z==((bs s).drop n).take z.length)) (fun k=> [(12,I64 k),(11,.slice (some ⟨g,0,none⟩) 20 20),(0,.string s),(1,I64 n),(4,pt n1),(5,I64 0),(6,I64 0)]) (fun k=>lsH (fun w:Bs=>Value.string (ba w)) 9 (some ⟨g,0,none⟩) 20 signsS::pto n1 (.cells [I64 0,.string ⟨#[]⟩,I64 0,I64 0,I64 0].toArray 310 (0,0))::(q++F)) (fun k=>20 - k) (fun k a0 ih=> ?_) 0 ⟨bC _,rfl⟩) Zn leA;try dsimp only at a0 ih|-
 obtain ⟨c0,p⟩:=a0;refine xx 8 ?_;refine xp 68 ?_ ?_<;>intro h0
 . have o:k<signsS.length:=by show k<20;omega
   have hf:=Zxr (l:=(bs s).drop n) o;have u:=Zwr k o;obtain ⟨Z,hZ⟩: ∃ Z,signsS[k]=Z:=⟨_,rfl⟩;rw [hZ] at hf u;have b0:(ba Z).size=Z.length:=rfl;refine xo 9 ?_;refine ld ?_ (hc:=(gP (n:=k) (bY _) Zj o rfl));refine aW 74 (.string (ba Z)) rfl (by rw [hZ]) ?_;refine rn [4,0,1,2,3,4,5,6,7] ?_;refine eY 82 rfl ?_ ?_<;>intro i
   . replace i:=sp i;refine dd [7,8,9,10,11] ?_;refine Fv 12 rfl (Sz rfl rfl rfl underlying9 (by omega) (by omega) (by omega)) ?_;refine dY 88 (.string (ba (((bs s).drop n).take Z.length))) rfl (by rw [show ((n:Int)+(ba Z).size).toNat=n+Z.length by omega,cT,extr]) ?_;refine dd [13,14,15] ?_;refine ldD 16 ?_ (hc:=(gP (n:=k) (bY _) Zj o rfl));refine dY 92 (.string (ba Z)) rfl (by rw [hZ]) ?_;refine rn [18,19,0] ?_;refine xp 94 ?_ ?_<;>intro h2
     . refine xo 6 ?_;refine ld ?_ (hc:=(gP (n:=k) (bY _) Zj o rfl));refine aW 98 (.string (ba Z)) rfl (by rw [hZ]) ?_;refine rn [2,0,3] ?_;refine Zq (q) func215 (Kf results215) ⟨_,rfl,.inl ⟨4,Z,0,by have h:=sTr h2;rw [Qt,Qt] at h;rw [f,j,p,hf,if_pos (by rw [eI] at h|-;exact h.symm)],u.1,by rw [cE];omega,rfl⟩,rfl⟩
     refine xx 8 ?_;refine aX (ih (k+1) ⟨by omega,by have h:=sNe h2;rw [Qt,Qt] at h;rw [p,hf,if_neg (by rw [eI];intro e;rw [<-e] at h;simp at h)]⟩ (by omega)) Zn leA
   replace i:=sp i;refine rn [8,9,10,11,12,13,14,15,16,17,18,19,0,8] ?_;refine aX (ih (k+1) ⟨by omega,by have h:=i;rw [p,hf,if_neg (by rw [eI];intro e;have:=aQ List.length e;rw [bI,cE] at this;omega)]⟩ (by omega)) Zn leA
 obtain rfl:k=20:=by omega
 refine rn [5,0,3] ?_;refine Zq (q) func215 (Kf results215) ⟨_,rfl,.inr ⟨by rw [f,j,p];rfl,⟨0,⟨#[]⟩,0,0,0⟩,0,110,by decide,rfl⟩,rfl⟩
end
theorem lex_at {l:Bs}{g:Nat}(h:k<l.length):Hb (g+1) (l.drop k) ln cl=
 if l.getD k 0=10 then Hb g (l.drop (k+1)) (ln+1) 1
 else if l.getD k 0=32\/l.getD k 0=9\/l.getD k 0=13 then Hb g (l.drop (k+1)) ln (cl+1)
 else if l.getD k 0=35 then Hb g ((l.drop k).dropWhile (· !=10)) ln (cl+((l.drop k).takeWhile (· !=10)).length)
 else match S4 (l.drop k) with
  |none=>none
  |some (c,w,n)=>(Hb g (l.drop (k+w.length)) ln (cl+w.length)).map (⟨c,ba w,n,ln,cl⟩:: ·):=by
 rw [gD h,<-iE,aP h,Hb];split;rfl;split;rfl;split;rfl
 cases S4 (l[k]::l.drop (k+1)) with
 |none=>rfl
 |some x=>
  have e:List.drop x.2.1.length (l[k]::l.drop (k+1))=l.drop (k+x.2.1.length):=by rw [<-aP h,iE]
  simp only [e]
theorem lex_end {l:Bs}{g:Nat}(h:l.length<=k):Hb (g+1) (l.drop k) ln cl=some []:=by rw [cL h];rfl
theorem skip_at {l:Bs}(h:k<l.length)(hc:l.getD k 0≠10):(l.drop k).dropWhile (· !=10)=(l.drop (k+1)).dropWhile (· !=10)/\((l.drop k).takeWhile (· !=10)).length=((l.drop (k+1)).takeWhile (· !=10)).length+1:=by
 rw [gD h] at hc;rw [aP h,List.dropWhile_cons,lG,if_pos (by simpa using hc),if_pos (by simpa using hc)];exact ⟨rfl,rfl⟩
theorem O4 {l:Bs}(h:l.length<=k\/l.getD k 0=10):(l.drop k).dropWhile (· !=10)=l.drop k/\((l.drop k).takeWhile (· !=10)).length=0:=by
 rcases dJ k l.length with a|a
 . have b:=h.resolve_left (by omega);rw [gD a] at b;rw [aP a,List.dropWhile_cons,lG,if_neg (by simp [b]),if_neg (by simp [b])];exact ⟨rfl,rfl⟩
 rw [cL a];exact ⟨rfl,rfl⟩
theorem c8 {c d:UInt8}:((c.toNat:Int)=d.toNat)↔c=d:=by rw [<-UInt8.toNat_inj];omega
def Ft (l:Bs):Option (List Tk):=if 65536<l.length then none else Hb (l.length+1) l 1 1
section
variable {s:ByteArray}
theorem spT {x:UInt8}(h:x=32\/x=9\/x=13):((x.toNat:Int)==32||(x.toNat:Int)==9||(x.toNat:Int)==13)=true:=by rcases h with rfl|rfl|rfl<;>rfl
theorem spF {x:UInt8}(h: ¬ (x=32\/x=9\/x=13)):((x.toNat:Int)==32||(x.toNat:Int)==9||(x.toNat:Int)==13)=false:=by
 simp only [not_or] at h;rw [eZ,eZ,cZ,cZ,cZ];exact ⟨⟨fun e=>h.1 (c8.1 e),fun e=>h.2.1 (c8.1 e)⟩,fun e=>h.2.2 (c8.1 e)⟩
theorem Ot:(prog.info? 310).map (fun i=>(i.zero,i.size,i.bytes))=some (some (.agg #[I64 0,.string ⟨#[]⟩,I64 0,I64 0,I64 0]),5,48):=by kernel_rfl
abbrev AF (v0:Int)(v1:Int):=([I64 v0,I64 v1]:List Value)
theorem Lex_ok:CallF prog G 153 [.string s] (q) (Ret fun v q'=>(∃ ts a c,Ft (bs s)=some ts/\v= .tuple [.slice a ts.length c,.agg zz5.toArray,I64 0].toArray/\q'=rsH tkC 5 310 a c ts::q)\/(Ft (bs s)=none/\ ∃ (y z e:Int),e≠0/\v= .tuple [.slice none 0 0,.agg (AF y z).toArray,I64 e].toArray/\q'=q)):=by
 refine aB func153 ntmps153 rfl fun F cs=> ?_;have m0:=Nf s;refine xo 3 ?_;refine Zh zeroValue104 fun n1=> ?_
 refine ox 9 ?_;refine xp 14 ?_ ?_<;>intro h0
 . refine rn [5,0,2] ?_;refine Zq (q) func153 (Ee results153) ⟨_,rfl,.inr ⟨by unfold Ft;rw [if_pos (by omega)],0,0,3,by decide,rfl,rfl⟩⟩
 have o0:s.size<=65536:=by omega
 obtain ⟨S,hS⟩: ∃ S,Ft (bs s)=S:=⟨_,rfl⟩;have k0:S=(Hb (s.size+1) ((bs s).drop 0) 1 1).map ([]++ ·):=by rw [<-hS];unfold Ft;rw [if_neg (by omega),m0,fY];cases Hb (s.size+1) (bs s) 1 1<;>rfl
 rw [hS];refine xo 9 ?_;refine Zh zeroValue104 fun n2=> ?_
 refine rn [0,7] ?_;refine aX (cC (fun (b:(Option Addr×Nat×List Tk)×Nat×Int×Int×Nat)=>b.2.1<=s.size/\s.size - b.2.1<b.2.2.2.2/\(1<=b.2.2.1/\b.2.2.1<=b.2.1+1/\1<=b.2.2.2.1/\b.2.2.2.1<=b.2.1+1/\b.1.2.2.length<=b.2.1)/\S=(Hb b.2.2.2.2 ((bs s).drop b.2.1) b.2.2.1 b.2.2.2.1).map (b.1.2.2++ ·)) (fun b=> [(5,.slice b.1.1 b.1.2.2.length b.1.2.1),(7,I64 (b.2.1:Int)),(0,.string s),(6,pt n2),(2,.slice none 0 0),(3,pt n1),(4,I64 0)]) (fun b=>pto n2 (.cells [I64 b.2.2.1,I64 b.2.2.2.1].toArray 104 (0,0))::pto n1 Ai::rsH tkC 5 310 b.1.1 b.1.2.1 (b.1.2.2)::(q++F)) (fun b=>s.size - b.2.1) (fun b d0 ih=> ?_) ((none,0, []),0,1,1,s.size+1) ⟨bC _,by dsimp only;omega,⟨by dsimp only;omega,by dsimp only;omega,by dsimp only;omega,by dsimp only;omega,aU _⟩,k0⟩) Zn (aM leA (aM (Zc tkC 5 310 _) leA));try dsimp only at d0 ih|-
 obtain ⟨y0,x0,⟨w0,v0,u0,t0,s0⟩,c0⟩:=d0;obtain ⟨⟨a,c,o⟩,k,ln,cl,g⟩:=b;dsimp only at*;obtain ⟨g,rfl⟩: ∃ g2,g=g2+1:=⟨g - 1,by omega⟩;clear k0;refine xx 8 ?_;refine xp 20 ?_ ?_<;>intro w
 . have l0:k<(bs s).length:=by omega
   have hL:=lex_at (g:=g) (ln:=ln) (cl:=cl) l0;obtain ⟨x,hx⟩: ∃ x,(bs s).getD k 0=x:=⟨_,rfl⟩;rw [hx] at hL;rcases Classical.em (x=10) with i|i
   . refine xo 7 ?_;refine Vl (Wc rfl rfl underlying9 (by omega) (by omega)) ?_;refine aW 23 (.int .u8 (x.toNat:Int)) rfl (by rw [<-hx];rfl) ?_;refine ox 8 ?_;refine jC 25 ?_ rfl (eI.2 (by rw [i];rfl));refine rn [4,0,4,0,1,0,3] ?_;refine aX (ih ((a,c,o),k+1,ln+1,1,g) ⟨by dsimp only;omega,by dsimp only;omega,⟨by dsimp only;omega,by dsimp only;omega,by dsimp only;omega,by dsimp only;omega,by dsimp only;omega⟩,by rw [c0,hL,if_pos i]⟩ (by dsimp only;omega)) Zn leA
   rcases Classical.em (x=32\/x=9\/x=13) with a0|a0
   . refine xo 7 ?_;refine Vl (Wc rfl rfl underlying9 (by omega) (by omega)) ?_;refine aW 23 (.int .u8 (x.toNat:Int)) rfl (by rw [<-hx];rfl) ?_;refine ox 8 ?_;refine gG 25 ?_ rfl (cZ.2 (fun e=>i (c8.1 e)));refine xo 8 ?_;refine bB [35,8,5,7,0,6,2,3,4] ?_;apply Zb 3 38 35 rfl
     . intro d p;have w:=sp d;refine oo 3 ?_;exact Zz p ⟨orF d,Zw⟩
     . intro d p;have w:=sp d;refine oo 3 ?_;exact Zz p ⟨orT d,Zw⟩
     refine oo 1 ?_;refine bB [39,8,5,7,0,6,2,3,4] ?_;apply Zb 3 42 39 rfl
     . intro d p;have w:=sp d;refine oo 3 ?_;exact Zz p ⟨orF d,Zw⟩
     . intro d p;have w:=sp d;refine oo 3 ?_;exact Zz p ⟨orT d,Zw⟩
     refine ox 1 ?_;refine jC 42 ?_ rfl (spT a0);refine rn [4,0,4,0,3] ?_;refine aX (ih ((a,c,o),k+1,ln,cl+1,g) ⟨by dsimp only;omega,by dsimp only;omega,⟨by dsimp only;omega,by dsimp only;omega,by dsimp only;omega,by dsimp only;omega,by dsimp only;omega⟩,by rw [c0,hL,if_neg i,if_pos a0]⟩ (by dsimp only;omega)) Zn leA
   rcases Classical.em (x=35) with b0|b0
   iterate 2
    focus
     refine xo 7 ?_;refine Vl (Wc rfl rfl underlying9 (by omega) (by omega)) ?_;refine aW 23 (.int .u8 (x.toNat:Int)) rfl (by rw [<-hx];rfl) ?_;refine ox 8 ?_;refine gG 25 ?_ rfl (cZ.2 (fun e=>i (c8.1 e)));refine xo 8 ?_;refine bB [35,8,5,7,0,6,2,3,4] ?_;apply Zb 3 38 35 rfl
     . intro d p;have w:=sp d;refine oo 3 ?_;exact Zz p ⟨orF d,Zw⟩
     . intro d p;have w:=sp d;refine oo 3 ?_;exact Zz p ⟨orT d,Zw⟩
     refine oo 1 ?_;refine bB [39,8,5,7,0,6,2,3,4] ?_;apply Zb 3 42 39 rfl
     . intro d p;have w:=sp d;refine oo 3 ?_;exact Zz p ⟨orF d,Zw⟩
     . intro d p;have w:=sp d;refine oo 3 ?_;exact Zz p ⟨orT d,Zw⟩
     refine ox 1 ?_;refine gG 42 ?_ rfl (spF a0);refine xx 8 ?_
    rotate_left
   . refine jC 50 ?_ rfl (eI.2 (by rw [b0];rfl));refine xx 3 ?_;refine aX (cC (fun (j:Nat)=>k<=j/\j<=s.size/\((bs s).drop k).dropWhile (· !=10)=((bs s).drop j).dropWhile (· !=10)/\(((bs s).drop k).takeWhile (· !=10)).length=(j - k)+(((bs s).drop j).takeWhile (· !=10)).length) (fun j=> [(7,I64 j),(0,.string s),(5,.slice a o.length c),(6,pt n2),(2,.slice none 0 0),(3,pt n1),(4,I64 0)]) (fun j=>pto n2 (.cells [I64 ln,I64 (cl+(j - k:Nat))].toArray 104 (0,0))::pto n1 Ai::rsH tkC 5 310 a c (o)::(q++F)) (fun j=>s.size - j) (fun j d0 e0=> ?_) k ⟨aU _,by omega,rfl,by omega⟩) Zn (by rw [lA,show (cl+((0:Nat):Int))=cl by omega];exact leA);try dsimp only at d0 e0|-
     obtain ⟨r0,q0,j0,i0⟩:=d0;refine xo 8 ?_;refine bB [55,7,0,5,6,2,3,4] ?_;apply Zg 5 60 55 rfl
     . intro d p;have w:=sp d;refine oo 2 ?_;refine Vl (Wc rfl rfl underlying9 (by omega) (by omega)) ?_;refine aW 58 (.int .u8 (((bs s).getD j 0).toNat:Int)) rfl (rfl) ?_;refine oo 2 ?_;exact Zz p ⟨Yi d,Zw⟩
     . intro d p;have w:=sp d;refine oo 5 ?_;exact Zz p ⟨Yl d,Zw⟩
     refine ox 1 ?_;refine xp 60 ?_ ?_<;>intro w
     . refine rn [5,0,4,0,3] ?_;have g0:=skip_at (l:=bs s) (k:=j) (by omega) (fun e=>w.2 (c8.2 e));refine aX (e0 (j+1) ⟨by omega,by omega,by rw [j0,g0.1],by rw [i0,g0.2];omega⟩ (by omega)) Zn (by rw [show (cl+((j+1 - k:Nat):Int))=cl+((j - k:Nat):Int)+1 by omega];exact leA)
     refine xx 3 ?_;have hj:(bs s).length<=j\/(bs s).getD j 0=10:=by rcases w with w|w;exact .inl (by omega);exact .inr (c8.1 (by first|exact w.2|exact w))
     have p0:k<j:=by rcases dJ k j with h|h;exact h;obtain rfl:j=k:=(by omega);rcases hj with h|h;omega;exact aV (hx.symm.trans h) i
     refine aX (ih ((a,c,o),j,ln,cl+(j - k:Nat),g) ⟨by dsimp only;omega,by dsimp only;omega,⟨by dsimp only;omega,by dsimp only;omega,by dsimp only;omega,by dsimp only;omega,by dsimp only;omega⟩,by rw [c0,hL,if_neg i,if_neg a0,if_pos b0,j0,(O4 hj).1,i0,(O4 hj).2,iF]⟩ (by dsimp only;omega)) Zn leA
   refine gG 50 ?_ rfl (cZ.2 (fun e=>b0 (c8.1 e)));refine xo 6 ?_;refine Zv call215 (aH _) (lxone_ok (n:=k) (by omega) o0) ?_;rintro _ _ ⟨⟨ck,W,z,hO,z0,n0,rfl⟩|⟨hO,t,z,e,he,rfl⟩,rfl⟩
   . refine oo 4 ?_;refine Zh zeroValue310 fun n3=> ?_
     refine rn [0,9,1075,4,0,1,0,4,0] ?_;rw [cE] at n0;obtain ⟨tk,f0⟩: ∃ tk:Tk,tk=⟨ck,ba W,z,ln,cl⟩:=⟨_,rfl⟩;refine aW 81 (.agg (tkC tk).toArray) rfl (by rw [f0];rfl) ?_;refine bU (Yz (u:=tk) tkC underlying297 Ot rfl rfl (fun _=>rfl) rfl) ?_;rintro _ _ ⟨g2,rfl,rfl⟩;refine bU (Z4 (f:=tkC) (l:=o) (m:= [tk]) underlying297 Ot rfl rfl (fun _=>rfl) rfl rfl Zj ((cI _).le Zj) (fun _=>rfl) (by simp;omega) (by simp;omega)) ?_;rintro _ _ ⟨a3,c3,rfl,rfl⟩;refine rn [4,0,6,0,3] ?_;refine aX (ih ((a3,c3,o++ [tk]),k+W.length,ln,cl+W.length,g) ⟨by dsimp only;omega,by dsimp only;omega,⟨by dsimp only;omega,by dsimp only;omega,by dsimp only;omega,by dsimp only;omega,by simp;omega⟩,by rw [c0,hL,if_neg i,if_neg a0,if_neg b0,hO,f0];simp only [Option.map_map];congr 1;funext r;simp⟩ (by dsimp only;omega)) Zn leA
   refine oo 4 ?_;refine Zh zeroValue310 fun n3=> ?_
   refine rn [0,9] ?_;refine jC 75 ?_ rfl (by simpa using he);refine rn [2,0,1,2,3,4,5,0] ?_;refine Zq (q) func153 (Ee results153) ⟨_,rfl,.inr ⟨by rw [c0,hL,if_neg i,if_neg a0,if_neg b0,hO];rfl,ln,cl,e,he,rfl,rfl⟩⟩
 obtain rfl:k=s.size:=by omega
 refine rn [7,0,2] ?_;refine Zq (rsH tkC 5 310 a c (o)::q) func153 (Ee results153) ⟨_,rfl,.inl ⟨o,a,c,by rw [c0,lex_end (by omega)];simp,rfl,rfl⟩⟩
end
mutual
def PEx.nd:PEx->Nat
 | .mk k _ _ _ _ _ args=>(if k=0 then 0 else 1)+F8 args
def F8:List PEx->Nat
 | []=>0
 |e::r=>e.nd+F8 r
end
mutual
def PStm.nd:PStm->Nat
 | .mk _ _ _ _ _ e ix body els _ _ _ _=>2+e.nd+ix.nd+Z0 body+Z0 els
def Z0:List PStm->Nat
 | []=>0
 |s::r=>s.nd+Z0 r
end
theorem Nv: ∀ {g:Nat} {l:Bs} {ln cl:Int} {ts:List Tk},Hb g l ln cl=some ts->ts.length<=l.length/\ ∀ t∈ts,0<=t.n/\t.n<=2147483647
 |0,_,_,_,_,h=>by cases h
 |g+1, [],_,_,ts,h=>by cases h;exact ⟨aU _,fun t d=>by cases d⟩
 |g+1,c::r,ln,cl,ts,h=>by
  rw [Hb] at h;split at h
  . have:=Nv h;exact ⟨by simp;omega,this.2⟩
  split at h
  . have:=Nv h;exact ⟨by simp;omega,this.2⟩
  split at h
  . have:=Nv h;refine ⟨dR this.1 ?_,this.2⟩;exact (List.dropWhile_sublist _).length_le
  split at h
  . cases h
  rename_i k w n a
  cases hl:Hb g ((c::r).drop w.length) ln (cl+w.length) with
  |none=>rw [hl] at h;cases h
  |some us=>
   rw [hl] at h;cases h
   have:=Nv hl
   have i:0<w.length/\0<=n/\n<=2147483647:=by
    unfold S4 at a;dsimp only at a;have j: ∀ s∈signsS,0<s.length:=by decide
    split at a
    . rename_i o;split at a
      . rename_i x b
        cases a
        refine ⟨by rw [bI];have:=F2 (c::r);omega,?_⟩;unfold Xf at b;split at b
        . rename_i e;split at b
          . cases b;rename_i p
            rw [aR] at e;exact ⟨(Zkp e.1).1,p.1⟩
          cases b
        cases b
      cases a
    split at a
    . rename_i o;cases a;exact ⟨by rw [bI];have:=F2 (c::r);omega,by decide,by decide⟩
    split at a
    . cases a
    split at a
    . cases a;exact ⟨by rw [bI];have:=F2 (c::r);omega,by decide,by decide⟩
    split at a
    . rename_i m;cases a;exact ⟨j _ (jQ m),by decide,by decide⟩
    cases a
   refine ⟨?_,?_⟩
   . have f:=this.1;rw [cE] at f;simp at f|-;omega
   intro t d;rcases bG.1 d with rfl|d
   . exact i.2
   exact this.2 t d
theorem M9 {s:Bs}(h:tkW s ts=some r):r.length+1<=ts.length:=by
 unfold tkW at h;split at h
 . cases h;rename_i a;cases ts with
   |nil=>cases a
   |cons t r=>simp
 cases h
theorem Wp {s:Bs}{u:Unit}(h:Ve s ts=some (u,r)):r.length+1<=ts.length:=M9 (Dk.1 h)
theorem T9 {x:ByteArray}(h:Jd ts=some (x,r)):r.length+1<=ts.length:=by
 cases ts with
 |nil=>cases h
 |cons t l=>simp only [Jd] at h;split at h<;>cases h;simp
theorem T8 {x:Int}(h:J1 ts=some (x,r)):r.length+1<=ts.length:=by
 cases ts with
 |nil=>cases h
 |cons t l=>simp only [J1] at h;split at h<;>cases h;simp
theorem Zxj {n:Int}(h:Qx n ts≠0):ts.tail.length+1=ts.length:=by
 cases ts with
 |nil=>exact aV (by unfold Qx;simp [E5,isW]) h
 |cons t r=>simp
theorem Rz: ∀ f,(∀ n ts e r,Vq f n ts=some (e,r)->e.nd+r.length<=ts.length/\e.dep+r.length<=ts.length)/\(∀ n x ts e r,Nl f n x ts=some (e,r)->e.nd+r.length<=ts.length+x.nd/\(∀ B,x.dep+ts.length<=B->ts.length<=B->e.dep+r.length<=B))/\
 (∀ ts e r,unS f ts=some (e,r)->e.nd+r.length<=ts.length/\e.dep+r.length<=ts.length)/\(∀ ts e r,Uo f ts=some (e,r)->e.nd+r.length<=ts.length/\e.dep+r.length<=ts.length):=by
 intro f
 induction f with
 |zero=>exact ⟨fun _ _ _ _ h=>(by cases h),fun _ _ _ _ _ h=>(by cases h),fun _ _ _ h=>(by cases h),fun _ _ _ h=>by cases h⟩
 |succ f ih=>
  obtain ⟨c,m,g,s⟩:=ih;refine ⟨fun n ts e r h=> ?_,fun n x ts e r h=> ?_,fun ts e r h=> ?_,fun ts e r h=> ?_⟩
  . rw [Vq] at h;split at h
    . exact g _ _ _ h
    split at h
    . cases h
    rename_i e1 i b;have j:=c _ _ _ _ b;have q:=m _ _ _ _ _ h;exact ⟨by omega,q.2 _ j.2 (by omega)⟩
  . rw [Nl] at h;split at h
    . cases h;exact ⟨by omega,fun B b _=>b⟩
    rename_i v;have o:=Zxj v;split at h
    . cases h
    rename_i a i b;have j:=c _ _ _ _ b;have l:(PEx.mk 6 0 em 0 false (Qx n ts) [x,a]).nd=1+(x.nd+(a.nd+0)):=rfl;have k:(PEx.mk 6 0 em 0 false (Qx n ts) [x,a]).dep=max x.dep (max a.dep 0)+1:=rfl;split at h
    . cases h;exact ⟨by omega,fun B b d=>by omega⟩
    have q:=m _ _ _ _ _ h;exact ⟨by omega,fun B b d=>q.2 B (by omega) (by omega)⟩
  . rw [unS] at h;split at h
    . rename_i i b;have o:=M9 b;split at h
      . cases h
      rename_i a p d
      cases h
      have j:=g _ _ _ d;have l:(PEx.mk 4 0 em 0 false 0 [a]).nd=1+(a.nd+0):=rfl;have k:(PEx.mk 4 0 em 0 false 0 [a]).dep=max a.dep 0+1:=rfl;exact ⟨by omega,by omega⟩
    split at h
    . rename_i i b;have o:=M9 b;split at h
      . cases h
      rename_i a p d
      cases h
      have j:=g _ _ _ d;have l:(PEx.mk 5 0 em 0 false 0 [a]).nd=1+(a.nd+0):=rfl;have k:(PEx.mk 5 0 em 0 false 0 [a]).dep=max a.dep 0+1:=rfl;exact ⟨by omega,by omega⟩
    exact s _ _ _ h
  rw [Uo] at h;split at h
  . rename_i i b;have o:=M9 b;split at h
    . cases h
    rename_i a p d;have j:=c _ _ _ _ d;split at h
    . cases h
    rename_i u t
    cases h
    have:=M9 t;exact ⟨by omega,by omega⟩
  split at h
  . rename_i z i b
    cases h
    have:=T8 b;have l: ∀ z,(PEx.mk 1 z em 0 false 0 []).nd=1+0:=fun _=>rfl
    have k: ∀ z,(PEx.mk 1 z em 0 false 0 []).dep=0+1:=fun _=>rfl
    exact ⟨by rw [l];omega,by rw [k];omega⟩
  split at h
  . cases h
  rename_i nm i b;have o:=T9 b;split at h
  . cases h
    have l:(PEx.mk 2 0 nm 0 false 0 []).nd=1+0:=rfl;have k:(PEx.mk 2 0 nm 0 false 0 []).dep=0+1:=rfl;exact ⟨by omega,by omega⟩
  rename_i p d;have w:=M9 d;split at h
  . cases h
  rename_i a u t;have j:=c _ _ _ _ t;split at h
  . cases h
  rename_i r4 y
  cases h
  have:=M9 y;have l:(PEx.mk 3 0 nm 0 false 0 [a]).nd=1+(a.nd+0):=rfl;have k:(PEx.mk 3 0 nm 0 false 0 [a]).dep=max a.dep 0+1:=rfl;exact ⟨by omega,by omega⟩
theorem Zd {α β:Type}{A:Option (α×List Tk)}{K:α->List Tk->Option β}{y:β}(h:bnd A K=some y): ∃ x r,A=some (x,r)/\K x r=some y:=by
 cases A with
 |none=>cases h
 |some x=>exact ⟨x.1,x.2,rfl,h⟩
mutual
theorem Zqo {B C:Nat}(h:B<=C): ∀ {s:PStm},s.bdd B->s.bdd C
 | .mk _ _ _ _ _ _ _ _ _ _ _ _ _,⟨h1,h2,h3,h4⟩=>⟨dR h1 h,dR h2 h,Kz h h3,Kz h h4⟩
theorem Kz {B C:Nat}(h:B<=C): ∀ {l:List PStm},Wr B l->Wr C l
 | [],_=>trivial
 |_::_,⟨h1,h2⟩=>⟨Zqo h h1,Kz h h2⟩
end
theorem Zwv:PEx.z.nd=0:=rfl
theorem Gz:PEx.z.dep=1:=rfl
theorem Tj {k:Int}{e:PEx}{b l:List PStm}{i s o:Int}{lo:Bool}:(PStm.mk k ln cl nm wt e ix b l i s o lo).nd=2+e.nd+ix.nd+Z0 b+Z0 l:=rfl
theorem Zkl {f:Nat}{k:Int}{p:Int×Int}{s:PStm}(hB:ts.length+1<=B)(h:Us f k p nm ts=some (s,r)):s.nd+r.length<=ts.length+1/\s.bdd B:=by
 unfold Us at h;split at h
 . split at h
   . rename_i n
     have y:ts.tail.length+1=ts.length:=by cases ts with
      |nil=>cases n
      |cons t r=>simp
     obtain ⟨ix,v,q,h⟩:=Zd h;obtain ⟨_,u,o,h⟩:=Zd h;obtain ⟨_,j,c,h⟩:=Zd h;obtain ⟨e,i,b,h⟩:=Zd h;obtain ⟨_,d,a,h⟩:=Zd h
     cases h
     have x:=(Rz _).1 _ _ _ _ q;have w:=Wp o;have m:=Wp c;have l:=(Rz _).1 _ _ _ _ b;have g:=Wp a;exact ⟨by rw [Tj];simp only [Z0];omega,by omega,by omega,trivial,trivial⟩
   obtain ⟨_,j,c,h⟩:=Zd h;obtain ⟨e,i,b,h⟩:=Zd h;obtain ⟨_,d,a,h⟩:=Zd h
   cases h
   have m:=Wp c;have l:=(Rz _).1 _ _ _ _ b;have g:=Wp a;exact ⟨by rw [Tj,Zwv];simp only [Z0];omega,by omega,by rw [Gz];omega,trivial,trivial⟩
 split at h
 . obtain ⟨_,j,c,h⟩:=Zd h;obtain ⟨e,i,b,h⟩:=Zd h;obtain ⟨_,d,a,h⟩:=Zd h
   cases h
   have m:=Wp c;have l:=(Rz _).1 _ _ _ _ b;have g:=Wp a;exact ⟨by rw [Tj,Zwv];simp only [Z0];omega,by omega,by rw [Gz];omega,trivial,trivial⟩
 split at h
 focus
  obtain ⟨wt,j,c,h⟩:=Zd h;obtain ⟨_,d,a,h⟩:=Zd h
  cases h
  have m:=T9 c;have g:=Wp a
 rotate_left
 focus
  split at h
  . obtain ⟨e,i,b,h⟩:=Zd h;obtain ⟨_,d,a,h⟩:=Zd h
    cases h
    have l:=(Rz _).1 _ _ _ _ b;have g:=Wp a;exact ⟨by rw [Tj,Zwv];simp only [Z0];omega,by omega,by rw [Gz];omega,trivial,trivial⟩
  obtain ⟨_,d,a,h⟩:=Zd h
  cases h
  have g:=Wp a
 all_goals
  exact ⟨by rw [Tj,Zwv];simp only [Z0];omega,by rw [Gz];omega,by rw [Gz];omega,trivial,trivial⟩
theorem Xt (h:Uz ts≠0):ts.tail.length+1=ts.length:=by
 cases ts with
 |nil=>exact aV (by decide) h
 |cons t r=>simp
theorem stmt_nd (B:Nat): ∀ f,(∀ ts s r,ts.length+1<=B->Ju f ts=some (s,r)->s.nd+r.length<=ts.length/\s.bdd B)/\(∀ ts l r,ts.length+1<=B->H8 f ts=some (l,r)->Z0 l+r.length+2<=ts.length/\Wr B l)/\(∀ ts l r,ts.length+1<=B->U9 f ts=some (l,r)->Z0 l+r.length<=ts.length/\Wr B l):=by
 intro f
 induction f with
 |zero=>exact ⟨fun _ _ _ _ h=>(by cases h),fun _ _ _ _ h=>(by cases h),fun _ _ _ _ h=>by cases h⟩
 |succ f ih=>
  obtain ⟨n,i,g⟩:=ih;refine ⟨fun ts s r o h=> ?_,fun ts l r o h=> ?_,fun ts l r o h=> ?_⟩
  . rw [Ju] at h;split at h
    . rename_i z;have u:=Xt (ts:=ts) (by omega);obtain ⟨e,m,a,h⟩:=Zd h;obtain ⟨b,d,j,h⟩:=Zd h;have k:=(Rz _).1 _ _ _ _ a;have c:=i _ _ _ (by omega) j;split at h
      . rename_i x
        have y:d.tail.length+1=d.length:=by
         have:=x.2
         cases d with
         |nil=>cases this
         |cons t r=>simp
        obtain ⟨b2,v,p,h⟩:=Zd h
        cases h
        have q:=i _ _ _ (by omega) p;exact ⟨by rw [Tj,Zwv];omega,by omega,by rw [Gz];omega,c.2,q.2⟩
      cases h
      exact ⟨by rw [Tj,Zwv];simp only [Z0];omega,by omega,by rw [Gz];omega,c.2,trivial⟩
    split at h
    . rename_i z;have u:=Xt (ts:=ts) (by omega);have:=Zkl (B:=B) (by omega) h;exact ⟨by omega,this.2⟩
    obtain ⟨nm,m,a,h⟩:=Zd h;have k:=T9 a;have u:(if 0<Uz ts then ts.tail else ts).length<=ts.length:=by split<;>simp
    have:=Zkl (B:=B) (by omega) h;exact ⟨by omega,this.2⟩
  . rw [H8] at h;obtain ⟨_,m,a,h⟩:=Zd h;obtain ⟨w,d,j,h⟩:=Zd h;obtain ⟨_,v,p,h⟩:=Zd h
    cases h
    have k:=Wp a;have c:=g _ _ _ (by omega) j;have q:=Wp p;exact ⟨by omega,c.2⟩
  rw [U9] at h;split at h
  . cases h;exact ⟨by simp [Z0],trivial⟩
  obtain ⟨s,m,a,h⟩:=Zd h;obtain ⟨w,d,j,h⟩:=Zd h
  cases h
  have k:=n _ _ _ o a;have c:=g _ _ _ (by omega) j;exact ⟨by simp only [Z0];omega,k.2,c.2⟩
theorem decl_nd {f:Nat}(hB:ts.length+1<=B)(h:Hl f ts=some (d,r)):Z0 d.body+r.length+1<=ts.length/\Wr B d.body/\(1<=d.k/\d.k<=6):=by
 have j:dkS ts<=6:=Dx;unfold Hl at h;split at h
 . cases h
 rename_i q;obtain ⟨nm,i,p,h⟩:=Zd h;have w:=T9 p
 have x:ts.tail.length+1=ts.length:=by
  cases ts with
  |nil=>exact aV (show dkS []=0 by decide) q
  |cons t r=>simp
 split at h
 . obtain ⟨b,e,a,h⟩:=Zd h
   cases h
   have g:=(stmt_nd B f).2.1 _ _ _ (by omega) a;exact ⟨by dsimp only;omega,g.2,by dsimp only;omega⟩
 obtain ⟨n,e,a,h⟩:=Zd h;obtain ⟨_,u,o,h⟩:=Zd h
 cases h
 have v:=Wp o
 have g:e.length<=i.length:=by
  unfold G5 at a;split at a
  . obtain ⟨_,c,m,a⟩:=Zd a;have:=Wp m;split at a
    . obtain ⟨z,s,l,a⟩:=Zd a
      cases a
      have:=T8 l;have y:c.tail.length<=c.length:=by simp
      omega
    have:=T8 a;omega
  split at a
  . have:=T8 a;omega
  cases a;exact aU _
 exact ⟨by simp only [Z0];omega,trivial,by dsimp only;omega⟩
theorem Du {G:Nat}: ∀ {f:Nat} {ts:List Tk} {ds:List PDec} {B:Nat},ts.length+1<=B->Ua G f ts=some ds->(ds.map fun d=>Z0 d.body+1).sum<=ts.length/\ ∀ d∈ds,Wr B d.body/\(1<=d.k/\d.k<=6)
 |0,_,_,_,_,h=>by cases h
 |f+1,ts,ds,B,hB,h=>by
  rw [Ua] at h;split at h
  . cases h;exact ⟨by simp,fun d a=>by cases a⟩
  obtain ⟨d,r,e,h⟩:=Zd h
  cases h2:Ua G f r with
  |none=>rw [h2] at h;cases h
  |some us=>
   rw [h2] at h;cases h
   have c:=decl_nd hB e;have b:=Du (B:=B) (by omega) h2;refine ⟨by simp only [bA,kM];omega,fun d a=> ?_⟩;rcases bG.1 a with rfl|a
   . exact c.2
   exact b.2 d a
def MoreD (L:List Tk)(S:Option (List PDec))(G g:Nat)(l:List PDec)(n:Nat)(b:Bool):Prop:=(b=false/\S=(Ua G g (L.drop n)).map (l++ ·))\/(b=true/\S=none)
section
variable {L:List Tk}{S:Option (List PDec)}{G g n m:Nat}{l:List PDec}{b:Bool}
theorem MoreD.go (h:MoreD L S G (g+1) l n false)(hn:n<L.length)(ho:Out L false (Hl G (L.drop n)) d m b):MoreD L S G g (l++ [d]) m b:=by
 rcases h with ⟨_,e⟩|⟨e,_⟩
 . have a:L.drop n≠ []:=by rw [aP hn];exact List.cons_ne_nil _ _
   rcases ho with ⟨c,_,f⟩|⟨c,i⟩
   . refine .inl ⟨c,?_⟩;rw [e,Ua,if_neg a,f];simp only [bnd];cases Ua G g (L.drop m)<;>simp
   refine .inr ⟨c,?_⟩;rw [e,Ua,if_neg a,i.resolve_left (by decide)];rfl
 cases e
theorem MoreD.over (h:MoreD L S G (g+1) l n false)(hn:L.length<=n):S=some l:=by
 rcases h with ⟨_,e⟩|⟨e,_⟩
 . rw [e,cL hn,Ua,if_pos rfl];simp
 cases e
theorem MoreD.bad (h:MoreD L S G g l n true):S=none:=by
 rcases h with ⟨e,_⟩|⟨_,e⟩
 . cases e
 exact e
end
theorem Zzt {l:Bs}(h:Ft l=none):Q9 l=none:=by
 unfold Ft at h;unfold Q9;split
 . rfl
 rw [if_neg ‹_›] at h;rw [h]
theorem Zzc {l:Bs}(h:Ft l=some ts):Q9 l=(match Ua (10*ts.length+20) (ts.length+1) ts with|none=>none|some ds=>if ds.any (fun d=>Y2 d.body 1)=true then none else some ds):=by
 unfold Ft at h;unfold Q9;split
 . rw [if_pos ‹_›] at h;cases h
 rw [if_neg ‹_›] at h;simp only [h];rfl
theorem lexO_fin {l:Bs}(h:Ft l=some ts):ts.length<=65536/\ ∀ t∈ts,0<=t.n/\t.n<=2147483647:=by
 unfold Ft at h;split at h
 . cases h
 have:=Nv h;exact ⟨by omega,this.2⟩
def DcsAt (M:Hp)(a:Option Addr)(c:Nat)(l:List Dec):Prop:=SlAt M a c l.length (l.flatMap dcC)/\Decs.At M l
theorem DcsAt.mono {a:Option Addr}{c:Nat}{l:List Dec}(e:Hle M M')(h:DcsAt M a c l):DcsAt M' a c l:=⟨h.1.mono e,h.2.mono e⟩
def dsM (a:Option Addr)(c:Nat)(l:List Dec):HP:=lst (fun M=>DcsAt M a c l) DcsAt.mono
theorem Zkw {a:Option Addr}{c:Nat}{l:List Dec}(h:Kn q fun M=>DcsAt M a c l):Sees q a (l.flatMap dcC):=eR (h.imp fun M h=>h.1.2.2)
theorem Kn.dsI {a:Option Addr}{c:Nat}{l:List Dec}(h:Kn q fun M=>DcsAt M a c l)(hi:i<l.length):Kn q fun M=>BlkAt M l[i].ba l[i].bc l[i].body:=h.imp fun M h=>h.2 _ (aC hi)
theorem X.dcs {l:List Dec}{s:Dec}(h1:Le q (dcsM l::q1))(h2:Le q1 (dcM s::q2))(K:X P G fr Q todo p ds cs (dcsM (l++ [s])::q2)):X P G fr Q todo p ds cs q:= .le (h1.trans ((cG _ h2).trans Zq2)) K
theorem X.fzD {a:Option Addr}{c:Nat}{m:List Dec}(K:X P G fr Q todo p ds cs (dsM a c m::q0))(hq:Le q (rsH dcC 6 305 a c m::q0):=by exact Zj)(h:Kn q0 fun M=>Decs.At M m:=by exact knA):X P G fr Q todo p ds cs q:= .frzR (Kn.here.and h.there) K hq
section
variable {s:ByteArray}{n:Nat}
theorem Oi:(prog.info? 305).map (fun i=>(i.zero,i.size,i.bytes))=some (some (.agg #[I64 0,I64 0,I64 0,.string ⟨#[]⟩,I64 0,.slice none 0 0]),6,72):=by kernel_rfl
abbrev Ba (v0:List HP):=(Ret fun v q'=> ∃ y z:Int,v= .agg (AF y z).toArray/\q'=v0)
theorem Zz6 (hn:n<=s.size)(h63:s.size<=65536):CallF prog G 223 [.string s,I64 n] (q) (Ba q):=by
 refine aB func223 ntmps223 rfl fun F cs=> ?_;refine xo 2 ?_;refine Zh zeroValue104 fun d=> ?_
 refine oo 4 ?_;refine Zh zeroValue104 fun c=> ?_
 refine rn [0,7] ?_;refine aX (cC (fun (k:Nat×Int×Int)=>k.1<=n/\0<=k.2.1/\k.2.1<=k.1+1/\0<=k.2.2/\k.2.2<=k.1+1) (fun k=> [(6,I64 (k.1:Int)),(0,.string s),(1,I64 n),(4,pt d),(5,pt c)]) (fun k=>pto c (.cells [I64 k.2.1,I64 k.2.2].toArray 104 (0,0))::pto d Ai::(q++F)) (fun k=>n - k.1) (fun k a b=> ?_) (0,1,1) ⟨by omega,by decide,by decide,by decide,by decide⟩) Zn leA;try dsimp only at a b|-
 obtain ⟨i,h,g,f,e⟩:=a;obtain ⟨k,y,z⟩:=k;dsimp only at*;refine xx 7 ?_;refine xp 10 ?_ ?_<;>intro l
 . refine rn [7,0,2,0,5] ?_;refine Vl (Wc rfl rfl underlying9 (by omega) (by omega)) ?_;refine ox 2 ?_;refine xp 20 ?_ ?_<;>intro j
   . refine rn [3,0,2,0,1,0,7] ?_;refine aX (b (k+1,y+1,1) ⟨by dsimp only;omega,by dsimp only;omega,by dsimp only;omega,by dsimp only;omega,by dsimp only;omega⟩ (by dsimp only;omega)) Zn leA
   refine xx 8 ?_;refine aX (b (k+1,y,z+1) ⟨by dsimp only;omega,by dsimp only;omega,by dsimp only;omega,by dsimp only;omega,by dsimp only;omega⟩ (by dsimp only;omega)) Zn leA
 refine rn [4,0,0,1] ?_;refine Zq (q) func223 (rA_ results223) ⟨_,rfl,y,z,rfl,rfl⟩
theorem End_ok (h63:s.size<=65536):CallF prog G 155 [.string s] (q) (Ba q):=by
 refine aB func155 ntmps155 rfl fun F cs=> ?_;refine xo 2 ?_;refine Zh zeroValue104 fun a=> ?_
 refine oo 6 ?_;refine Zv call223 (aH _) (Zz6 (n:=s.size) (aU _) h63) ?_;rintro _ _ ⟨y,z,rfl,rfl⟩;refine rn [0,1] ?_;refine Zq (q) func155 (rA_ results155) ⟨_,rfl,y,z,rfl,rfl⟩
theorem Parse_ok:CallF prog G 90 [.string s] (q) (Ret fun v q'=>(∃ ds a c,Q9 (bs s)=some (ds.map Dec.er)/\v= .tuple [.slice a ds.length c,.agg zz5.toArray,I64 0].toArray/\q'=dsM a c ds::q)\/(Q9 (bs s)=none/\ ∃ (y z e:Int),e≠0/\v= .tuple [.slice none 0 0,.agg (AF y z).toArray,I64 e].toArray/\q'=q)):=by
 refine aB func90 ntmps90 rfl fun F cs=> ?_;refine xo 3 ?_;refine Zh zeroValue104 fun n1=> ?_
 refine oo 5 ?_;refine Zv call153 (aH _) (Lex_ok) ?_;rintro _ _ (⟨L,la,lc,hx,rfl,rfl⟩|⟨hx,y,z,e,he,rfl,rfl⟩)
 . obtain ⟨hn,hT⟩:=lexO_fin hx;have r:=Zzc hx;obtain ⟨S,hS⟩: ∃ S,Ua (10*L.length+20) (L.length+1) L=S:=⟨_,rfl⟩;rw [hS] at r;have b0:=Zx (f:=tkC) (sz:=5) (fun _=>rfl) L;refine oo 4 ?_;refine Zh zeroValue104 fun n2=> ?_
   refine rn [1,0,8,1020,6] ?_;refine Zl fun n3=> ?_
   refine ox 8 ?_;have f0:MoreD L S (10*L.length+20) (L.length+1) [] 0 false:= .inl ⟨rfl,by rw [<-hS,fY];cases Ua (10*L.length+20) (L.length+1) L<;>rfl⟩;refine aX (cC (fun (h:(Option Addr×Nat×List Dec)×Nat×Bool×Nat)=>h.2.1<=L.length/\(h.2.2.1=false->L.length - h.2.1<h.2.2.2/\h.1.2.2.length<=h.2.1)/\h.1.2.2.length<=h.2.1+1/\MoreD L S (10*L.length+20) h.2.2.2 (h.1.2.2.map Dec.er) h.2.1 h.2.2.1) (fun h=> [(9,.slice h.1.1 h.1.2.2.length h.1.2.1),(8,pt n3),(5,.slice la L.length lc),(0,.string s),(2,.slice none 0 0),(3,pt n1),(4,I64 0)]) (fun h=>rdH n3 la lc L h.2.1 h.2.2.1::rsH dcC 6 305 h.1.1 h.1.2.1 (h.1.2.2)::dcsM h.1.2.2::rsH tkC 5 310 la lc L::pto n1 Ai::(q++F)) (fun h=>2*(L.length - h.2.1)+(if h.2.2.1=true then 0 else 1)) (fun h j ih=> ?_) ((none,0, []),0,false,L.length+1) ⟨bC _,fun _=>⟨by dsimp only;omega,aU _⟩,by simp,f0⟩) Zn (aM leA (aM (Zc dcC 6 305 _) (aM Zj6 leA)));try dsimp only at j ih|-
   obtain ⟨j0,d0,q0,o⟩:=j;obtain ⟨⟨a,c,l⟩,n,b,g⟩:=h;dsimp only at*;clear f0;refine rn [6,0,2] ?_;refine bB [31,9,8,5,0,2,3,4] ?_;apply Zg 8 39 31 rfl
   . intro g1 M1;have p:=sp g1;refine rn [3,0,4] ?_;exact Zz M1 ⟨Yi g1,Zw⟩
   . intro g1 M1;have p:=sp g1;refine oo 8 ?_;exact Zz M1 ⟨Yl g1,Zw⟩
   refine ox 1 ?_;refine xp 39 ?_ ?_<;>intro p
   . refine xo 6 ?_;obtain ⟨rfl,h2⟩:b=false/\n<L.length:=⟨p.1,by have:=p.2;omega⟩;obtain ⟨s0,r0⟩:=d0 rfl;obtain ⟨g,rfl⟩: ∃ g2,g=g2+1:=⟨g - 1,by omega⟩;refine Zv call154 leA (decl_ok (f:=10*L.length+20) (n:=n) (bad:=false) (L:=L) (Sees.le (cI _) Zj) hn j0 hT (by omega)) ?_;rintro _ _ ⟨d,m2,b2,rfl,rfl,⟨o0,w⟩,n0,h0⟩;refine bU (Yz (u:=d) dcC underlying197 Oi rfl rfl (fun _=>rfl) rfl) ?_;rintro _ _ ⟨g2,rfl,rfl⟩;refine bU (Z4 (f:=dcC) (l:=l) (m:= [d]) underlying197 Oi rfl rfl (fun _=>rfl) rfl rfl Zj ((cI _).le Zj) (fun _=>rfl) (by simp;omega) (by simp;omega)) ?_;rintro _ _ ⟨a3,c3,rfl,rfl⟩;refine ox 3 ?_;refine X.dcs (l:=l) (s:=d) Zj Zj ?_;refine aX (ih ((a3,c3,l++ [d]),m2,b2,g) ⟨n0,fun hb=>⟨by have:=w hb;dsimp only;omega,by have:=w hb;simp;omega⟩,by simp;omega,by rw [aO];exact o.go h2 h0⟩ (by dsimp only;cases b2 with|true=>simp;omega|false=>have:=w rfl;simp;omega)) Zn leA
   refine rn [8,0,1] ?_;refine xp 48 ?_ ?_<;>intro h2
   . refine rn [7,0,4] ?_;refine xp 55 ?_ ?_<;>intro h3
     . refine xo 4 ?_;refine Zv call155 (aH _) (End_ok (s:=s) (by have:=hx;unfold Ft at this;split at this;cases this;rw [<-Nf];omega)) ?_;rintro _ _ ⟨y,z,rfl,rfl⟩;refine rn [1,0,2] ?_;subst h2;have x:=o.bad;refine Zq (q) func90 (Ee results90) ⟨_,rfl,.inr ⟨by rw [r,x],y,z,120,by first|assumption|decide,rfl,rfl⟩⟩
     refine rn [3,0,1,2,3,4,5] ?_;have i:n<L.length:=by omega
     refine Nh (cI (f:=tkC) (sz:=5) (ty:=310) (a:=la) (c:=lc) (l:=L) []) (by rw [b0];omega) fun b1 o1 e1=> ?_;subst e1;refine dd [5,6] ?_;refine XD.rdCs 7 (us:= [I64 L[n].ln,I64 L[n].cl]) rfl rfl isAgg104 sizeOf104 rfl (fun k v hk=>by match k,hk with|0,hk=>cases hk;exact dW (n:=n) (cI (f:=tkC) (sz:=5) (ty:=310) (c:=lc) (l:=L) []) leA (fun _=>rfl) i rfl 3 _ rfl|1,hk=>cases hk;exact dW (n:=n) (cI (f:=tkC) (sz:=5) (ty:=310) (c:=lc) (l:=L) []) leA (fun _=>rfl) i rfl 4 _ rfl) ?_;refine rn [9,10,11,0] ?_;subst h2;have x:=o.bad;refine Zq (q) func90 (Ee results90) ⟨_,rfl,.inr ⟨by rw [r,x],L[n].ln,L[n].cl,120,by first|assumption|decide,rfl,rfl⟩⟩
   refine xx 8 ?_;subst h2;replace p:L.length<=n:=by rcases p with p|p;cases p;omega
   obtain ⟨g,rfl⟩: ∃ g2,g=g2+1:=⟨g - 1,by have:=(d0 rfl).1;omega⟩;have m0:=o.over p;rw [m0] at r hS;dsimp only at r;have l0: ∀ d∈l,Wr 1000000 (Zk d.body):=fun d hd=>Kz (by omega) ((Du (aU _) hS).2 d.er (aZ hd)).1
   refine X.fzD (m:=l) ?_;have c0:Kn [dsM a c l] fun M=>DcsAt M a c l:=fJ;have g0:=Zkw c0;have k0:=Zx (f:=dcC) (sz:=6) (fun _=>rfl) l;clear ih o
   refine aX (cC (fun (k:Nat×Option Addr)=>k.1<=l.length/\k.2=a/\((l).map Dec.er).any (fun d=>Y2 d.body 1)=((l.drop k.1).map Dec.er).any (fun d=>Y2 d.body 1)) (fun k=> [(10,I64 (k.1:Int)),(9,.slice k.2 l.length c),(2,.slice none 0 0),(3,pt n1),(4,I64 0)]) (fun k=>dsM a c l::pto n1 Ai::(q++F)) (fun k=>l.length - k.1) (fun k j a0=> ?_) (0,a) ⟨bC _,rfl,rfl⟩) Zn leA;try dsimp only at j a0|-
   obtain ⟨p0,i0,t⟩:=j;obtain ⟨k,a2⟩:=k;dsimp only at*;subst i0;refine xx 8 ?_;refine xp 69 ?_ ?_<;>intro h3
   . have i:k<l.length:=by omega
     have e0:l.drop k=l[k]::l.drop (k+1):=aP i;refine Z7 g0 (by rw [k0];omega) fun b2 o2 e2=> ?_;subst e2;refine rn [10,0] ?_;refine Zv call156 (aH _) (Zwk _ l[k].body l[k].ba l[k].bc 1 (aU _) (l0 _ (aC i)) (by decide) ((Kn.dsI c0 i).le leA)) ?_;rintro _ _ ⟨pl,pc,rfl,rfl⟩;refine oo 3 ?_;refine Zh zeroValue104 fun n4=> ?_
     refine rn [0,6] ?_;refine xp 81 ?_ ?_<;>intro h4
     . refine rn [2,0,1,2,3,4,0] ?_;refine Zq (q) func90 (Ee results90) ⟨_,rfl,.inr ⟨by rw [r,t,e0,if_pos (by rw [bA,lK];simp only [Dec.er];rw [h4];rfl)],pl,pc,121,by first|assumption|decide,rfl,rfl⟩⟩
     refine xx 8 ?_;refine aX (a0 (k+1,_) ⟨by dsimp only;omega,rfl,by rw [t,e0,bA,lK];simp only [Dec.er];rw [h4];rfl⟩ (by dsimp only;omega)) Zn leA
   obtain rfl:k=l.length:=by omega
   refine rn [7,0,2] ?_;refine Zq (dsM a2 c l::q) func90 (Ee results90) ⟨_,rfl,.inl ⟨l,a2,c,by rw [r,t,dP,if_neg (by simp)],rfl,rfl⟩⟩
 have r:=Zzt hx;refine oo 4 ?_;refine Zh zeroValue104 fun n2=> ?_
 refine rn [1,0,8] ?_;refine jC 20 ?_ rfl (by simpa using he);refine rn [2,0,1,2,3,4,5,0] ?_;refine Zq (q) func90 (Ee results90) ⟨_,rfl,.inr ⟨r,y,z,e,by first|assumption|decide,rfl,rfl⟩⟩
end
def nmS (w:Bs):Bool:=if w.length<1\/16<w.length\/Zz7 (w.getD 0 0)=false\/kwS w=true then false else w.all By
def Rr (k:Int):Nat:=if k=3\/k=4\/k=5 then 1 else if k=6 then 2 else 0
def Zk8 (k n:Int)(nm:Bs)(op:Int):Bool:=if k=1 then decide (0<=n) && decide (n<=2147483647) else if k=2\/k=3 then nmS nm else if k=6 then decide (1<=op) && decide (op<=11) else true
def E6 (k n:Int)(nm:Bs)(op:Int)(d:Nat):Bool:=decide ((d:Int)<1)||(k !=1 && n !=0)||(k !=2 && k !=3 && !(nm== []))||(k !=6 && op !=0)
mutual
def PEx.right:PEx->Nat->Bool
 | .mk k n nm _ _ op args,d=>if E6 k n (bs nm) op d=true then false else if 1<=k/\k<=6 then Zk8 k n (bs nm) op && decide (args.length=Rr k) && Wy args (d - 1) else false
def Wy:List PEx->Nat->Bool
 | [],_=>true
 |e::r,d=>e.right d && Wy r d
end
def PEx.nil:PEx->Bool
 | .mk k n nm _ _ op args=>k==0 && n==0 && bs nm== [] && op==0 && decide (args.length=0)
def hasN (k:Int):Bool:=k !=4 && k !=5 && decide (k<14)
def hasW (k:Int):Bool:=k==8||k==12
def P3 (k:Int):Bool:=decide (k<=5)||k==11||k==15
def Zz4 (k:Int)(n:Nat):Bool:=decide (k<1)||decide (15<k)||decide (24<(n:Int))
def may2 (k:Int)(nm wt:Bs):Bool:=(hasN k !=nmS nm)||(!hasN k && !(nm== []))||(hasW k !=nmS wt)||(!hasW k && !(wt== []))
def Xu (k:Int)(e ix:PEx):Bool:=(P3 k && !e.right 24)||(!P3 k && !e.nil)||(k==3 && !ix.right 24)||(k !=3 && !ix.nil)
def Zz3 (k:Int)(b l:Nat):Bool:=(k !=4 && k !=5 && decide (0<(b:Int)))||(k !=4 && decide (0<(l:Int)))
mutual
def PStm.may:PStm->Nat->Bool
 | .mk k _ _ nm wt e ix body els _ _ _ _,n=>
  if Zz4 k n=true then false else if may2 k (bs nm) (bs wt)=true then false else if Xu k e ix=true then false else if Zz3 k body.length els.length=true then false
  else Yp body (n+1) && Yp els (n+1)
def Yp:List PStm->Nat->Bool
 | [],_=>true
 |s::r,n=>s.may n && Yp r n
end
def Zz5 (k n:Int)(nm:Bs)(b:Nat)(m:Bool):Bool:=decide (k<1)||decide (6<k)|| !nmS nm||(k !=6 && decide (0<(b:Int)))||decide (2147483647<n)||decide (n< -2147483647)||(k !=1 && decide (n<0))||(k !=1 && k !=2 && k !=5 && n !=0)|| !m
def PDec.bad (d:PDec):Bool:=Zz5 d.k d.n (bs d.nm) d.body.length (Yp d.body 1)
theorem X.join {f:Fc}{a:Item}{k:List Item}{α:Type}(E:α->PE)(C:α->List HP)(I:α->Prop)(hK: ∀ x,I x->X P G f Q k (E x) ds cs (C x))(h:(∀ x,I x->X P G f Q k (E x) ds cs (C x))->X P G f Q (a::k) p ds cs q):X P G f Q (a::k) p ds cs q:=h hK
abbrev lB:=@X.join
theorem aln_all {l:Bs}(h:i<l.length):l.all By=((l.take i).all By && (By (l.getD i 0) && (l.drop (i+1)).all By)):=by
 conv=>lhs;rw [<-dZ i l,aP h]
 rw [kY,iK,gD h]
section
variable {s:ByteArray}{x:Stm}{l:List Stm}{a:Option Addr}{c n d:Nat}
theorem Xg:CallF prog G 225 [.string s] (q) (Ret fun v q'=>v= .bool (nmS (bs s))/\q'=q):=by
 refine aB func225 ntmps225 rfl fun F cs=> ?_;have u:=Nf s;refine xo 11 ?_;refine bB [7,2,0] ?_;apply Zb 4 11 7 rfl
 . intro a e;have b:=sp a;refine oo 4 ?_;exact Zz e ⟨orF a,Zw⟩
 . intro a e;have b:=sp a;refine oo 4 ?_;exact Zz e ⟨orT a,Zw⟩
 refine oo 1 ?_;refine bB [12,2,0] ?_;apply Zb 5 17 12 rfl
 . intro a e;have b:=sp a;refine oo 1 ?_;refine Vl (Wc rfl rfl underlying9 (by omega) (by omega)) ?_;refine aW 14 (.int .u8 (((bs s).getD 0 0).toNat:Int)) rfl (rfl) ?_;refine bM call275 (Ey (c:=(bs s).getD 0 0)) ?_;refine oo 2 ?_;exact Zz e ⟨orF a,Zw⟩
 . intro a e;have b:=sp a;refine oo 5 ?_;exact Zz e ⟨orT a,Zw⟩
 refine oo 1 ?_;refine bB [18,2,0] ?_;apply Zb 3 21 18 rfl
 . intro a e;have b:=sp a;refine oo 1 ?_;refine bM call272 (Km) ?_;refine oo 1 ?_;exact Zz e ⟨orF a,Zw⟩
 . intro a e;have b:=sp a;refine oo 3 ?_;exact Zz e ⟨orT a,Zw⟩
 refine ox 1 ?_;refine xp 21 ?_ ?_<;>intro b
 . refine xx 5 ?_;refine Zq (q) func225 (Zf results225 rfl) ⟨_,rfl,by unfold nmS;rw [if_pos];rcases b with ((b|b)|b)|b;exact .inl (by omega);exact .inr (.inl (by omega));exact .inr (.inr (.inl (by simpa using b)));exact .inr (.inr (.inr b)),rfl⟩
 refine xx 8 ?_;have w:s.size<=16:=by have:=b.1.1.2;omega
 have r:nmS (bs s)=(bs s).all By:=by unfold nmS;rw [if_neg];rintro (h|h|h|h)<;>first|omega|simp_all
 refine aX (cC (fun (k:Nat)=>k<=s.size/\((bs s).take k).all By=true) (fun k=> [(3,I64 k),(0,.string s),(2,.bool false)]) (fun k=>(q++F)) (fun k=>s.size - k) (fun k j p=> ?_) 0 ⟨bC _,rfl⟩) Zn leA;try dsimp only at j p|-
 obtain ⟨t,g⟩:=j;refine xx 8 ?_;refine xp 25 ?_ ?_<;>intro x
 . refine xo 8 ?_;refine Vl (Wc rfl rfl underlying9 (by omega) (by omega)) ?_;refine aW 30 (AE s k) rfl (rfl) ?_;refine bM call275 (Ey (c:=(bs s).getD k 0)) ?_;refine oo 2 ?_;refine bB [33,3,0,2] ?_;apply Zg 6 39 33 rfl
   . intro l o;have m:=sp l;refine oo 2 ?_;refine Vl (Wc rfl rfl underlying9 (by omega) (by omega)) ?_;refine aW 36 (AE s k) rfl (rfl) ?_;refine bM call270 (Dp (c:=(bs s).getD k 0)) ?_;refine oo 2 ?_;exact Zz o ⟨Yi l,Zw⟩
   . intro l o;have m:=sp l;refine oo 6 ?_;exact Zz o ⟨Yl l,Zw⟩
   refine ox 1 ?_;refine xp 39 ?_ ?_<;>intro m
   . refine xx 5 ?_;refine Zq (q) func225 (Zf results225 rfl) ⟨_,rfl,by rw [r,aln_all (i:=k) (by omega)];have n:By ((bs s).getD k 0)=false:=(by unfold By;revert m;cases Zz7 ((bs s).getD k 0)<;>cases Jo ((bs s).getD k 0)<;>simp);rw [n];simp,rfl⟩
   refine xx 8 ?_;have f:k<(bs s).length:=(by omega);have n:By ((bs s).getD k 0)=true:=by unfold By;revert m;cases Zz7 ((bs s).getD k 0)<;>cases Jo ((bs s).getD k 0)<;>simp
   refine aX (p (k+1) ⟨by omega,by rw [aN f,kY,g,<-gD (d:=0) f];simp only [iK,n,List.all_nil];rfl⟩ (by omega)) Zn leA
 refine xx 6 ?_;refine Zq (q) func225 (Zf results225 rfl) ⟨_,rfl,by rw [r,<-g,bQ (by omega)],rfl⟩
theorem Zzp (IH: ∀ x:Ex,x.sz<e.sz-> ∀ {d:Nat} {q:List HP},d<=9223372036854775807->(Kn q fun M=>x.At M)->CallF prog G 306 [.agg (exC x).toArray,I64 d] q (Ret fun v q'=>v= .bool (x.er.right d)/\q'=q))(hd:d<=9223372036854775807)(h:Kn q fun M=>e.At M):CallF prog G 306 [.agg (exC e).toArray,I64 d] (q) (Ret fun v q'=>v= .bool (e.er.right d)/\q'=q):=by
 refine aB func306 ntmps306 rfl fun F cs=> ?_;obtain ⟨k,z,nm,sl,lo,op,a,aa,ac⟩:=e;have hA:=Zkv h;have b0:=Zx (f:=exC) (sz:=7) Yk a;have e0:=Jw a;refine jW (fun w s=>Zkj (h.le leA) s) fun j0=> ?_;have l:(Ex.mk k z nm sl lo op a aa ac).er.right d=if E6 k z (bs nm) op d=true then false else if 1<=k/\k<=6 then Zk8 k z (bs nm) op && decide (a.length=Rr k) && Wy (Z5 a) (d - 1) else false:=by simp only [Ex.er,PEx.right,e0]
 obtain ⟨R,f0⟩: ∃ R,(Ex.mk k z nm sl lo op a aa ac).er.right d=R:=⟨_,rfl⟩;rw [f0] at l|-;refine xo 2 ?_;refine Zl fun n1=> ?_
 refine oo 8 ?_;refine bB [10,4,2,1] ?_;apply Zb 9 19 10 rfl
 . intro b i;have c:=sp b;refine rn [1,0,2] ?_;refine bB [14,10,4,2,1] ?_;apply Zg 4 18 14 rfl
   . intro g j;have r:=sp g;refine rn [1,0,2] ?_;exact Zz j ⟨Yi g,Zw⟩
   . intro g j;have r:=sp g;refine oo 4 ?_;exact Zz j ⟨Yl g,Zw⟩
   refine oo 1 ?_;exact Zz i ⟨orF b,Zw⟩
 . intro b i;have c:=sp b;refine oo 9 ?_;exact Zz i ⟨orT b,Zw⟩
 refine oo 1 ?_;refine bB [20,4,2,1] ?_;apply Zb 14 34 20 rfl
 . intro b i;have c:=sp b;refine rn [1,0,2] ?_;refine bB [24,20,4,2,1] ?_;apply Zg 4 28 24 rfl
   . intro g j;have r:=sp g;refine rn [1,0,2] ?_;exact Zz j ⟨Yi g,Zw⟩
   . intro g j;have r:=sp g;refine oo 4 ?_;exact Zz j ⟨Yl g,Zw⟩
   refine oo 1 ?_;refine bB [29,20,4,2,1] ?_;apply Zg 4 33 29 rfl
   . intro g j;have r:=sp g;refine rn [1,0,2] ?_;exact Zz j ⟨Yi g,Zw⟩
   . intro g j;have r:=sp g;refine oo 4 ?_;exact Zz j ⟨Yl g,Zw⟩
   refine oo 1 ?_;exact Zz i ⟨orF b,Zw⟩
 . intro b i;have c:=sp b;refine oo 14 ?_;exact Zz i ⟨orT b,Zw⟩
 refine oo 1 ?_;refine bB [35,4,2,1] ?_;apply Zb 9 44 35 rfl
 . intro b i;have c:=sp b;refine rn [1,0,2] ?_;refine bB [39,35,4,2,1] ?_;apply Zg 4 43 39 rfl
   . intro g j;have r:=sp g;refine rn [1,0,2] ?_;exact Zz j ⟨Yi g,Zw⟩
   . intro g j;have r:=sp g;refine oo 4 ?_;exact Zz j ⟨Yl g,Zw⟩
   refine oo 1 ?_;exact Zz i ⟨orF b,Zw⟩
 . intro b i;have c:=sp b;refine oo 9 ?_;exact Zz i ⟨orT b,Zw⟩
 refine ox 1 ?_;refine cY 44 rfl ?_ ?_<;>intro c
 . have o:E6 k z (bs nm) op d=true:=by rw [Zzn] at c;unfold E6;rw [<-c];simp only [fB,eV];rfl
   refine xx 5 ?_;refine Zq (q) func306 (Zf results306 rfl) ⟨_,rfl,by rw [l,if_pos o],rfl⟩
 have o: ¬E6 k z (bs nm) op d=true:=by rw [Zzn] at c;intro o;rw [<-Bool.not_eq_true] at c;apply c;rw [<-o];unfold E6;simp only [fB,eV];rfl
 rw [if_neg o] at l;have i0:1<=d:=by rcases dJ d 1 with hx|hx;exact aV (by unfold E6;rw [show decide ((d:Int)<1)=true from dA (by omega)];rfl) o;exact hx
 refine rn [11,0,1] ?_;refine lB (fun (x:Nat×Bool)=> [(5,I64 (x.1:Nat)),(6,.bool x.2),(2,pt n1),(1,I64 d),(4,.bool false)]) (fun x=>pto n1 (.cells (exC (.mk k z nm sl lo op a aa ac)).toArray 136 (0,0))::(q++F)) (fun x=>R=(x.2 && decide (a.length=x.1) && Wy (Z5 a) (d - 1))/\x.1<=2) (fun x a0=> ?_) fun K=> ?_
 . obtain ⟨m,ok⟩:=x;dsimp only at a0|-;obtain ⟨t,g0⟩:=a0;refine xo 6 ?_;refine bB [82,5,2,1,4] ?_;apply Zb 6 88 82 rfl
   . intro b i;have c:=sp b;refine rn [1,0,4] ?_;exact Zz i ⟨orF b,Zw⟩
   . intro b i;have c:=sp b;refine oo 6 ?_;exact Zz i ⟨orT b,Zw⟩
   refine ox 1 ?_;refine xp 88 ?_ ?_<;>intro c
   . refine xx 5 ?_;refine Zq (q) func306 (Zf results306 rfl) ⟨_,rfl,by rw [t];rcases c with c|c;rw [c];rfl;rw [show decide (a.length=m)=false from dQ (by omega)];simp,rfl⟩
   refine xx 8 ?_;obtain ⟨c,r⟩:=c;obtain rfl:m=a.length:=by omega
   rw [c,dA rfl,gZ,gZ] at t;refine aX (cC (fun (s:Nat×Option Addr)=>s.1<=a.length/\R=Wy (Z5 (a.drop s.1)) (d - 1)) (fun s=> [(7,I64 (s.1:Int)),(5,I64 a.length),(2,pt n1),(1,I64 d),(4,.bool false)]) (fun s=>pto n1 (.cells (exC (.mk k z nm sl lo op a aa ac)).toArray 136 (0,0))::(q++F)) (fun s=>a.length - s.1) (fun s c0 ih=> ?_) (0,none) ⟨bC _,t⟩) Zn leA;try dsimp only at c0 ih|-
   obtain ⟨h0,u⟩:=c0;obtain ⟨s,sx⟩:=s;dsimp only at*;refine xx 7 ?_;refine xp 91 ?_ ?_<;>intro t1
   . refine rn [7,0,1] ?_;have p:s<a.length:=by omega
     have d0:Wy (Z5 (a.drop s)) (d - 1)=(a[s].er.right (d - 1) && Wy (Z5 (a.drop (s+1))) (d - 1)):=by rw [aP p];rfl
     refine Ql hA (by rw [b0];omega) fun b1 o1 e1=> ?_;subst e1;refine oo 1 ?_;refine Qi (n:=s) isAgg136 sizeOf136 hA p ?_ (hf:=Yk);refine oo 2 ?_;refine aW 100 (I64 ((d - 1:Nat):Int)) rfl (aQ (Value.int .i64) (by omega)) ?_;refine bM call306 (IH a[s] (by have:=Y7 (aC p);simp only [Ex.sz];omega) (d:=d - 1) (by omega) (Zkk (h.le leA) p)) ?_;refine ox 2 ?_;refine xp 102 ?_ ?_<;>intro t2
     . refine xx 5 ?_;refine Zq (q) func306 (Zf results306 rfl) ⟨_,rfl,by rw [u,d0,t2];rfl,rfl⟩
     refine xx 8 ?_;refine aX (ih (s+1,none) ⟨by dsimp only;omega,by rw [u,d0,t2];rfl⟩ (by dsimp only;omega)) Zn leA
   refine xx 6 ?_;refine Zq (q) func306 (Zf results306 rfl) ⟨_,rfl,by obtain rfl:s=a.length:=(by omega);rw [u,dP];rfl,rfl⟩
 have y:k=1\/k=2\/k=3\/k=4\/k=5\/k=6\/ ¬ (1<=k/\k<=6):=by omega
 rcases y with rfl|rfl|rfl|rfl|rfl|rfl|y
 . rw [if_pos (by decide)] at l;refine rn [6,2047,3,0,2] ?_;refine bB [52,6,5,4,2,1] ?_;apply Zg 4 56 52 rfl
   . intro b i;have c:=sp b;refine rn [1,0,2] ?_;exact Zz i ⟨Yi b,Zw⟩
   . intro b i;have c:=sp b;refine oo 4 ?_;exact Zz i ⟨Yl b,Zw⟩
   refine ox 3 ?_;exact aX (K (0,(decide (0<=z) && decide (z<=2147483647))) ⟨l,show 0<=2 by decide⟩) Zn leA
 . rw [if_pos (by decide)] at l;refine rn [6,1047,6,2057,3,0] ?_;refine bM call225 (Xg (s:=nm)) ?_;refine ox 3 ?_;exact aX (K (0,nmS (bs nm)) ⟨l,show 0<=2 by decide⟩) Zn leA
 iterate 4
  focus
   rw [if_pos (by decide)] at l;refine rn [6,1047,6,1057,6] ?_
  rotate_left
 . rw [if_neg y] at l;refine rn [6,1047,6,1057,6,1062,7,1067,5,1067,6,1070,5] ?_;refine Zq (q) func306 (Zf results306 rfl) ⟨_,rfl,by rw [l],rfl⟩
 . refine rn [2062,3,0] ?_;refine bM call225 (Xg (s:=nm)) ?_;refine ox 4 ?_;exact aX (K (1,nmS (bs nm)) ⟨l,show 1<=2 by decide⟩) Zn leA
 . refine rn [1062,7,2067,7] ?_;exact aX (K (1,true) ⟨l,show 1<=2 by decide⟩) Zn leA
 . refine rn [1062,7,1067,5,2067,5] ?_;exact aX (K (1,true) ⟨l,show 1<=2 by decide⟩) Zn leA
 refine rn [1062,7,1067,5,1067,6,2070,1,0,1,2,3,4,9] ?_;refine XD.sb [5,75,4,2,1] ?_;apply Mc 1 [0,1,2,3,4,5,6,7,8] 79 75 rfl
 . intro b i;have c:=sp b;refine rn [5,6,7,8] ?_;exact V0 i ⟨Yi b,Zw⟩
 . intro b i;have c:=sp b;refine dd [4,5,6,7] ?_;exact V0 i ⟨Yl b,Zw⟩
 intro L_;refine rn [10,0,1] ?_;exact aX (K (2,(decide (1<=op) && decide (op<=11))) ⟨l,show 2<=2 by decide⟩) Zn leA
theorem Gd: ∀ (m:Nat) (e:Ex),e.sz<=m-> ∀ {d:Nat} {q:List HP},d<=9223372036854775807->(Kn q fun M=>e.At M)->CallF prog G 306 [.agg (exC e).toArray,I64 d] q (Ret fun v q'=>v= .bool (e.er.right d)/\q'=q)
 |m,e,hm,d,_,hd,h=>Zzp (fun x c f _ a b=>by
  cases m with
  |zero=>omega
  |succ m=>exact Gd m x (by omega) a b) hd h
theorem G6:CallF prog G 307 [.agg (exC e).toArray] (q) (Ret fun v q'=>v= .bool e.er.nil/\q'=q):=by
 refine aB func307 ntmps307 rfl fun F cs=> ?_;obtain ⟨k,z,nm,g,lo,op,c,j,i⟩:=e;have f:=Jw c;refine xo 2 ?_;refine Zl fun h=> ?_
 refine rn [5,0,2] ?_;refine bB [6,2,1] ?_;apply Zg 4 10 6 rfl
 . intro a b;have d:=sp a;refine rn [1,0,2] ?_;exact Zz b ⟨Yi a,Zw⟩
 . intro a b;have d:=sp a;refine oo 4 ?_;exact Zz b ⟨Yl a,Zw⟩
 refine oo 1 ?_;refine bB [11,2,1] ?_;apply Zg 4 15 11 rfl
 . intro a b;have d:=sp a;refine rn [1,0,2] ?_;exact Zz b ⟨Yi a,Zw⟩
 . intro a b;have d:=sp a;refine oo 4 ?_;exact Zz b ⟨Yl a,Zw⟩
 refine oo 1 ?_;refine bB [16,2,1] ?_;apply Zg 4 20 16 rfl
 . intro a b;have d:=sp a;refine rn [1,0,2] ?_;exact Zz b ⟨Yi a,Zw⟩
 . intro a b;have d:=sp a;refine oo 4 ?_;exact Zz b ⟨Yl a,Zw⟩
 refine oo 1 ?_;refine bB [21,2,1] ?_;apply Zg 5 26 21 rfl
 . intro a b;have d:=sp a;refine rn [1,0,3] ?_;exact Zz b ⟨Yi a,Zw⟩
 . intro a b;have d:=sp a;refine oo 5 ?_;exact Zz b ⟨Yl a,Zw⟩
 refine ox 2 ?_;refine Zq (q) func307 (Zf results307 rfl) ⟨_,rfl,by simp only [Ex.er,PEx.nil,f];rw [Zzn];congr 1;rw [show decide (c.length=0)=((c.length:Int)==0) by rw [cN];simp];rfl,rfl⟩
theorem Zzf (IH: ∀ (m:List Stm) (a:Option Addr) (c n:Nat),Zu m<x.sz-> ∀ {q:List HP},(Kn q fun M=>BlkAt M a c m)->CallF prog G 226 [.slice a m.length c,I64 n] q (Ret fun v q'=>v= .bool (Yp (Zk m) n)/\q'=q))(h:Kn q fun M=>x.At M):CallF prog G 276 [.agg (stC x).toArray,I64 n] (q) (Ret fun v q'=>v= .bool (x.er.may n)/\q'=q):=by
 refine aB func276 ntmps276 rfl fun F cs=> ?_;obtain ⟨k,ln,cl,nm,wt,⟨k1,y,s1,l1,o1,p1,y1,u1,w1⟩,⟨k2,w,s2,l2,o2,p2,z,u2,w2⟩,l,r,ba,bc,ea,ec,id,slot,t,loc⟩:=x;have hE:=Zkq h;have hX:=Zj8 h;have hB:=Zkz h;have hL:=Zj9 h;have b0:=Y9 l;have a0:=Y9 r;obtain ⟨R,o⟩: ∃ R,(Stm.er (.mk k ln cl nm wt (.mk k1 y s1 l1 o1 p1 y1 u1 w1) (.mk k2 w s2 l2 o2 p2 z u2 w2) l r ba bc ea ec id slot t loc)).may n=R:=⟨_,rfl⟩;rw [o];simp only [Stm.er,PStm.may,b0,a0] at o;refine xo 2 ?_;refine Zl fun n1=> ?_
 refine rn [5,0,8] ?_;refine bB [13,5,4,2,1] ?_;apply Zb 3 16 13 rfl
 . intro b f;have g:=sp b;refine oo 3 ?_;exact Zz f ⟨orF b,Zw⟩
 . intro b f;have g:=sp b;refine oo 3 ?_;exact Zz f ⟨orT b,Zw⟩
 refine oo 1 ?_;refine bB [17,5,4,2,1] ?_;apply Zb 3 20 17 rfl
 . intro b f;have g:=sp b;refine oo 3 ?_;exact Zz f ⟨orF b,Zw⟩
 . intro b f;have g:=sp b;refine oo 3 ?_;exact Zz f ⟨orT b,Zw⟩
 refine ox 1 ?_;refine cY 20 rfl ?_ ?_<;>intro c1
 . have d1:Zz4 k n=true:=by unfold Zz4;first|exact c1|(rw [<-c1];simp only [fB,eV];rfl)
   rw [if_pos d1] at o;refine xx 5 ?_;refine Zq (q) func276 (Zf results276 rfl) ⟨_,rfl,by rw [o],rfl⟩
 have d1:Zz4 k n=false:=by unfold Zz4;first|exact c1|(rw [<-c1];simp only [fB,eV];rfl)
 rw [if_neg (by rw [d1];decide)] at o;have e1:=sp c1;have c0:n<=24:=by omega
 refine xo 7 ?_;refine bB [23,5,4,2,1] ?_;apply Zg 3 26 23 rfl
 . intro b f;have g:=sp b;refine oo 3 ?_;exact Zz f ⟨Yi b,Zw⟩
 . intro b f;have g:=sp b;refine oo 3 ?_;exact Zz f ⟨Yl b,Zw⟩
 refine oo 1 ?_;refine bB [27,5,4,2,1] ?_;apply Zg 3 30 27 rfl
 . intro b f;have g:=sp b;refine oo 3 ?_;exact Zz f ⟨Yi b,Zw⟩
 . intro b f;have g:=sp b;refine oo 3 ?_;exact Zz f ⟨Yl b,Zw⟩
 refine oo 7 ?_;refine bB [33,6,5,4,2,1] ?_;apply Zb 3 36 33 rfl
 . intro b f;have g:=sp b;refine oo 3 ?_;exact Zz f ⟨orF b,Zw⟩
 . intro b f;have g:=sp b;refine oo 3 ?_;exact Zz f ⟨orT b,Zw⟩
 refine oo 7 ?_;refine bB [39,7,6,5,4,2,1] ?_;apply Zb 3 42 39 rfl
 . intro b f;have g:=sp b;refine oo 3 ?_;exact Zz f ⟨orF b,Zw⟩
 . intro b f;have g:=sp b;refine oo 3 ?_;exact Zz f ⟨orT b,Zw⟩
 refine oo 1 ?_;refine bB [43,7,6,5,4,2,1] ?_;apply Zb 3 46 43 rfl
 . intro b f;have g:=sp b;refine oo 3 ?_;exact Zz f ⟨orF b,Zw⟩
 . intro b f;have g:=sp b;refine oo 3 ?_;exact Zz f ⟨orT b,Zw⟩
 refine rn [7,0] ?_;refine bM call225 (Xg (s:=nm)) ?_;refine oo 2 ?_;refine bB [52,8,7,6,5,4,2,1] ?_;apply Zb 8 60 52 rfl
 . intro b f;have g:=sp b;refine oo 3 ?_;refine bB [55,52,8,7,6,5,4,2,1] ?_;apply Zg 4 59 55 rfl
   . intro i j;have p:=sp i;refine rn [1,0,2] ?_;exact Zz j ⟨Yi i,Zw⟩
   . intro i j;have p:=sp i;refine oo 4 ?_;exact Zz j ⟨Yl i,Zw⟩
   refine oo 1 ?_;exact Zz f ⟨orF b,Zw⟩
 . intro b f;have g:=sp b;refine oo 8 ?_;exact Zz f ⟨orT b,Zw⟩
 refine oo 1 ?_;refine bB [61,8,7,5,4,2,1] ?_;apply Zb 6 67 61 rfl
 . intro b f;have g:=sp b;refine rn [2,0] ?_;refine bM call225 (Xg (s:=wt)) ?_;refine oo 2 ?_;exact Zz f ⟨orF b,Zw⟩
 . intro b f;have g:=sp b;refine oo 6 ?_;exact Zz f ⟨orT b,Zw⟩
 refine oo 1 ?_;refine bB [68,8,7,5,4,2,1] ?_;apply Zb 8 76 68 rfl
 . intro b f;have g:=sp b;refine oo 3 ?_;refine bB [71,68,8,7,5,4,2,1] ?_;apply Zg 4 75 71 rfl
   . intro i j;have p:=sp i;refine rn [1,0,2] ?_;exact Zz j ⟨Yi i,Zw⟩
   . intro i j;have p:=sp i;refine oo 4 ?_;exact Zz j ⟨Yl i,Zw⟩
   refine oo 1 ?_;exact Zz f ⟨orF b,Zw⟩
 . intro b f;have g:=sp b;refine oo 8 ?_;exact Zz f ⟨orT b,Zw⟩
 refine ox 1 ?_;refine cY 76 rfl ?_ ?_<;>intro u
 . have d2:may2 k (bs nm) (bs wt)=true:=by rw [Zzn,Zzn] at u;unfold may2 hasN hasW;first|exact u|(rw [<-u];simp only [fB,eV];rfl)
   rw [if_pos d2] at o;refine xx 5 ?_;refine Zq (q) func276 (Zf results276 rfl) ⟨_,rfl,by rw [o],rfl⟩
 have d2:may2 k (bs nm) (bs wt)=false:=by rw [Zzn,Zzn] at u;unfold may2 hasN hasW;first|exact u|(rw [<-u];simp only [fB,eV];rfl)
 rw [if_neg (by rw [d2];decide)] at o;refine xo 7 ?_;refine bB [78,8,5,4,2,1] ?_;apply Zg 5 83 78 rfl
 . intro b f;have g:=sp b;refine rn [1,0] ?_;refine bM call306 (Gd _ (.mk k1 y s1 l1 o1 p1 y1 u1 w1) (aU _) (d:=24) (by decide) (hE.le leA)) ?_;refine oo 2 ?_;exact Zz f ⟨Yi b,Zw⟩
 . intro b f;have g:=sp b;refine oo 5 ?_;exact Zz f ⟨Yl b,Zw⟩
 refine oo 1 ?_;refine bB [84,8,5,4,2,1] ?_;apply Zb 9 93 84 rfl
 . intro b f;have g:=sp b;refine oo 3 ?_;refine bB [87,84,8,5,4,2,1] ?_;apply Zg 5 92 87 rfl
   . intro i j;have p:=sp i;refine rn [1,0] ?_;refine bM call307 (G6 (e:=(.mk k1 y s1 l1 o1 p1 y1 u1 w1))) ?_;refine oo 2 ?_;exact Zz j ⟨Yi i,Zw⟩
   . intro i j;have p:=sp i;refine oo 5 ?_;exact Zz j ⟨Yl i,Zw⟩
   refine oo 1 ?_;exact Zz f ⟨orF b,Zw⟩
 . intro b f;have g:=sp b;refine oo 9 ?_;exact Zz f ⟨orT b,Zw⟩
 refine oo 1 ?_;refine bB [94,5,4,2,1] ?_;apply Zb 9 103 94 rfl
 . intro b f;have g:=sp b;refine oo 3 ?_;refine bB [97,94,5,4,2,1] ?_;apply Zg 5 102 97 rfl
   . intro i j;have p:=sp i;refine rn [1,0] ?_;refine bM call306 (Gd _ (.mk k2 w s2 l2 o2 p2 z u2 w2) (aU _) (d:=24) (by decide) (hX.le leA)) ?_;refine oo 2 ?_;exact Zz j ⟨Yi i,Zw⟩
   . intro i j;have p:=sp i;refine oo 5 ?_;exact Zz j ⟨Yl i,Zw⟩
   refine oo 1 ?_;exact Zz f ⟨orF b,Zw⟩
 . intro b f;have g:=sp b;refine oo 9 ?_;exact Zz f ⟨orT b,Zw⟩
 refine oo 1 ?_;refine bB [104,5,4,2,1] ?_;apply Zb 9 113 104 rfl
 . intro b f;have g:=sp b;refine oo 3 ?_;refine bB [107,104,5,4,2,1] ?_;apply Zg 5 112 107 rfl
   . intro i j;have p:=sp i;refine rn [1,0] ?_;refine bM call307 (G6 (e:=(.mk k2 w s2 l2 o2 p2 z u2 w2))) ?_;refine oo 2 ?_;exact Zz j ⟨Yi i,Zw⟩
   . intro i j;have p:=sp i;refine oo 5 ?_;exact Zz j ⟨Yl i,Zw⟩
   refine oo 1 ?_;exact Zz f ⟨orF b,Zw⟩
 . intro b f;have g:=sp b;refine oo 9 ?_;exact Zz f ⟨orT b,Zw⟩
 refine ox 1 ?_;refine cY 113 rfl ?_ ?_<;>intro c3
 . have d3:Xu k (Ex.er (.mk k1 y s1 l1 o1 p1 y1 u1 w1)) (Ex.er (.mk k2 w s2 l2 o2 p2 z u2 w2))=true:=by unfold Xu P3;first|exact c3|(rw [<-c3];simp only [fB,eV];rfl)
   rw [if_pos d3] at o;refine xx 5 ?_;refine Zq (q) func276 (Zf results276 rfl) ⟨_,rfl,by rw [o],rfl⟩
 have d3:Xu k (Ex.er (.mk k1 y s1 l1 o1 p1 y1 u1 w1)) (Ex.er (.mk k2 w s2 l2 o2 p2 z u2 w2))=false:=by unfold Xu P3;first|exact c3|(rw [<-c3];simp only [fB,eV];rfl)
 rw [if_neg (by rw [d3];decide)] at o;refine xo 8 ?_;refine bB [116,5,4,2,1] ?_;apply Zg 3 119 116 rfl
 . intro b f;have g:=sp b;refine oo 3 ?_;exact Zz f ⟨Yi b,Zw⟩
 . intro b f;have g:=sp b;refine oo 3 ?_;exact Zz f ⟨Yl b,Zw⟩
 refine oo 1 ?_;refine bB [120,5,4,2,1] ?_;apply Zg 5 125 120 rfl
 . intro b f;have g:=sp b;refine rn [1,0,3] ?_;exact Zz f ⟨Yi b,Zw⟩
 . intro b f;have g:=sp b;refine oo 5 ?_;exact Zz f ⟨Yl b,Zw⟩
 refine oo 1 ?_;refine bB [126,5,4,2,1] ?_;apply Zb 9 135 126 rfl
 . intro b f;have g:=sp b;refine oo 3 ?_;refine bB [129,126,5,4,2,1] ?_;apply Zg 5 134 129 rfl
   . intro i j;have p:=sp i;refine rn [1,0,3] ?_;exact Zz j ⟨Yi i,Zw⟩
   . intro i j;have p:=sp i;refine oo 5 ?_;exact Zz j ⟨Yl i,Zw⟩
   refine oo 1 ?_;exact Zz f ⟨orF b,Zw⟩
 . intro b f;have g:=sp b;refine oo 9 ?_;exact Zz f ⟨orT b,Zw⟩
 refine ox 1 ?_;refine cY 135 rfl ?_ ?_<;>intro c4
 . have d4:Zz3 k l.length r.length=true:=by unfold Zz3;first|exact c4|(rw [<-c4];simp only [fB,eV];rfl)
   rw [if_pos d4] at o;refine xx 5 ?_;refine Zq (q) func276 (Zf results276 rfl) ⟨_,rfl,by rw [o],rfl⟩
 have d4:Zz3 k l.length r.length=false:=by unfold Zz3;first|exact c4|(rw [<-c4];simp only [fB,eV];rfl)
 rw [if_neg (by rw [d4];decide)] at o;refine rn [5,0,2] ?_;refine bM call226 (IH l ba bc (n+1) (by simp only [Stm.sz];omega) (hB.le leA)) ?_;refine oo 1 ?_;refine bB [141,4,2,1] ?_;apply Zg 6 147 141 rfl
 . intro b f;have g:=sp b;refine rn [1,0,2] ?_;refine bM call226 (IH r ea ec (n+1) (by simp only [Stm.sz];omega) (hL.le leA)) ?_;refine oo 1 ?_;exact Zz f ⟨Yi b,Zw⟩
 . intro b f;have g:=sp b;refine oo 6 ?_;exact Zz f ⟨Yl b,Zw⟩
 refine ox 2 ?_;refine Zq (q) func276 (Zf results276 rfl) ⟨_,rfl,by rw [<-o],rfl⟩
abbrev B1 (v0:Stm)(v1:Nat)(v2:List HP):=(Ret fun v q'=>v= .bool (v0.er.may v1)/\q'=v2)
abbrev AV (v0:Stm)(v1:Nat):=([.agg (stC v0).toArray,I64 v1]:List Value)
theorem Es (IH: ∀ (x:Stm) (n:Nat),x.sz<=Zu l-> ∀ {q:List HP},(Kn q fun M=>x.At M)->CallF prog G 276 (AV x n) q (B1 x n q))(h:Kn q fun M=>BlkAt M a c l):CallF prog G 226 (B7 a l c n) (q) (Ret fun v q'=>v= .bool (Yp (Zk l) n)/\q'=q):=by
 refine aB func226 ntmps226 rfl fun F cs=> ?_;have k:=Zkf h;have d:=Zx (f:=stC) (sz:=25) Z2 l;refine jW (fun w s=>Zky (h.le leA) s) fun o=> ?_;refine xx 10 ?_;refine aX (cC (fun (s:Nat×Option Addr)=>s.1<=l.length/\s.2=a/\Yp (Zk l) n=Yp (Zk (l.drop s.1)) n) (fun s=> [(5,I64 (s.1:Int)),(0,.slice s.2 l.length c),(1,I64 n),(4,.bool false)]) (fun s=>(q++F)) (fun s=>l.length - s.1) (fun s e j=> ?_) (0,a) ⟨bC _,rfl,rfl⟩) Zn leA;try dsimp only at e j|-
 obtain ⟨u,p,i⟩:=e;obtain ⟨s,a2⟩:=s;dsimp only at*;subst p;refine xx 8 ?_;refine xp 9 ?_ ?_<;>intro y
 . have b:s<l.length:=by omega
   have g:Yp (Zk (l.drop s)) n=(l[s].er.may n && Yp (Zk (l.drop (s+1))) n):=by rw [aP b];rfl
   refine xo 8 ?_;refine Ql k (by rw [d];omega) fun z t r=> ?_;subst r;refine oo 1 ?_;refine Qi (n:=s) isAgg138 sizeOf138 k b ?_ (hf:=Z2);refine oo 1 ?_;refine bM call276 (IH l[s] n (Uy (aC b)) ((Zkb h b).le leA)) ?_;refine ox 2 ?_;refine xp 18 ?_ ?_<;>intro m
   . refine xx 5 ?_;refine Zq (q) func226 (Zf results226 rfl) ⟨_,rfl,by rw [i,g,m];rfl,rfl⟩
   refine xx 8 ?_;refine aX (j (s+1,_) ⟨by dsimp only;omega,rfl,by rw [i,g,m];rfl⟩ (by dsimp only;omega)) Zn leA
 obtain rfl:s=l.length:=by omega
 refine xx 6 ?_;refine Zq (q) func226 (Zf results226 rfl) ⟨_,rfl,by rw [i,dP];rfl,rfl⟩
theorem may_ok: ∀ N:Nat,(∀ (x:Stm) (n:Nat),x.sz<=N-> ∀ {q:List HP},(Kn q fun M=>x.At M)->CallF prog G 276 (AV x n) q (B1 x n q))/\
 (∀ (m:List Stm) (a:Option Addr) (c n:Nat),Zu m<=N-> ∀ {q:List HP},(Kn q fun M=>BlkAt M a c m)->CallF prog G 226 (B7 a m c n) q (Ret fun v q'=>v= .bool (Yp (Zk m) n)/\q'=q)):=by
 intro N
 induction N with
 |zero=>
  have b: ∀ (x:Stm) (n:Nat),x.sz<=0-> ∀ {q:List HP},(Kn q fun M=>x.At M)->CallF prog G 276 (AV x n) q (B1 x n q):=fun x n d=>by cases x;simp [Stm.sz] at d
  exact ⟨b,fun m a c n e _ h=>Es (fun x n d=>b x n (by omega)) h⟩
 |succ N ih=>
  have b: ∀ (x:Stm) (n:Nat),x.sz<=N+1-> ∀ {q:List HP},(Kn q fun M=>x.At M)->CallF prog G 276 (AV x n) q (B1 x n q):=fun x n d _ h=>Zzf (fun m a c n e=>ih.2 m a c n (by omega)) h
  exact ⟨b,fun m a c n e _ h=>Es (fun x n d=>b x n (by omega)) h⟩
theorem Kn.dsL {l:List Dec}(h:Kn q fun M=>DcsAt M a c l)(s:St G w q):l.length<=9223372036854775807:=h.fact (fun M h=>by have d:=h.1.1;have b:=h.1.2.1;simp [maxLen] at b;omega) s
variable {m:List Dec}
theorem mayD_ok (h:Kn q fun M=>DcsAt M a c m):CallF prog G 157 [.slice a m.length c] (q) (Ret fun v q'=>v= I64 (if (m.map Dec.er).any PDec.bad=true then 2 else 0)/\q'=q):=by
 refine aB func157 ntmps157 rfl fun F cs=> ?_;have hA:=Zkw h;have r:=Zx (f:=dcC) (sz:=6) (fun _=>rfl) m;refine jW (fun w s=>Kn.dsL (h.le leA) s) fun a0=> ?_;refine xx 10 ?_;refine aX (cC (fun (s:Nat×Option Addr)=>s.1<=m.length/\s.2=a/\(m.map Dec.er).any PDec.bad=((m.drop s.1).map Dec.er).any PDec.bad) (fun s=> [(3,I64 (s.1:Int)),(0,.slice s.2 m.length c),(2,I64 0)]) (fun s=>(q++F)) (fun s=>m.length - s.1) (fun s t ih=> ?_) (0,a) ⟨bC _,rfl,rfl⟩) Zn leA;try dsimp only at t ih|-
 obtain ⟨hs,ha,hD⟩:=t;obtain ⟨s,a2⟩:=s;dsimp only at*;subst ha;refine xx 8 ?_;refine xp 9 ?_ ?_<;>intro h0
 . have o:s<m.length:=by omega
   have p:((m.drop s).map Dec.er).any PDec.bad=(m[s].er.bad||((m.drop (s+1)).map Dec.er).any PDec.bad):=by rw [aP o];rfl
   refine xo 8 ?_;refine Ql hA (by rw [r];omega) fun b1 o1 e1=> ?_;subst e1;refine oo 1 ?_;refine Qi (n:=s) isAgg305 sizeOf305 hA o ?_ (hf:=(fun _=>rfl));obtain ⟨x,hx⟩: ∃ x,m[s]=x:=⟨_,rfl⟩;have hK:=Kn.dsI h o;rw [hx] at p hK;refine aW 15 (.agg (dcC x).toArray) rfl (by rw [hx]) ?_;obtain ⟨k,ln,cl,nm,z,j,ba,bc⟩:=x;have u:=Y9 j;refine Zh zeroValue305 fun n1=> ?_
   refine rn [0,4,0,7] ?_;refine bB [20,5,4,3,0,2] ?_;apply Zb 3 23 20 rfl
   . intro b d;have i:=sp b;refine oo 3 ?_;exact Zz d ⟨orF b,Zw⟩
   . intro b d;have i:=sp b;refine oo 3 ?_;exact Zz d ⟨orT b,Zw⟩
   refine oo 1 ?_;refine bB [24,5,4,3,0,2] ?_;apply Zb 5 29 24 rfl
   . intro b d;have i:=sp b;refine rn [1,0] ?_;refine bM call225 (Xg (s:=nm)) ?_;refine oo 2 ?_;exact Zz d ⟨orF b,Zw⟩
   . intro b d;have i:=sp b;refine oo 5 ?_;exact Zz d ⟨orT b,Zw⟩
   refine oo 1 ?_;refine bB [30,5,4,3,0,2] ?_;apply Zb 9 39 30 rfl
   . intro b d;have i:=sp b;refine oo 3 ?_;refine bB [33,30,5,4,3,0,2] ?_;apply Zg 5 38 33 rfl
     . intro e g;have l:=sp e;refine rn [1,0,3] ?_;exact Zz g ⟨Yi e,Zw⟩
     . intro e g;have l:=sp e;refine oo 5 ?_;exact Zz g ⟨Yl e,Zw⟩
     refine oo 1 ?_;exact Zz d ⟨orF b,Zw⟩
   . intro b d;have i:=sp b;refine oo 9 ?_;exact Zz d ⟨orT b,Zw⟩
   refine oo 1 ?_;refine bB [40,5,4,3,0,2] ?_;apply Zb 4 44 40 rfl
   . intro b d;have i:=sp b;refine rn [1,0,2] ?_;exact Zz d ⟨orF b,Zw⟩
   . intro b d;have i:=sp b;refine oo 4 ?_;exact Zz d ⟨orT b,Zw⟩
   refine oo 1 ?_;refine bB [45,5,4,3,0,2] ?_;apply Zb 4 49 45 rfl
   . intro b d;have i:=sp b;refine rn [1,0,2] ?_;exact Zz d ⟨orF b,Zw⟩
   . intro b d;have i:=sp b;refine oo 4 ?_;exact Zz d ⟨orT b,Zw⟩
   refine oo 1 ?_;refine bB [50,5,4,3,0,2] ?_;apply Zb 8 58 50 rfl
   . intro b d;have i:=sp b;refine oo 3 ?_;refine bB [53,50,5,4,3,0,2] ?_;apply Zg 4 57 53 rfl
     . intro e g;have l:=sp e;refine rn [1,0,2] ?_;exact Zz g ⟨Yi e,Zw⟩
     . intro e g;have l:=sp e;refine oo 4 ?_;exact Zz g ⟨Yl e,Zw⟩
     refine oo 1 ?_;exact Zz d ⟨orF b,Zw⟩
   . intro b d;have i:=sp b;refine oo 8 ?_;exact Zz d ⟨orT b,Zw⟩
   refine oo 1 ?_;refine bB [59,5,4,3,0,2] ?_;apply Zb 16 75 59 rfl
   . intro b d;have i:=sp b;refine oo 3 ?_;refine bB [62,59,5,4,3,0,2] ?_;apply Zg 3 65 62 rfl
     . intro e g;have l:=sp e;refine oo 3 ?_;exact Zz g ⟨Yi e,Zw⟩
     . intro e g;have l:=sp e;refine oo 3 ?_;exact Zz g ⟨Yl e,Zw⟩
     refine oo 1 ?_;refine bB [66,59,5,4,3,0,2] ?_;apply Zg 3 69 66 rfl
     . intro e g;have l:=sp e;refine oo 3 ?_;exact Zz g ⟨Yi e,Zw⟩
     . intro e g;have l:=sp e;refine oo 3 ?_;exact Zz g ⟨Yl e,Zw⟩
     refine oo 1 ?_;refine bB [70,59,5,4,3,0,2] ?_;apply Zg 4 74 70 rfl
     . intro e g;have l:=sp e;refine rn [1,0,2] ?_;exact Zz g ⟨Yi e,Zw⟩
     . intro e g;have l:=sp e;refine oo 4 ?_;exact Zz g ⟨Yl e,Zw⟩
     refine oo 1 ?_;exact Zz d ⟨orF b,Zw⟩
   . intro b d;have i:=sp b;refine oo 16 ?_;exact Zz d ⟨orT b,Zw⟩
   refine oo 1 ?_;refine bB [76,4,3,0,2] ?_;apply Zb 5 81 76 rfl
   . intro b d;have i:=sp b;refine rn [1,0] ?_;refine bM call226 ((may_ok _).2 j ba bc 1 (aU _) (hK.le leA)) ?_;refine oo 2 ?_;exact Zz d ⟨orF b,Zw⟩
   . intro b d;have i:=sp b;refine oo 5 ?_;exact Zz d ⟨orT b,Zw⟩
   refine ox 1 ?_;refine cY 81 rfl ?_ ?_<;>intro y
   . have d1:PDec.bad (Dec.er ⟨k,ln,cl,nm,z,j,ba,bc⟩)=true:=by unfold PDec.bad Zz5;simp only [Dec.er,u];first|exact y|(rw [<-y];simp only [fB,eV];rfl)
     refine xx 5 ?_;refine Zq (q) func157 (Zf results157 rfl) ⟨_,rfl,by rw [hD,p,d1];rfl,rfl⟩
   have d1:PDec.bad (Dec.er ⟨k,ln,cl,nm,z,j,ba,bc⟩)=false:=by unfold PDec.bad Zz5;simp only [Dec.er,u];first|exact y|(rw [<-y];simp only [fB,eV];rfl)
   refine xx 8 ?_;refine aX (ih (s+1,_) ⟨by dsimp only;omega,rfl,by rw [hD,p,d1];rfl⟩ (by dsimp only;omega)) Zn leA
 obtain rfl:s=m.length:=by omega
 refine xx 6 ?_;refine Zq (q) func157 (Zf results157 rfl) ⟨_,rfl,by rw [hD,dP];rfl,rfl⟩
end
structure PTh where
 nm:ByteArray
 loc:Int
 body:List PStm
structure Nm where
 t:ByteArray
 k:Int
 s:Int
structure Fnd where
 vars:List Int
 arrs:List Int
 mu:Int
 co:Int
 chs:List Int
 ths:List PTh
 main:Int
 stm:Int
 nv:List ByteArray
 na:List ByteArray
 nm:List ByteArray
 nc:List ByteArray
 nh:List ByteArray
 names:List Nm
 cells:Int
 locals:Int
 most:Int
 flaw:Int
variable {g:Fnd}
def Fnd.z:Fnd:=⟨[], [],0,0, [], [],0,0, [], [], [], [], [], [],0,0,0,0⟩
def Ns (l:List Nm)(s:ByteArray):Nat->Nat
 |0=>0
 |k+1=>if ((l.map fun x=>bs x.t).getD k []==bs s)=true then k+1 else Ns l s k
def Fnd.at (f:Fnd)(s:ByteArray):Nat:=Ns f.names s f.names.length
def Fnd.fl (f:Fnd)(why:Int):Fnd:=if f.flaw=0 then { f with flaw:=why } else f
def Fnd.decl1 (f:Fnd)(d:PDec):Fnd×Int×Bool:=
 if d.k=1 then (if d.n< -2147483648\/2147483647<d.n then (f.fl 134,0,false) else ({ f with vars:=f.vars++ [d.n],nv:=f.nv++ [d.nm] },f.vars.length,true))
 else if d.k=2 then (if (d.n<1\/256<d.n)\/256<f.cells+d.n then (f.fl 134,0,false) else ({ f with cells:=f.cells+d.n,arrs:=f.arrs++ [d.n],na:=f.na++ [d.nm] },f.arrs.length,true))
 else if d.k=3 then ({ f with mu:=f.mu+1,nm:=f.nm++ [d.nm] },f.mu,true)
 else if d.k=4 then ({ f with co:=f.co+1,nc:=f.nc++ [d.nm] },f.co,true)
 else if d.k=5 then (if d.n<1\/16<d.n then (f.fl 134,0,false) else ({ f with chs:=f.chs++ [d.n],nh:=f.nh++ [d.nm] },f.chs.length,true))
 else if d.k=6 then ({ f with ths:=f.ths++ [⟨d.nm,0, []⟩] },f.ths.length,true)
 else (f,0,true)
def Fnd.decl (f:Fnd)(d:PDec):Fnd:=
 if f.at d.nm≠0 then f.fl 130
 else if (f.decl1 d).2.2=false then (f.decl1 d).1
 else if 64<=(f.decl1 d).1.names.length then (f.decl1 d).1.fl 134
 else { (f.decl1 d).1 with names:=(f.decl1 d).1.names++ [⟨d.nm,d.k,(f.decl1 d).2.1⟩] }
def Fnd.wants (f:Fnd)(s:ByteArray)(a b:Int):Fnd×Int×Int:=
 match f.at s with
 |0=>(f.fl 131,0,0)
 |i+1=>let x:=(f.names.map fun x=>(x.k,x.s)).getD i (0,0)
  if (x.1 !=a && x.1 !=b)=true then (f.fl 132,0,0) else (f,x)
mutual
def Fnd.expr (f:Fnd):PEx->Fnd×PEx
 | .mk k n nm slot loc op args=>
  if k=2 then ((Fnd.exprs (f.wants nm 1 100).1 args).1,.mk k n nm (f.wants nm 1 100).2.2 ((f.wants nm 1 100).2.1==100) op (Fnd.exprs (f.wants nm 1 100).1 args).2)
  else if k=3 then ((Fnd.exprs (f.wants nm 2 2).1 args).1,.mk k n nm (f.wants nm 2 2).2.2 loc op (Fnd.exprs (f.wants nm 2 2).1 args).2)
  else ((Fnd.exprs f args).1,.mk k n nm slot loc op (Fnd.exprs f args).2)
def Fnd.exprs (f:Fnd):List PEx->Fnd×List PEx
 | []=>(f, [])
 |e::r=>((Fnd.exprs (f.expr e).1 r).1,(f.expr e).2::(Fnd.exprs (f.expr e).1 r).2)
end
def Hh (k:Int):Int×Int:=if k=2 then (1,100) else if k=3 then (2,2) else if k=6\/k=7 then (3,3) else if k=8\/k=9\/k=10 then (4,4) else if k=11\/k=12 then (5,5) else if k=13 then (6,6) else (0,0)
def Fnd.own1 (f:Fnd)(k:Int)(nm:ByteArray)(slot:Int)(loc:Bool):Fnd×Int×Bool:=
 if (Hh k).1≠0 then ((f.wants nm (Hh k).1 (Hh k).2).1,(f.wants nm (Hh k).1 (Hh k).2).2.2,(f.wants nm (Hh k).1 (Hh k).2).2.1==100) else (f,slot,loc)
def Fnd.loc1 (g:Fnd)(nm:ByteArray):Fnd:=if g.at nm≠0 then g.fl 130 else g
def Fnd.loc2 (g:Fnd):Fnd:=if 32<=g.locals then g.fl 134 else g
def Fnd.loc3 (g:Fnd)(nm:ByteArray):Fnd:= { g with names:=g.names++ [⟨nm,100,g.locals⟩],locals:=g.locals+1,most:=max g.most (g.locals+1) }
def Fnd.own2 (g:Fnd)(k:Int)(nm wt:ByteArray)(sl other:Int)(lo:Bool):Fnd×Int×Int×Bool:=
 if k=1 then ((g.loc1 nm).loc2.loc3 nm,(g.loc1 nm).loc2.locals,other,true)
 else if k=8 then ((g.wants wt 3 3).1,sl,(g.wants wt 3 3).2.2,lo)
 else if k=12 then ((g.wants wt 1 100).1,sl,(g.wants wt 1 100).2.2,(g.wants wt 1 100).2.1==100)
 else (g,sl,other,lo)
def Fnd.own (f:Fnd)(k:Int)(nm wt:ByteArray)(slot other:Int)(loc:Bool):Fnd×Int×Int×Bool:=
 Fnd.own2 (f.own1 k nm slot loc).1 k nm wt (f.own1 k nm slot loc).2.1 other (f.own1 k nm slot loc).2.2
mutual
def Fnd.stmt (f:Fnd):PStm->Fnd×PStm
 | .mk k ln cl nm wt e ix body els id slot other loc=>
  if 512<=f.stm then (f.fl 134,.mk k ln cl nm wt e ix body els id slot other loc)
  else
   let f1:=Fnd.expr { f with stm:=f.stm+1 } ix
   let f2:=Fnd.expr f1.1 e
   let f3:=Fnd.own f2.1 k nm wt slot other loc
   let f4:=Fnd.blk f3.1 body
   let f5:=Fnd.blk { f4.1 with names:=f3.1.names,locals:=f3.1.locals } els
   ({ f5.1 with names:=f3.1.names,locals:=f3.1.locals },.mk k ln cl nm wt f2.2 f1.2 f4.2 f5.2 f.stm f3.2.1 f3.2.2.1 f3.2.2.2)
/-- The statements of a block, as long as there is no flaw (names are not let go of here). -/
def Fnd.blk (f:Fnd):List PStm->Fnd×List PStm
 | []=>(f, [])
 |s::r=>if f.flaw=0 then ((Fnd.blk (f.stmt s).1 r).1,(f.stmt s).2::(Fnd.blk (f.stmt s).1 r).2) else (f, [])
end
def Fnd.block (f:Fnd)(l:List PStm):Fnd×List PStm:=({ (f.blk l).1 with names:=f.names,locals:=f.locals },(f.blk l).2)
def Fnd.decls (f:Fnd):List PDec->Fnd
 | []=>f
 |d::r=>if f.flaw=0 then Fnd.decls (f.decl d) r else f
def Fnd.bodies (f:Fnd)(i:Nat):List (List PStm)->Fnd
 | []=>f
 |b::r=>if f.flaw=0 then
  let g:=Fnd.block { f with most:=0 } b
  Fnd.bodies { g.1 with ths:=g.1.ths.set i ⟨(g.1.ths.getD i ⟨em,0, []⟩).nm,g.1.most,g.2⟩ } (i+1) r
  else f
def J2:ByteArray:=⟨#[109,97,105,110]⟩
def E8 (ds:List PDec):Option Fnd:=
 if ds.any PDec.bad=true then none else
 let f:=Fnd.decls .z ds
 let f1:=if f.flaw=0/\(f.at J2=0\/((f.names.map (·.k)).getD (f.at J2 - 1) 0)≠6) then f.fl 133 else f
 let f2:=Fnd.bodies f1 0 ((ds.filter fun d=>d.k==6).map (·.body))
 if f2.flaw≠0 then none else some { f2 with main:=(f2.names.map (·.s)).getD (f.at J2 - 1) 0 }
def Vi (l:Bs):Option Fnd:=match Q9 l with
 |none=>none
 |some ds=>E8 ds
structure Sv (α:Type) where
 l:List α
 a:Option Addr
 c:Nat
variable {x:Sv Int}{y:Sv ByteArray}
def Sv.v {α:Type}(x:Sv α):Value:= .slice x.a x.l.length x.c
def Sv.z {α:Type}:Sv α:=⟨[],none,0⟩
structure Th where
 nm:ByteArray
 loc:Int
 body:List Stm
 a:Option Addr
 c:Nat
def nmC (x:Nm):List Value:= [.string x.t,I64 x.k,I64 x.s]
def thC (x:Th):List Value:= [.string x.nm,I64 x.loc,.slice x.a x.body.length x.c]
def Th.er (x:Th):PTh:=⟨x.nm,x.loc,Zk x.body⟩
structure FC where
 vars:Sv Int
 arrs:Sv Int
 mu:Int
 co:Int
 chs:Sv Int
 ths:Sv Th
 main:Int
 stm:Int
 nv:Sv ByteArray
 na:Sv ByteArray
 nm:Sv ByteArray
 nc:Sv ByteArray
 nh:Sv ByteArray
 names:Sv Nm
 cells:Int
 locals:Int
 most:Int
 pl:Int
 pc:Int
 flaw:Int
variable {f:FC}
def fcC (f:FC):List Value:= [f.vars.v,f.arrs.v,I64 f.mu,I64 f.co,f.chs.v,f.ths.v,I64 f.main,I64 f.stm,f.nv.v,f.na.v,f.nm.v,f.nc.v,f.nh.v,f.names.v,I64 f.cells,I64 f.locals,I64 f.most,I64 f.pl,I64 f.pc,I64 f.flaw]
def FC.er (f:FC):Fnd:=⟨f.vars.l,f.arrs.l,f.mu,f.co,f.chs.l,f.ths.l.map Th.er,f.main,f.stm,f.nv.l,f.na.l,f.nm.l,f.nc.l,f.nh.l,f.names.l,f.cells,f.locals,f.most,f.flaw⟩
def iC (x:Int):List Value:= [I64 x]
def sC (x:ByteArray):List Value:= [.string x]
def Sv.At {α:Type}(M:Hp)(f:α->List Value)(x:Sv α):Prop:=SlAt M x.a x.c x.l.length (x.l.flatMap f)
theorem Sv.At.mono {α:Type}{f:α->List Value}{x:Sv α}(e:Hle M M')(h:x.At M f):x.At M' f:=fG e h
def Ths.At (M:Hp)(l:List Th):Prop:= ∀ x∈l,BlkAt M x.a x.c x.body
structure FC.At (M:Hp) (f:FC):Prop where
 vars:f.vars.At M iC
 arrs:f.arrs.At M iC
 chs:f.chs.At M iC
 ths:f.ths.At M thC
 bod:Ths.At M f.ths.l
 nv:f.nv.At M sC
 na:f.na.At M sC
 nm:f.nm.At M sC
 nc:f.nc.At M sC
 nh:f.nh.At M sC
 names:f.names.At M nmC
theorem FC.At.mono (e:Hle M M')(h:f.At M):f.At M':=⟨h.vars.mono e,h.arrs.mono e,h.chs.mono e,h.ths.mono e,fun x hx=>(h.bod x hx).mono e,h.nv.mono e,h.na.mono e,h.nm.mono e,h.nc.mono e,h.nh.mono e,h.names.mono e⟩
def fcM (f:FC):HP:=lst (fun M=>f.At M) fun e h=>FC.At.mono e h
def svM {α:Type}(f:α->List Value)(x:Sv α):HP:=lst (fun M=>x.At M f) fun e h=>Sv.At.mono e h
section
variable {α:Type}{g:α->List Value}{x:Sv α}
theorem Kn.fc:Kn (fcM f::q) fun M=>f.At M:=fJ
theorem Sv.sees (h:Kn q fun M=>x.At M g):Sees q x.a (x.l.flatMap g):=eR (h.imp fun M h=>h.2.2)
abbrev dV:=@Sv.sees
theorem Sv.len (h:Kn q fun M=>x.At M g)(s:St G w q):x.l.length<=9223372036854775807:=h.fact (fun M h=>by have b:=h.1;have a:=h.2.1;simp [maxLen] at a;omega) s
theorem Ps (M:Hp):(Sv.z:Sv α).At M g:=SlAt.nil M
theorem Ul (l:List Int):l.flatMap iC=l.map (Value.int .i64):=by induction l with
 |nil=>rfl
 |cons x r ih=>rw [bZ,ih];rfl
theorem Ut (l:List ByteArray):l.flatMap sC=l.map Value.string:=by induction l with
 |nil=>rfl
 |cons x r ih=>rw [bZ,ih];rfl
end
def Fnd.le (N:Nat)(f:Fnd):Prop:=f.vars.length<=N/\f.arrs.length<=N/\f.chs.length<=N/\f.ths.length<=N/\f.nv.length<=N/\f.na.length<=N/\f.nm.length<=N/\f.nc.length<=N/\f.nh.length<=N/\f.names.length<=N/\(0<=f.mu/\f.mu<=N)/\(0<=f.co/\f.co<=N)/\(0<=f.cells/\f.cells<=256)
theorem Mn {l:List Nm}{s:ByteArray}: ∀ {k:Nat},Ns l s k<=k
 |0=>aU _
 |k+1=>by unfold Ns;split;exact aU _;exact Nat.le_succ_of_le Mn
section
variable {k:List Item}{r:List HP}{ops lo:List Oper}{α:Type}{f:α->List Value}{fe:α->Value}{sz ty:Nat}{a b:Option Addr}{c c':Nat}{l m:List α}{f':α->List Value}
theorem Pa {d:Option Tmp}{ty':TypeId}{pos:String}{af:Array Edge}{gd:Option (Nat×Bool)}{x y:Operand}{t:TypeId}{z:Value}{bytes:Nat}(ht:P.underlying t=some (.slice ty))(hi:(P.info? ty).map (fun i=>(i.zero,i.size,i.bytes))=some (some z,sz,bytes))(hz:z.cells.size=sz)(hsz:Nat.blt 0 sz=true)(hf: ∀ x,(f x).length=sz)
 (hx:evp p x=some (.slice a l.length c)) (hy:evp p y=some (.slice b m.length c')) (hq:Le q (Wx.rsH f sz ty a c l::r)) (hs:Sees q b (m.flatMap f)) (h1: ∀ x,(f x).all (·.oneCell')=true)
 (h63:l.length+m.length<=9223372036854775807) (hby:(l.length+m.length)*bytes<=140737488355328) (E:List HP):
 Ef P G p (q++E) ⟨d,.call ⟨.builtin .append, [x,y].toArray, [t,t].toArray⟩,ty',pos,af,gd⟩ fun v q'=> ∃ q1,(∃ a' c',v= .slice a' (l++m).length c'/\q1=Wx.rsH f sz ty a' c' (l++m)::r)/\q'=q1++E:=by
 intro k w u s;obtain ⟨v,j,q',g,e,a',h,o,n⟩:=Z4 (P:=P) (G:=G) (d:=d) (ty':=ty') (pos:=pos) (af:=af) (gd:=gd) (r:=r++E) ht hi hz hsz hf hx hy (hq.liftR E) (hs.le (Wq q E)) h1 h63 hby k w u s;exact ⟨v,j,q',g,e,_,⟨a',h,o,rfl⟩,n⟩
theorem J4 (hm: ∀ l:List α,l.flatMap f'=l.map fe)(K:X P G fr Q todo p ds cs (svM f' ⟨l,a,c⟩::q0))(hq:Le q (Wx.lsH fe ty a c l::q0):=by exact Zj):X P G fr Q todo p ds cs q:=by
 unfold Wx.lsH at hq;exact .frz (sz:=1) (ty:=ty) (n:=l.length) (vs:=l.map fe) (Kn.here.imp fun M h=>by show SlAt M a c l.length (l.flatMap f');rw [hm];exact h) K hq
theorem Zqb (K:X P G fr Q todo p ds cs (svM f ⟨l,a,c⟩::q0))(hq:Le q (Wx.rsH f sz ty a c l::q0):=by exact Zj):X P G fr Q todo p ds cs q:= .frzR fJ K hq
theorem svK {x:Sv α}(h:Kn q fun M=>x.At M f:=by exact knA):Kn q fun M=>x.At M f:=h
end
section
variable {s:ByteArray}{why a b k:Int}
theorem Zvo (h:Kn q fun M=>f.At M):CallF prog G 159 [.agg (fcC f).toArray,.string s] (q) (Ret fun v q'=>v= I64 ((f.er.at s:Int) - 1)/\q'=q):=by
 refine aB func159 ntmps159 rfl fun F cs=> ?_;have u:Kn q fun M=>f.names.At M nmC:=h.imp fun M h=>h.names
 have n:=dV u;have b:=Zx (f:=nmC) (sz:=3) (fun _=>rfl) f.names.l;refine jW (fun w s=>Sv.len (u.le leA) s) fun i=> ?_;obtain ⟨⟨a,na,o⟩,g⟩: ∃ x,f.names=x:=⟨_,rfl⟩;rw [g] at n b i;dsimp only at n b i;refine xo 2 ?_;refine Zl fun p=> ?_
 refine rn [6,0] ?_;refine aW 7 (.slice na a.length o) rfl (by show f.names.v=_;rw [g];rfl) ?_;refine ox 5 ?_;refine aX (cC (fun (k:Nat×Option Addr)=>k.1<=a.length/\Ns a s a.length=Ns a s k.1) (fun k=> [(5,I64 ((k.1:Int) - 1)),(2,pt p),(1,.string s),(4,I64 0)]) (fun k=>pto p (.cells (fcC f).toArray 316 (0,0))::(q++F)) (fun k=>k.1) (fun k e r=> ?_) (a.length,none) ⟨aU _,rfl⟩) Zn leA;try dsimp only at e r|-
 obtain ⟨z,c⟩:=e;obtain ⟨k,kx⟩:=k;dsimp only at*;refine xx 6 ?_;refine xp 11 ?_ ?_<;>intro h0
 . obtain ⟨k,rfl⟩: ∃ j,k=j+1:=⟨k - 1,by omega⟩;have m:k<a.length:=by omega
   refine fR 5 (Al k) rfl (aQ (Value.int .i64) (by omega)) ?_;have d:Ns a s (k+1)=if (bs a[k].t==bs s)=true then k+1 else Ns a s k:=by rw [Ns,gD (by simpa using m)];simp
   refine rn [7,0] ?_;refine aW 15 (.slice na a.length o) rfl (by show f.names.v=_;rw [g];rfl) ?_;refine oo 1 ?_;refine Ql n (by rw [b];omega) fun b1 o1 e1=> ?_;subst e1;refine rn [2,0,3] ?_;refine xp 21 ?_ ?_<;>intro y
   . refine xx 6 ?_;refine Zq (q) func159 (Zf results159 rfl) ⟨_,rfl,by rw [show f.er.at s=Ns a s a.length by simp only [Fnd.at,FC.er,g],c,d,if_pos (sTr y)];congr 1;omega,rfl⟩
   refine xx 8 ?_;refine aX (r (k,none) ⟨by dsimp only;omega,by rw [c,d,if_neg (by rw [sNe y];decide)]⟩ (by dsimp only;omega)) Zn leA
 obtain rfl:k=0:=by omega
 refine xx 6 ?_;refine Zq (q) func159 (Zf results159 rfl) ⟨_,rfl,by rw [show f.er.at s=Ns a s a.length by simp only [Fnd.at,FC.er,g],c];rfl,rfl⟩
theorem U5 (h:Kn q fun M=>f.At M):CallF prog G 160 [.agg (fcC f).toArray,I64 why,.agg (AF pl pc).toArray] (q) (Ret fun v q'=> ∃ g:FC,v= .agg (fcC g).toArray/\q'=fcM g::q/\g.er=f.er.fl why):=by
 refine aB func160 ntmps160 rfl fun F cs=> ?_;refine xo 2 ?_;refine Zl fun d=> ?_
 refine Zl fun c=> ?_
 refine Zh zeroValue316 fun b=> ?_
 refine rn [5,0,2] ?_;refine xp 9 ?_ ?_<;>intro a
 . replace a:f.flaw=0:=a;refine rn [1,0,1,2,3,4,5,6,0,2,0,0,1] ?_;refine cS (q':=fcM { f with flaw:=why,pl:=pl,pc:=pc } ::_) (dK ((cF h).imp fun M h=>⟨h.vars,h.arrs,h.chs,h.ths,h.bod,h.nv,h.na,h.nm,h.nc,h.nh,h.names⟩)) ?_;refine Zq (fcM { f with flaw:=why,pl:=pl,pc:=pc } ::q) func160 (rA_ results160) ⟨_,rfl, { f with flaw:=why,pl:=pl,pc:=pc },rfl,rfl,by unfold Fnd.fl;rw [if_pos (show f.er.flaw=0 from a)];rfl⟩
 replace a: ¬f.flaw=0:=a;refine rn [4,0,0,1] ?_;refine cS (q':=fcM f::_) (dK (cF h)) ?_;refine Zq (fcM f::q) func160 (rA_ results160) ⟨_,rfl,f,rfl,rfl,by unfold Fnd.fl;rw [if_neg (show ¬f.er.flaw=0 from a)]⟩
theorem Sm:(prog.info? 2).map (fun i=>(i.zero,i.size,i.bytes))=some (some (I64 0),1,8):=by kernel_rfl
theorem Jp:(prog.info? 321).map (fun i=>(i.zero,i.size,i.bytes))=some (some (.agg #[.string ⟨#[]⟩,I64 0,I64 0]),3,32):=by kernel_rfl
theorem Tq:(prog.info? 218).map (fun i=>(i.zero,i.size,i.bytes))=some (some (.agg #[.string ⟨#[]⟩,I64 0,.slice none 0 0]),3,48):=by kernel_rfl
theorem wants_ok (h:Kn q fun M=>f.At M):CallF prog G 279 [.agg (fcC f).toArray,.string s,I64 a,I64 b,.agg [I64 pl,I64 pc].toArray] (q) (Ret fun v q'=> ∃ (g:FC) (x:Nm),v= .tuple [.agg (fcC g).toArray,.agg (nmC x).toArray].toArray/\q'=fcM g::q/\(g.er,x.k,x.s)=f.er.wants s a b):=by
 refine aB func279 ntmps279 rfl fun F cs=> ?_;have hN:Kn q fun M=>f.names.At M nmC:=h.imp fun M h=>h.names
 have p:=dV hN;have e:=Zx (f:=nmC) (sz:=3) (fun _=>rfl) f.names.l;obtain ⟨⟨d,na,r⟩,n⟩: ∃ x,f.names=x:=⟨_,rfl⟩;rw [n] at p e;dsimp only at p e;have a0:f.er.at s=Ns d s d.length:=by simp only [Fnd.at,FC.er,n]
 obtain ⟨W,c⟩: ∃ W,f.er.wants s a b=W:=⟨_,rfl⟩;rw [c];unfold Fnd.wants at c;refine xo 2 ?_;refine Zl fun n1=> ?_
 refine Zl fun n2=> ?_
 refine Zh zeroValue316 fun n3=> ?_
 refine Zh zeroValue321 fun n4=> ?_
 refine rn [3,0,1] ?_;refine bM call159 (Zvo (f:=f) (h.le leA)) ?_;refine ox 8 ?_;refine xp 17 ?_ ?_<;>intro h0
 . replace h0:f.er.at s=0:=by omega
   refine rn [3,0,0] ?_;refine Zv call160 (aH _) (U5 (f:=f) (h.le leA)) ?_;rintro _ _ ⟨g,rfl,rfl,t⟩;refine rn [1,0,0,1] ?_;rw [h0] at c;dsimp only at c;refine Zq (fcM g::q) func279 (Zwa results279) ⟨_,rfl,g,⟨⟨#[]⟩,0,0⟩,rfl,rfl,by rw [<-c,t]⟩
 obtain ⟨i,z⟩: ∃ i,f.er.at s=i+1:=⟨f.er.at s - 1,by omega⟩;have j:i<d.length:=by have:=Mn (l:=d) (s:=s) (k:=d.length);omega
 refine fR 12 (I64 i) rfl (aQ (Value.int .i64) (by omega)) ?_;refine rn [6,0] ?_;refine aW 23 (.slice na d.length r) rfl (by show f.names.v=_;rw [n];rfl) ?_;refine oo 1 ?_;refine Ql p (by rw [e];omega) fun b1 y e1=> ?_;subst e1;refine rn [2,0,3] ?_;refine bB [30,12,11,10,9,5,3] ?_;apply Zg 9 39 30 rfl
 . intro o w;have u:=sp o;refine rn [1,0] ?_;refine aW 32 (.slice (some ⟨b1,y,none⟩) d.length r) rfl (by show f.names.v=_;rw [n];rfl) ?_;refine rn [3,0,3] ?_;exact Zz w ⟨Yi o,Zw⟩
 . intro o w;have u:=sp o;refine oo 9 ?_;exact Zz w ⟨Yl o,Zw⟩
 refine ox 1 ?_;refine xp 39 ?_ ?_<;>intro u
 . refine rn [3,0,0] ?_;refine Zv call160 (aH _) (U5 (f:=f) (h.le leA)) ?_;rintro _ _ ⟨g,rfl,rfl,t⟩;refine rn [1,0,0,1] ?_;rw [z] at c;dsimp only at c;rw [show ((f.er.names.map fun x=>(x.k,x.s)).getD i (0,0))=(d[i].k,d[i].s) by rw [show f.er.names=d by simp only [FC.er,n],gD (by simpa using j)];simp] at c;dsimp only at c;rw [if_pos (by simpa using u)] at c;refine Zq (fcM g::q) func279 (Zwa results279) ⟨_,rfl,g,⟨⟨#[]⟩,0,0⟩,rfl,rfl,by rw [<-c,t]⟩
 refine rn [3,0,1,2,3] ?_;refine dY 46 (.slice (some ⟨b1,y,none⟩) d.length r) rfl (by show f.names.v=_;rw [n];rfl) ?_;refine dd [3,4] ?_;refine XD.ldS 5 (m:=i) isAgg321 sizeOf321 p j ?_;refine stAD 6 ?_ (hh:=hlR);refine rn [8,0] ?_;rw [z] at c;dsimp only at c;rw [show ((f.er.names.map fun x=>(x.k,x.s)).getD i (0,0))=(d[i].k,d[i].s) by rw [show f.er.names=d by simp only [FC.er,n],gD (by simpa using j)];simp] at c;dsimp only at c;rw [if_neg (fun hx=>by simp at hx;omega)] at c;refine cS (q':=fcM f::_) (dK (cF h)) ?_;refine Zq (fcM f::q) func279 (Zwa results279) ⟨_,rfl,f,d[i],rfl,rfl,c⟩
theorem want_ok:CallF prog G 278 [I64 k] (q) (Ret fun v q'=>v= .tuple [I64 (Hh k).1,I64 (Hh k).2].toArray/\q'=q):=by
 refine aB func278 ntmps278 rfl fun F cs=> ?_;refine xx 16 ?_;refine xp 5 ?_ ?_<;>intro j
 focus
  refine xx 6 ?_
 rotate_left
 focus
  refine xx 6 ?_;refine xp 7 ?_ ?_<;>intro i
  focus
   refine xx 6 ?_
  rotate_left
  focus
   refine xx 7 ?_;refine xp 9 ?_ ?_<;>intro h
   focus
    refine xx 8 ?_
   rotate_left
   focus
    refine xx 5 ?_;refine xp 9 ?_ ?_<;>intro g
    focus
     refine xx 6 ?_
    rotate_left
    focus
     refine xx 7 ?_;refine xp 12 ?_ ?_<;>intro f
     focus
      refine xx 8 ?_
     rotate_left
     focus
      refine xx 6 ?_;refine xp 12 ?_ ?_<;>intro e
      focus
       refine xx 8 ?_
      rotate_left
      focus
       refine xx 5 ?_;refine xp 12 ?_ ?_<;>intro d
       focus
        refine xx 6 ?_
       rotate_left
       focus
        refine xx 7 ?_;refine xp 16 ?_ ?_<;>intro c
        focus
         refine xx 8 ?_
        rotate_left
        focus
         refine xx 5 ?_;refine xp 16 ?_ ?_<;>intro b
         focus
          refine xx 6 ?_
         rotate_left
         focus
          refine xx 6 ?_;refine xp 19 ?_ ?_<;>intro a
          focus
           refine xx 6 ?_
          rotate_left
          focus
           refine xx 8 ?_
 all_goals
  refine Zq (q) func278 (Q4 results278 rfl rfl) ⟨_,rfl,by unfold Hh;repeat (first|rw [if_pos (by omega)]|rw [if_neg (by omega)]),rfl⟩
end
theorem FC.At.v (h:f.At M)(h1:x.At M iC)(h2:y.At M sC):({ f with vars:=x,nv:=y } :FC).At M:=⟨h1,h.arrs,h.chs,h.ths,h.bod,h2,h.na,h.nm,h.nc,h.nh,h.names⟩
theorem FC.At.a {c:Int}(h:f.At M)(h1:x.At M iC)(h2:y.At M sC):({ f with cells:=c,arrs:=x,na:=y } :FC).At M:=⟨h.vars,h1,h.chs,h.ths,h.bod,h.nv,h2,h.nm,h.nc,h.nh,h.names⟩
theorem FC.At.m {c:Int}(h:f.At M)(h2:y.At M sC):({ f with mu:=c,nm:=y } :FC).At M:=⟨h.vars,h.arrs,h.chs,h.ths,h.bod,h.nv,h.na,h2,h.nc,h.nh,h.names⟩
theorem FC.At.c {M:Hp}{f:FC}{y:Sv ByteArray}{c:Int}(h:f.At M)(h2:y.At M sC):({ f with co:=c,nc:=y } :FC).At M:=⟨h.vars,h.arrs,h.chs,h.ths,h.bod,h.nv,h.na,h.nm,h2,h.nh,h.names⟩
theorem FC.At.h {M:Hp}{f:FC}{x:Sv Int}{y:Sv ByteArray}(h:f.At M)(h1:x.At M iC)(h2:y.At M sC):({ f with chs:=x,nh:=y } :FC).At M:=⟨h.vars,h.arrs,h1,h.ths,h.bod,h.nv,h.na,h.nm,h.nc,h2,h.names⟩
theorem FC.At.t {x:Sv Th}(h:f.At M)(h1:x.At M thC)(h2:Ths.At M x.l):({ f with ths:=x } :FC).At M:=⟨h.vars,h.arrs,h.chs,h1,h2,h.nv,h.na,h.nm,h.nc,h.nh,h.names⟩
theorem FC.At.n {x:Sv Nm}(h:f.At M)(h1:x.At M nmC):({ f with names:=x } :FC).At M:=⟨h.vars,h.arrs,h.chs,h.ths,h.bod,h.nv,h.na,h.nm,h.nc,h.nh,h1⟩
theorem svI (h:Kn q fun M=>x.At M iC):Sees q x.a (x.l.map I64):=by rw [<-Ul];exact dV h
theorem svS {x:Sv ByteArray}(h:Kn q fun M=>x.At M sC):Sees q x.a (x.l.map Value.string):=by rw [<-Ut];exact dV h
section
variable {d:Dec}
abbrev Am :=((.cells zz7.toArray 316 (0,0)):Obj)
theorem Zjy (h:Kn q fun M=>f.At M)(hb:f.er.le 100000)(hk:1<=d.k/\d.k<=6)(hd: -2147483647<=d.n/\d.n<=2147483647):CallF prog G 158 [.agg (fcC f).toArray,.agg (dcC d).toArray] (q) (Ret fun v q'=> ∃ g:FC,v= .agg (fcC g).toArray/\q'=fcM g::q/\g.er=f.er.decl d.er):=by
 refine aB func158 ntmps158 rfl fun F cs=> ?_;obtain ⟨k,ln,cl,nm,z,b0,ba,bc⟩:=d;dsimp only at hk hd;obtain ⟨b1,a1,z0,j0,y0,x0,w0,v0,u0,r,⟨p0,o0⟩,⟨n0,m0⟩,l0,k0⟩:=hb;dsimp only [FC.er] at b1 a1 z0 j0 y0 x0 w0 v0 u0 r p0 o0 n0 m0 l0 k0;rw [aI] at j0;obtain ⟨R,w⟩: ∃ R,f.er.decl (Dec.er ⟨k,ln,cl,nm,z,b0,ba,bc⟩)=R:=⟨_,rfl⟩;rw [w];obtain ⟨D,i⟩: ∃ D,f.er.decl1 ⟨k,ln,cl,nm,z,Zk b0⟩=D:=⟨_,rfl⟩;replace w:(if f.er.at nm≠0 then f.er.fl 130 else if D.2.2=false then D.1 else if 64<=D.1.names.length then D.1.fl 134 else { D.1 with names:=D.1.names++ [⟨nm,k,D.2.1⟩] })=R:=by rw [<-i];exact w
 refine xo 2 ?_;refine Zl fun n1=> ?_
 refine Zl fun n2=> ?_
 refine Zh zeroValue316 fun n3=> ?_
 refine rn [4,0,1,0] ?_;refine bM call159 (Zvo (f:=f) (h.le leA)) ?_;refine ox 2 ?_;refine xp 10 ?_ ?_<;>intro h0
 . rw [if_pos (show f.er.at nm≠0 by omega)] at w;refine rn [3,0,1,0] ?_;refine Zv call160 (aH _) (U5 (f:=f) (h.le leA)) ?_;rintro _ _ ⟨g,rfl,rfl,hg⟩;refine rn [0,1] ?_;refine Zq (fcM g::q) func158 (rA_ results158) ⟨_,rfl,g,rfl,rfl,hg.trans w⟩
 rw [if_neg (show ¬f.er.at nm≠0 by omega)] at w;unfold Fnd.decl1 at i;dsimp only at i;refine rn [10,0,1] ?_;refine lB (fun (x:FC×Int)=> [(5,I64 x.2),(2,pt n1),(3,pt n2),(4,pt n3)]) (fun x=>fcM x.1::pto n1 (.cells (fcC x.1).toArray 316 (0,0))::pto n2 (.cells (dcC ⟨k,ln,cl,nm,z,b0,ba,bc⟩).toArray 305 (0,0))::pto n3 Am::(q++F)) (fun x=>D=(x.1.er,x.2,true)/\x.1.names.l.length<=100000) (fun x i0=> ?_) fun K=> ?_
 . obtain ⟨g,n⟩:=x;dsimp only at i0|-;obtain ⟨s0,c1⟩:=i0;rw [s0] at w;dsimp only at w;rw [if_neg (show ¬true=false by decide)] at w;refine rn [4,0,3] ?_;refine xp 217 ?_ ?_<;>intro h1
   . rw [if_pos (show 64<=g.er.names.length by simp only [FC.er];omega)] at w;refine rn [3,0,1,0] ?_;refine Zv call160 (aH _) (U5 (f:=g) knA) ?_;rintro _ _ ⟨g2,rfl,rfl,hg⟩;refine rn [0,1] ?_;refine Zq (fcM g2::q) func158 (rA_ results158) ⟨_,rfl,g2,rfl,rfl,hg.trans w⟩
   rw [if_neg (show ¬64<=g.er.names.length by simp only [FC.er];omega)] at w;refine rn [3,0,1,2,4,5,6,7,8,9] ?_;refine kK (q':=rsH nmC 3 321 none 0 ([])::_) (Zc nmC 3 321 _) ?_;refine Yd (fl:= [⟨9,231,fun g=> .slice (some ⟨g,0,none⟩) 1 1,fun g=>rsH nmC 3 321 (some ⟨g,0,none⟩) 1 ([⟨nm,k,n⟩])⟩]) ?_;refine jZ 2 ⟨⟨_,rfl,rfl,rfl,rfl,rfl,rfl,fun q=>Yz (u:=⟨nm,k,n⟩) nmC underlying314 Jp rfl rfl (fun _=>rfl) rfl⟩,trivial⟩ (Pa (f:=nmC) (sz:=3) (l:= []) (m:=g.names.l) underlying314 Jp rfl rfl (fun _=>rfl) rfl rfl Zj (dV (kX (φ:=fun M=>g.At M) knA fun M h=>h.names)) (fun _=>rfl) (by simp;omega) (by simp;omega)) ?_;refine kk2 fun aa ac=> ?_
   refine Ws (e0:=⟨9,231,fun g=> .slice (some ⟨g,0,none⟩) 1 1,fun g=>rsH nmC 3 321 (some ⟨g,0,none⟩) 1 ([⟨nm,k,n⟩])⟩) (hnd:=by simp) 9 ⟨⟨_,rfl,rfl,rfl,rfl,rfl,rfl,fun q=>Yz (u:=⟨nm,k,n⟩) nmC underlying314 Jp rfl rfl (fun _=>rfl) rfl⟩,trivial⟩ fun gl=> ?_;change XF _ _ _ _ _ _ _ [] _ _ _ ((231,.slice (some ⟨gl,0,none⟩) 1 1)::_) _ _ (rsH nmC 3 321 (some ⟨gl,0,none⟩) 1 ([⟨nm,k,n⟩])::_);refine eQ ?_;try rw [aY]
   refine eE 10 rfl (Z4 (f:=nmC) (l:=g.names.l) (m:= [⟨nm,k,n⟩]) underlying314 Jp rfl rfl (fun _=>rfl) rfl rfl Zj ((cI _).le Zj) (fun _=>rfl) (by simp;omega) (by simp;omega)) ?_;refine kk2 fun g0 f0=> ?_
   refine rn [12,13,0,2,0,0,1] ?_;refine Zqb ?_;refine cS (q':=fcM ({ g with names:=⟨g.names.l++ [⟨nm,k,n⟩],g0,f0⟩ } :FC)::_) (dK ((gI (φ:=fun M=>g.At M) knA (svK (x:=⟨_,g0,f0⟩) (f:=nmC))).imp fun M h=>FC.At.n h.1 h.2)) ?_;refine Zq (fcM ({ g with names:=⟨g.names.l++ [⟨nm,k,n⟩],g0,f0⟩ } :FC)::q) func158 (rA_ results158) ⟨_,rfl, { g with names:=⟨g.names.l++ [⟨nm,k,n⟩],g0,f0⟩ },rfl,rfl,w⟩
 have t0:k=1\/k=2\/k=3\/k=4\/k=5\/k=6:=by omega
 rcases t0 with rfl|rfl|rfl|rfl|rfl|rfl
 . rw [if_pos rfl] at i;refine rn [6,2017,5,0,7,0,2] ?_;refine bB [26,5,4,3,2] ?_;apply Zb 4 30 26 rfl
   . intro s M1;have h1:=sp s;refine rn [1,0,2] ?_;exact Zz M1 ⟨orF s,Zw⟩
   . intro s M1;have h1:=sp s;refine oo 4 ?_;exact Zz M1 ⟨orT s,Zw⟩
   refine ox 1 ?_;refine xp 30 ?_ ?_<;>intro h1
   . refine rn [3,0,1,0] ?_;refine Zv call160 (aH _) (U5 (f:=f) (h.le leA)) ?_;rintro _ _ ⟨g,rfl,rfl,hg⟩;refine rn [0,1] ?_;rw [if_pos (by omega)] at i;rw [<-i,if_pos rfl] at w;refine Zq (fcM g::q) func158 (rA_ results158) ⟨_,rfl,g,rfl,rfl,hg.trans w⟩
   refine rn [3,0,1,2,3,5,6] ?_;refine kK (q':=lsH I64 2 none 0 ([])::_) (Z1 _ _ _) ?_;refine Yd (fl:= [⟨6,41,fun g=> .slice (some ⟨g,0,none⟩) 1 1,fun g=>lsH I64 2 (some ⟨g,0,none⟩) 1 ([z])⟩]) ?_;refine jZ 3 ⟨⟨_,rfl,rfl,rfl,rfl,rfl,rfl,fun q=>Yu I64 [z] underlying22 Sm rfl rfl rfl rfl rfl rfl (fun _=>rfl)⟩,trivial⟩ (H5 (fe:=I64) (l:= []) (m:=f.vars.l) underlying22 Sm rfl rfl rfl Zj (svI (cF (h.imp fun M h=>h.vars))) (fun _=>rfl) (by simp;omega) (by simp;omega)) ?_;refine kk2 fun d0 c0=> ?_
   refine Ws (e0:=⟨6,41,fun g=> .slice (some ⟨g,0,none⟩) 1 1,fun g=>lsH I64 2 (some ⟨g,0,none⟩) 1 ([z])⟩) (hnd:=by simp) 6 ⟨⟨_,rfl,rfl,rfl,rfl,rfl,rfl,fun q=>Yu I64 [z] underlying22 Sm rfl rfl rfl rfl rfl rfl (fun _=>rfl)⟩,trivial⟩ fun j=> ?_;change XF _ _ _ _ _ _ _ [] _ _ _ ((41,.slice (some ⟨j,0,none⟩) 1 1)::_) _ _ (lsH I64 2 (some ⟨j,0,none⟩) 1 ([z])::_);refine eQ ?_;try rw [aY]
   refine eE 7 rfl (Yb (f:=I64) (l:=f.vars.l) (m:= [z]) underlying22 Sm rfl rfl rfl Zj ((bY _).le Zj) (fun _=>rfl) (by simp;omega) (by simp;omega)) ?_;refine kk2 fun e b=> ?_
   refine rn [9,10,11,0,0,1,2,3,4,6,7] ?_;refine kK (q':=lsH Value.string 9 none 0 ([])::_) (Z1 _ _ _) ?_;refine Yd (fl:= [⟨7,52,fun g=> .slice (some ⟨g,0,none⟩) 1 1,fun g=>lsH Value.string 9 (some ⟨g,0,none⟩) 1 ([nm])⟩]) ?_;refine jZ 4 ⟨⟨_,rfl,rfl,rfl,rfl,rfl,rfl,fun q=>Yu Value.string [nm] underlying25 Wi rfl rfl rfl rfl rfl rfl (fun _=>rfl)⟩,trivial⟩ (H5 (fe:=Value.string) (l:= []) (m:=f.nv.l) underlying25 Wi rfl rfl rfl Zj (svS (cF (h.imp fun M h=>h.nv))) (fun _=>rfl) (by simp;omega) (by simp;omega)) ?_;refine kk2 fun r0 q0=> ?_
   refine Ws (e0:=⟨7,52,fun g=> .slice (some ⟨g,0,none⟩) 1 1,fun g=>lsH Value.string 9 (some ⟨g,0,none⟩) 1 ([nm])⟩) (hnd:=by simp) 7 ⟨⟨_,rfl,rfl,rfl,rfl,rfl,rfl,fun q=>Yu Value.string [nm] underlying25 Wi rfl rfl rfl rfl rfl rfl (fun _=>rfl)⟩,trivial⟩ fun a0=> ?_;change XF _ _ _ _ _ _ _ [] _ _ _ ((52,.slice (some ⟨a0,0,none⟩) 1 1)::_) _ _ (lsH Value.string 9 (some ⟨a0,0,none⟩) 1 ([nm])::_);refine eQ ?_;try rw [aY]
   refine eE 8 rfl (Yb (f:=Value.string) (l:=f.nv.l) (m:= [nm]) underlying25 Wi rfl rfl rfl Zj ((bY _).le Zj) (fun _=>rfl) (by simp;omega) (by simp;omega)) ?_;refine kk2 fun p o=> ?_
   refine rn [10,11,12,13,0,1] ?_;rw [if_neg (by omega)] at i;refine J4 (f':=iC) (fe:=I64) Ul ?_;refine J4 (f':=sC) (fe:=Value.string) Ut ?_;refine cS (q':=fcM ({ f with vars:=⟨f.vars.l++ [z],e,b⟩,nv:=⟨f.nv.l++ [nm],p,o⟩ } :FC)::_) (dK ((gI (cF h) (gI (svK (x:=⟨f.vars.l++ [z],e,b⟩) (f:=iC)) (svK (x:=⟨f.nv.l++ [nm],p,o⟩) (f:=sC)))).imp fun M h=>FC.At.v h.1 h.2.1 h.2.2)) ?_;exact aX (K (({ f with vars:=⟨f.vars.l++ [z],e,b⟩,nv:=⟨f.nv.l++ [nm],p,o⟩ } :FC),(f.vars.l.length:Int)) ⟨by first|(rw [<-i];done)|(rw [<-i];rfl)|(rw [<-i];simp only [FC.er,aO,aI];done)|(rw [<-i];simp only [FC.er,aO,aI];rfl),r⟩) Zn leA
 . rw [if_neg (by decide),if_pos rfl] at i;rw [show f.er.cells=f.cells from rfl] at i;refine rn [6,1017,6,2057,5,0,7,0,2] ?_;refine bB [66,5,4,3,2] ?_;apply Zb 4 70 66 rfl
   . intro s M1;have h1:=sp s;refine rn [1,0,2] ?_;exact Zz M1 ⟨orF s,Zw⟩
   . intro s M1;have h1:=sp s;refine oo 4 ?_;exact Zz M1 ⟨orT s,Zw⟩
   refine oo 1 ?_;refine bB [71,5,4,3,2] ?_;apply Zb 7 78 71 rfl
   . intro s M1;have h1:=sp s;refine rn [1,0,1,0,3] ?_;exact Zz M1 ⟨orF s,Zw⟩
   . intro s M1;have h1:=sp s;refine oo 7 ?_;exact Zz M1 ⟨orT s,Zw⟩
   refine ox 1 ?_;refine xp 78 ?_ ?_<;>intro h1
   . refine rn [3,0,1,0] ?_;refine Zv call160 (aH _) (U5 (f:=f) (h.le leA)) ?_;rintro _ _ ⟨g,rfl,rfl,hg⟩;refine rn [0,1] ?_;rw [if_pos (by omega)] at i;rw [<-i,if_pos rfl] at w;refine Zq (fcM g::q) func158 (rA_ results158) ⟨_,rfl,g,rfl,rfl,hg.trans w⟩
   refine rn [5,0,1,0,2,0,2,0,1,2,3,5,6] ?_;refine kK (q':=lsH I64 3 none 0 ([])::_) (Z1 _ _ _) ?_;refine Yd (fl:= [⟨6,95,fun g=> .slice (some ⟨g,0,none⟩) 1 1,fun g=>lsH I64 3 (some ⟨g,0,none⟩) 1 ([z])⟩]) ?_;refine jZ 3 ⟨⟨_,rfl,rfl,rfl,rfl,rfl,rfl,fun q=>Yu I64 [z] underlying23 Nq rfl rfl rfl rfl rfl rfl (fun _=>rfl)⟩,trivial⟩ (H5 (fe:=I64) (l:= []) (m:=f.arrs.l) underlying23 Nq rfl rfl rfl Zj (svI (cF (h.imp fun M h=>h.arrs))) (fun _=>rfl) (by simp;omega) (by simp;omega)) ?_;refine kk2 fun d0 c0=> ?_
   refine Ws (e0:=⟨6,95,fun g=> .slice (some ⟨g,0,none⟩) 1 1,fun g=>lsH I64 3 (some ⟨g,0,none⟩) 1 ([z])⟩) (hnd:=by simp) 6 ⟨⟨_,rfl,rfl,rfl,rfl,rfl,rfl,fun q=>Yu I64 [z] underlying23 Nq rfl rfl rfl rfl rfl rfl (fun _=>rfl)⟩,trivial⟩ fun j=> ?_;change XF _ _ _ _ _ _ _ [] _ _ _ ((95,.slice (some ⟨j,0,none⟩) 1 1)::_) _ _ (lsH I64 3 (some ⟨j,0,none⟩) 1 ([z])::_);refine eQ ?_;try rw [aY]
   refine eE 7 rfl (Yb (f:=I64) (l:=f.arrs.l) (m:= [z]) underlying23 Nq rfl rfl rfl Zj ((bY _).le Zj) (fun _=>rfl) (by simp;omega) (by simp;omega)) ?_;refine kk2 fun e b=> ?_
   refine rn [9,10,11,0,0,1,2,3,4,6,7] ?_;refine kK (q':=lsH Value.string 9 none 0 ([])::_) (Z1 _ _ _) ?_;refine Yd (fl:= [⟨7,106,fun g=> .slice (some ⟨g,0,none⟩) 1 1,fun g=>lsH Value.string 9 (some ⟨g,0,none⟩) 1 ([nm])⟩]) ?_;refine jZ 4 ⟨⟨_,rfl,rfl,rfl,rfl,rfl,rfl,fun q=>Yu Value.string [nm] underlying25 Wi rfl rfl rfl rfl rfl rfl (fun _=>rfl)⟩,trivial⟩ (H5 (fe:=Value.string) (l:= []) (m:=f.na.l) underlying25 Wi rfl rfl rfl Zj (svS (cF (h.imp fun M h=>h.na))) (fun _=>rfl) (by simp;omega) (by simp;omega)) ?_;refine kk2 fun r0 q0=> ?_
   refine Ws (e0:=⟨7,106,fun g=> .slice (some ⟨g,0,none⟩) 1 1,fun g=>lsH Value.string 9 (some ⟨g,0,none⟩) 1 ([nm])⟩) (hnd:=by simp) 7 ⟨⟨_,rfl,rfl,rfl,rfl,rfl,rfl,fun q=>Yu Value.string [nm] underlying25 Wi rfl rfl rfl rfl rfl rfl (fun _=>rfl)⟩,trivial⟩ fun a0=> ?_;change XF _ _ _ _ _ _ _ [] _ _ _ ((106,.slice (some ⟨a0,0,none⟩) 1 1)::_) _ _ (lsH Value.string 9 (some ⟨a0,0,none⟩) 1 ([nm])::_);refine eQ ?_;try rw [aY]
   refine eE 8 rfl (Yb (f:=Value.string) (l:=f.na.l) (m:= [nm]) underlying25 Wi rfl rfl rfl Zj ((bY _).le Zj) (fun _=>rfl) (by simp;omega) (by simp;omega)) ?_;refine kk2 fun p o=> ?_
   refine rn [10,11,12,13,0,1] ?_;rw [if_neg (by omega)] at i;refine J4 (f':=iC) (fe:=I64) Ul ?_;refine J4 (f':=sC) (fe:=Value.string) Ut ?_;refine cS (q':=fcM ({ f with cells:=f.cells+z,arrs:=⟨f.arrs.l++ [z],e,b⟩,na:=⟨f.na.l++ [nm],p,o⟩ } :FC)::_) (dK ((gI (cF h) (gI (svK (x:=⟨f.arrs.l++ [z],e,b⟩) (f:=iC)) (svK (x:=⟨f.na.l++ [nm],p,o⟩) (f:=sC)))).imp fun M h=>FC.At.a h.1 h.2.1 h.2.2)) ?_;exact aX (K (({ f with cells:=f.cells+z,arrs:=⟨f.arrs.l++ [z],e,b⟩,na:=⟨f.na.l++ [nm],p,o⟩ } :FC),(f.arrs.l.length:Int)) ⟨by first|(rw [<-i];done)|(rw [<-i];rfl)|(rw [<-i];simp only [FC.er,aO,aI];done)|(rw [<-i];simp only [FC.er,aO,aI];rfl),r⟩) Zn leA
 . rw [if_neg (by decide),if_neg (by decide),if_pos rfl] at i;refine rn [6,1017,6,1057,6,2111,5,0,6,0,3,0,1,0,1,2,3,4,6,7] ?_;refine kK (q':=lsH Value.string 9 none 0 ([])::_) (Z1 _ _ _) ?_;refine Yd (fl:= [⟨7,129,fun g=> .slice (some ⟨g,0,none⟩) 1 1,fun g=>lsH Value.string 9 (some ⟨g,0,none⟩) 1 ([nm])⟩]) ?_;refine jZ 4 ⟨⟨_,rfl,rfl,rfl,rfl,rfl,rfl,fun q=>Yu Value.string [nm] underlying25 Wi rfl rfl rfl rfl rfl rfl (fun _=>rfl)⟩,trivial⟩ (H5 (fe:=Value.string) (l:= []) (m:=f.nm.l) underlying25 Wi rfl rfl rfl Zj (svS (cF (h.imp fun M h=>h.nm))) (fun _=>rfl) (by simp;omega) (by simp;omega)) ?_;refine kk2 fun d0 c0=> ?_
   refine Ws (e0:=⟨7,129,fun g=> .slice (some ⟨g,0,none⟩) 1 1,fun g=>lsH Value.string 9 (some ⟨g,0,none⟩) 1 ([nm])⟩) (hnd:=by simp) 7 ⟨⟨_,rfl,rfl,rfl,rfl,rfl,rfl,fun q=>Yu Value.string [nm] underlying25 Wi rfl rfl rfl rfl rfl rfl (fun _=>rfl)⟩,trivial⟩ fun j=> ?_;change XF _ _ _ _ _ _ _ [] _ _ _ ((129,.slice (some ⟨j,0,none⟩) 1 1)::_) _ _ (lsH Value.string 9 (some ⟨j,0,none⟩) 1 ([nm])::_);refine eQ ?_;try rw [aY]
   refine eE 8 rfl (Yb (f:=Value.string) (l:=f.nm.l) (m:= [nm]) underlying25 Wi rfl rfl rfl Zj ((bY _).le Zj) (fun _=>rfl) (by simp;omega) (by simp;omega)) ?_;refine kk2 fun e b=> ?_
   refine rn [10,11,12,13,0,1] ?_;refine J4 (f':=sC) (fe:=Value.string) Ut ?_;refine cS (q':=fcM ({ f with mu:=f.mu+1,nm:=⟨f.nm.l++ [nm],e,b⟩ } :FC)::_) (dK ((gI (cF h) (svK (x:=⟨f.nm.l++ [nm],e,b⟩) (f:=sC))).imp fun M h=>FC.At.m h.1 h.2)) ?_;exact aX (K (({ f with mu:=f.mu+1,nm:=⟨f.nm.l++ [nm],e,b⟩ } :FC),(f.mu:Int)) ⟨by first|(rw [<-i];done)|(rw [<-i];rfl)|(rw [<-i];simp only [FC.er,aO,aI];done)|(rw [<-i];simp only [FC.er,aO,aI];rfl),r⟩) Zn leA
 . rw [if_neg (by decide),if_neg (by decide),if_neg (by decide),if_pos rfl] at i;refine rn [6,1017,6,1057,6,1111,6,2134,5,0,6,0,3,0,1,0,1,2,3,4,6,7] ?_;refine kK (q':=lsH Value.string 9 none 0 ([])::_) (Z1 _ _ _) ?_;refine Yd (fl:= [⟨7,152,fun g=> .slice (some ⟨g,0,none⟩) 1 1,fun g=>lsH Value.string 9 (some ⟨g,0,none⟩) 1 ([nm])⟩]) ?_;refine jZ 4 ⟨⟨_,rfl,rfl,rfl,rfl,rfl,rfl,fun q=>Yu Value.string [nm] underlying25 Wi rfl rfl rfl rfl rfl rfl (fun _=>rfl)⟩,trivial⟩ (H5 (fe:=Value.string) (l:= []) (m:=f.nc.l) underlying25 Wi rfl rfl rfl Zj (svS (cF (h.imp fun M h=>h.nc))) (fun _=>rfl) (by simp;omega) (by simp;omega)) ?_;refine kk2 fun d0 c0=> ?_
   refine Ws (e0:=⟨7,152,fun g=> .slice (some ⟨g,0,none⟩) 1 1,fun g=>lsH Value.string 9 (some ⟨g,0,none⟩) 1 ([nm])⟩) (hnd:=by simp) 7 ⟨⟨_,rfl,rfl,rfl,rfl,rfl,rfl,fun q=>Yu Value.string [nm] underlying25 Wi rfl rfl rfl rfl rfl rfl (fun _=>rfl)⟩,trivial⟩ fun j=> ?_;change XF _ _ _ _ _ _ _ [] _ _ _ ((152,.slice (some ⟨j,0,none⟩) 1 1)::_) _ _ (lsH Value.string 9 (some ⟨j,0,none⟩) 1 ([nm])::_);refine eQ ?_;try rw [aY]
   refine eE 8 rfl (Yb (f:=Value.string) (l:=f.nc.l) (m:= [nm]) underlying25 Wi rfl rfl rfl Zj ((bY _).le Zj) (fun _=>rfl) (by simp;omega) (by simp;omega)) ?_;refine kk2 fun e b=> ?_
   refine rn [10,11,12,13,0,1] ?_;refine J4 (f':=sC) (fe:=Value.string) Ut ?_;refine cS (q':=fcM ({ f with co:=f.co+1,nc:=⟨f.nc.l++ [nm],e,b⟩ } :FC)::_) (dK ((gI (cF h) (svK (x:=⟨f.nc.l++ [nm],e,b⟩) (f:=sC))).imp fun M h=>FC.At.c h.1 h.2)) ?_;exact aX (K (({ f with co:=f.co+1,nc:=⟨f.nc.l++ [nm],e,b⟩ } :FC),(f.co:Int)) ⟨by first|(rw [<-i];done)|(rw [<-i];rfl)|(rw [<-i];simp only [FC.er,aO,aI];done)|(rw [<-i];simp only [FC.er,aO,aI];rfl),r⟩) Zn leA
 . rw [if_neg (by decide),if_neg (by decide),if_neg (by decide),if_neg (by decide),if_pos rfl] at i;refine rn [6,1017,6,1057,6,1111,6,1134,6,2157,5,0,7,0,2] ?_;refine bB [166,5,4,3,2] ?_;apply Zb 4 170 166 rfl
   . intro s M1;have h1:=sp s;refine rn [1,0,2] ?_;exact Zz M1 ⟨orF s,Zw⟩
   . intro s M1;have h1:=sp s;refine oo 4 ?_;exact Zz M1 ⟨orT s,Zw⟩
   refine ox 1 ?_;refine xp 170 ?_ ?_<;>intro h1
   . refine rn [3,0,1,0] ?_;refine Zv call160 (aH _) (U5 (f:=f) (h.le leA)) ?_;rintro _ _ ⟨g,rfl,rfl,hg⟩;refine rn [0,1] ?_;rw [if_pos (by omega)] at i;rw [<-i,if_pos rfl] at w;refine Zq (fcM g::q) func158 (rA_ results158) ⟨_,rfl,g,rfl,rfl,hg.trans w⟩
   refine rn [3,0,1,2,3,5,6] ?_;refine kK (q':=lsH I64 3 none 0 ([])::_) (Z1 _ _ _) ?_;refine Yd (fl:= [⟨6,181,fun g=> .slice (some ⟨g,0,none⟩) 1 1,fun g=>lsH I64 3 (some ⟨g,0,none⟩) 1 ([z])⟩]) ?_;refine jZ 3 ⟨⟨_,rfl,rfl,rfl,rfl,rfl,rfl,fun q=>Yu I64 [z] underlying23 Nq rfl rfl rfl rfl rfl rfl (fun _=>rfl)⟩,trivial⟩ (H5 (fe:=I64) (l:= []) (m:=f.chs.l) underlying23 Nq rfl rfl rfl Zj (svI (cF (h.imp fun M h=>h.chs))) (fun _=>rfl) (by simp;omega) (by simp;omega)) ?_;refine kk2 fun d0 c0=> ?_
   refine Ws (e0:=⟨6,181,fun g=> .slice (some ⟨g,0,none⟩) 1 1,fun g=>lsH I64 3 (some ⟨g,0,none⟩) 1 ([z])⟩) (hnd:=by simp) 6 ⟨⟨_,rfl,rfl,rfl,rfl,rfl,rfl,fun q=>Yu I64 [z] underlying23 Nq rfl rfl rfl rfl rfl rfl (fun _=>rfl)⟩,trivial⟩ fun j=> ?_;change XF _ _ _ _ _ _ _ [] _ _ _ ((181,.slice (some ⟨j,0,none⟩) 1 1)::_) _ _ (lsH I64 3 (some ⟨j,0,none⟩) 1 ([z])::_);refine eQ ?_;try rw [aY]
   refine eE 7 rfl (Yb (f:=I64) (l:=f.chs.l) (m:= [z]) underlying23 Nq rfl rfl rfl Zj ((bY _).le Zj) (fun _=>rfl) (by simp;omega) (by simp;omega)) ?_;refine kk2 fun e b=> ?_
   refine rn [9,10,11,0,0,1,2,3,4,6,7] ?_;refine kK (q':=lsH Value.string 9 none 0 ([])::_) (Z1 _ _ _) ?_;refine Yd (fl:= [⟨7,192,fun g=> .slice (some ⟨g,0,none⟩) 1 1,fun g=>lsH Value.string 9 (some ⟨g,0,none⟩) 1 ([nm])⟩]) ?_;refine jZ 4 ⟨⟨_,rfl,rfl,rfl,rfl,rfl,rfl,fun q=>Yu Value.string [nm] underlying25 Wi rfl rfl rfl rfl rfl rfl (fun _=>rfl)⟩,trivial⟩ (H5 (fe:=Value.string) (l:= []) (m:=f.nh.l) underlying25 Wi rfl rfl rfl Zj (svS (cF (h.imp fun M h=>h.nh))) (fun _=>rfl) (by simp;omega) (by simp;omega)) ?_;refine kk2 fun r0 q0=> ?_
   refine Ws (e0:=⟨7,192,fun g=> .slice (some ⟨g,0,none⟩) 1 1,fun g=>lsH Value.string 9 (some ⟨g,0,none⟩) 1 ([nm])⟩) (hnd:=by simp) 7 ⟨⟨_,rfl,rfl,rfl,rfl,rfl,rfl,fun q=>Yu Value.string [nm] underlying25 Wi rfl rfl rfl rfl rfl rfl (fun _=>rfl)⟩,trivial⟩ fun a0=> ?_;change XF _ _ _ _ _ _ _ [] _ _ _ ((192,.slice (some ⟨a0,0,none⟩) 1 1)::_) _ _ (lsH Value.string 9 (some ⟨a0,0,none⟩) 1 ([nm])::_);refine eQ ?_;try rw [aY]
   refine eE 8 rfl (Yb (f:=Value.string) (l:=f.nh.l) (m:= [nm]) underlying25 Wi rfl rfl rfl Zj ((bY _).le Zj) (fun _=>rfl) (by simp;omega) (by simp;omega)) ?_;refine kk2 fun p o=> ?_
   refine rn [10,11,12,13,0,1] ?_;rw [if_neg (by omega)] at i;refine J4 (f':=iC) (fe:=I64) Ul ?_;refine J4 (f':=sC) (fe:=Value.string) Ut ?_;refine cS (q':=fcM ({ f with chs:=⟨f.chs.l++ [z],e,b⟩,nh:=⟨f.nh.l++ [nm],p,o⟩ } :FC)::_) (dK ((gI (cF h) (gI (svK (x:=⟨f.chs.l++ [z],e,b⟩) (f:=iC)) (svK (x:=⟨f.nh.l++ [nm],p,o⟩) (f:=sC)))).imp fun M h=>FC.At.h h.1 h.2.1 h.2.2)) ?_;exact aX (K (({ f with chs:=⟨f.chs.l++ [z],e,b⟩,nh:=⟨f.nh.l++ [nm],p,o⟩ } :FC),(f.chs.l.length:Int)) ⟨by first|(rw [<-i];done)|(rw [<-i];rfl)|(rw [<-i];simp only [FC.er,aO,aI];done)|(rw [<-i];simp only [FC.er,aO,aI];rfl),r⟩) Zn leA
 rw [if_neg (by decide),if_neg (by decide),if_neg (by decide),if_neg (by decide),if_neg (by decide),if_pos rfl] at i;refine rn [6,1017,6,1057,6,1111,6,1134,6,1157,6,2197,5,0,3,0,1,2,3,5,6,7] ?_;refine kK (q':=rsH thC 3 218 none 0 ([])::_) (Zc thC 3 218 _) ?_;refine Yd (fl:= [⟨7,210,fun g=> .slice (some ⟨g,0,none⟩) 1 1,fun g=>rsH thC 3 218 (some ⟨g,0,none⟩) 1 ([⟨nm,0, [],none,0⟩])⟩]) ?_;refine jZ 3 ⟨⟨_,rfl,rfl,rfl,rfl,rfl,rfl,fun q=>Yz (u:=⟨nm,0, [],none,0⟩) thC underlying24 Tq rfl rfl (fun _=>rfl) rfl⟩,trivial⟩ (Pa (f:=thC) (sz:=3) (l:= []) (m:=f.ths.l) underlying24 Tq rfl rfl (fun _=>rfl) rfl rfl Zj (dV (cF (h.imp fun M h=>h.ths))) (fun _=>rfl) (by simp;omega) (by simp;omega)) ?_;refine kk2 fun d0 c0=> ?_
 refine Ws (e0:=⟨7,210,fun g=> .slice (some ⟨g,0,none⟩) 1 1,fun g=>rsH thC 3 218 (some ⟨g,0,none⟩) 1 ([⟨nm,0, [],none,0⟩])⟩) (hnd:=by simp) 7 ⟨⟨_,rfl,rfl,rfl,rfl,rfl,rfl,fun q=>Yz (u:=⟨nm,0, [],none,0⟩) thC underlying24 Tq rfl rfl (fun _=>rfl) rfl⟩,trivial⟩ fun j=> ?_;change XF _ _ _ _ _ _ _ [] _ _ _ ((210,.slice (some ⟨j,0,none⟩) 1 1)::_) _ _ (rsH thC 3 218 (some ⟨j,0,none⟩) 1 ([⟨nm,0, [],none,0⟩])::_);refine eQ ?_;try rw [aY]
 refine eE 8 rfl (Z4 (f:=thC) (l:=f.ths.l) (m:= [⟨nm,0, [],none,0⟩]) underlying24 Tq rfl rfl (fun _=>rfl) rfl rfl Zj ((cI _).le Zj) (fun _=>rfl) (by simp;omega) (by simp;omega)) ?_;refine kk2 fun e b=> ?_
 refine rn [10,11,12,0,1] ?_;refine Zqb ?_;refine cS (q':=fcM ({ f with ths:=⟨f.ths.l++ [⟨nm,0, [],none,0⟩],e,b⟩ } :FC)::_) (dK ((gI (cF h) (svK (x:=⟨f.ths.l++ [⟨nm,0, [],none,0⟩],e,b⟩) (f:=thC))).imp fun M h=>FC.At.t h.1 h.2 (fun y hy=>by rcases bE.1 hy with hy|hy;exact h.1.bod y hy;rw [bN.1 hy];exact ⟨SlAt.nil M,trivial⟩))) ?_;exact aX (K (({ f with ths:=⟨f.ths.l++ [⟨nm,0, [],none,0⟩],e,b⟩ } :FC),(f.ths.l.length:Int)) ⟨by first|(rw [<-i];done)|(rw [<-i];rfl)|(rw [<-i];simp only [FC.er,aO,aI];done)|(rw [<-i];simp only [FC.er,aO,aI];rfl),r⟩) Zn leA
end
mutual
def PEx.thin:PEx->Prop
 | .mk _ _ _ _ _ _ args=>args.length<=2/\Ml args
def Ml:List PEx->Prop
 | []=>True
 |e::r=>e.thin/\Ml r
end
theorem R1 {x:PEx}: ∀ {l:List PEx},Ml l->x∈l->x.thin
 |y::r,⟨h1,h2⟩,h=>by
  rcases bG.1 h with rfl|h
  . exact h1
  exact R1 h2 h
mutual
theorem Ks: ∀ {e:PEx} {d:Nat},e.right d=true->e.thin
 | .mk k n nm _ _ op args,d,h=>by
  simp only [PEx.right] at h;split at h
  . cases h
  split at h
  . rw [aR,aR,cP] at h;refine ⟨?_,N1 h.2⟩;have:=h.1.2;unfold Rr at this;split at this<;>(try split at this)<;>omega
  cases h
theorem N1: ∀ {l:List PEx} {d:Nat},Wy l d=true->Ml l
 | [],_,_=>trivial
 |e::r,d,h=>by
  simp only [Wy,aR] at h;exact ⟨Ks h.1,N1 h.2⟩
end
theorem Da: ∀ {e:PEx},e.nil=true->e.thin
 | .mk k n nm _ _ op args,h=>by
  simp only [PEx.nil,aR,cP] at h;have a:=aS h.2;subst a;exact ⟨bC _,trivial⟩
theorem Zkm {l m:List Ex}(h:Ex.Ats M l)(k:Ex.Ats M m):Ex.Ats M (l++m):=Vr.2 fun x hx=>(bE.1 hx).elim (Vr.1 h x) (Vr.1 k x)
section
variable {a:Option Addr}{c:Nat}{l:List Ex}{kd n:Int}{op:Int}
theorem X.exs (h1:Le q (exsM l::q1))(h2:Le q1 (exM e::q2))(K:X P G fr Q todo p ds cs (exsM (l++ [e])::q2)):X P G fr Q todo p ds cs q:=by
 have a:Kn (exsM l::exM e::q2) fun M=>Ex.Ats M (l++ [e]):=((show Kn (exsM l::exM e::q2) fun M=>Ex.Ats M l from fJ).and (Kn.there (show Kn (exM e::q2) fun M=>e.At M from fJ))).imp fun M h=>Zkm h.1 ⟨h.2,trivial⟩
 exact .le ((h1.trans (cG _ h2)).trans ((dK (mn:=fun e h=>jM e h) a).trans (cG _ ((dX _ _).trans (dX _ _))))) K
theorem X.fzEs (K:X P G fr Q todo p ds cs (exM (.mk kd n nm slot loc op l a c)::q0))(hq:Le q (rsH exC 7 136 a c l::q0):=by exact Zj)(h:Kn q0 fun M=>Ex.Ats M l:=by exact knA):X P G fr Q todo p ds cs q:= .frzR (Kn.here.and h.there) K hq
end
theorem Zjv (IH: ∀ (x:Ex),x.sz<e.sz->x.er.thin-> ∀ {f:FC} {pl pc:Int} {q:List HP},(Kn q fun M=>f.At M)->(Kn q fun M=>x.At M)->CallF prog G 277 [.agg (fcC f).toArray,.agg (exC x).toArray,.agg [I64 pl,I64 pc].toArray] q (Ret fun v q'=> ∃ (g:FC) (y:Ex),v= .tuple [.agg (fcC g).toArray,.agg (exC y).toArray].toArray/\q'=fcM g::exM y::q/\(g.er,y.er)=f.er.expr x.er))(hf:Kn q fun M=>f.At M)(h:Kn q fun M=>e.At M)(ht:e.er.thin):CallF prog G 277 [.agg (fcC f).toArray,.agg (exC e).toArray,.agg [I64 pl,I64 pc].toArray] (q) (Ret fun v q'=> ∃ (g:FC) (x:Ex),v= .tuple [.agg (fcC g).toArray,.agg (exC x).toArray].toArray/\q'=fcM g::exM x::q/\(g.er,x.er)=f.er.expr e.er):=by
 refine aB func277 ntmps277 rfl fun F cs=> ?_;obtain ⟨k,z,nm,sl,lo,op,d,aa,ac⟩:=e;have hA:=Zkv h;have b0:=Zx (f:=exC) (sz:=7) Yk d;have k0:d.length<=2:=by have:=ht.1;rw [Jw] at this;exact this
 have f0:Ml (Z5 d):=ht.2;obtain ⟨R,r⟩: ∃ R,f.er.expr (Ex.er (.mk k z nm sl lo op d aa ac))=R:=⟨_,rfl⟩;rw [r];simp only [Ex.er,Fnd.expr] at r;refine xo 2 ?_;refine Zl fun n1=> ?_
 refine Zl fun n2=> ?_
 refine Zl fun n3=> ?_
 refine Zh zeroValue316 fun n4=> ?_
 refine Zh zeroValue136 fun n5=> ?_
 refine rn [5,0,1] ?_;refine lB (fun (x:FC×Int×Bool)=> [(3,pt n1),(4,pt n2),(5,pt n3),(6,pt n4),(7,pt n5)]) (fun x=>fcM x.1::pto n1 (.cells (fcC x.1).toArray 316 (0,0))::pto n2 (.cells (exC (.mk k z nm x.2.1 x.2.2 op d aa ac)).toArray 136 (0,0))::pto n3 (.cells [I64 pl,I64 pc].toArray 104 (0,0))::pto n4 (.cells zz7.toArray 316 (0,0))::pto n5 (.cells zz4.toArray 136 (0,0))::(q++F)) (fun x=>R=((Fnd.exprs x.1.er (Z5 d)).1,.mk k z nm x.2.1 x.2.2 op (Fnd.exprs x.1.er (Z5 d)).2)) (fun x a0=> ?_) fun K=> ?_
 . obtain ⟨g,o,p⟩:=x;dsimp only at a0|-;clear r;refine xx 10 ?_;refine aX (cC (fun (s:FC×(Option Addr×Nat×List Ex)×Option Addr)=>s.2.1.2.2.length<=d.length/\s.2.2=aa/\R=((Fnd.exprs s.1.er (Z5 (d.drop s.2.1.2.2.length))).1,.mk k z nm o p op (Z5 s.2.1.2.2++(Fnd.exprs s.1.er (Z5 (d.drop s.2.1.2.2.length))).2))) (fun s=> [(12,.slice s.2.1.1 s.2.1.2.2.length s.2.1.2.1),(13,I64 (s.2.1.2.2.length:Int)),(3,pt n1),(4,pt n2),(5,pt n3),(6,pt n4),(7,pt n5)]) (fun s=>rsH exC 7 136 s.2.1.1 s.2.1.2.1 s.2.1.2.2::exsM s.2.1.2.2::fcM s.1::pto n1 (.cells (fcC s.1).toArray 316 (0,0))::pto n2 (.cells (exC (.mk k z nm o p op d s.2.2 ac)).toArray 136 (0,0))::pto n3 (.cells [I64 pl,I64 pc].toArray 104 (0,0))::pto n4 (.cells zz7.toArray 316 (0,0))::pto n5 (.cells zz4.toArray 136 (0,0))::(q++F)) (fun s=>d.length - s.2.1.2.2.length) (fun s c0 ih=> ?_) (g,(none,0, []),aa) ⟨bC _,rfl,a0⟩) Zn (aM leA (aM (Zc exC 7 136 _) (aM (dK (φ:=fun M=>Ex.Ats M []) (mn:=fun e h=>jM e h) (fun _ _ _=>trivial)) leA)));try dsimp only at c0 ih|-
   obtain ⟨l0,i0,d0⟩:=c0;obtain ⟨g,⟨a,c,i⟩,m0⟩:=s;dsimp only at*;subst i0;clear a0;refine rn [5,0,3] ?_;refine xp 54 ?_ ?_<;>intro h0
   . have t:i.length<d.length:=by omega
     obtain ⟨y,hy⟩: ∃ y,d[i.length]=y:=⟨_,rfl⟩;obtain ⟨k3,z3,s3,l3,o3,p3,y3,u3,w3⟩:=y;refine rn [5,0,1,2,3,4] ?_;refine Nh hA (by rw [b0];omega) fun b1 o1 e1=> ?_;subst e1;have b: ∀ (Q:List HP),Le Q q-> ∀ (j:Nat) (v:Value),nth (exC (.mk k3 z3 s3 l3 o3 p3 y3 u3 w3)) j=some v->Cl Q ⟨b1,o1+(i.length:Int).toNat*7+j,none⟩ v:=fun Q hQ j v hv=>dW hA hQ Yk t rfl j v (by rw [hy,<-Ur];exact hv)
     refine dd [4] ?_;refine XD.rdCs 5 (us:=exC (.mk k3 z3 s3 l3 o3 p3 y3 u3 w3)) rfl rfl isAgg136 sizeOf136 rfl (fun k v hk=>b _ leA k v (by rw [Ur];exact hk)) ?_;refine ldAD 6 ?_;refine Yd (fl:= [⟨11,14,fun g=> pt g,fun g=>pto g (.cells zz7.toArray 316 (0,0))⟩,⟨12,15,fun g=> pt g,fun g=>pto g (.cells zz4.toArray 136 (0,0))⟩]) ?_;refine Td 7 ⟨⟨_,rfl,rfl,rfl,rfl,rfl,rfl,fun q=>cD zeroValue316⟩,⟨_,rfl,rfl,rfl,rfl,rfl,rfl,fun q=>cD zeroValue136⟩,trivial⟩ call277 (aH _) (IH (.mk k3 z3 s3 l3 o3 p3 y3 u3 w3) (by have:=Y7 (aC t);rw [hy] at this;simp only [Ex.sz] at this|-;omega) (by have:=R1 f0 (by rw [Y3];exact aZ (aC t));rw [hy] at this;exact this) (f:=g) knA (cF (by have:=Zkk h t;rw [hy] at this;exact this) leA)) ?_ (hL:=(hlA (h:=by repeat first|exact trivial|refine ⟨clA,?_⟩|refine ⟨b _ leA 0 _ rfl,?_⟩|refine ⟨b _ leA 1 _ rfl,?_⟩|refine ⟨b _ leA 2 _ rfl,?_⟩|refine ⟨b _ leA 3 _ rfl,?_⟩|refine ⟨b _ leA 4 _ rfl,?_⟩|refine ⟨b _ leA 5 _ rfl,?_⟩|refine ⟨b _ leA 6 _ rfl,?_⟩)));rintro _ _ ⟨g2,⟨k2,z2,s2,l2,o2,p2,y2,u2,w2⟩,rfl,rfl,j0⟩;refine ⟨(hlA (h:=by repeat first|exact trivial|refine ⟨clA,?_⟩|refine ⟨b _ leA 0 _ rfl,?_⟩|refine ⟨b _ leA 1 _ rfl,?_⟩|refine ⟨b _ leA 2 _ rfl,?_⟩|refine ⟨b _ leA 3 _ rfl,?_⟩|refine ⟨b _ leA 4 _ rfl,?_⟩|refine ⟨b _ leA 5 _ rfl,?_⟩|refine ⟨b _ leA 6 _ rfl,?_⟩)),?_⟩;refine Qa 8 ⟨⟨_,rfl,rfl,rfl,rfl,rfl,rfl,fun q=>cD zeroValue316⟩,⟨_,rfl,rfl,rfl,rfl,rfl,rfl,fun q=>cD zeroValue136⟩,trivial⟩ (Pu.move rfl) ?_ (hL:=(hlA (h:=by repeat first|exact trivial|refine ⟨clA,?_⟩|refine ⟨b _ leA 0 _ rfl,?_⟩|refine ⟨b _ leA 1 _ rfl,?_⟩|refine ⟨b _ leA 2 _ rfl,?_⟩|refine ⟨b _ leA 3 _ rfl,?_⟩|refine ⟨b _ leA 4 _ rfl,?_⟩|refine ⟨b _ leA 5 _ rfl,?_⟩|refine ⟨b _ leA 6 _ rfl,?_⟩)));refine Qa 9 ⟨⟨_,rfl,rfl,rfl,rfl,rfl,rfl,fun q=>cD zeroValue316⟩,⟨_,rfl,rfl,rfl,rfl,rfl,rfl,fun q=>cD zeroValue136⟩,trivial⟩ (fP rfl rfl) ?_ (hL:=(hlA (h:=by repeat first|exact trivial|refine ⟨clA,?_⟩|refine ⟨b _ leA 0 _ rfl,?_⟩|refine ⟨b _ leA 1 _ rfl,?_⟩|refine ⟨b _ leA 2 _ rfl,?_⟩|refine ⟨b _ leA 3 _ rfl,?_⟩|refine ⟨b _ leA 4 _ rfl,?_⟩|refine ⟨b _ leA 5 _ rfl,?_⟩|refine ⟨b _ leA 6 _ rfl,?_⟩)));refine Qa 10 ⟨⟨_,rfl,rfl,rfl,rfl,rfl,rfl,fun q=>cD zeroValue316⟩,⟨_,rfl,rfl,rfl,rfl,rfl,rfl,fun q=>cD zeroValue136⟩,trivial⟩ (fP rfl rfl) ?_ (hL:=(hlA (h:=by repeat first|exact trivial|refine ⟨clA,?_⟩|refine ⟨b _ leA 0 _ rfl,?_⟩|refine ⟨b _ leA 1 _ rfl,?_⟩|refine ⟨b _ leA 2 _ rfl,?_⟩|refine ⟨b _ leA 3 _ rfl,?_⟩|refine ⟨b _ leA 4 _ rfl,?_⟩|refine ⟨b _ leA 5 _ rfl,?_⟩|refine ⟨b _ leA 6 _ rfl,?_⟩)));refine Ws (e0:=⟨11,14,fun g=> pt g,fun g=>pto g (.cells zz7.toArray 316 (0,0))⟩) (hnd:=by simp) 11 ⟨⟨_,rfl,rfl,rfl,rfl,rfl,rfl,fun q=>cD zeroValue316⟩,⟨_,rfl,rfl,rfl,rfl,rfl,rfl,fun q=>cD zeroValue136⟩,trivial⟩ (fun ga=> ?_) (hL:=(hlA (h:=by repeat first|exact trivial|refine ⟨clA,?_⟩|refine ⟨b _ leA 0 _ rfl,?_⟩|refine ⟨b _ leA 1 _ rfl,?_⟩|refine ⟨b _ leA 2 _ rfl,?_⟩|refine ⟨b _ leA 3 _ rfl,?_⟩|refine ⟨b _ leA 4 _ rfl,?_⟩|refine ⟨b _ leA 5 _ rfl,?_⟩|refine ⟨b _ leA 6 _ rfl,?_⟩)));change XF _ _ _ _ _ _ _ [⟨12,15,fun g=> pt g,fun g=>pto g (.cells zz4.toArray 136 (0,0))⟩] _ _ _ ((14,pt ga)::_) _ _ (pto ga (.cells zz7.toArray 316 (0,0))::_);refine Ws (e0:=⟨12,15,fun g=> pt g,fun g=>pto g (.cells zz4.toArray 136 (0,0))⟩) (hnd:=by simp) 12 ⟨⟨_,rfl,rfl,rfl,rfl,rfl,rfl,fun q=>cD zeroValue136⟩,trivial⟩ (fun gb=> ?_) (hL:=(hlA (h:=by repeat first|exact trivial|refine ⟨clA,?_⟩|refine ⟨b _ leA 0 _ rfl,?_⟩|refine ⟨b _ leA 1 _ rfl,?_⟩|refine ⟨b _ leA 2 _ rfl,?_⟩|refine ⟨b _ leA 3 _ rfl,?_⟩|refine ⟨b _ leA 4 _ rfl,?_⟩|refine ⟨b _ leA 5 _ rfl,?_⟩|refine ⟨b _ leA 6 _ rfl,?_⟩)));change XF _ _ _ _ _ _ _ [] _ _ _ ((15,pt gb)::_) _ _ (pto gb (.cells zz4.toArray 136 (0,0))::_);refine eQ ?_ (hL:=(hlA (h:=by repeat first|exact trivial|refine ⟨clA,?_⟩|refine ⟨b _ leA 0 _ rfl,?_⟩|refine ⟨b _ leA 1 _ rfl,?_⟩|refine ⟨b _ leA 2 _ rfl,?_⟩|refine ⟨b _ leA 3 _ rfl,?_⟩|refine ⟨b _ leA 4 _ rfl,?_⟩|refine ⟨b _ leA 5 _ rfl,?_⟩|refine ⟨b _ leA 6 _ rfl,?_⟩)));refine rn [14,15,0,2,0,0,3,0] ?_;refine bU (Yz (u:=(.mk k2 z2 s2 l2 o2 p2 y2 u2 w2)) exC underlying134 Qp rfl rfl Yk rfl) ?_;rintro _ _ ⟨gl,rfl,rfl⟩;refine bU (Z4 (f:=exC) (l:=i) (m:= [(.mk k2 z2 s2 l2 o2 p2 y2 u2 w2)]) underlying134 Qp rfl rfl Yk rfl rfl Zj ((cI _).le Zj) Ih (by simp;omega) (by simp;omega)) ?_;rintro _ _ ⟨a3,c3,rfl,rfl⟩;refine ox 8 ?_;refine X.exs (l:=i) (e:=(.mk k2 z2 s2 l2 o2 p2 y2 u2 w2)) Zj Zj ?_
     have g0:R=((Fnd.exprs g2.er (Z5 (d.drop (i.length+1)))).1,.mk k z nm o p op (Z5 (i++ [(.mk k2 z2 s2 l2 o2 p2 y2 u2 w2)])++(Fnd.exprs g2.er (Z5 (d.drop (i.length+1)))).2)):=by
      rw [d0,aP t,hy,Pr];simp only [Z5,Fnd.exprs,<-j0,aK,gW]
     refine aX (ih (g2,(a3,c3,i++ [(.mk k2 z2 s2 l2 o2 p2 y2 u2 w2)]),_) ⟨by simp;omega,rfl,by rw [aA];exact g0⟩ (by simp;omega)) Zn leA
   have hl:i.length=d.length:=by omega
   refine rn [6,0,2,0,1,2,3,4,0] ?_;refine X.fzEs (kd:=k) (n:=z) (nm:=nm) (slot:=o) (loc:=p) (op:=op) ?_;refine Zq (fcM g::exM (.mk k z nm o p op i a c)::q) func277 (Zwa results277) ⟨_,rfl,g,(.mk k z nm o p op i a c),rfl,rfl,by rw [d0,hl,dP];simp only [Z5,Fnd.exprs,bR,Ex.er]⟩
 have w:k=2\/k=3\/ ¬ (k=2\/k=3):=by omega
 rcases w with rfl|rfl|w
 . rw [if_pos rfl] at r;refine rn [6,2018,3,0,1,0,0] ?_;refine Zv call279 (aH _) (wants_ok (f:=f) (cF hf)) ?_;rintro _ _ ⟨g,x,rfl,rfl,hw⟩;refine oo 3 ?_;refine Zh zeroValue316 fun n6=> ?_
   refine Zh zeroValue321 fun n7=> ?_
   refine rn [0,0,3,0,0,1,0,1,2,3,4,5,6,7,8,9,0,1] ?_;rw [<-hw] at r;dsimp only at r;exact aX (K (g,x.s,x.k==100) r.symm) Zn leA
 . rw [if_neg (by decide),if_pos rfl] at r;refine rn [6,1018,6,2036,3,0,1,0,0] ?_;refine Zv call279 (aH _) (wants_ok (f:=f) (cF hf)) ?_;rintro _ _ ⟨g,x,rfl,rfl,hw⟩;refine oo 3 ?_;refine Zh zeroValue316 fun n6=> ?_
   refine Zh zeroValue321 fun n7=> ?_
   refine rn [0,0,3,0,0,3,0,1,0,2] ?_;rw [<-hw] at r;dsimp only at r;exact aX (K (g,x.s,lo) r.symm) Zn leA
 rw [if_neg (fun e=>w (.inl e)),if_neg (fun e=>w (.inr e))] at r;refine rn [6,1018,6] ?_;refine fR 36 bF rfl (cB (cZ.2 (by omega))) ?_;refine xx 3 ?_;refine cS (q':=fcM f::_) (dK (cF hf)) ?_;exact aX (K (f,sl,lo) r.symm) Zn leA
theorem Ci: ∀ (N:Nat) (x:Ex),x.sz<=N->x.er.thin-> ∀ {f:FC} {pl pc:Int} {q:List HP},(Kn q fun M=>f.At M)->(Kn q fun M=>x.At M)->CallF prog G 277 [.agg (fcC f).toArray,.agg (exC x).toArray,.agg (AF pl pc).toArray] q (Ret fun v q'=> ∃ (g:FC) (y:Ex),v= .tuple [.agg (fcC g).toArray,.agg (exC y).toArray].toArray/\q'=fcM g::exM y::q/\(g.er,y.er)=f.er.expr x.er)
 |N,x,hN,ht,_,_,_,_,hf,hx=>Zjv (fun y d a _ _ _ _ c b=>by
  cases N with
  |zero=>omega
  |succ N=>exact Ci N y (by omega) a c b) hf hx ht
theorem Fnd.fl_eq (f:Fnd)(w:Int): ∃ x,f.fl w= { f with flaw:=x } :=by unfold Fnd.fl;split;exact ⟨_,rfl⟩;exact ⟨f.flaw,rfl⟩
theorem Fnd.wants_eq (f:Fnd)(s:ByteArray)(a b:Int): ∃ x,(f.wants s a b).1= { f with flaw:=x } :=by
 unfold Fnd.wants;split
 . exact f.fl_eq 131
 dsimp only;split
 . exact f.fl_eq 132
 exact ⟨f.flaw,rfl⟩
mutual
theorem Fh: ∀ (e:PEx) (f:Fnd),∃ x,(f.expr e).1= { f with flaw:=x }
 | .mk k n nm slot loc op args,f=>by
  simp only [Fnd.expr];split
  . obtain ⟨x,b⟩:=f.wants_eq nm 1 100;obtain ⟨y,a⟩:=Kk args (f.wants nm 1 100).1;exact ⟨y,by rw [a,b]⟩
  split
  . obtain ⟨x,b⟩:=f.wants_eq nm 2 2;obtain ⟨y,a⟩:=Kk args (f.wants nm 2 2).1;exact ⟨y,by rw [a,b]⟩
  exact Kk args f
theorem Kk: ∀ (l:List PEx) (f:Fnd),∃ x,(f.exprs l).1= { f with flaw:=x }
 | [],f=>⟨f.flaw,rfl⟩
 |e::r,f=>by
  simp only [Fnd.exprs];obtain ⟨x,b⟩:=Fh e f;obtain ⟨y,a⟩:=Kk r (f.expr e).1;exact ⟨y,by rw [a,b]⟩
end
structure Fnd.To (f g:Fnd) (N:Nat):Prop where
 n:g.names.length<=f.names.length+N
 l:f.locals<=g.locals/\g.locals<=f.locals+N
 s:f.stm<=g.stm
 e:g.vars=f.vars/\g.arrs=f.arrs/\g.mu=f.mu/\g.co=f.co/\g.chs=f.chs/\g.ths=f.ths/\g.main=f.main/\g.nv=f.nv/\g.na=f.na/\g.nm=f.nm/\g.nc=f.nc/\g.nh=f.nh/\g.cells=f.cells
theorem Fnd.To.flaw (f:Fnd)(x:Int):f.To { f with flaw:=x } 0:=⟨aU _,⟨bL _,by dsimp only;omega⟩,bL _,rfl,rfl,rfl,rfl,rfl,rfl,rfl,rfl,rfl,rfl,rfl,rfl,rfl⟩
theorem Fnd.To.refl (f:Fnd):f.To f 0:=Fnd.To.flaw f f.flaw
theorem Fnd.To.trans {f h:Fnd}{M:Nat}(a:f.To g N)(b:g.To h M):f.To h (N+M):=by
 obtain ⟨a1,a2,a3,a4⟩:=a;obtain ⟨b1,b2,b3,b4⟩:=b;refine ⟨by omega,by omega,by omega,?_⟩;obtain ⟨x1,x2,x3,x4,x5,z,y,x,w,m,l,k,j⟩:=a4;obtain ⟨v,u,t,s,r,q,p,o,n,i,e,d,c⟩:=b4;exact ⟨v.trans x1,u.trans x2,t.trans x3,s.trans x4,r.trans x5,q.trans z,p.trans y,o.trans x,n.trans w,i.trans m,e.trans l,d.trans k,c.trans j⟩
theorem Fnd.To.up {f:Fnd}{M:Nat}(a:f.To g N)(h:N<=M):f.To g M:=⟨by have:=a.n;omega,by have:=a.l;omega,a.s,a.e⟩
theorem Fnd.To.back {f:Fnd}(a:f.To g N)(h:Fnd){M:Nat}(hn:h.names.length<=f.names.length+M)(hl:f.locals<=h.locals/\h.locals<=f.locals+M):f.To { g with names:=h.names,locals:=h.locals } M:=⟨hn,hl,a.s,a.e⟩
theorem Fnd.To.wants (f:Fnd)(s:ByteArray)(a b:Int):f.To (f.wants s a b).1 0:=by obtain ⟨x,c⟩:=f.wants_eq s a b;rw [c];exact .flaw f x
theorem Fnd.To.expr (f:Fnd)(e:PEx):f.To (f.expr e).1 0:=by obtain ⟨x,a⟩:=Fh e f;rw [a];exact .flaw f x
theorem Fnd.To.fl (f:Fnd)(w:Int):f.To (f.fl w) 0:=by obtain ⟨x,a⟩:=f.fl_eq w;rw [a];exact .flaw f x
theorem Fnd.To.loc1 (f:Fnd)(s:ByteArray):f.To (f.loc1 s) 0:=by unfold Fnd.loc1;split;exact .fl f _;exact .refl f
theorem Fnd.To.loc2 (f:Fnd):f.To f.loc2 0:=by unfold Fnd.loc2;split;exact .fl f _;exact .refl f
theorem Fnd.To.own1 (f:Fnd)(k:Int)(nm:ByteArray)(sl:Int)(lo:Bool):f.To (f.own1 k nm sl lo).1 0:=by unfold Fnd.own1;split;exact .wants ..;exact .refl f
theorem Fnd.To.own2 (f:Fnd)(k:Int)(nm wt:ByteArray)(sl ot:Int)(lo:Bool):f.To (f.own2 k nm wt sl ot lo).1 1:=by
 unfold Fnd.own2;split
 . have h:=(Fnd.To.loc1 f nm).trans (Fnd.To.loc2 (f.loc1 nm));refine ⟨by have:=h.n;simp [Fnd.loc3];omega,by have:=h.l;simp only [Fnd.loc3];omega,h.s,h.e⟩
 split
 . exact (Fnd.To.wants f ..).up (by decide)
 split
 . exact (Fnd.To.wants f ..).up (by decide)
 exact (Fnd.To.refl f).up (by decide)
theorem Fnd.To.own (f:Fnd)(k:Int)(nm wt:ByteArray)(sl ot:Int)(lo:Bool):f.To (f.own k nm wt sl ot lo).1 1:=(Fnd.To.own1 f k nm sl lo).trans (Fnd.To.own2 _ k nm wt _ ot _)
theorem Fnd.To.stm (f:Fnd)(n:Int)(h:f.stm<=n):f.To { f with stm:=n } 0:=⟨aU _,⟨bL _,by dsimp only;omega⟩,h,rfl,rfl,rfl,rfl,rfl,rfl,rfl,rfl,rfl,rfl,rfl,rfl,rfl⟩
mutual
theorem Fnd.To.stmt: ∀ (s:PStm) (f:Fnd),f.To (f.stmt s).1 1
 | .mk k ln cl nm wt e ix body els id slot other loc,f=>by
  simp only [Fnd.stmt];split
  . exact (Fnd.To.fl f _).up (by decide)
  dsimp only;have i:=(Fnd.To.stm f (f.stm+1) (by omega)).trans ((Fnd.To.expr { f with stm:=f.stm+1 } ix).trans (Fnd.To.expr _ e));have h:=i.trans (Fnd.To.own _ k nm wt slot other loc);obtain ⟨g,b⟩: ∃ g,Fnd.own (Fnd.expr (Fnd.expr { f with stm:=f.stm+1 } ix).1 e).1 k nm wt slot other loc=g:=⟨_,rfl⟩;rw [b];have a:f.To g.1 1:=by rw [<-b];exact h
  have d:=a.trans (Fnd.To.blk body g.1);have c:=(d.back g.1 a.n a.l).trans (Fnd.To.blk els _);exact c.back g.1 a.n a.l
theorem Fnd.To.blk: ∀ (l:List PStm) (f:Fnd),f.To (f.blk l).1 l.length
 | [],f=> .refl f
 |s::r,f=>by
  simp only [Fnd.blk];split
  . exact ((Fnd.To.stmt s f).trans (Fnd.To.blk r (f.stmt s).1)).up (by simp;omega)
  exact (Fnd.To.refl f).up (by simp)
end
abbrev iB:=@Fnd.To.blk
mutual
def PStm.thin:PStm->Prop
 | .mk _ _ _ _ _ e ix body els _ _ _ _=>e.thin/\ix.thin/\Vk body/\Vk els
def Vk:List PStm->Prop
 | []=>True
 |s::r=>s.thin/\Vk r
end
theorem Tt {x:PStm}: ∀ {l:List PStm},Vk l->x∈l->x.thin
 |y::r,⟨h1,h2⟩,h=>by
  rcases bG.1 h with rfl|h
  . exact h1
  exact Tt h2 h
mutual
theorem P5: ∀ {s:PStm} {n:Nat},s.may n=true->s.thin
 | .mk k _ _ nm wt e ix body els _ _ _ _,n,h=>by
  simp only [PStm.may] at h;split at h;cases h
  split at h;cases h
  split at h;cases h
  rename_i a;split at h;cases h
  rw [aR] at h
  have f:e.thin:=by
   unfold Xu at a
   cases hE:P3 k with
   |true=>exact Ks (d:=24) (by cases hr:e.right 24 with|true=>rfl|false=>simp [hE,hr] at a)
   |false=>exact Da (by cases hr:e.nil with|true=>rfl|false=>simp [hE,hr] at a)
  have c:ix.thin:=by
   unfold Xu at a;rcases Classical.em (k=3) with b|b
   . exact Ks (d:=24) (by cases hr:ix.right 24 with|true=>rfl|false=>simp [b,hr] at a)
   exact Da (by cases hr:ix.nil with|true=>rfl|false=>simp [b,hr] at a)
  exact ⟨f,c,Qo h.1,Qo h.2⟩
theorem Qo: ∀ {l:List PStm} {n:Nat},Yp l n=true->Vk l
 | [],_,_=>trivial
 |s::r,n,h=>by
  simp only [Yp,aR] at h;exact ⟨P5 h.1,Qo h.2⟩
end
theorem Zq7 {f:Fnd}{k:Int}{e:PEx}{body els:List PStm}{id other:Int}{a b:Fnd×PEx}{c:Fnd×Int×Int×Bool}{x y:Fnd×List PStm}(h: ¬512<=f.stm)(ha:a=Fnd.expr { f with stm:=f.stm+1 } ix)(hb:b=a.1.expr e)(hc:c=b.1.own k nm wt slot other loc)(hx:x=c.1.block body)(hy:y=x.1.block els):
 f.stmt (.mk k ln cl nm wt e ix body els id slot other loc)=(y.1,.mk k ln cl nm wt b.2 a.2 x.2 y.2 f.stm c.2.1 c.2.2.1 c.2.2.2):=by
 subst ha hb hc hx hy;simp only [Fnd.stmt,if_neg h];rfl
theorem FC.At.s {n:Int}(h:f.At M):({ f with stm:=n } :FC).At M:=⟨h.vars,h.arrs,h.chs,h.ths,h.bod,h.nv,h.na,h.nm,h.nc,h.nh,h.names⟩
theorem FC.At.l {x:Sv Nm}{n m:Int}(h:f.At M)(h1:x.At M nmC):({ f with names:=x,locals:=n,most:=m } :FC).At M:=⟨h.vars,h.arrs,h.chs,h.ths,h.bod,h.nv,h.na,h.nm,h.nc,h.nh,h1⟩
theorem FC.At.b {g:FC}{n:Int}(h:f.At M)(h1:g.At M):({ f with names:=g.names,locals:=n } :FC).At M:=⟨h.vars,h.arrs,h.chs,h.ths,h.bod,h.nv,h.na,h.nm,h.nc,h.nh,h1.names⟩
section
variable {x:Stm}{m:List Stm}{a:Option Addr}{c:Nat}
theorem Zjj (IH: ∀ (m:List Stm) (a:Option Addr) (c:Nat),Zu m<x.sz->Vk (Zk m)-> ∀ {f:FC} {q:List HP},(Kn q fun M=>f.At M)->(Kn q fun M=>BlkAt M a c m)->(f.names.l.length+Zu m<=300000/\(0<=f.locals/\f.locals+Zu m<=300000)/\0<=f.stm)->CallF prog G 161 [.agg (fcC f).toArray,.slice a m.length c] q (Ret fun v q'=> ∃ (g:FC) (b:Option Addr) (d:Nat) (m':List Stm),v= .tuple [.agg (fcC g).toArray,.slice b m'.length d].toArray/\q'=fcM g::blM b d m'::q/\(g.er,Zk m')=f.er.block (Zk m)))(hf:Kn q fun M=>f.At M)(h:Kn q fun M=>x.At M)(ht:x.er.thin)(hb:(f.names.l.length+x.sz<=300000/\(0<=f.locals/\f.locals+x.sz<=300000)/\0<=f.stm)):CallF prog G 227 [.agg (fcC f).toArray,.agg (stC x).toArray] (q) (Ret fun v q'=> ∃ (g:FC) (y:Stm),v= .tuple [.agg (fcC g).toArray,.agg (stC y).toArray].toArray/\q'=fcM g::stM y::q/\(g.er,y.er)=f.er.stmt x.er):=by
 refine aB func227 ntmps227 rfl fun F cs=> ?_;obtain ⟨k,ln,cl,nm,wt,⟨k1,z1,s1,l1,o1,p1,y1,u1,w1⟩,⟨k2,z2,s2,l2,o2,p2,y2,u2,w2⟩,i,p,ba,bc,ea,ec,id,slot,e,loc⟩:=x;obtain ⟨w0,v0,u0,t0⟩:=ht;have hE:=Zkq h;have hX:=Zj8 h;have hB:=Zkz h;have hL:=Zj9 h;simp only [Stm.sz] at hb;obtain ⟨t1,⟨r1,q1⟩,m1⟩:=hb;refine xo 2 ?_;refine Zl fun n1=> ?_
 refine Zl fun n2=> ?_
 refine Zh zeroValue316 fun n3=> ?_
 refine Zh zeroValue138 fun n4=> ?_
 refine rn [6,0,2] ?_;refine xp 18 ?_ ?_<;>intro h0
 . have b0:512<=f.er.stm:=h0;refine rn [2,0,1,2,3,5] ?_;refine Wv 3 call160 (aH _) (U5 (f:=f) (cF hf)) ?_;rintro _ _ ⟨gf,rfl,rfl,hg⟩;refine ⟨hlA,?_⟩;refine rn [6,7,0] ?_;refine cS (q':=stM (.mk k ln cl nm wt (.mk k1 z1 s1 l1 o1 p1 y1 u1 w1) (.mk k2 z2 s2 l2 o2 p2 y2 u2 w2) i p ba bc ea ec id slot e loc)::_) (dK (cF h)) ?_;refine Zq (fcM gf::stM (.mk k ln cl nm wt (.mk k1 z1 s1 l1 o1 p1 y1 u1 w1) (.mk k2 z2 s2 l2 o2 p2 y2 u2 w2) i p ba bc ea ec id slot e loc)::q) func227 (Zwa results227) ⟨_,rfl,gf,(.mk k ln cl nm wt (.mk k1 z1 s1 l1 o1 p1 y1 u1 w1) (.mk k2 z2 s2 l2 o2 p2 y2 u2 w2) i p ba bc ea ec id slot e loc),rfl,rfl,by simp only [Stm.er,Fnd.stmt,if_pos b0,hg]⟩
 have b0: ¬512<=f.er.stm:=(by show ¬512<=f.stm;omega);refine rn [6,0,1,0,5,0,3,0,3,0,1,0,1,0] ?_;refine Zv call277 (aH _) (Ci _ (.mk k2 z2 s2 l2 o2 p2 y2 u2 w2) (aU _) v0 (f:=({ f with stm:=f.stm+1 } :FC)) ((cF hf).imp fun M h=>FC.At.s h) (cF hX)) ?_;rintro _ _ ⟨g1,⟨k3,z3,s3,l3,o3,p3,y3,u3,w3⟩,rfl,rfl,q0⟩;refine rn [3,0,1,0,3,0,1,0,1,0] ?_;refine Zv call277 (aH _) (Ci _ (.mk k1 z1 s1 l1 o1 p1 y1 u1 w1) (aU _) w0 (f:=g1) knA (cF hE)) ?_;rintro _ _ ⟨g2,⟨k4,z,s4,l4,o4,p4,y4,u4,w4⟩,rfl,rfl,p0⟩;have j0:f.er.To g2.er 0:=by have h1:=(Fnd.To.stm f.er (f.stm+1) (by show f.stm<=f.stm+1;omega)).trans ((Fnd.To.expr _ _).trans (Fnd.To.expr (Fnd.expr { f.er with stm:=f.stm+1 } (Ex.er (.mk k2 z2 s2 l2 o2 p2 y2 u2 w2))).1 (Ex.er (.mk k1 z1 s1 l1 o1 p1 y1 u1 w1))));rw [show g2.er=(Fnd.expr (Fnd.expr { f.er with stm:=f.stm+1 } (Ex.er (.mk k2 z2 s2 l2 o2 p2 y2 u2 w2))).1 (Ex.er (.mk k1 z1 s1 l1 o1 p1 y1 u1 w1))).1 from by rw [show (Fnd.expr { f.er with stm:=f.stm+1 } (Ex.er (.mk k2 z2 s2 l2 o2 p2 y2 u2 w2))).1=g1.er from (aQ Prod.fst q0).symm];exact aQ Prod.fst p0];exact h1
 refine rn [3,0,1,0,4,0,5] ?_;refine bM call278 (want_ok) ?_;refine ox 12 ?_;refine lB (fun (x:FC×Int×Bool)=> [(2,pt n1),(3,pt n2),(4,pt n3),(5,pt n4),(6,I64 k)]) (fun x=>fcM x.1::pto n1 (.cells (fcC x.1).toArray 316 (0,0))::pto n2 (.cells (stC (.mk k ln cl nm wt (.mk k4 z s4 l4 o4 p4 y4 u4 w4) (.mk k3 z3 s3 l3 o3 p3 y3 u3 w3) i p ba bc ea ec f.stm x.2.1 e x.2.2)).toArray 138 (0,0))::pto n3 (.cells zz7.toArray 316 (0,0))::pto n4 (.cells zz3.toArray 138 (0,0))::exM (.mk k3 z3 s3 l3 o3 p3 y3 u3 w3)::exM (.mk k4 z s4 l4 o4 p4 y4 u4 w4)::(q++F)) (fun x=>x=(x.1,x.2.1,x.2.2)/\(x.1.er,x.2.1,x.2.2)=g2.er.own1 k nm slot loc/\f.er.To x.1.er 0) (fun x j=> ?_) fun K=> ?_
 . obtain ⟨g,sl,lo⟩:=x;dsimp only at j|-;obtain ⟨_,s0,i0⟩:=j;clear j0;refine xx 5 ?_;refine lB (fun (x:FC×Int×Int×Bool)=> [(2,pt n1),(3,pt n2),(4,pt n3),(5,pt n4)]) (fun x=>fcM x.1::pto n1 (.cells (fcC x.1).toArray 316 (0,0))::pto n2 (.cells (stC (.mk k ln cl nm wt (.mk k4 z s4 l4 o4 p4 y4 u4 w4) (.mk k3 z3 s3 l3 o3 p3 y3 u3 w3) i p ba bc ea ec f.stm x.2.1 x.2.2.1 x.2.2.2)).toArray 138 (0,0))::pto n3 (.cells zz7.toArray 316 (0,0))::pto n4 (.cells zz3.toArray 138 (0,0))::exM (.mk k3 z3 s3 l3 o3 p3 y3 u3 w3)::exM (.mk k4 z s4 l4 o4 p4 y4 u4 w4)::(q++F)) (fun x=>(x.1.er,x.2.1,x.2.2.1,x.2.2.2)=g.er.own2 k nm wt sl e lo) (fun x j=> ?_) fun w=> ?_
   . obtain ⟨r,c0,d0,f0⟩:=x;dsimp only at j|-;have m0:f.er.To r.er 1:=by have h1:=i0.trans (Fnd.To.own2 g.er k nm wt sl e lo);rw [<-j] at h1;exact h1
     have a0:=m0;obtain ⟨a1,⟨e1,c1⟩,y0,_⟩:=a0;dsimp only [FC.er] at a1 e1 c1 y0;refine rn [2,0,1,0] ?_;refine Zv call161 (aH _) (IH i ba bc (by simp only [Stm.sz];omega) u0 (f:=r) knA (cF hB) ⟨by omega,⟨by omega,by omega⟩,by omega⟩) ?_;rintro _ _ ⟨g5,a5,c5,l5,rfl,rfl,g0⟩;have r0:g5.er.names=r.er.names:=by rw [show g5.er=(r.er.block (Zk i)).1 from aQ Prod.fst g0];rfl
     have j1:g5.er.locals=r.er.locals:=by rw [show g5.er=(r.er.block (Zk i)).1 from aQ Prod.fst g0];rfl
     have i1:r.er.stm<=g5.er.stm:=by rw [show g5.er=(r.er.block (Zk i)).1 from aQ Prod.fst g0];exact (iB (Zk i) r.er).s
     dsimp only [FC.er] at r0 j1 i1;have v1:=aQ List.length r0;refine rn [3,0,1,0,3,0,1,0] ?_;refine Zv call161 (aH _) (IH p ea ec (by simp only [Stm.sz];omega) t0 (f:=g5) knA (cF hL) ⟨by omega,⟨by omega,by omega⟩,by omega⟩) ?_;rintro _ _ ⟨g6,a6,c6,l6,rfl,rfl,f1⟩;refine rn [3,0,1,0,2,0,1,2,3,4,0] ?_;refine Jz (.mk k ln cl nm wt (.mk k4 z s4 l4 o4 p4 y4 u4 w4) (.mk k3 z3 s3 l3 o3 p3 y3 u3 w3) l5 l6 a5 c5 a6 c6 f.stm c0 d0 f0) kA ?_;refine Zq (fcM g6::stM (.mk k ln cl nm wt (.mk k4 z s4 l4 o4 p4 y4 u4 w4) (.mk k3 z3 s3 l3 o3 p3 y3 u3 w3) l5 l6 a5 c5 a6 c6 f.stm c0 d0 f0)::q) func227 (Zwa results227) ⟨_,rfl,g6,(.mk k ln cl nm wt (.mk k4 z s4 l4 o4 p4 y4 u4 w4) (.mk k3 z3 s3 l3 o3 p3 y3 u3 w3) l5 l6 a5 c5 a6 c6 f.stm c0 d0 f0),rfl,rfl,(Zq7 b0 q0 p0 (show (r.er,c0,d0,f0)=_ from by unfold Fnd.own;dsimp only;rw [<-s0];exact j) g0 f1).symm⟩
   have o:k=1\/k=8\/k=12\/ ¬ (k=1\/k=8\/k=12):=by omega
   rcases o with o|o|o|o
   . unfold Fnd.own2 at w;simp only [if_pos o] at w;refine rn [6,2083,4,0,1,0] ?_;refine bM call159 (Zvo (f:=g) knA) ?_;refine ox 2 ?_;refine lB (fun (x:FC)=> [(2,pt n1),(3,pt n2),(4,pt n3),(5,pt n4)]) (fun x=>fcM x::pto n1 (.cells (fcC x).toArray 316 (0,0))::pto n2 (.cells (stC (.mk k ln cl nm wt (.mk k4 z s4 l4 o4 p4 y4 u4 w4) (.mk k3 z3 s3 l3 o3 p3 y3 u3 w3) i p ba bc ea ec f.stm sl e lo)).toArray 138 (0,0))::pto n3 (.cells zz7.toArray 316 (0,0))::pto n4 (.cells zz3.toArray 138 (0,0))::exM (.mk k3 z3 s3 l3 o3 p3 y3 u3 w3)::exM (.mk k4 z s4 l4 o4 p4 y4 u4 w4)::(q++F)) (fun x=>x.er=g.er.loc1 nm) (fun x j=> ?_) fun K3=> ?_
     . obtain ⟨r,o0⟩:=lM x;rw [<-o0] at j|-;clear o0;refine rn [4,0,2] ?_;refine lB (fun (x:FC)=> [(2,pt n1),(3,pt n2),(4,pt n3),(5,pt n4)]) (fun x=>fcM x::pto n1 (.cells (fcC x).toArray 316 (0,0))::pto n2 (.cells (stC (.mk k ln cl nm wt (.mk k4 z s4 l4 o4 p4 y4 u4 w4) (.mk k3 z3 s3 l3 o3 p3 y3 u3 w3) i p ba bc ea ec f.stm sl e lo)).toArray 138 (0,0))::pto n3 (.cells zz7.toArray 316 (0,0))::pto n4 (.cells zz3.toArray 138 (0,0))::exM (.mk k3 z3 s3 l3 o3 p3 y3 u3 w3)::exM (.mk k4 z s4 l4 o4 p4 y4 u4 w4)::(q++F)) (fun x=>x.er=(g.er.loc1 nm).loc2) (fun x j=> ?_) fun K4=> ?_
       . obtain ⟨n,n0⟩:=lM x;rw [<-n0] at j|-;clear n0;have a0:f.er.To n.er 0:=by have h1:=i0.trans ((Fnd.To.loc1 g.er nm).trans (Fnd.To.loc2 (g.er.loc1 nm)));rw [<-j] at h1;exact h1
         obtain ⟨z0,⟨d1,b1⟩,x0,_⟩:=a0;dsimp only [FC.er] at z0 d1 b1 x0;refine rn [3,0,1,0,1,0,2,0,1,2,4,5,6,7,8] ?_;refine kK (q':=rsH nmC 3 321 none 0 ([])::_) (Zc nmC 3 321 _) ?_;refine Yd (fl:= [⟨8,113,fun g=> .slice (some ⟨g,0,none⟩) 1 1,fun g=>rsH nmC 3 321 (some ⟨g,0,none⟩) 1 ([⟨nm,100,n.locals⟩])⟩]) ?_;refine jZ 2 ⟨⟨_,rfl,rfl,rfl,rfl,rfl,rfl,fun q=>Yz (u:=⟨nm,100,n.locals⟩) nmC underlying314 Jp rfl rfl (fun _=>rfl) rfl⟩,trivial⟩ (Pa (f:=nmC) (sz:=3) (l:= []) (m:=n.names.l) underlying314 Jp rfl rfl (fun _=>rfl) rfl rfl Zj (dV (kX (φ:=fun M=>n.At M) knA fun M h=>h.names)) (fun _=>rfl) (by simp;omega) (by simp;omega)) ?_;refine kk2 fun aa ac=> ?_
         refine Ws (e0:=⟨8,113,fun g=> .slice (some ⟨g,0,none⟩) 1 1,fun g=>rsH nmC 3 321 (some ⟨g,0,none⟩) 1 ([⟨nm,100,n.locals⟩])⟩) (hnd:=by simp) 8 ⟨⟨_,rfl,rfl,rfl,rfl,rfl,rfl,fun q=>Yz (u:=⟨nm,100,n.locals⟩) nmC underlying314 Jp rfl rfl (fun _=>rfl) rfl⟩,trivial⟩ fun gl=> ?_;change XF _ _ _ _ _ _ _ [] _ _ _ ((113,.slice (some ⟨gl,0,none⟩) 1 1)::_) _ _ (rsH nmC 3 321 (some ⟨gl,0,none⟩) 1 ([⟨nm,100,n.locals⟩])::_);refine eQ ?_;try rw [aY]
         refine eE 9 rfl (Z4 (f:=nmC) (l:=n.names.l) (m:= [⟨nm,100,n.locals⟩]) underlying314 Jp rfl rfl (fun _=>rfl) rfl rfl Zj ((cI _).le Zj) (fun _=>rfl) (by simp;omega) (by simp;omega)) ?_;refine kk2 fun l0 k0=> ?_
         refine rn [11,12,0,3,0,2,0,3,0,1,0,2,0,2] ?_;refine Zqb ?_;refine cS (q':=fcM ({ n with names:=⟨n.names.l++ [⟨nm,100,n.locals⟩],l0,k0⟩,locals:=n.locals+1,most:=max n.most (n.locals+1) } :FC)::_) (dK ((gI (φ:=fun M=>n.At M) knA (svK (x:=⟨_,l0,k0⟩) (f:=nmC))).imp fun M h=>FC.At.l h.1 h.2)) ?_;exact aX (w (({ n with names:=⟨n.names.l++ [⟨nm,100,n.locals⟩],l0,k0⟩,locals:=n.locals+1,most:=max n.most (n.locals+1) } :FC),n.locals,e,true) (by rw [<-j];rfl)) Zn leA
       refine xp 96 ?_ ?_<;>intro h4
       . refine rn [2,0,1,0] ?_;refine Zv call160 (aH _) (U5 (f:=r) knA) ?_;rintro _ _ ⟨gf,rfl,rfl,hg⟩;refine rn [0,1] ?_;exact aX (K4 gf (by rw [<-j];unfold Fnd.loc2;rw [if_pos (show 32<=r.er.locals from h4)];exact hg)) Zn leA
       refine xx 2 ?_;exact aX (K4 r (by rw [<-j];unfold Fnd.loc2;rw [if_neg (show ¬32<=r.er.locals from (by show ¬32<=r.locals;omega))])) Zn leA
     refine xp 89 ?_ ?_<;>intro h3
     . refine rn [2,0,1,0] ?_;refine Zv call160 (aH _) (U5 (f:=g) knA) ?_;rintro _ _ ⟨gf,rfl,rfl,hg⟩;refine rn [0,1] ?_;exact aX (K3 gf (by unfold Fnd.loc1;rw [if_pos (show g.er.at nm≠0 by omega)];exact hg)) Zn leA
     refine xx 2 ?_;exact aX (K3 g (by unfold Fnd.loc1;rw [if_neg (show ¬g.er.at nm≠0 by omega)])) Zn leA
   . unfold Fnd.own2 at w;simp only [if_neg (show ¬k=1 by omega),if_pos o] at w;refine rn [6,1083,6,2126,3,0,1,0,1,0] ?_;refine Zv call279 (aH _) (wants_ok (f:=g) knA) ?_;rintro _ _ ⟨gw,xw,rfl,rfl,t⟩;refine oo 3 ?_;refine Zh zeroValue316 fun n5=> ?_
     refine Zh zeroValue321 fun n6=> ?_
     refine rn [0,0,3,0,0,3,0,1,0,2] ?_;exact aX (w (gw,sl,xw.s,lo) (by rw [<-t])) Zn leA
   . unfold Fnd.own2 at w;simp only [if_neg (show ¬k=1 by omega),if_neg (show ¬k=8 by omega),if_pos o] at w;refine rn [6,1083,6,1126,6,2141,3,0,1,0,1,0] ?_;refine Zv call279 (aH _) (wants_ok (f:=g) knA) ?_;rintro _ _ ⟨gw,xw,rfl,rfl,t⟩;refine oo 3 ?_;refine Zh zeroValue316 fun n5=> ?_
     refine Zh zeroValue321 fun n6=> ?_
     refine rn [0,0,3,0,0,1,0,1,2,3,4,5,6,7,8,9,0,1] ?_;exact aX (w (gw,sl,xw.s,xw.k==100) (by rw [<-t])) Zn leA
   unfold Fnd.own2 at w;simp only [if_neg (show ¬k=1 by omega),if_neg (show ¬k=8 by omega),if_neg (show ¬k=12 by omega)] at w;refine rn [6,1083,6,1126,6,1141,3] ?_;exact aX (w (g,sl,e,lo) rfl) Zn leA
 refine xp 62 ?_ ?_<;>intro h1
 . refine rn [3,0,1,0,3,0] ?_;refine Zv call279 (aH _) (wants_ok (f:=g2) knA) ?_;rintro _ _ ⟨gw,xw,rfl,rfl,t⟩;refine oo 3 ?_;refine Zh zeroValue316 fun n5=> ?_
   refine Zh zeroValue321 fun n6=> ?_
   refine rn [0,0,3,0,0,1,0,1,2,3,4,5,6,7,8,9,0] ?_;exact aX (K (gw,xw.s,xw.k==100) ⟨rfl,by unfold Fnd.own1;rw [if_pos (by simpa using h1),<-t],by have h2:=j0.trans (Fnd.To.wants g2.er nm (Hh k).1 (Hh k).2);rw [<-t] at h2;exact h2⟩) Zn leA
 refine xx 2 ?_;exact aX (K (g2,slot,loc) ⟨rfl,by unfold Fnd.own1;rw [if_neg (by simpa using h1)],j0⟩) Zn leA
end
section
variable {x:Stm}{m:List Stm}{a:Option Addr}{c:Nat}
theorem I2 {l:List Stm}(h:k<l.length):Zu (l.drop k)=l[k].sz+Zu (l.drop (k+1)):=by rw [aP h];rfl
theorem Stm.sz_pos (x:Stm):1<=x.sz:=by cases x;simp only [Stm.sz];omega
theorem Fw: ∀ (l:List Stm),l.length<=Zu l
 | []=>bC _
 |x::r=>by have:=Stm.sz_pos x;have:=Fw r;simp only [Zu,aJ];omega
abbrev Ae (v0:FC)(v1:Stm):=(v0.names.l.length+v1.sz<=300000/\(0<=v0.locals/\v0.locals+v1.sz<=300000)/\0<=v0.stm)
abbrev A6 (v0:List HP)(v1:FC)(v2:Stm):=(Ret fun v q'=> ∃ (g:FC) (y:Stm),v= .tuple [.agg (fcC g).toArray,.agg (stC y).toArray].toArray/\q'=fcM g::stM y::v0/\(g.er,y.er)=v1.er.stmt v2.er)
abbrev AW (v0:FC)(v1:List Stm):=(v0.names.l.length+Zu v1<=300000/\(0<=v0.locals/\v0.locals+Zu v1<=300000)/\0<=v0.stm)
abbrev AN (v0:FC)(v1:Stm):=([.agg (fcC v0).toArray,.agg (stC v1).toArray]:List Value)
theorem Fq (IH: ∀ (x:Stm),x.sz<=Zu m->x.er.thin-> ∀ {f:FC} {q:List HP},(Kn q fun M=>f.At M)->(Kn q fun M=>x.At M)->(Ae f x)->CallF prog G 227 (AN f x) q (A6 q f x))(hf:Kn q fun M=>f.At M)(h:Kn q fun M=>BlkAt M a c m)(ht:Vk (Zk m))(hb:(AW f m)):CallF prog G 161 [.agg (fcC f).toArray,.slice a m.length c] (q) (Ret fun v q'=> ∃ (g:FC) (b:Option Addr) (d:Nat) (m':List Stm),v= .tuple [.agg (fcC g).toArray,.slice b m'.length d].toArray/\q'=fcM g::blM b d m'::q/\(g.er,Zk m')=f.er.block (Zk m)):=by
 refine aB func161 ntmps161 rfl fun F cs=> ?_;have o3:=Fw m;have hA:=Zkf h;have y2:=Zx (f:=stC) (sz:=25) Z2 m;refine jW (fun w s=>Zky (h.le leA) s) fun s3=> ?_;obtain ⟨R,hR⟩: ∃ R,f.er.blk (Zk m)=R:=⟨_,rfl⟩;obtain ⟨fn,q3⟩:=lM f.names;obtain ⟨fl,r3⟩:=lM f.locals;refine xo 2 ?_;refine Zl fun n1=> ?_
 refine Zh zeroValue316 fun n2=> ?_
 refine rn [3,0,1,2,3,4,5,6,0,10] ?_;refine aX (cC (fun (s:FC×(Option Addr×Nat×List Stm)×Option Addr)=>s.2.1.2.2.length<=m.length/\s.2.2=a/\R=((Fnd.blk s.1.er (Zk (m.drop s.2.1.2.2.length))).1,Zk s.2.1.2.2++(Fnd.blk s.1.er (Zk (m.drop s.2.1.2.2.length))).2)/\(s.1.names.l.length+Zu (m.drop s.2.1.2.2.length)<=300000/\(0<=s.1.locals/\s.1.locals+Zu (m.drop s.2.1.2.2.length)<=300000)/\0<=s.1.stm)) (fun s=> [(8,.slice s.2.1.1 s.2.1.2.2.length s.2.1.2.1),(9,I64 (s.2.1.2.2.length:Int)),(1,.slice s.2.2 m.length c),(2,pt n1),(4,pt n2),(5,.slice none 0 0),(6,f.names.v),(7,I64 f.locals)]) (fun s=>rsH stC 25 138 s.2.1.1 s.2.1.2.1 s.2.1.2.2::stsM s.2.1.2.2::fcM s.1::pto n1 (.cells (fcC s.1).toArray 316 (0,0))::pto n2 Am::(q++F)) (fun s=>m.length - s.2.1.2.2.length) (fun s z2 ih=> ?_) (f,(none,0, []),a) ⟨bC _,rfl,hR.symm,hb⟩) Zn (aM leA (aM (Zc stC 25 138 _) (aM K9 (aM (dK (φ:=fun M=>f.At M) (mn:=fun e h=>FC.At.mono e h) (cF hf)) leA))));try dsimp only at z2 ih|-
 obtain ⟨p3,m3,w2,b3⟩:=z2;obtain ⟨g,⟨a2,c2,n⟩,t3⟩:=s;dsimp only at*;subst m3;refine xo 8 ?_;refine bB [20,8,9,1,2,4,5,6,7] ?_;apply Zg 4 24 20 rfl
 . intro g1 M1;have h1:=sp g1;refine rn [1,0,2] ?_;exact Zz M1 ⟨Yi g1,Zw⟩
 . intro g1 M1;have h1:=sp g1;refine oo 4 ?_;exact Zz M1 ⟨Yl g1,Zw⟩
 refine ox 1 ?_;refine cY 24 rfl ?_ ?_<;>intro h0
 . obtain ⟨b0,h9⟩:n.length<m.length/\g.flaw=0:=(by rw [aR] at h0;exact ⟨by simpa using h0.1,by simpa using h0.2⟩);have hz:=I2 b0;rw [hz] at b3;obtain ⟨y,hy⟩: ∃ y,m[n.length]=y:=⟨_,rfl⟩;rw [hy] at b3;obtain ⟨k3,y0,k1,x0,m0,⟨d1,j0,s0,a1,w0,u0,l0,q0,o0⟩,⟨c1,i0,r0,z0,v0,t0,k0,p0,n0⟩,t,d0,m1,l1,j1,i1,f1,r,o,c0⟩:=y;have hp:=Stm.sz_pos (.mk k3 y0 k1 x0 m0 (.mk d1 j0 s0 a1 w0 u0 l0 q0 o0) (.mk c1 i0 r0 z0 v0 t0 k0 p0 n0) t d0 m1 l1 j1 i1 f1 r o c0);refine rn [5,0,1,2,3] ?_;refine Nh hA (by rw [y2];omega) fun b1 o1 e1=> ?_;subst e1;have v2: ∀ (Q:List HP),Le Q q-> ∀ (j:Nat) (v:Value),nth (stC (.mk k3 y0 k1 x0 m0 (.mk d1 j0 s0 a1 w0 u0 l0 q0 o0) (.mk c1 i0 r0 z0 v0 t0 k0 p0 n0) t d0 m1 l1 j1 i1 f1 r o c0)) j=some v->Cl Q ⟨b1,o1+(n.length:Int).toNat*25+j,none⟩ v:=fun Q hQ j v hv=>dW hA hQ Z2 b0 rfl j v (by rw [hy,<-Ur];exact hv)
   have g3: ∀ (Q:List HP) (i:Nat),Le Q q->HL Q (rdA i b1 (o1+(n.length:Int).toNat*25) (stC (.mk k3 y0 k1 x0 m0 (.mk d1 j0 s0 a1 w0 u0 l0 q0 o0) (.mk c1 i0 r0 z0 v0 t0 k0 p0 n0) t d0 m1 l1 j1 i1 f1 r o c0))):=fun Q i hQ=>HL.rdA fun j v hk=>v2 Q hQ j v (by rw [Ur];exact hk)
   refine dd [3] ?_;refine XD.rdCs 4 (us:=stC (.mk k3 y0 k1 x0 m0 (.mk d1 j0 s0 a1 w0 u0 l0 q0 o0) (.mk c1 i0 r0 z0 v0 t0 k0 p0 n0) t d0 m1 l1 j1 i1 f1 r o c0)) rfl rfl isAgg138 sizeOf138 rfl (fun k v hk=>v2 _ leA k v (by rw [Ur];exact hk)) ?_;refine Yd (fl:= [⟨9,10,fun g=> pt g,fun g=>pto g Am⟩,⟨10,11,fun g=> pt g,fun g=>pto g AG⟩]) ?_;refine Td 5 ⟨⟨_,rfl,rfl,rfl,rfl,rfl,rfl,fun q=>cD zeroValue316⟩,⟨_,rfl,rfl,rfl,rfl,rfl,rfl,fun q=>cD zeroValue138⟩,trivial⟩ call227 (aH _) (IH (.mk k3 y0 k1 x0 m0 (.mk d1 j0 s0 a1 w0 u0 l0 q0 o0) (.mk c1 i0 r0 z0 v0 t0 k0 p0 n0) t d0 m1 l1 j1 i1 f1 r o c0) (by have:=Uy (aC b0);rw [hy] at this;exact this) (by have:=Tt ht (by rw [Yh];exact aZ (aC b0));rw [hy] at this;exact this) (f:=g) knA (cF (by have:=Zkb h b0;rw [hy] at this;exact this) leA) ⟨by omega,⟨by omega,by omega⟩,by omega⟩) ?_ (hL:=(hlA (h:=by repeat first|exact trivial|refine ⟨clA,?_⟩|refine HL.app (g3 _ _ leA) ?_|refine ⟨v2 _ leA 0 _ rfl,?_⟩|refine ⟨v2 _ leA _ _ rfl,?_⟩)));rintro _ _ ⟨g2,⟨k2,i2,s2,h2,t1,⟨o2,q1,z1,l2,f2,d2,s1,x1,v1⟩,⟨m2,p1,y1,j2,e2,b2,r1,w1,u1⟩,a0,g0,u2,t2,r2,q2,p2,z,p,f0⟩,rfl,rfl,d3⟩;refine ⟨trivial,?_⟩;refine Qa 6 ⟨⟨_,rfl,rfl,rfl,rfl,rfl,rfl,fun q=>cD zeroValue316⟩,⟨_,rfl,rfl,rfl,rfl,rfl,rfl,fun q=>cD zeroValue138⟩,trivial⟩ (Pu.move rfl) ?_;refine Qa 7 ⟨⟨_,rfl,rfl,rfl,rfl,rfl,rfl,fun q=>cD zeroValue316⟩,⟨_,rfl,rfl,rfl,rfl,rfl,rfl,fun q=>cD zeroValue138⟩,trivial⟩ (fP rfl rfl) ?_;refine Qa 8 ⟨⟨_,rfl,rfl,rfl,rfl,rfl,rfl,fun q=>cD zeroValue316⟩,⟨_,rfl,rfl,rfl,rfl,rfl,rfl,fun q=>cD zeroValue138⟩,trivial⟩ (fP rfl rfl) ?_;refine Ws (e0:=⟨9,10,fun g=> pt g,fun g=>pto g Am⟩) (hnd:=by simp) 9 ⟨⟨_,rfl,rfl,rfl,rfl,rfl,rfl,fun q=>cD zeroValue316⟩,⟨_,rfl,rfl,rfl,rfl,rfl,rfl,fun q=>cD zeroValue138⟩,trivial⟩ fun ga=> ?_;change XF _ _ _ _ _ _ _ [⟨10,11,fun g=> pt g,fun g=>pto g AG⟩] _ _ _ ((10,pt ga)::_) _ _ (pto ga Am::_);refine Ws (e0:=⟨10,11,fun g=> pt g,fun g=>pto g AG⟩) (hnd:=by simp) 10 ⟨⟨_,rfl,rfl,rfl,rfl,rfl,rfl,fun q=>cD zeroValue138⟩,trivial⟩ fun gb=> ?_;change XF _ _ _ _ _ _ _ [] _ _ _ ((11,pt gb)::_) _ _ (pto gb AG::_);refine eQ ?_;refine rn [12,13,0,2,0,0,3,0] ?_;refine bU (Yz (u:=(.mk k2 i2 s2 h2 t1 (.mk o2 q1 z1 l2 f2 d2 s1 x1 v1) (.mk m2 p1 y1 j2 e2 b2 r1 w1 u1) a0 g0 u2 t2 r2 q2 p2 z p f0)) stC underlying128 V5 rfl rfl Z2 rfl) ?_;rintro _ _ ⟨gl,rfl,rfl⟩;refine bU (Z4 (f:=stC) (l:=n) (m:= [(.mk k2 i2 s2 h2 t1 (.mk o2 q1 z1 l2 f2 d2 s1 x1 v1) (.mk m2 p1 y1 j2 e2 b2 r1 w1 u1) a0 g0 u2 t2 r2 q2 p2 z p f0)]) underlying128 V5 rfl rfl Z2 rfl rfl Zj ((cI _).le Zj) J5 (by simp;omega) (by simp;omega)) ?_;rintro _ _ ⟨a3,c3,rfl,rfl⟩;refine ox 8 ?_;refine X.sts (l:=n) (s:=(.mk k2 i2 s2 h2 t1 (.mk o2 q1 z1 l2 f2 d2 s1 x1 v1) (.mk m2 p1 y1 j2 e2 b2 r1 w1 u1) a0 g0 u2 t2 r2 q2 p2 z p f0)) Zj Zj ?_;have x2:=Fnd.To.stmt (Stm.er (.mk k3 y0 k1 x0 m0 (.mk d1 j0 s0 a1 w0 u0 l0 q0 o0) (.mk c1 i0 r0 z0 v0 t0 k0 p0 n0) t d0 m1 l1 j1 i1 f1 r o c0)) g.er;rw [<-aQ Prod.fst d3] at x2;obtain ⟨h3,⟨j3,i3⟩,f3,_⟩:=x2;dsimp only [FC.er] at h3 j3 i3 f3
   have e3:R=((Fnd.blk g2.er (Zk (m.drop (n.length+1)))).1,Zk (n++ [(.mk k2 i2 s2 h2 t1 (.mk o2 q1 z1 l2 f2 d2 s1 x1 v1) (.mk m2 p1 y1 j2 e2 b2 r1 w1 u1) a0 g0 u2 t2 r2 q2 p2 z p f0)])++(Fnd.blk g2.er (Zk (m.drop (n.length+1)))).2):=by
    rw [w2,aP b0,hy,Ho];simp only [Zk,Fnd.blk];rw [if_pos (show g.er.flaw=0 from h9)];simp only [<-d3,aK,gW]
   have l3:(g2.names.l.length+Zu (m.drop (n.length+1))<=300000/\(0<=g2.locals/\g2.locals+Zu (m.drop (n.length+1))<=300000)/\0<=g2.stm):=⟨by omega,⟨by omega,by omega⟩,by omega⟩;refine aX (ih (g2,(a3,c3,n++ [(.mk k2 i2 s2 h2 t1 (.mk o2 q1 z1 l2 f2 d2 s1 x1 v1) (.mk m2 p1 y1 j2 e2 b2 r1 w1 u1) a0 g0 u2 t2 r2 q2 p2 z p f0)]),_) ⟨by simp;omega,rfl,by rw [aA];exact e3,by rw [aA];exact l3⟩ (by simp;omega)) Zn leA
 have n3:R=(g.er,Zk n):=by
  rcases dJ n.length m.length with b0|b0
  . rw [w2,aP b0];simp only [Zk,Fnd.blk];rw [if_neg (show ¬g.er.flaw=0 from fun hg=>by revert h0;rw [dA (show (n.length:Int)<m.length by omega),show g.flaw=0 from hg];decide)];simp
  rw [w2,cL b0];simp only [Zk,Fnd.blk,bR]
 refine rn [7,0,1,0,3,0,1,0,2] ?_;refine cS (q':=fcM ({ g with names:=f.names,locals:=f.locals } :FC)::_) (dK ((gI (φ:=fun M=>g.At M) knA (cF hf)).imp fun M h=>FC.At.b h.1 h.2)) ?_;refine X.fzB (m:=n) ?_;refine Zq (fcM ({ g with names:=f.names,locals:=f.locals } :FC)::blM a2 c2 n::q) func161 (N3 results161) ⟨_,rfl,({ g with names:=f.names,locals:=f.locals } :FC),a2,c2,n,rfl,rfl,by unfold Fnd.block;rw [hR,n3];rfl⟩
theorem Zxl: ∀ N:Nat,(∀ (x:Stm),x.sz<=N->x.er.thin-> ∀ {f:FC} {q:List HP},(Kn q fun M=>f.At M)->(Kn q fun M=>x.At M)->(Ae f x)->CallF prog G 227 (AN f x) q (A6 q f x))/\(∀ (m:List Stm) (a:Option Addr) (c:Nat),Zu m<=N->Vk (Zk m)-> ∀ {f:FC} {q:List HP},(Kn q fun M=>f.At M)->(Kn q fun M=>BlkAt M a c m)->(AW f m)->CallF prog G 161 [.agg (fcC f).toArray,.slice a m.length c] q (Ret fun v q'=> ∃ (g:FC) (b:Option Addr) (d:Nat) (m':List Stm),v= .tuple [.agg (fcC g).toArray,.slice b m'.length d].toArray/\q'=fcM g::blM b d m'::q/\(g.er,Zk m')=f.er.block (Zk m))):=by
 intro N
 induction N with
 |zero=>
  have k: ∀ (x:Stm),x.sz<=0->x.er.thin-> ∀ {f:FC} {q:List HP},(Kn q fun M=>f.At M)->(Kn q fun M=>x.At M)->(Ae f x)->CallF prog G 227 (AN f x) q (A6 q f x):=fun x l=>by have:=Stm.sz_pos x;omega
  exact ⟨k,fun m a c n e _ _ i h j=>Fq (fun x l=>k x (by omega)) i h e j⟩
 |succ N ih=>
  have k: ∀ (x:Stm),x.sz<=N+1->x.er.thin-> ∀ {f:FC} {q:List HP},(Kn q fun M=>f.At M)->(Kn q fun M=>x.At M)->(Ae f x)->CallF prog G 227 (AN f x) q (A6 q f x):=fun x l e _ _ i h j=>Zjj (fun m a c n=>ih.2 m a c (by omega)) i h e j
  exact ⟨k,fun m a c n e _ _ i h j=>Fq (fun x l=>k x (by omega)) i h e j⟩
end
end Go.Proofs.YtadahhbefdnabaaGreatDoor
