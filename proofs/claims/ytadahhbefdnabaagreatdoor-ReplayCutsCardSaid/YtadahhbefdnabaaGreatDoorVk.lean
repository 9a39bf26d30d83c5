/- Contracts. -/
import Derived.Test.YtadahhbefdnabaaGreatDoorVj
set_option maxHeartbeats 16000000
set_option maxRecDepth 100000
set_option linter.all false
namespace Go.Proofs.YtadahhbefdnabaaGreatDoor
open Go Go.RowKit Wx Go.Proofs.Tryz
attribute [local irreducible] lsH rsH stars
variable {F:Fnd}{l:List Int}
def FOut_on {s:MS}{i:Int}(h:(FDo F s i).2.2=0):H3 F s=⟨1,0,0,0⟩:=by
 revert h
 unfold FDo MS.doP;split;exact fun k=>aV (show (2:Int)=0 from k) Zw
 split;exact fun k=>aV (show (150:Int)=0 from k) Zw
 split;exact fun k=>aV (show (151:Int)=0 from k) Zw
 rename_i c b;intro _;have a:=Zq4 (show s.can (Wa F) (Vm F) i.toNat=true by simpa using b);unfold H3 MS.outc;rw [if_neg a.2.2,if_pos (iW c)]
def FDos.take : ∀ (l:List PEv) (s s':MS) (n:Nat),FDos F s l s'-> ∃ s2,FDos F s (l.take n) s2/\(n<l.length->H3 F s2=⟨1,0,0,0⟩)/\(l.length<=n->s2=s')
 | [],s,s',n,h=>⟨s,by rw [List.take_nil];rfl,fun d=>aV d (iV n),fun _=>h.symm⟩
 |e::r,s,s',0,h=>⟨s,rfl,fun _=>FOut_on (i:=e.th) (by rw [h.1]),fun d=>aV d (Nat.not_succ_le_zero _)⟩
 |e::r,s,s',n+1,⟨h1,h2,h3⟩=>by
  obtain ⟨s2,a,b,c⟩:=FDos.take r _ s' n h3;exact ⟨s2,⟨h1,h2,a⟩,fun d=>b (by simpa using d),fun d=>c (by simpa using d)⟩
def Zj1: ∀ (l:List Ux) (p:Option Int) (s:Int) (n:Nat),goT p s l->goT p s (l.take n)
 | [],_,_,n,_=>by rw [List.take_nil];trivial
 |x::r,p,s,0,_=>trivial
 |x::r,p,s,n+1,h=>⟨h.1,Zj1 r _ _ n h.2⟩
def Zwl (l:List Ux)(k:Nat):V3 (l.take k)=(V3 l).take (leftT (l.take k)):=by
 have h:V3 l=V3 (l.take k)++V3 (l.drop k):=by unfold V3;rw [<-eJ,dJ]
 rw [h,E4,jD]
def E3 (l:List Ux)(k:Nat):leftT l=leftT (l.take k)+leftT (l.drop k):=by
 unfold leftT;rw [<-List.sum_append,<-aN,dJ]
def F9 (F:Fnd)(l:List Int)(k:Nat):Tkn:=⟨Hu F,(Hg F l).turns.take k,if k<(Hg F l).turns.length then (1,0,0,0) else (Hg F l).e⟩
def cut_ok (h:okT (Hg F l))(k:Nat):okT (F9 F l k)/\R4 F (F9 F l k)=0:=by
 have a:okT (F9 F l k):=by
  refine ⟨dO (show ((Hg F l).turns.take k).length<=(Hg F l).turns.length by rw [bB];omega) h.1,?_,Zj1 _ _ _ _ h.2.2⟩;unfold F9;dsimp only;split
  . exact .inl Zw
  exact h.2.1
 exact ⟨a,by unfold R4;rw [if_pos a,if_pos (show (F9 F l k).hash=Hu F from rfl)]⟩
def Zgq (h:okT (Hg F l))(k:Nat):leftT (F9 F l k).turns<=(Kg F (MS.new F (Wa F)) l).2.length/\ ∃ o:POut,o.o=(F9 F l k).e/\Mi F (F9 F l k)=((Kg F (MS.new F (Wa F)) l).2.take (leftT (F9 F l k).turns),o,0,0):=by
 have j:=G4 F l;have p:=E3 (Hg F l).turns k;obtain ⟨n,g⟩:=lV (leftT (F9 F l k).turns);have d:n=leftT ((Hg F l).turns.take k):=g;rw [<-g];refine ⟨Zq,?_⟩;obtain ⟨f,a,b,c⟩:=FDos.take _ _ _ n (B7 F l (MS.new F (Wa F)))
 have m:V3 (F9 F l k).turns=((Kg F (MS.new F (Wa F)) l).2.take n).map PEv.th:=by
  show V3 ((Hg F l).turns.take k)=_
  rw [Zwl,<-d,lS];congr 1;exact Tq _
 have i:(H3 F f).o=(F9 F l k).e:=by
  unfold F9;dsimp only;by_cases hk:k<(Hg F l).turns.length
  . rw [if_pos hk,b (by
     have r:=E5 hk;have q:=(F2 h.2.2 (bI 0) _ (aC hk)).2.2.1;omega)];rfl
  rw [if_neg hk,c (by rw [<-j,d,bX Zq];exact aS _)];rfl
 exact ⟨H3 F f,i,by rw [Oe (cut_ok h k).1 a m,if_pos i]⟩
section
variable {G:World}{q:List HP}{s:ByteArray}
def EvS.take {a:Option Addr}{L:List EvC}(h:EvS q a L)(n:Nat):EvS q a (L.take n):=by
 refine ⟨?_,fun i b=> ?_,fun i b=> ?_,fun i b=> ?_⟩
 . rw [<-Ul Hq];exact h.s.take _
 . rw [jB];exact h.a i _
 . rw [jB];exact h.n i _
 rw [jB];exact h.l i _
def I9 {left:Int}{picks:List Int}{pa:Option Addr}{pc:Nat}(hg:GO q)(gc:GC q)(ge:GE q)(hs:Sees q pa (picks.map I64))(hk: ∀ k∈picks, -9223372036854775808<=k/\k<=9223372036854775807):CR G 5 [.string s,.slice pa picks.length pc,I64 left] (q) bT:=by
 refine aE ntmps5 fun F cs=> ?_;apply xo 7;apply Zv (aG _) (Zy1 (s:=s));rintro _ _ ⟨g,_,rfl,rfl,hP|hP⟩
 . apply oo 3;refine iR zeroValue29 fun n1=> ?_
   refine rn [0,8,2026,8] ?_;apply Zv (aG _) (P1 (hg.le leA) (gc.le leA) (ge.le leA));rintro _ _ ⟨rfl,rfl⟩;apply ox 2;refine Zl (q) func5 (Qq results5 rfl) ⟨_,rfl,rfl,rfl⟩
 obtain ⟨hT,hl⟩:=Ln hP;apply oo 3;refine iR zeroValue29 fun n1=> ?_
 refine rn [0,8,1026,5] ?_;refine X.part 30 rfl ?_ ?_<;>intro h1
 . apply xo 3;apply Zv (aG _) (P1 (hg.le leA) (gc.le leA) (ge.le leA));rintro _ _ ⟨rfl,rfl⟩;apply ox 2;refine Zl (q) func5 (Qq results5 rfl) ⟨_,rfl,rfl,rfl⟩
 replace h1:=sp h1;have s0:TxF g.er:=⟨_,hT,hl⟩;obtain ⟨m,x0,j0⟩:=Zyd rfl s0 (picks:=picks) Zq;obtain ⟨t0,k0⟩:=lV (Kg g.er (MS.new g.er (Wa g.er)) picks).2;have b0:=G4 g.er picks;have i:=Zgq m;have h:=cut_ok m;unfold F9 at i h;rw [<-k0] at b0 i j0;obtain ⟨⟨hh,T,e1,e2,e3,e4⟩,hr⟩:=lV (Hg g.er picks);have i0:Hu g.er=hh:=aQ Tkn.hash hr.symm;rw [i0,<-hr] at i;rw [i0,<-hr] at h;rw [<-hr] at m b0;dsimp only at m b0 i h;refine rn [4,0,1] ?_;apply Zv (aG _) (Lh (picks:=picks) hT hl (knA (φ:=fun M=>g.At M)) (hg.le leA) (gc.le leA) (ge.le leA) (hs.le leA) hk Zq);rintro _ _ ⟨L,a1,c1,z,p,hL,rfl,rfl⟩;rw [<-k0] at hL;rw [<-hr];unfold Tkn.v;apply oo 4;refine iR zeroValue47 fun n2=> ?_
 refine rn [0,7,0,15] ?_;obtain ⟨k,p0,d1⟩: ∃ k:Nat,max 0 (min left (T.length:Int))=k/\k<=T.length:=⟨(max 0 (min left (T.length:Int))).toNat,Zq,Zq⟩;replace h:=h k;obtain ⟨f0,po,e0,u⟩:=i k;have f1:L.length=t0.length:=(by rw [<-hL,aI]);apply fQ 2 (Ad k) rfl (by rw [p0]);refine cH (bW (fun (e:Nat)=>e<=k) (fun e=> [(2,I64 k),(7,pt n1),(9,pt n2),(10,.slice a1 L.length c1),(11,I64 0),(12,I64 (leftT (T.take e):Int)),(13,I64 e)]) (fun e=>Zw4 a1 c1 L (rsH tcs 2 49 z p T::pC n2 [.int .u32 hh,.slice z T.length p,I64 e1,I64 e2,I64 e3,I64 e4] 47::pC n1 (pgC g) 29::fcM g::(q++F))) (fun e=>k - e) (fun e g0 ih=> ?_) 0 (aZ _)) Z5 leA;try dsimp only at g0 ih|-
 obtain hi:=g0;apply xx 7;refine xp 47 ?_ ?_<;>intro h0
 . have a0:e<T.length:=Zq;have g1:T.length<=65536:=m.1;have z0:=E3 T e;have w0:=E5 a0;have v0:=E3 T (e+1);have b1:=(F2 m.2.2 (bI 0) _ (aC a0)).2.2.1;refine Vq (l:=T) Zq fun ga u0=> ?_;subst u0;have d0: ∀ r,CellsAt (rsH tcs 2 49 (some ⟨ga,0,none⟩) p T::r) ga (0+(e:Int).toNat*2) (tcs T[e]):=fun r=>eX (f:=tcs) (sz:=2) (j:=(e:Int)) (bJ r) (aG _) (fun _=>rfl) a0 rfl
   refine rn [7,0,3] ?_;refine ld ?_ (hc:=(eR (d0 _) Zj 1 (I64 T[e].2) rfl));apply ox 9;refine cH (ih (e+1) Zq Zq) Z5 leA
 obtain rfl:e=k:=Zq;refine gW (fun w s=>(s.le (show Le _ (rsH tcs 2 49 z p T:: []) from leA)).rsLen) fun y0=> ?_;refine gW (fun w s=>(s.le (show Le _ (rsH evC 9 63 a1 c1 L:: []) from leA)).rsLen) fun q0=> ?_;obtain ⟨U,hU⟩:=lV (T.take e);have r0:U.length=e:=(by rw [hU,bB];omega);rw [<-hU] at h f0 u|-;obtain ⟨x,hx⟩: ∃ y:Zvj,y=if e<T.length then (1,0,0,0) else (e1,e2,e3,e4):=⟨_,rfl⟩;rw [<-hx] at h u e0
 refine rn [3,0,1,2,3,4,5,6,7,8] ?_;refine dW 63 (.slice z U.length p) rfl (by rw [r0];rfl) ?_;apply dd [8];refine XD.al 9 zeroValue47 fun n3=> ?_;refine rn [11,0,5,0,3] ?_;refine iG (fun (y:Zvj)=> [(7,pt n1),(14,pt n3),(10,.slice a1 L.length c1),(11,I64 0),(12,I64 (leftT U:Int))]) (fun y=>pC n3 [.int .u32 hh,.slice z U.length p,I64 y.1,I64 y.2.1,I64 y.2.2.1,I64 y.2.2.2] 47::Zw4 a1 c1 L (rsH tcs 2 49 z p T::pC n1 (pgC g) 29::fcM g::(q++F))) (fun y=>y=x) (fun y l0=> ?_) fun K=> ?_
 . subst l0;subst e0;obtain ⟨n,hn⟩:=lV (leftT U);rw [<-hn] at f0 u|-;refine rn [2,0] ?_;refine H2 (us:=Tkn.cs ⟨hh,U,po.o⟩ z p) isAgg47 sizeOf47 rfl (eR (dK (dV _ _ _)) Zj) ?_;refine Zv (aG _) (Lm (t:=⟨hh,U,po.o⟩) (a:=z) (c:=p) hT hl (knA (φ:=fun M=>g.At M)) (hg.le leA) (gc.le leA) (ge.le leA) (by rw [hU,<-Ul (sz:=2) (fun _=>rfl)];exact (((bJ _).le Zj).take _)) (by have:=h.1.1;omega) (fun _=>by show leftT U<=1300;omega)) ?_;rintro _ _ (⟨o0,rfl,rfl⟩|⟨h0,L2,a2,c2,c0,rfl,rfl⟩)
   . exact aV h.2 o0
   rw [u] at c0|-;apply oo 5;refine iR zeroValue45 fun n4=> ?_
   refine rn [1,0,6] ?_;apply Wn (L0 _);refine kd0 ?_;apply oo 1;apply Wn (L0 _);refine kd0 ?_;apply oo 5;refine XO.kt 90 ?_ rfl (by first|rfl|(simp;done)|(simp;omega)|simp [POut.o]);apply oo 6;refine XO.kt 96 ?_ rfl (by first|rfl|(simp;done)|(simp;omega)|simp [POut.o]);apply oo 4;refine XO.fact (fun w s=>Zbf (L:=L) (s.le Zj)) fun n0=> ?_;refine XO.fact (fun w s=>Zbf (L:=L2) (s.le Zj)) fun m0=> ?_;refine aX 100 (.slice a1 (L.take n).length c1) rfl (by rw [show (L.take n).length=n by rw [bB];omega];rfl) ?_;refine bD (lall_ok (x:=L2) (y:=L.take n) (a:=a2) (b:=a1) (c:=c2) (d:=c1) (by rw [lS,c0,hL]) (EvS.of (c:=c2) (r:= []) m0 leA) ((EvS.of (c:=c1) (r:= []) n0 leA).take n) (by have e9:=aQ List.length c0;simp at e9;omega)) ?_;apply oo 2;refine XO.kt 103 ?_ rfl (by first|rfl|(simp;done)|(simp;omega)|simp [POut.o]);refine rn [0,1,0] ?_;refine Va (Gg rfl rfl (by kernel_rfl) (jJ underlying45 (by kernel_rfl) (by kernel_rfl) ⟨_,_,_,_,rfl,rfl,isAgg42,(eO underlying42 _ _),⟨_,_,_,_,rfl,rfl,isAgg43,(eO underlying43 _ _),⟨_,_,_,_,rfl,rfl,isAgg3,(eO underlying3 _ _),⟨_,_,_,_,rfl,rfl,isAgg3,(eO underlying3 _ _),rfl,rfl⟩,rfl⟩,rfl⟩,rfl⟩)) ?_;apply oo 2;refine XO.kt 109 ?_ rfl (by first|rfl|(simp;done)|(simp;omega)|simp [POut.o]);apply Zv (aG _) (P1 (hg.le leA) (gc.le leA) (ge.le leA));rintro _ _ ⟨rfl,rfl⟩;apply ox 3;refine Zl (q) func5 (Qq results5 rfl) ⟨_,rfl,by first|rfl|(simp;done)|simp [POut.o],rfl⟩
 refine xp 71 ?_ ?_<;>intro h3
 . rw [if_pos Zq] at hx;subst hx;refine rn [4,0,1] ?_;exact cH (K (1,0,0,0) rfl) Z5 leA
 rw [if_neg Zq] at hx;subst hx;apply xx 2;exact cH (K (e1,e2,e3,e4) rfl) Z5 leA
end
end Go.Proofs.YtadahhbefdnabaaGreatDoor
