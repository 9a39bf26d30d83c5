/- Contracts of functions, proved by walking their code. -/
import Derived.Test.YtgonllbkcgaliaaGreatDoorHe
import Derived.KernelRfl
set_option maxRecDepth 100000
set_option linter.unusedVariables false
set_option linter.unusedSimpArgs false
namespace Go.Proofs.YtgonllbkcgaliaaGreatDoor
open Go Go.RowKit Wx Go.Proofs.Tryz
attribute [local irreducible] Wx.lsH Wx.rsH Wx.stars
theorem fill2 {D:List Int}{N:Nat}(h:D.length=N)(h2: ∀ i,i<N→D.getD i 0= -2):D=List.replicate N (-2):=by
 refine List.ext_getElem (by simp [h]) (fun i h1 h3=> ?_)
 rw [List.getElem_replicate,←Zr (z:=0) h1];exact h2 i (by omega)
theorem init_neg {l:List Ins}: ∀ i,i<(List.replicate l.length (-2:Int)).length→(List.replicate l.length (-2:Int)).getD i 0= -1→Hk l i:=by
 intro i hi h
 rw [List.length_replicate] at hi
 rw [List.getD_eq_getElem?_getD,List.getElem?_replicate,if_pos hi] at h
 cases h
theorem leads_eq {l:List Ins}{D:List Int}(h:D.length=l.length)(h2: ∀ i,i<l.length→D.getD i 0=(leadS l i:Int)):D=Jn l:=by
 refine List.ext_getElem (by simp [h,Jn]) (fun i h1 h3=> ?_)
 rw [←Zr (z:=0) h1,h2 i (by omega)];simp [Jn]
section
variable {G:World}{q:List HP}{a b A:Option Addr}{c d:Nat}{cd:Int}{l:List Ins}{ln:List Int}{o:List Bool}
variable {g p1 p2 p3:Nat}{so:List Int}{at_:Nat}
set_option maxHeartbeats 4000000 in
theorem Zzj (hs:Sees q a (l.flatMap Zx))(h1:Cl q ⟨p1,0,none⟩ (.slice a l.length c))(h2:Cl q ⟨p2,0,none⟩ (.slice (some ⟨g,0,none⟩) l.length l.length))(h3:Cl q ⟨p3,0,none⟩ (.func (.func 190) [].toArray [.pointer (some ⟨p1,0,none⟩),.pointer (some ⟨p2,0,none⟩),.pointer (some ⟨p3,0,none⟩)].toArray))(hA: ∀ i∈l,i.c=19→0≤i.a∧i.a.toNat<l.length)(hL:l.length≤65536)(IH: ∀ (so1:List Int) (at1:Nat),so1.count (-2)<so.count (-2)→LI l so1→(∀ i,i<so1.length→so1.getD i 0= -1→Hk l i∨Eg l i at1)→at1<l.length→CallF prog G 190 [.int .i64 (at1:Int),.pointer (some ⟨p1,0,none⟩),.pointer (some ⟨p2,0,none⟩),.pointer (some ⟨p3,0,none⟩)] (lsH I64 3 (some ⟨g,0,none⟩) l.length (so1)::q) (Ret fun v q'=> ∃ (so':List Int) (r:Int),v= .int .i64 r∧LD l so1 so' at1 r∧q'=lsH I64 3 (some ⟨g,0,none⟩) l.length (so')::q))(hI:LI l so)(hw: ∀ i,i<so.length→so.getD i 0= -1→Hk l i∨Eg l i at_)(hat:at_<l.length):CallF prog G 190 [.int .i64 (at_:Int),.pointer (some ⟨p1,0,none⟩),.pointer (some ⟨p2,0,none⟩),.pointer (some ⟨p3,0,none⟩)] (lsH I64 3 (some ⟨g,0,none⟩) l.length (so)::q) (Ret fun v q'=> ∃ (so':List Int) (r:Int),v= .int .i64 r∧LD l so so' at_ r∧q'=lsH I64 3 (some ⟨g,0,none⟩) l.length (so')::q):=by
 refine CallF.of func190 ntmps190 rfl (fun F cs=> ?_)
 have hlen:=Zb (f:=Zx) (sz:=4) (fun _=>rfl) l;have hsl:=hI.len;have hgd:l.getD at_ Zt=l[at_]:=Zr hat;have hat2:at_<so.length:=by omega
 have hsg:so.getD at_ 0=so[at_]:=Zr hat2
 refine xo 8 ?_;refine ld ?_ (hc:=(h1.le leA))
 refine oo 1 ?_;refine Y6 hs (by rw [hlen];omega) (fun b1 o1 e1=> ?_)
 have hs1:=hs;rw [e1] at hs1
 refine XO.know 7 (.slice (some ⟨b1,o1,none⟩) l.length c) rfl (by rw [e1]) ?_
 refine oo 2 ?_;refine ld ?_ (hc:=(Wk hs1 leA (fun _=>rfl) hat rfl 0 _ rfl))
 refine ox 3 ?_;refine X.part 6 rfl (fun h4=> ?_) (fun h4=> ?_)
 · replace h4:=sp h4
   refine xo 2 ?_;refine ld ?_ (hc:=(h2.le leA))
   refine oo 3 ?_;refine XO.ef0 (Wq (f:=I64) (l:=so) (n:=at_) (u:=(at_:Int)) rfl rfl sizeOf3 rfl hat2 rfl rfl Zj) ?_
   rintro _ _ ⟨rfl,rfl⟩
   refine oo 4 ?_;refine ld ?_ (hc:=(h2.le leA))
   refine oo 2 ?_
   have hx9:at_<(so.set at_ (at_:Int)).length:=by rw [List.length_set];omega
   refine ld ?_ (hc:=(Cl.e1 (Sees.lsH _) Zj hx9 rfl))
   refine ox 2 ?_
   skip
   have hc9:(l.getD at_ Zt).c≠19:=by rw [hgd];omega
   have hP:=LD.plain hI hat2 hc9
   refine Zq (lsH I64 3 (some ⟨g,0,none⟩) l.length (so.set at_ (at_:Int))::q) func190 (Zu results190 rfl) ⟨_,rfl,so.set at_ (at_:Int),(so.set at_ (at_:Int))[at_],rfl,by rw [←Zr (z:=0) hx9,hP.2.2.2.1];exact hP,rfl⟩
 replace h4:=sp h4
 refine xo 3 ?_;refine ld ?_ (hc:=(h2.le leA))
 refine oo 2 ?_;refine ld ?_ (hc:=(Cl.e1 (Sees.lsH _) Zj hat2 rfl))
 refine ox 3 ?_;refine X.part 17 rfl (fun h5=> ?_) (fun h5=> ?_)
 · replace h5:=sp h5
   refine xo 3 ?_;refine ld ?_ (hc:=(h2.le leA))
   refine oo 2 ?_;refine XO.ef0 (Wq (f:=I64) (l:=so) (n:=at_) (u:= -1) rfl rfl sizeOf3 rfl hat2 rfl rfl Zj) ?_
   rintro _ _ ⟨rfl,rfl⟩
   refine ox 1 ?_;refine drw ?_;refine ldD 0 ?_ (hc:=(h2.le leA))
   refine dd [1] ?_;refine ldD 2 ?_ (hc:=(h3.le leA))
   refine ldD 3 ?_ (hc:=(h1.le leA))
   refine dd [4] ?_;refine XD.know 29 (.slice (some ⟨b1,o1,none⟩) l.length c) rfl (by rw [e1]) ?_
   refine dd [5,6] ?_;refine ldD 7 ?_ (hc:=(Wk hs1 leA (fun _=>rfl) hat rfl 1 _ rfl))
   have hc19:(l.getD at_ Zt).c=19:=by rw [hgd];omega
   have hm2:so.getD at_ 0= -2:=by rw [hsg];omega
   obtain ⟨hA0,hA1⟩:=hA _ (List.getElem_mem hat) (by omega)
   obtain ⟨k1,k2⟩:=LD.start hI hw hat2 hc19 hm2
   have hcn:(so.set at_ (-1)).count (-2)<so.count (-2):=by
    have hc1:=List.count_set (a:=(-1:Int)) (b:=(-2:Int)) hat2
    have hc2:0<so.count (-2):=List.count_pos_iff.2 (by rw [←hm2,hsg];exact List.getElem_mem hat2)
    have e1:(so[at_]==(-2:Int))=true:=by rw [←hsg,hm2];rfl
    rw [hc1,e1];simp;omega
   obtain ⟨A,hAe⟩: ∃ A:Nat,l[at_].a=(A:Int):=⟨l[at_].a.toNat,by omega⟩
   refine XD.know 33 (.int .i64 (A:Int)) rfl (by rw [hAe]) ?_
   have hAn:(l.getD at_ Zt).a.toNat=A:=by rw [hgd,hAe];rfl
   refine XD.cV 8 (Cv call190 (IH (so.set at_ (-1)) A hcn k1 (by rw [←hAn];exact k2) (by omega))) ?_
   rintro _ _ ⟨so2,r,rfl,hD,rfl⟩ _ e_;simp only [ca,na] at e_;subst e_
   refine ⟨(hlA (h:=by repeat first|exact trivial|refine ⟨h1.le leA,?_⟩|refine ⟨h2.le leA,?_⟩|refine ⟨h3.le leA,?_⟩|refine ⟨clA,?_⟩|refine ⟨Wk hs1 leA (fun _=>rfl) hat rfl 1 _ rfl,?_⟩)),?_⟩
   have hD2:=LD.stop hI hat2 hc19 hm2 (by rw [hAn];exact hD) (by omega);have hl2:so2.length=l.length:=hD.1.len
   refine dd [9] ?_;refine XD.ef0 10 rfl (Wq (f:=I64) (l:=so2) (n:=at_) (u:=r) rfl rfl sizeOf3 rfl (by omega) rfl rfl Zj) ?_
   rintro _ _ ⟨rfl,rfl⟩
   refine ⟨trivial,?_⟩
   refine XD.nil ?_;refine xo 3 ?_;refine ld ?_ (hc:=(h2.le leA))
   refine oo 2 ?_
   have hx9:at_<(so2.set at_ r).length:=by rw [List.length_set];omega
   refine ld ?_ (hc:=(Cl.e1 (Sees.lsH _) Zj hx9 rfl))
   refine ox 2 ?_;refine Zq (lsH I64 3 (some ⟨g,0,none⟩) l.length (so2.set at_ r)::q) func190 (Zu results190 rfl) ⟨_,rfl,so2.set at_ r,(so2.set at_ r)[at_],rfl,by rw [←Zr (z:=0) hx9,hD2.2.2.2.1];exact hD2,rfl⟩
 replace h5:=sp h5
 refine xo 5 ?_;refine ld ?_ (hc:=(h2.le leA))
 refine oo 2 ?_
 have hx9:at_<so.length:=hat2
 refine ld ?_ (hc:=(Cl.e1 (Sees.lsH _) Zj hx9 rfl))
 refine ox 2 ?_
 have hK:=LD.known hI hw hat2 (by rw [hsg];omega)
 rw [hsg] at hK
 refine Zq (lsH I64 3 (some ⟨g,0,none⟩) l.length (so)::q) func190 (Zu results190 rfl) ⟨_,rfl,so,so[at_],rfl,hK,rfl⟩
theorem Xx (hs:Sees q a (l.flatMap Zx))(h1:Cl q ⟨p1,0,none⟩ (.slice a l.length c))(h2:Cl q ⟨p2,0,none⟩ (.slice (some ⟨g,0,none⟩) l.length l.length))(h3:Cl q ⟨p3,0,none⟩ (.func (.func 190) [].toArray [.pointer (some ⟨p1,0,none⟩),.pointer (some ⟨p2,0,none⟩),.pointer (some ⟨p3,0,none⟩)].toArray))(hA: ∀ i∈l,i.c=19→0≤i.a∧i.a.toNat<l.length)(hL:l.length≤65536): ∀ (N:Nat) (so:List Int) (at_:Nat),so.count (-2)≤N→LI l so→(∀ i,i<so.length→so.getD i 0= -1→Hk l i∨Eg l i at_)→at_<l.length→CallF prog G 190 [.int .i64 (at_:Int),.pointer (some ⟨p1,0,none⟩),.pointer (some ⟨p2,0,none⟩),.pointer (some ⟨p3,0,none⟩)] (lsH I64 3 (some ⟨g,0,none⟩) l.length (so)::q) (Ret fun v q'=> ∃ (so':List Int) (r:Int),v= .int .i64 r∧LD l so so' at_ r∧q'=lsH I64 3 (some ⟨g,0,none⟩) l.length (so')::q)
 |N,so,at_,hN,hI,hw,hat=>Zzj hs h1 h2 h3 hA hL (fun so1 at1 hc hI1 hw1 hat1=>by
  cases N with
  |zero=>omega
  |succ N=>exact Xx hs h1 h2 h3 hA hL N so1 at1 (by omega) hI1 hw1 hat1) hI hw hat
set_option maxHeartbeats 4000000 in
theorem leads_ok (hs:Sees q a (l.flatMap Zx))(hA: ∀ i∈l,i.c=19→0≤i.a∧i.a.toNat<l.length)(hL:l.length≤65536):CallF prog G 153 [.slice a l.length c] (q) (Ret fun v q'=> ∃ g,v= .slice (some ⟨g,0,none⟩) l.length l.length∧q'=lsH I64 3 (some ⟨g,0,none⟩) l.length (Jn l)::q):=by
 refine CallF.of func153 ntmps153 rfl (fun F cs=> ?_)
 refine xo 2 ?_;refine Zl fun n1=> ?_
 refine ol 4 ?_;refine oo 1 ?_;refine XO.ef (Q7 (n:=l.length) rfl rfl underlying23 Uh rfl rfl (by omega) (by omega)) ?_
 rintro _ _ ⟨g,rfl,rfl⟩
 refine XO.le (q':=lsH I64 3 (some ⟨g,0,none⟩) l.length (List.replicate l.length 0)::_) (Le.trans Zj (by rw [←Jl (f:=I64) (u:=0) rfl];exact Le.refl _)) ?_
 refine Zm zeroValue23 fun n2=> ?_
 refine st ?_;refine ol 4 ?_;refine ox 4 ?_;refine X.at (X.loop (fun (s:List Int×Nat)=>s.1.length=l.length∧s.2≤l.length∧ ∀ i,i<s.2→s.1.getD i 0= -2) (fun s=> [(14,.int .i64 (s.2:Int)),(13,.int .i64 (l.length:Int)),(1,.pointer (some ⟨n1,0,none⟩)),(3,.pointer (some ⟨n2,0,none⟩)),(2,.slice none 0 0)]) (fun s=>lsH I64 3 (some ⟨g,0,none⟩) l.length (s.1)::pto n1 (.cells [.slice a l.length c].toArray 32 (0,0))::pto n2 (.cells [.slice (some ⟨g,0,none⟩) l.length l.length].toArray 23 (0,0))::(q++F)) (fun s=>l.length - s.2) (fun s hi_ ih=> ?_) (List.replicate l.length 0,0) ⟨by simp,Nat.zero_le _,fun i h=>absurd h (Nat.not_lt_zero i)⟩) Zp leA
 try dsimp only at hi_ ih⊢
 obtain ⟨hl1,hl2,hl3⟩:=hi_
 obtain ⟨so,s⟩:=s;dsimp only at*
 refine xx 5 ?_;refine X.part 15 rfl (fun h0=> ?_) (fun h0=> ?_)
 · replace h0:=sp h0;have hlt:s<so.length:=by omega
   refine xl 10 ?_;refine oo 2 ?_;refine XO.ef0 (Wq (f:=I64) (l:=so) (n:=s) (u:= -2) rfl rfl sizeOf3 rfl (by omega) rfl rfl Zj) ?_
   rintro _ _ ⟨rfl,rfl⟩
   refine ox 6 ?_;refine X.at (ih (so.set s (-2),s+1) ⟨by rw [List.length_set];exact hl1,by dsimp only;omega,fun i hi=>by dsimp only at hi⊢;rw [Vc hlt];split;rfl;exact hl3 i (by omega)⟩ (by dsimp only;omega)) Zp leA
 replace h0:=sp h0
 have hso:so=List.replicate l.length (-2):=fill2 hl1 (fun i h=>hl3 i (by omega))
 subst hso;clear hl1 hl2 hl3 ih h0
 refine xo 4 ?_;refine Zm zeroValue295 fun n3=> ?_
 refine oo 4 ?_;refine st ?_;refine ol 4 ?_;refine ox 4 ?_;refine X.at (X.loop (fun (s:List Int×Nat)=>s.2≤l.length∧LI l s.1∧(∀ i,i<s.1.length→s.1.getD i 0= -1→Hk l i)∧ ∀ i,i<s.2→s.1.getD i 0≠ -2) (fun s=> [(24,.int .i64 (s.2:Int)),(23,.int .i64 (l.length:Int)),(3,.pointer (some ⟨n2,0,none⟩)),(5,.pointer (some ⟨n3,0,none⟩)),(2,.slice none 0 0)]) (fun s=>lsH I64 3 (some ⟨g,0,none⟩) l.length (s.1)::pto n1 (.cells [.slice a l.length c].toArray 32 (0,0))::pto n2 (.cells [.slice (some ⟨g,0,none⟩) l.length l.length].toArray 23 (0,0))::pto n3 (.cells [.func (.func 190) [].toArray [.pointer (some ⟨n1,0,none⟩),.pointer (some ⟨n2,0,none⟩),.pointer (some ⟨n3,0,none⟩)].toArray].toArray 295 (0,0))::(q++F)) (fun s=>l.length - s.2) (fun s hi_ ih=> ?_) (List.replicate l.length (-2),0) ⟨Nat.zero_le _,LI.init l,init_neg,fun i h=>absurd h (Nat.not_lt_zero i)⟩) Zp leA
 try dsimp only at hi_ ih⊢
 obtain ⟨hl2,hI,hl3,hl4⟩:=hi_
 obtain ⟨so,s⟩:=s;dsimp only at*;have hsl:=hI.len
 refine xx 5 ?_;refine X.part 25 rfl (fun h0=> ?_) (fun h0=> ?_)
 · replace h0:=sp h0;have hlt:s<so.length:=by omega
   refine xl 10 ?_;refine oo 1 ?_;refine XO.cVX leA (Cv call190 (Xx (q:=pto n1 (.cells [.slice a l.length c].toArray 32 (0,0))::pto n2 (.cells [.slice (some ⟨g,0,none⟩) l.length l.length].toArray 23 (0,0))::pto n3 (.cells [.func (.func 190) [].toArray [.pointer (some ⟨n1,0,none⟩),.pointer (some ⟨n2,0,none⟩),.pointer (some ⟨n3,0,none⟩)].toArray].toArray 295 (0,0))::(q++F)) (c:=c) (g:=g) (p1:=n1) (p2:=n2) (p3:=n3) (hs.le leA) clA clA clA hA hL _ so s (Nat.le_refl _) hI (fun i hi h=> .inl (hl3 i hi h)) (by omega))) ?_
   rintro _ _ ⟨so2,r,rfl,hD,rfl⟩
   refine ox 6 ?_;refine X.at (ih (so2,s+1) ⟨by dsimp only;omega,hD.1,fun i hi h=>by rcases hD.2.2.1 i (by have:=hD.1.len;dsimp only at hi;omega) h with h|h;exact hl3 i (by have:=hD.1.len;dsimp only at hi;omega) h;exact h,fun i hi=>by dsimp only at hi⊢;by_cases e:i=s;(subst e;rw [hD.2.2.2.1];have:=hD.2.2.2.2.1;omega);rw [hD.2.1 i (by omega) (hl4 i (by omega))];exact hl4 i (by omega)⟩ (by dsimp only;omega)) Zp leA
 replace h0:=sp h0;obtain rfl:s=l.length:=by omega
 obtain ⟨so0,hso0⟩: ∃ x,x=so:=⟨_,rfl⟩;have hdn: ∀ i,i<l.length→(if so0.getD i 0= -1 then (i:Int) else so0.getD i 0)=leadS l i:=(fun i hi=>by subst hso0;exact hI.done (fun j hj=>hl4 j (by omega)) hl3 (by omega));clear ih h0 hl3 hl4 hl2
 refine xl 5 ?_;refine ox 4 ?_;refine X.at (X.loop (fun (s:List Int×Nat)=>s.2≤l.length∧s.1.length=l.length∧(∀ i,i<s.2→s.1.getD i 0=(leadS l i:Int))∧ ∀ i,s.2≤i→s.1.getD i 0=so0.getD i 0) (fun s=> [(33,.int .i64 (s.2:Int)),(32,.int .i64 (l.length:Int)),(31,.slice (some ⟨g,0,none⟩) l.length l.length),(3,.pointer (some ⟨n2,0,none⟩)),(2,.slice none 0 0)]) (fun s=>lsH I64 3 (some ⟨g,0,none⟩) l.length (s.1)::pto n1 (.cells [.slice a l.length c].toArray 32 (0,0))::pto n2 (.cells [.slice (some ⟨g,0,none⟩) l.length l.length].toArray 23 (0,0))::pto n3 (.cells [.func (.func 190) [].toArray [.pointer (some ⟨n1,0,none⟩),.pointer (some ⟨n2,0,none⟩),.pointer (some ⟨n3,0,none⟩)].toArray].toArray 295 (0,0))::(q++F)) (fun s=>l.length - s.2) (fun s hi_ ih=> ?_) (so,0) ⟨Nat.zero_le _,hsl,fun i h=>absurd h (Nat.not_lt_zero i),fun i _=>by rw [hso0]⟩) Zp leA
 try dsimp only at hi_ ih⊢
 obtain ⟨hl2,hl1,hl3,hl4⟩:=hi_
 clear hsl hI hso0 so;obtain ⟨so,s⟩:=s;dsimp only at*
 refine xx 5 ?_;refine X.part 34 rfl (fun h0=> ?_) (fun h0=> ?_)
 · replace h0:=sp h0;have hlt:s<so.length:=(by omega);have hgs:so.getD s 0=so[s]:=Zr hlt
   refine xo 8 ?_;refine ld ?_ (hc:=(Cl.e1 (Sees.lsH _) Zj hlt rfl))
   refine ox 8 ?_;refine X.part 39 rfl (fun h1=> ?_) (fun h1=> ?_)
   · replace h1:=sp h1
     refine xl 2 ?_;refine oo 3 ?_;refine XO.ef0 (Wq (f:=I64) (l:=so) (n:=s) (u:=(s:Int)) rfl rfl sizeOf3 rfl (by omega) rfl rfl Zj) ?_
     rintro _ _ ⟨rfl,rfl⟩
     refine ox 6 ?_
     have hds:=hdn s (by omega);rw [←hl4 s (Nat.le_refl _),hgs] at hds;rw [if_pos (by omega)] at hds
     refine X.at (ih (so.set s (s:Int),s+1) ⟨by dsimp only;omega,by rw [List.length_set];exact hl1,fun i hi=>by dsimp only at hi⊢;rw [Vc hlt];split;(rename_i e;rw [e];exact hds);exact hl3 i (by omega),fun i hi=>by dsimp only at hi⊢;rw [Vc hlt,if_neg (by omega)];exact hl4 i (by omega)⟩ (by dsimp only;omega)) Zp leA
   replace h1:=sp h1
   refine xx 7 ?_
   have hds:=hdn s (by omega);rw [←hl4 s (Nat.le_refl _),hgs] at hds;rw [if_neg (by omega)] at hds
   refine X.at (ih (so,s+1) ⟨by dsimp only;omega,hl1,fun i hi=>by dsimp only at hi⊢;by_cases e:i=s;(subst e;rw [hgs];exact hds);exact hl3 i (by omega),fun i hi=>by dsimp only at hi⊢;exact hl4 i (by omega)⟩ (by dsimp only;omega)) Zp leA
 replace h0:=sp h0
 have hfin:so=Jn l:=leads_eq hl1 (fun i hi=>hl3 i (by omega));subst hfin
 refine xl 4 ?_;refine ox 2 ?_;refine Zq (lsH I64 3 (some ⟨g,0,none⟩) l.length (Jn l)::q) func153 (Zu results153 rfl) ⟨_,rfl,g,rfl,rfl⟩
end
theorem vchkZ {m:Mdl}(h:V0 m=0):Tb m=0∧ ∀ t∈m.threads,(dOf m t).2=0:=by
 unfold V0 at h
 split at h
 · contradiction
 rename_i h0
 refine ⟨by omega,?_⟩
 generalize m.threads=l at h⊢
 induction l with
 |nil=>intro t ht;cases ht
 |cons x r ih=>
  unfold Gv at h
  split at h
  · contradiction
  rename_i h1
  intro t ht
  rcases List.mem_cons.1 ht with rfl|ht
  · omega
  exact ih h t ht
theorem goes_of {m:Mdl}{t:Cod}(hin: ∀ x∈t.ins,Jk x)(h:(dOf m t).2=0):0<t.ins.length∧dAt (dOf m t).1 0=0∧ ∀ a (ha:a<t.ins.length),0≤dAt (dOf m t).1 a→
 ¬dAt (dOf m t).1 a<(Z5 t.ins[a].c).1∧dAt (dOf m t).1 a - (Z5 t.ins[a].c).1+(Z5 t.ins[a].c).2≤25∧((t.ins[a].c=23∨t.ins[a].c=34)→dAt (dOf m t).1 a=0)∧
 ∀ y∈nxt t.ins[a] a,0≤y∧y.toNat<t.ins.length∧dAt (dOf m t).1 y.toNat=dAt (dOf m t).1 a - (Z5 t.ins[a].c).1+(Z5 t.ins[a].c).2:=by
 unfold dOf at h⊢
 split at h
 · exact absurd h (by decide)
 rename_i h0
 split at h
 · exact absurd h (by decide)
 rename_i h1
 rw [if_neg h0,if_neg h1]
 have hA: ∀ i∈Ur t,(i.1=19∨i.1=20∨i.1=21)→0≤i.2.1:=by
  intro i hi hc
  obtain ⟨x,hx,rfl⟩:=List.mem_map.1 hi
  have:=(hin x hx).2.1
  have hn:nmA x.c=true:=by unfold nmA;simp only [decide_eq_true_eq];have:(Ins.t x).1=x.c:=rfl;omega
  rw [if_pos hn] at this
  exact this.1
 have e:=fun j=>Mb (D:=List.replicate t.ins.length (-1)) (i:=0) (j:=j) (b:=0) (by simp;omega)
 obtain ⟨r1,r2,r3⟩:=Gr hA t.ins.length ((List.replicate t.ins.length (-1)).set 0 0) (List.replicate t.ins.length false) (by simp [We]) (by simp [We]) (by simp)
  (fun a ha hd=>by rw [List.getD_eq_getElem?_getD,List.getElem?_replicate] at hd;split at hd<;>simp at hd) h
 have e0:dAt ((List.replicate t.ins.length (-1)).set 0 0) 0=0:=by rw [e];simp
 refine ⟨by omega,by rw [r2 0 (by rw [e0];omega),e0],fun a ha hd=> ?_⟩
 obtain ⟨g1,g2⟩:=r3 a (by rw [We];exact ha) hd
 obtain ⟨n1,n2,n3⟩:=J6 g1
 have o1:Vl (Ur t) a (dAt (Kq (Ur t) t.ins.length ((List.replicate t.ins.length (-1)).set 0 0) (List.replicate t.ins.length false)).1 a)=(dAt (Kq (Ur t) t.ins.length ((List.replicate t.ins.length (-1)).set 0 0) (List.replicate t.ins.length false)).1 a - (Z5 t.ins[a].c).1+(Z5 t.ins[a].c).2,0)∧dAt (Kq (Ur t) t.ins.length ((List.replicate t.ins.length (-1)).set 0 0) (List.replicate t.ins.length false)).1 a - (Z5 t.ins[a].c).1+(Z5 t.ins[a].c).2≤25∧((t.ins[a].c=23∨t.ins[a].c=34)→dAt (Kq (Ur t) t.ins.length ((List.replicate t.ins.length (-1)).set 0 0) (List.replicate t.ins.length false)).1 a=0):=by
  generalize dAt (Kq (Ur t) t.ins.length ((List.replicate t.ins.length (-1)).set 0 0) (List.replicate t.ins.length false)).1 a=d at g1⊢
  unfold Vl at g1⊢
  rw [Uo ha] at g1⊢
  dsimp only [Ins.t] at g1⊢
  split at g1
  · exact absurd g1 (by decide)
  rename_i k1
  split at g1
  · exact absurd g1 (by decide)
  rename_i k2
  split at g1
  · exact absurd g1 (by decide)
  rename_i k3
  rw [if_neg k1,if_neg k2,if_neg k3]
  exact ⟨rfl,by omega,fun hc=>Decidable.byContradiction fun hd=>k2 ⟨hc,hd⟩⟩
 rw [Uo ha] at n1 n3 g2
 refine ⟨n3,o1.2.1,o1.2.2,fun y hy=> ?_⟩
 rw [Ee] at hy
 have h2:=g2 y hy
 rw [o1.1] at h2
 have h3:=n1 y hy
 rw [We] at h3
 have h4:0≤y:=by
  unfold Jc at hy
  have hAi:=hA (t.ins[a].t) (List.mem_map.2 ⟨_,List.getElem_mem ha,rfl⟩)
  split at hy
  · simp at hy
  split at hy
  · rename_i e;rw [List.mem_singleton.1 hy];exact hAi (.inl e)
  split at hy
  · rename_i e
    have h7:=hAi (by omega)
    split at hy
    · rw [List.mem_singleton.1 hy];exact h7
    rcases List.mem_cons.1 hy with rfl|hy
    · exact h7
    rw [List.mem_singleton.1 hy];omega
  simp at hy;omega
 exact ⟨h4,by omega,h2⟩
def prI (l:List Ins):List Ins:=Wb (unr (Zy l)) (Zy l)
def tiI (l:List Ins):List Ins:=Wb (cl (prI l)) (prI l)
def tiL {α:Type}(l:List Ins)(ln:List α):List α:=Z1 (cl (prI l)) 0 (Z1 (unr (Zy l)) 0 ln)
def tiR (l:List Ins):Nat→Bool:=H2 (unr (Zy l)) (cl (prI l))
theorem tiI_eq (l:List Ins):tiI l=Wb (tiR l) (Zy l):=by unfold tiI prI tiR;rw [Zqb];rfl
theorem S0 {α:Type}(l:List Ins)(ln:List α):tiL l ln=Z1 (tiR l) 0 ln:=by
 unfold tiL tiR
 have h:=Fr (unr (Zy l)) (cl (prI l)) ln 0
 rw [show kb (unr (Zy l)) 0=0 from rfl] at h
 exact h
def nowS (l:List Ins)(i:Nat):Int:=if unr (Zy l) i=true then -1 else if cl (prI l) (kb (unr (Zy l)) i)=true then -1 else kb (cl (prI l)) (kb (unr (Zy l)) i)
structure Snd (l:List Ins) (D:Nat→Int):Prop where
 pos:0<l.length
 z:D 0=0
 go: ∀ a,a<l.length→0≤D a→ ¬D a<(Z5 (l.getD a Zt).c).1∧D a - (Z5 (l.getD a Zt).c).1+(Z5 (l.getD a Zt).c).2≤25∧(((l.getD a Zt).c=23∨(l.getD a Zt).c=34)→D a=0)∧
  ∀ y∈nxt (l.getD a Zt) a,0≤y∧y.toNat<l.length∧D y.toNat=D a - (Z5 (l.getD a Zt).c).1+(Z5 (l.getD a Zt).c).2
theorem Snd.of {m:Mdl}{t:Cod}(hin: ∀ x∈t.ins,Jk x)(h:(dOf m t).2=0):Snd t.ins (dAt (dOf m t).1):=by
 obtain ⟨h1,h2,h3⟩:=goes_of hin h
 refine ⟨h1,h2,fun a ha hd=> ?_⟩
 rw [Zr ha];exact h3 a ha hd
theorem eff19:Z5 19=(0,0):=by decide
section
variable {l:List Ins}{D:Nat→Int}
theorem Snd.nn (h:Snd l D){a:Nat}(ha:a<l.length)(hd:0≤D a):0≤D a - (Z5 (l.getD a Zt).c).1+(Z5 (l.getD a Zt).c).2:=by
 have h1:=(h.go a ha hd).1;have:=Tq (l.getD a Zt).c;omega
theorem Snd.rch (h:Snd l D){j:Nat}(hr:Rch l j):0≤D j:=by
 induction hr with
 |zero _=>rw [h.z];exact Int.le_refl _
 |step hr hy h1 h2 ih=>rw [((h.go _ hr.lt ih).2.2.2 _ hy).2.2];exact h.nn hr.lt ih
theorem Snd.in (h:Snd l D){j:Nat}(hr:Rch l j): ∀ y∈nxt (l.getD j Zt) j,0≤y∧y<(l.length:Int):=by
 intro y hy
 obtain ⟨h1,h2,_⟩:=(h.go j hr.lt (h.rch hr)).2.2.2 y hy
 exact ⟨h1,by omega⟩
theorem B8 {i:Ins}(h:i.c=19)(a:Int):nxt i a= [i.a]:=by unfold nxt;rw [if_neg (by omega),if_pos h]
theorem Snd.led (h:Snd l D){j:Nat}: ∀ {k a:Nat},a<l.length→0≤D a→led l k a=some j→j<l.length∧D j=D a
 |0,_,_,_,hl=>by simp [Go.Proofs.YtgonllbkcgaliaaGreatDoor.led] at hl
 |k+1,a,ha,hd,hl=>by
  simp only [Go.Proofs.YtgonllbkcgaliaaGreatDoor.led] at hl
  split at hl
  · rename_i e
    obtain ⟨h1,h2,h3⟩:=(h.go a ha hd).2.2.2 (l.getD a Zt).a (by rw [B8 e];exact List.mem_singleton_self _)
    rw [e,eff19] at h3
    obtain ⟨k1,k2⟩:=Snd.led h h2 (by rw [h3];simpa using hd) hl
    exact ⟨k1,by rw [k2,h3];simp⟩
  cases hl;exact ⟨ha,rfl⟩
theorem Snd.leadS (h:Snd l D){a:Nat}(ha:a<l.length)(hd:0≤D a):leadS l a<l.length∧D (leadS l a)=D a:=by
 unfold Go.Proofs.YtgonllbkcgaliaaGreatDoor.leadS
 cases e:Go.Proofs.YtgonllbkcgaliaaGreatDoor.led l (l.length+1) a with
 |none=>exact ⟨ha,rfl⟩
 |some j=>exact h.led ha hd e
theorem nxt_mv {f:Nat→Nat}{i:Ins}{a b:Int}(hn:jm i=true→0≤i.a){y:Int}(hy:y∈nxt (i.mv f) b):(jm i=true∧i.a∈nxt i a∧y=(f i.a.toNat:Int))∨(y=b+1∧a+1∈nxt i a):=by
 unfold Ins.mv at hy
 by_cases hj:jm i=true
 · rw [if_pos hj] at hy
   have hc:19≤i.c∧i.c≤21:=by unfold jm at hj;simpa using hj
   have h1:i.a∈nxt i a:=by
    unfold nxt
    rw [if_neg (by omega)]
    split
    · exact List.mem_singleton_self _
    rw [if_pos (by omega)];split<;>simp
   unfold nxt at hy
   simp only at hy
   rw [if_neg (by omega)] at hy
   split at hy
   · exact .inl ⟨hj,h1,List.mem_singleton.1 hy⟩
   rename_i h19
   rw [if_pos (by omega)] at hy
   have h2:a+1∈nxt i a:=by
    unfold nxt
    rw [if_neg (by omega),if_neg h19,if_pos (by omega)]
    split
    · rename_i e;rw [e];exact List.mem_singleton_self _
    simp
   split at hy
   · exact .inl ⟨hj,h1,List.mem_singleton.1 hy⟩
   rcases List.mem_cons.1 hy with h|h
   · exact .inl ⟨hj,h1,h⟩
   exact .inr ⟨List.mem_singleton.1 h,h2⟩
 rw [if_neg hj] at hy
 have hc: ¬ (19≤i.c∧i.c≤21):=by unfold jm at hj;simpa using hj
 unfold nxt at hy⊢
 split at hy
 · cases hy
 rename_i h34
 rw [if_neg (by omega),if_neg (by omega)] at hy
 rw [if_neg h34,if_neg (by omega),if_neg (by omega)]
 exact .inr ⟨List.mem_singleton.1 hy,List.mem_singleton_self _⟩
theorem Snd.stra (h:Snd l D)(hn: ∀ i∈l,jm i=true→0≤i.a):Snd (Zy l) D:=by
 refine ⟨by rw [Yq];exact h.pos,h.z,fun a ha hd=> ?_⟩
 rw [Yq] at ha
 rw [V7 l ha,Rw,Yq]
 obtain ⟨h1,h2,h3,h4⟩:=h.go a ha hd
 refine ⟨h1,h2,h3,fun y hy=> ?_⟩
 rcases nxt_mv (hn _ (by rw [Zr ha];exact List.getElem_mem ha)) hy with ⟨k1,k2,rfl⟩|⟨rfl,k2⟩
 · obtain ⟨n1,n2,n3⟩:=h4 _ k2
   have hz:=h.nn ha hd
   obtain ⟨m1,m2⟩:=h.leadS n2 (by omega)
   exact ⟨by omega,by rw [Int.toNat_natCast];exact m1,by rw [Int.toNat_natCast,m2,n3]⟩
 exact h4 _ k2
theorem Rq (l:List Ins){D:Nat→Int}(h:Snd (Zy l) D)(hb: ∀ i∈Zy l,0≤i.a){p:Nat}(hr:Rch (Zy l) p)(hR:tiR l p=true):
 ((Zy l).getD p Zt).c=19∧p<((Zy l).getD p Zt).a.toNat∧((Zy l).getD p Zt).a.toNat<l.length∧Rch (Zy l) ((Zy l).getD p Zt).a.toNat∧kb (tiR l) ((Zy l).getD p Zt).a.toNat=kb (tiR l) p:=by
 have hp:=hr.lt
 have hu:unr (Zy l) p=false:=(Na hb p).2 hr
 have hc:cl (prI l) (kb (unr (Zy l)) p)=true:=by unfold tiR H2 at hR;rw [hu] at hR;simpa using hR
 have hlt:kb (unr (Zy l)) p<(prI l).length:=by unfold prI;rw [N0];exact Tm hu hp
 have hx:(prI l).getD (kb (unr (Zy l)) p) Zt=((Zy l).getD p Zt).mv (kb (unr (Zy l))):=En hp hu
 have hjp:((Zy l).getD p Zt).c=19:=by
  have h0:(clo (kb (unr (Zy l)) p) ((prI l).drop (kb (unr (Zy l)) p))).getD 0 false=true:=by rw [Fl];exact hc
  rw [List.drop_eq_getElem_cons hlt] at h0
  simp only [clo,List.getD_cons_zero,Bool.and_eq_true,decide_eq_true_eq] at h0
  rw [←Zr (z:=Zt) hlt,hx,Rw] at h0;exact h0.1.1
 have hj:jm ((Zy l).getD p Zt)=true:=by unfold jm;rw [hjp];decide
 obtain ⟨i0,i1⟩:=h.in hr ((Zy l).getD p Zt).a (by rw [B8 hjp];exact List.mem_singleton_self _)
 have hA:Rch (Zy l) ((Zy l).getD p Zt).a.toNat:= .step hr (by rw [B8 hjp];exact List.mem_singleton_self _) i0 (by omega)
 have hax:((prI l).getD (kb (unr (Zy l)) p) Zt).a=(kb (unr (Zy l)) ((Zy l).getD p Zt).a.toNat:Int):=by rw [hx];unfold Ins.mv;rw [if_pos hj]
 have hkA:kb (unr (Zy l)) ((Zy l).getD p Zt).a.toNat≤(prI l).length:=by unfold prI;rw [N0];exact D7 _ (by omega)
 obtain ⟨c1,c2,c3⟩:=(cl_iff hlt (by rw [hax,Int.toNat_natCast];exact hkA)).1 hc
 rw [hax] at c2
 rw [hax,Int.toNat_natCast] at c3
 have hpA:p<((Zy l).getD p Zt).a.toNat:=by
  rcases Nat.lt_or_ge p ((Zy l).getD p Zt).a.toNat with e|e
  · exact e
  have:=D7 (unr (Zy l)) e;omega
 have hgone: ∀ j,p≤j→j<((Zy l).getD p Zt).a.toNat→tiR l j=true:=by
  intro j h2 h3
  rcases Nat.lt_or_ge p j with h4|h4
  · unfold tiR H2
    cases hj2:unr (Zy l) j with
    |true=>rfl
    |false=>rw [Bool.false_or];exact c3 _ (Tm hu h4) (Tm hj2 h3)
  rw [show j=p by omega];exact hR
 have hk:=kb_all (R:=tiR l) (a:=p) (b:=((Zy l).getD p Zt).a.toNat) (by omega) hgone
 rw [Yq] at i1
 exact ⟨hjp,hpA,by omega,hA,hk.symm⟩
theorem Xy (l:List Ins){D:Nat→Int}(h:Snd (Zy l) D)(hb: ∀ i∈Zy l,0≤i.a): ∀ (d p:Nat),l.length - p≤d→Rch (Zy l) p→ ∃ q,p≤q∧q<l.length∧Rch (Zy l) q∧tiR l q=false∧kb (tiR l) q=kb (tiR l) p∧D q=D p∧(Hk l p→Hk l q):=by
 intro d
 induction d with
 |zero=>intro p h1 hr;have:=hr.lt;rw [Yq] at this;omega
 |succ d ih=>
  intro p h1 hr
  have hp:=hr.lt
  rw [Yq] at hp
  cases hR:tiR l p with
  |false=>exact ⟨p,Nat.le_refl _,hp,hr,hR,rfl,rfl,fun h=>h⟩
  |true=>
   obtain ⟨hjp,hpA,hA2,hA,hk⟩:=Rq l h hb hr hR
   obtain ⟨q,q1,q2,q3,q4,q5,q6,q7⟩:=ih _ (by omega) hA
   have hD:=(h.go p (by rw [Yq];exact hp) (h.rch hr)).2.2.2 ((Zy l).getD p Zt).a (by rw [B8 hjp];exact List.mem_singleton_self _)
   rw [hjp,eff19] at hD
   refine ⟨q,by omega,q2,q3,q4,by rw [q5,hk],by rw [q6,hD.2.2];simp,fun hlo=>q7 ?_⟩
   have hc0:=Fz hlo
   have hlo2:=(Qi hc0).1 hlo
   have e1:((Zy l).getD p Zt).a=(leadS l (l.getD p Zt).a.toNat:Int):=by
    rw [V7 l hp];unfold Ins.mv;rw [if_pos (by unfold jm;rw [hc0];decide)]
   rw [e1,Int.toNat_natCast]
   unfold Go.Proofs.YtgonllbkcgaliaaGreatDoor.leadS
   rw [hlo2];exact hlo2
def Ik (l:List Ins)(k:Nat):Nat:=(Z1 (tiR l) 0 (List.range l.length)).getD k 0
theorem Ci {p:Nat}(hp:p<l.length)(hr:tiR l p=false):Ik l (kb (tiR l) p)=p:=by
 unfold Ik
 rw [List.getD_eq_getElem?_getD,Ln (by simpa using hp) hr];simp [hp]
theorem Q1 (l:List Ins):(tiI l).length=kb (tiR l) l.length:=by rw [tiI_eq,N0,Yq]
theorem Mo {p:Nat}(hp:p<l.length)(hr:tiR l p=false):(tiI l).getD (kb (tiR l) p) Zt=((Zy l).getD p Zt).mv (kb (tiR l)):=by rw [tiI_eq];exact En (by rw [Yq];exact hp) hr
theorem Oo (hb: ∀ i∈Zy l,0≤i.a){p:Nat}(h:tiR l p=false):Rch (Zy l) p:=by
 rw [←Na hb];unfold tiR H2 at h;rw [Bool.or_eq_false_iff] at h;exact h.1
theorem Gc (h:Snd (Zy l) D)(hb: ∀ i∈Zy l,0≤i.a):Snd (tiI l) (fun k=>D (Ik l k)):=by
 have hz:=Rch.zero h.pos
 obtain ⟨q,_,q2,q3,q4,q5,q6,_⟩:=Xy l h hb l.length 0 (by omega) hz
 have hq0:kb (tiR l) q=0:=by rw [q5];rfl
 refine ⟨by rw [Q1];have:=Tm q4 q2;omega,?_,fun k hk hd=> ?_⟩
 · show D (Ik l 0)=0
   rw [←hq0,Ci q2 q4,q6,h.z]
 rw [Q1] at hk
 obtain ⟨p,hp,hr,rfl⟩:=De hk
 have hR:=Oo hb hr
 show ¬D (Ik l (kb (tiR l) p))<_∧_
 rw [Ci hp hr] at hd⊢
 rw [Mo hp hr,Rw]
 obtain ⟨h1,h2,h3,h4⟩:=h.go p hR.lt hd
 refine ⟨h1,h2,h3,fun y hy=> ?_⟩
 have go: ∀ z:Int,z∈nxt ((Zy l).getD p Zt) p→y=(kb (tiR l) z.toNat:Int)→0≤y∧y.toNat<(tiI l).length∧D (Ik l y.toNat)=D p - (Z5 ((Zy l).getD p Zt).c).1+(Z5 ((Zy l).getD p Zt).c).2:=by
  intro z hz2 e
  obtain ⟨z1,z2,z3⟩:=h4 z hz2
  obtain ⟨w,_,w2,w3,w4,w5,w6,_⟩:=Xy l h hb l.length z.toNat (by omega) (.step hR hz2 z1 z2)
  refine ⟨by omega,?_,?_⟩
  · rw [Q1,e,Int.toNat_natCast,←w5];exact Tm w4 w2
  rw [e,Int.toNat_natCast,←w5,Ci w2 w4,w6,z3]
 rcases nxt_mv (a:=(p:Int)) (fun _=>hb _ (by rw [Zr hR.lt];exact List.getElem_mem hR.lt)) hy with ⟨k1,k2,k3⟩|⟨k3,k2⟩
 · exact go _ k2 k3
 refine go _ k2 ?_
 rw [k3,show ((p:Int)+1).toNat=p+1 by omega,Qb hr];omega
theorem Se (h:Snd (Zy l) D)(hb: ∀ i∈Zy l,0≤i.a): ∀ (k:Nat) {a:Nat},Rch (Zy l) a→Hk l a→led (tiI l) k (kb (tiR l) a)=none
 |0,_,_,_=>rfl
 |k+1,a,hr,hlo=>by
  obtain ⟨q,_,q2,q3,q4,q5,_,q7⟩:=Xy l h hb l.length a (by omega) hr
  have hlq:=q7 hlo
  have hc:=Fz hlq
  have hjq:jm (l.getD q Zt)=true:=by unfold jm;rw [hc];decide
  have e1:(Zy l).getD q Zt= { l.getD q Zt with a:=(leadS l (l.getD q Zt).a.toNat:Int) } :=by rw [V7 l q2];unfold Ins.mv;rw [if_pos hjq]
  have e2:leadS l (l.getD q Zt).a.toNat=(l.getD q Zt).a.toNat:=by unfold Go.Proofs.YtgonllbkcgaliaaGreatDoor.leadS;rw [(Qi hc).1 hlq];rfl
  rw [e2] at e1
  have hjs:jm ((Zy l).getD q Zt)=true:=by rw [e1];exact hjq
  have hcs:((Zy l).getD q Zt).c=19:=by rw [e1];exact hc
  have hnx:((Zy l).getD q Zt).a∈nxt ((Zy l).getD q Zt) q:=by rw [B8 hcs];exact List.mem_singleton_self _
  obtain ⟨i0,i1⟩:=h.in q3 _ hnx
  have hra:Rch (Zy l) ((Zy l).getD q Zt).a.toNat:= .step q3 hnx i0 (by omega)
  have hat:((Zy l).getD q Zt).a.toNat=(l.getD q Zt).a.toNat:=by rw [e1];exact Int.toNat_natCast _
  have:=Se h hb k hra (by rw [hat];exact (Qi hc).1 hlq)
  rw [←q5,V8 (by rw [Mo q2 q4,Rw];exact hcs),Mo q2 q4]
  unfold Ins.mv
  rw [if_pos hjs,Int.toNat_natCast];exact this
theorem nxt_in {f:Nat→Nat}{i:Ins}{a b y:Int}(hy:y∈nxt i a):(jm i=true∧y=i.a∧(f i.a.toNat:Int)∈nxt (i.mv f) b)∨(y=a+1∧b+1∈nxt (i.mv f) b):=by
 by_cases hj:jm i=true
 · have hc:19≤i.c∧i.c≤21:=by unfold jm at hj;simpa using hj
   have e:i.mv f= { i with a:=(f i.a.toNat:Int) } :=by unfold Ins.mv;rw [if_pos hj]
   have h1:(f i.a.toNat:Int)∈nxt (i.mv f) b:=by
    rw [e];unfold nxt
    rw [if_neg (by show ¬i.c=34;omega)]
    split
    · exact List.mem_singleton_self _
    rw [if_pos (by show i.c=20∨i.c=21;rename_i h;have: ¬i.c=19:=h;omega)];split<;>simp
   unfold nxt at hy
   rw [if_neg (by omega)] at hy
   split at hy
   · exact .inl ⟨hj,List.mem_singleton.1 hy,h1⟩
   rename_i h19
   rw [if_pos (by omega)] at hy
   have h2:b+1∈nxt (i.mv f) b:=by
    rw [e];unfold nxt
    rw [if_neg (by show ¬i.c=34;omega),if_neg (by show ¬i.c=19;omega),if_pos (by show i.c=20∨i.c=21;omega)]
    split
    · rename_i e2;exact List.mem_singleton.2 e2.symm
    simp
   split at hy
   · exact .inl ⟨hj,List.mem_singleton.1 hy,h1⟩
   rcases List.mem_cons.1 hy with h|h
   · exact .inl ⟨hj,h,h1⟩
   exact .inr ⟨List.mem_singleton.1 h,h2⟩
 have e:i.mv f=i:=by unfold Ins.mv;rw [if_neg hj]
 have hc: ¬ (19≤i.c∧i.c≤21):=by unfold jm at hj;simpa using hj
 rw [e]
 unfold nxt at hy⊢
 split at hy
 · cases hy
 rename_i h34
 rw [if_neg (by omega),if_neg (by omega)] at hy
 rw [if_neg h34,if_neg (by omega),if_neg (by omega)]
 exact .inr ⟨List.mem_singleton.1 hy,List.mem_singleton_self _⟩
theorem Px (h:Snd (Zy l) D)(hb: ∀ i∈Zy l,0≤i.a){p:Nat}(hr:Rch (Zy l) p):kb (tiR l) p<(tiI l).length:=by
 obtain ⟨q,_,q2,_,q4,q5,_⟩:=Xy l h hb l.length p (by omega) hr
 rw [Q1,←q5];exact Tm q4 q2
theorem Zqv (h:Snd (Zy l) D)(hb: ∀ i∈Zy l,0≤i.a){p:Nat}(hr:Rch (Zy l) p):Rch (tiI l) (kb (tiR l) p):=by
 induction hr with
 |zero h0=>exact .zero (by have:=Px h hb (.zero h0);omega)
 | @step i y hr hy h1 h2 ih=>
  have hi:=hr.lt
  rw [Yq] at hi
  have hin:=Px h hb (.step hr hy h1 h2)
  cases hR:tiR l i with
  |false=>
   have hx:=Mo hi hR
   have:=nxt_in (f:=kb (tiR l)) (b:=(kb (tiR l) i:Int)) hy
   rw [←hx] at this
   rcases this with ⟨_,e,k⟩|⟨e,k⟩
   · subst e
     have:=Rch.step ih k (by omega) (by rw [Int.toNat_natCast];exact hin)
     rwa [Int.toNat_natCast] at this
   have e2:kb (tiR l) y.toNat=kb (tiR l) i+1:=by rw [e,show ((i:Int)+1).toNat=i+1 by omega,Qb hR]
   have:=Rch.step ih k (by omega) (by rw [show ((kb (tiR l) i:Int)+1).toNat=kb (tiR l) i+1 by omega,←e2];exact hin)
   rwa [show ((kb (tiR l) i:Int)+1).toNat=kb (tiR l) i+1 by omega,←e2] at this
  |true=>
   obtain ⟨g1,_,_,_,g5⟩:=Rq l h hb hr hR
   rw [B8 g1] at hy
   rw [List.mem_singleton.1 hy,g5];exact ih
theorem Zqw (h:Snd (Zy l) D)(hb: ∀ i∈Zy l,0≤i.a){k:Nat}(hk:k<(tiI l).length):Rch (tiI l) k:=by
 rw [Q1] at hk
 obtain ⟨p,_,hr,rfl⟩:=De hk
 exact Zqv h hb (Oo hb hr)
theorem Cf (h:Snd (Zy l) D)(hb: ∀ i∈Zy l,0≤i.a): ∀ i∈tiI l,jm i=true→0≤i.a∧i.a.toNat<(tiI l).length:=by
 intro i hi hj
 obtain ⟨k,hk,rfl⟩:=List.getElem_of_mem hi
 have hr:=Zqw h hb hk
 have hs:=Gc h hb
 have hc:19≤(tiI l)[k].c∧(tiI l)[k].c≤21:=by unfold jm at hj;simpa using hj
 have hx:(tiI l)[k].a∈nxt (tiI l)[k] (k:Int):=by
  unfold nxt
  rw [if_neg (by omega)]
  split
  · exact List.mem_singleton_self _
  rw [if_pos (by omega)];split<;>simp
 rw [←Zr (z:=Zt) hk] at hx⊢
 obtain ⟨h1,h2⟩:=hs.in hr _ hx
 exact ⟨h1,by omega⟩
end
def Uk (R:Nat→Bool)(x:Int):Int:=if x<0 then x else if R x.toNat=true then -1 else (kb R x.toNat:Int)
def E2 (l:List Ins):List Int:=(List.range l.length).map (nowS l)
theorem nows_two (l:List Ins):(((List.range l.length).map fun (i:Nat)=>(i:Int)).map (Uk (unr (Zy l)))).map (Uk (cl (prI l)))=E2 l:=by
 unfold E2
 rw [List.map_map,List.map_map]
 apply List.map_congr_left
 intro i _
 simp only [Function.comp_apply]
 have e1: ∀ (R:Nat→Bool) (n:Nat),Uk R (n:Int)=if R n=true then -1 else (kb R n:Int):=fun R n=>by unfold Uk;rw [if_neg (by omega),Int.toNat_natCast]
 have e2: ∀ R:Nat→Bool,Uk R (-1)= -1:=fun R=>rfl
 rw [e1]
 unfold nowS
 by_cases h1:unr (Zy l) i=true
 · rw [if_pos h1,if_pos h1,e2]
 rw [if_neg h1,if_neg h1,e1]
theorem Ed {α:Type}{A B:List α}{s:Nat}(h:A.length=B.length)(hs:s<B.length):(A.take s++B.drop s).set s (A[s]'(by omega))=A.take (s+1)++B.drop (s+1):=by
 have:(A.take s).length=s:=by rw [List.length_take];omega
 rw [List.set_append_right _ _ (by omega),this,Nat.sub_self,List.drop_eq_getElem_cons hs,List.set_cons_zero,List.take_succ_eq_append_getElem (show s<A.length by omega),List.append_assoc];rfl
theorem R9 {α:Type}{A B:List α}{s:Nat}(h:A.length=B.length)(hs:s<B.length)(he:A[s]'(by omega)=B[s]):A.take s++B.drop s=A.take (s+1)++B.drop (s+1):=by
 rw [List.drop_eq_getElem_cons hs,List.take_succ_eq_append_getElem (show s<A.length by omega),he];simp
theorem Ru {α:Type}{R:Nat→Bool}{x:α}: ∀ {l:List α} {k:Nat},x∈Z1 R k l→x∈l
 | [],_,h=>by simp [Z1] at h
 |y::r,k,h=>by
  simp only [Z1] at h
  split at h
  · exact List.mem_cons_of_mem _ (Ru h)
  rcases List.mem_cons.1 h with h|h
  · exact h ▸ List.mem_cons_self ..
  exact List.mem_cons_of_mem _ (Ru h)
theorem mid_at {α:Type}{A B:List α}{s:Nat}(h:A.length=B.length)(hs:s<B.length)(hl:s<(A.take s++B.drop s).length):(A.take s++B.drop s)[s]=B[s]:=by
 have e:(A.take s).length=s:=by rw [List.length_take];omega
 rw [List.getElem_append_right (by omega)]
 simp only [List.getElem_drop,e,Nat.sub_self,Nat.add_zero]
def bwd (I:List Ins):List (List Value):=(List.range I.length).map fun (k:Nat)=> [.int .i64 ((I.length:Int) - 1 - (k:Int)),.agg (Zx (I.getD (I.length - 1 - k) Zt)).toArray]
theorem Xa (I:List Ins):(bwd I).length=I.length:=by simp [bwd]
theorem Ia {I:List Ins}{k:Nat}(h:k<(bwd I).length):(bwd I)[k]= [.int .i64 ((I.length:Int) - 1 - (k:Int)),.agg (Zx (I.getD (I.length - 1 - k) Zt)).toArray]:=by simp only [bwd,List.getElem_map,List.getElem_range]
def Mz (I:List Ins):Nat→List Bool
 |0=>List.replicate I.length false
 |k+1=>if cl I (I.length - 1 - k)=true then (Mz I k).set (I.length - 1 - k) true else Mz I k
def U8 (I:List Ins):Nat→List Int
 |0=>(List.replicate (I.length+1) 0).set I.length (I.length:Int)
 |k+1=>(U8 I k).set (I.length - 1 - k) (if cl I (I.length - 1 - k)=true then (U8 I k).getD (I.length - 1 - k+1) 0 else ((I.length - 1 - k:Nat):Int))
theorem Es (I:List Ins)(k:Nat):(Mz I k).length=I.length:=by
 induction k with
 |zero=>simp [Mz]
 |succ k ih=>simp only [Mz];split<;>simp [ih]
theorem O9 {I:List Ins}{j:Nat}(hj:j<I.length): ∀ {k:Nat},k≤I.length→(Mz I k).getD j false=(decide (I.length - k≤j) && cl I j)
 |0,_=>by
  have:(List.replicate I.length false).getD j false=false:=by simp [List.getD_eq_getElem?_getD,hj]
  rw [show Mz I 0=List.replicate I.length false from rfl,this,decide_eq_false (by omega),Bool.false_and]
 |k+1,hk=>by
  have ih:=O9 hj (k:=k) (by omega)
  have g:=fun b=>Ho (o:=Mz I k) (i:=I.length - 1 - k) (j:=j) (b:=b) (by rw [Es];omega)
  simp only [Mz]
  by_cases e:j=I.length - 1 - k
  · split
    · rename_i h;rw [g,if_pos e,e,h];simp;omega
    rename_i h
    rw [ih,e]
    have:cl I (I.length - 1 - k)=false:=by simpa using h
    rw [this];simp
  have e2:decide (I.length - (k+1)≤j)=decide (I.length - k≤j):=decide_eq_decide.2 (by omega)
  rw [e2,←ih]
  split
  · rw [g,if_neg e]
  rfl
theorem Xw (I:List Ins): ∀ {k:Nat},k≤I.length→LeftQ I (I.length - k) (U8 I k)
 |0,_=>Ok I
 |k+1,hk=>by
  have ih:=Xw I (k:=k) (by omega)
  have e:I.length - k=(I.length - 1 - k)+1:=by omega
  rw [e] at ih
  have:=ih.step (by omega)
  rw [show I.length - (k+1)=I.length - 1 - k by omega];exact this
theorem cl_test {I:List Ins}{a:Nat}{left:List Int}(h:LeftQ I (a+1) left)(ha:a<I.length)(hA:jm (I.getD a Zt)=true→0≤(I.getD a Zt).a∧(I.getD a Zt).a.toNat<I.length):
 cl I a=true↔(I.getD a Zt).c=19∧(a:Int)<(I.getD a Zt).a∧left.getD (I.getD a Zt).a.toNat 0=left.getD (a+1) 0:=by
 by_cases hc:(I.getD a Zt).c=19
 · obtain ⟨h0,h1⟩:=hA (by unfold jm;rw [hc];decide)
   rw [cl_iff ha (by omega)]
   refine and_congr_right fun _=>and_congr_right fun h2=> ?_
   rw [h.eq (Nat.le_refl _) (show a+1≤(I.getD a Zt).a.toNat by omega) (by omega)]
   constructor
   · intro h3 j h4 h5;exact h3 j (by omega) h5
   intro h3 j h4 h5;exact h3 j (by omega) h5
 constructor
 · intro h3
   exfalso
   have h0:(clo a (I.drop a)).getD 0 false=true:=by rw [Fl];exact h3
   rw [List.drop_eq_getElem_cons ha] at h0
   simp only [clo,List.getD_cons_zero,Bool.and_eq_true,decide_eq_true_eq] at h0
   rw [Zr ha] at hc;exact hc h0.1.1
 intro h3;exact absurd h3.1 hc
theorem B2 {b:Int}{E:Nat→Int}(hb:0≤b): ∀ {l D:List Int},(∀ x∈l,0≤x∧x.toNat<D.length∧E x.toNat=b)→(∀ j,0≤dAt D j→dAt D j=E j)→ ∃ D',Ug b D l=some D'∧D'.length=D.length∧ ∀ j,0≤dAt D' j→dAt D' j=E j
 | [],D,_,h=>⟨D,rfl,rfl,h⟩
 |x::r,D,hx,h=>by
  obtain ⟨x0,x1,x2⟩:=hx x (List.mem_cons_self ..)
  unfold Ug
  rw [if_neg (by rintro ⟨h1,h2⟩;rw [h _ h1,x2] at h2;exact h2 rfl)]
  have e:=fun j=>Mb (D:=D) (i:=x.toNat) (j:=j) (b:=b) x1
  obtain ⟨D',h1,h2,h3⟩:=B2 hb (l:=r) (D:=D.set x.toNat b) (fun y hy=>by rw [List.length_set];exact hx y (List.mem_cons_of_mem _ hy)) (fun j hj=>by
   rw [e] at hj⊢
   split
   · rename_i e1;rw [e1,x2]
   rename_i e1;rw [if_neg e1] at hj;exact h j hj)
  exact ⟨D',h1,by rw [h2,List.length_set],h3⟩
theorem Gi {ins:List Bl}{E:Nat→Int}(hE: ∀ a,a<ins.length→0≤E a→(Vl ins a (E a)).2=0∧0≤(Vl ins a (E a)).1∧ ∀ x∈Jc (ins.getD a zI) a,0≤x∧x.toNat<ins.length∧E x.toNat=(Vl ins a (E a)).1):
 ∀ (k:Nat) (D:List Int) (dn:List Bool),D.length=ins.length→(∀ j,0≤dAt D j→dAt D j=E j)→(Kq ins k D dn).2=0
 |0,_,_,_,_=>rfl
 |k+1,D,dn,hl,h=>by
  unfold Kq
  split
  · rfl
  rename_i a ha
  obtain ⟨a1,⟨a2,_⟩,_⟩:=Ko ha
  have ea:=h a a2
  rw [ea] at a2⊢
  obtain ⟨e1,e2,e3⟩:=hE a (by omega) a2
  rw [if_neg (by omega)]
  obtain ⟨D',h1,h2,h3⟩:=B2 e2 (l:=Jc (ins.getD a zI) a) (D:=D) (fun x hx=>by rw [hl];exact e3 x hx) h
  rw [h1]
  exact Gi hE k D' _ (by omega) h3
theorem Snd.dOf {m:Mdl}{t:Cod}{E:Nat→Int}(h:Snd t.ins E)(hs: ∀ x∈t.ins,Kz m t x):(dOf m t).2=0:=by
 unfold Go.Proofs.YtgonllbkcgaliaaGreatDoor.dOf
 have hp:=h.pos
 rw [if_neg (by omega),if_neg (fun k=>k hs)]
 refine Gi (E:=E) (fun a ha hd=> ?_) _ _ _ (by simp [We]) (fun j hj=> ?_)
 · rw [We] at ha
   obtain ⟨h1,h2,h3,h4⟩:=h.go a ha hd
   have hn:=h.nn ha hd
   rw [Zr ha] at h1 h2 h3 h4 hn
   have e:Vl (Ur t) a (E a)=(E a - (Z5 t.ins[a].c).1+(Z5 t.ins[a].c).2,0):=by
    unfold Vl
    rw [Uo ha]
    dsimp only [Ins.t]
    rw [if_neg (by omega),if_neg (fun k=>k.2 (h3 k.1)),if_neg]
    rintro ⟨x,hx,hxl⟩
    have:=h4 x hx
    rw [We] at hxl;omega
   rw [e,Uo ha,We]
   exact ⟨rfl,hn,h4⟩
 have e:=Mb (D:=List.replicate t.ins.length (-1)) (i:=0) (j:=j) (b:=0) (by simp;omega)
 rw [e] at hj⊢
 split
 · rename_i e1;rw [e1,h.z]
 rename_i e1
 rw [if_neg e1] at hj
 exfalso
 unfold dAt at hj
 rw [List.getD_eq_getElem?_getD,List.getElem?_replicate] at hj
 split at hj<;>simp at hj
section
variable {G:World}{q:List HP}{a b A:Option Addr}{c d:Nat}{cd:Int}{l:List Ins}{ln:List Int}{o:List Bool}
variable {nt:Nat}{nm:ByteArray}{lo:Int}{ia la wa:Option Addr}{ic lc wc:Nat}{I:List Ins}{L W:List Int}
set_option maxHeartbeats 4000000 in
theorem Gx (hA: ∀ i∈I,jm i=true→0≤i.a∧i.a.toNat<I.length)(h0I:0<I.length)(hL:I.length≤65536):CallF prog G 103 [.pointer (some ⟨nt,0,none⟩)] (pto nt (.cells [.string nm,.int .i64 lo,.slice ia I.length ic,.slice la L.length lc,.slice wa W.length wc].toArray 96 (0,0))::rsH Zx 4 48 ia ic (I)::q) (Ret fun v q'=>q'=pto nt (.cells [.string nm,.int .i64 lo,.slice ia I.length ic,.slice la L.length lc,.slice wa W.length wc].toArray 96 (0,0))::rsH Zx 4 48 ia ic (Zy I)::q):=by
 refine CallF.of func103 ntmps103 rfl (fun F cs=> ?_)
 refine Rl (fl:=Zx) (l:=I) h0I (fun g e_=> ?_);subst e_
 refine xl 6 ?_;refine Zh call153 (Le.refl _) (leads_ok (l:=I) ((Sees.rsH _).le Zj) (fun i hi hc=>hA i hi (by unfold jm;rw [hc];decide)) hL) ?_
 rintro _ _ ⟨gs,rfl,rfl⟩
 refine ol 8 ?_;refine ox 4 ?_;refine X.at (X.loop (fun (s:Nat)=>s≤I.length) (fun s=> [(17,.int .i64 (s:Int)),(16,.int .i64 (I.length:Int)),(15,.slice (some ⟨g,0,none⟩) I.length ic),(2,.slice (some ⟨gs,0,none⟩) I.length I.length),(0,.pointer (some ⟨nt,0,none⟩))]) (fun s=>rsH Zx 4 48 (some ⟨g,0,none⟩) ic (((Zy I).take s++I.drop s))::lsH I64 3 (some ⟨gs,0,none⟩) I.length (Jn I)::pto nt (.cells [.string nm,.int .i64 lo,.slice (some ⟨g,0,none⟩) I.length ic,.slice la L.length lc,.slice wa W.length wc].toArray 96 (0,0))::(q++F)) (fun s=>I.length - s) (fun s hi_ ih=> ?_) 0 (Nat.zero_le _)) Zp leA
 try dsimp only at hi_ ih⊢
 obtain hs0:=hi_
 have hstl:=Yq I;have hcl:((Zy I).take s++I.drop s).length=I.length:=(by simp;omega)
 refine xx 5 ?_;refine X.part 18 rfl (fun h0=> ?_) (fun h0=> ?_)
 · replace h0:=sp h0;have hlt:s<I.length:=(by omega);have hlc:s<((Zy I).take s++I.drop s).length:=(by omega);have hgt:((Zy I).take s++I.drop s)[s]=I[s]:=(by rw [List.getElem_append_right (by simp;omega)];simp [Nat.min_eq_left (show s≤(Zy I).length by omega)])
   refine xo 8 ?_;refine Wm (n:=s) (fl:=Zx) (l:=((Zy I).take s++I.drop s)) isAgg48 sizeOf48 (Sees.rsH _) hlc ?_ (hq:=Zj)
   refine XO.know 21 (.agg (Zx I[s]).toArray) rfl (by rw [hgt]) ?_
   refine Zm zeroValue48 fun n1=> ?_
   refine oo 1 ?_;refine stA ?_;refine ol 4 ?_;refine XO.cR call154 (By) ?_;refine ox 1 ?_;refine X.part 24 rfl (fun h1=> ?_) (fun h1=> ?_)
   · replace h1:=sp h1
     refine xx 1 ?_;refine drw ?_;refine dl [0,1,2,3] 4 ?_;refine dl [5,6,7] 8 ?_
     have hjm:jm I[s]=true:=(by unfold jm;exact decide_eq_true h1);obtain ⟨hA0,hA1⟩:=hA _ (List.getElem_mem hlt) hjm;have hll:I[s].a.toNat<(Jn I).length:=(by unfold Jn;simp;exact hA1)
     refine dd [9] ?_;refine ldD 10 ?_ (hc:=(Cl.e1 (Sees.lsH _) Zj hll (by omega)))
     refine dd [11,12] ?_
     have hsr:Zy I=Zy I:=rfl;have hu:(Zy I)[s]'(by omega)= { I[s] with a:=(Jn I)[I[s].a.toNat] } :=(by have e1:(Jn I)[I[s].a.toNat]=(leadS I I[s].a.toNat:Int):=(by simp only [Jn,List.getElem_map,List.getElem_range]);rw [e1];unfold Zy;rw [List.getElem_map];unfold Ins.mv;rw [if_pos hjm])
     refine XD.ef0 13 rfl (Ew (f:=Zx) (sz:=4) (l:=((Zy I).take s++I.drop s)) (n:=s) (k:=1) (u:=(Zy I)[s]'(by omega)) rfl rfl sizeOf3 (fun _=>rfl) rfl hlc rfl (by rw [hgt,hu];rfl) rfl rfl Zj) ?_
     rintro _ _ ⟨rfl,rfl⟩
     refine ⟨trivial,?_⟩
     refine XD.nil ?_;refine xx 5 ?_
     have hnx:((Zy I).take s++I.drop s).set s ((Zy I)[s]'(by omega))=(Zy I).take (s+1)++I.drop (s+1):=Ed hstl hlt;rw [hnx]
     refine X.at (ih (s+1) (by omega) (by omega)) Zp leA
   replace h1:=sp h1
   refine xx 7 ?_
   have hnx:((Zy I).take s++I.drop s)=(Zy I).take (s+1)++I.drop (s+1):=R9 hstl hlt (by simp [Zy,Ins.mv,jm];intro h2 h3;simp [h2,h3] at h1)
   refine X.le (Le.trans Zj (Ao (f:=Zx) (sz:=4) (ty:=48) (a:=some ⟨g,0,none⟩) (c:=ic) hnx _)) ?_
   refine X.at (ih (s+1) (by omega) (by omega)) Zp leA
 replace h0:=sp h0;obtain rfl:s=I.length:=by omega
 have hfin:((Zy I).take I.length++I.drop I.length)=Zy I:=(by rw [List.drop_length,List.append_nil,List.take_of_length_le (by omega)])
 rw [hfin]
 refine xx 2 ?_;refine Yo (pto nt (.cells [.string nm,.int .i64 lo,.slice (some ⟨g,0,none⟩) I.length ic,.slice la L.length lc,.slice wa W.length wc].toArray 96 (0,0))::rsH Zx 4 48 (some ⟨g,0,none⟩) ic (Zy I)::q) func103 (V4 results103) ⟨_,rfl,rfl⟩
end
section
variable {G:World}{q:List HP}{a b A:Option Addr}{c d:Nat}{cd:Int}{l:List Ins}{ln:List Int}{o:List Bool}
variable {nt:Nat}{nm:ByteArray}{lo:Int}{ia la wa:Option Addr}{ic lc wc:Nat}{I:List Ins}{L W:List Int}
variable {R:Nat→Bool}
set_option maxHeartbeats 8000000 in
theorem Pb (ho:Sees q b (o.map Value.bool))(hon:o.length=I.length)(hR: ∀ j,j<o.length→o.getD j false=R j)(hA: ∀ i∈I,jm i=true→0≤i.a∧i.a.toNat<I.length)(hLn:L.length=I.length)(hW: ∀ x∈W,x<0∨x.toNat<I.length)(hWn:W.length≤65536)(h0I:0<I.length)(hL:I.length≤65536):CallF prog G 155 [.pointer (some ⟨nt,0,none⟩),.slice b o.length d] (pto nt (.cells [.string nm,.int .i64 lo,.slice ia I.length ic,.slice la L.length lc,.slice wa W.length wc].toArray 96 (0,0))::rsH Zx 4 48 ia ic (I)::lsH I64 3 la lc (L)::lsH I64 3 wa wc (W)::q) (Ret fun v q'=> ∃ a1 c1 a2 c2,q'=pto nt (.cells [.string nm,.int .i64 lo,.slice a1 (Wb R I).length c1,.slice a2 (Z1 R 0 L).length c2,.slice wa W.length wc].toArray 96 (0,0))::rsH Zx 4 48 a1 c1 (Wb R I)::lsH I64 3 a2 c2 (Z1 R 0 L)::lsH I64 3 wa wc (W.map (Uk R))::q):=by
 refine CallF.of func155 ntmps155 rfl (fun F cs=> ?_)
 refine Jw ho (by rw [List.length_map,hon];exact h0I) (fun gb ob eb=> ?_);subst eb
 have hob: ∀ j (h:j<o.length),o[j]=R j:=fun j h=>by rw [←hR j h];exact (Zr h).symm
 refine xl 6 ?_;refine oo 1 ?_;refine XO.ef (Q7 (n:=I.length) rfl rfl underlying23 Uh rfl rfl (by omega) (by omega)) ?_
 rintro _ _ ⟨g,rfl,rfl⟩
 refine XO.le (q':=lsH I64 3 (some ⟨g,0,none⟩) I.length (List.replicate I.length 0)::_) (Le.trans Zj (by rw [←Jl (f:=I64) (u:=0) rfl];exact Le.refl _)) ?_
 refine ol 13 ?_;refine ox 4 ?_;refine X.at (X.loop (fun (s:List Int×Nat)=>s.1.length=I.length∧s.2≤I.length∧ ∀ i,i<s.2→s.1.getD i 0=(kb R i:Int)) (fun s=> [(24,.int .i64 (s.2:Int)),(23,.int .i64 (I.length:Int)),(4,.slice (some ⟨g,0,none⟩) I.length I.length),(5,.int .i64 (kb R s.2:Int)),(0,.pointer (some ⟨nt,0,none⟩)),(1,.slice (some ⟨gb,ob,none⟩) o.length d)]) (fun s=>lsH I64 3 (some ⟨g,0,none⟩) I.length (s.1)::pto nt (.cells [.string nm,.int .i64 lo,.slice ia I.length ic,.slice la L.length lc,.slice wa W.length wc].toArray 96 (0,0))::rsH Zx 4 48 ia ic (I)::lsH I64 3 la lc (L)::lsH I64 3 wa wc (W)::(q++F)) (fun s=>I.length - s.2) (fun s hi_ ih=> ?_) (List.replicate I.length 0,0) ⟨by simp,Nat.zero_le _,fun i h=>absurd h (Nat.not_lt_zero i)⟩) Zp leA
 try dsimp only at hi_ ih⊢
 obtain ⟨hl1,hl2,hl3⟩:=hi_
 obtain ⟨D,s⟩:=s;dsimp only at*;have hkb:=P7 R s
 refine xx 5 ?_;refine X.part 25 rfl (fun h0=> ?_) (fun h0=> ?_)
 · replace h0:=sp h0;have hlt:s<D.length:=(by omega);have hlo:s<o.length:=(by omega)
   refine xo 15 ?_;refine XO.ef0 (Wq (f:=I64) (l:=D) (n:=s) (u:=(kb R s:Int)) rfl rfl sizeOf3 rfl hlt rfl rfl Zj) ?_
   rintro _ _ ⟨rfl,rfl⟩
   refine oo 6 ?_;refine ld ?_ (hc:=(Cl.e1 ho leA hlo rfl))
   refine Zc (Pu.not rfl) ?_;refine ox 1 ?_;refine X.part 35 rfl (fun h1=> ?_) (fun h1=> ?_)
   focus
    replace h1:=sp h1
    refine xx 11 ?_
    have hrs:R s=false:=(by rw [←hob s hlo];simpa using h1);have hks:kb R (s+1)=kb R s+1:=Qb hrs
    refine X.know 5 (.int .i64 (kb R (s+1):Int)) rfl (by rw [hks];rfl) ?_
   rotate_left
   focus
    replace h1:=sp h1
    refine xx 7 ?_
    have hrs:R s=true:=(by rw [←hob s hlo];simpa using h1);have hks:kb R (s+1)=kb R s:=Q2 hrs
    refine X.know 5 (.int .i64 (kb R (s+1):Int)) rfl (by rw [hks]) ?_
   all_goals
    refine X.at (ih (D.set s (kb R s:Int),s+1) ⟨by rw [List.length_set];exact hl1,by dsimp only;omega,fun i hi=>by dsimp only at hi⊢;rw [Vc hlt];split;(rename_i e;rw [e]);exact hl3 i (by omega)⟩ (by dsimp only;omega)) Zp leA
 replace h0:=sp h0;replace hl3: ∀ i,i<I.length→D.getD i 0=(kb R i:Int):=(fun i hi=>hl3 i (by omega));clear ih hkb
 refine xl 8 ?_;refine ox 4 ?_;refine X.at (X.loop (fun (s:Nat)=>s≤W.length) (fun s=> [(44,.int .i64 (s:Int)),(43,.int .i64 (W.length:Int)),(42,.slice wa W.length wc),(4,.slice (some ⟨g,0,none⟩) I.length I.length),(0,.pointer (some ⟨nt,0,none⟩)),(1,.slice (some ⟨gb,ob,none⟩) o.length d)]) (fun s=>lsH I64 3 (some ⟨g,0,none⟩) I.length (D)::pto nt (.cells [.string nm,.int .i64 lo,.slice ia I.length ic,.slice la L.length lc,.slice wa W.length wc].toArray 96 (0,0))::rsH Zx 4 48 ia ic (I)::lsH I64 3 la lc (L)::lsH I64 3 wa wc (((W.map (Uk R)).take s++W.drop s))::(q++F)) (fun s=>W.length - s) (fun s hi_ ih=> ?_) 0 (Nat.zero_le _)) Zp leA
 try dsimp only at hi_ ih⊢
 obtain hs0:=hi_
 have hwl:(W.map (Uk R)).length=W.length:=(List.length_map _);have hcw:((W.map (Uk R)).take s++W.drop s).length=W.length:=(by simp;omega)
 refine xx 5 ?_;refine X.part 45 rfl (fun h0=> ?_) (fun h0=> ?_)
 · replace h0:=sp h0;have hlt:s<W.length:=(by omega);have hlc:s<((W.map (Uk R)).take s++W.drop s).length:=(by omega);have hgt:((W.map (Uk R)).take s++W.drop s)[s]=W[s]:=mid_at hwl hlt hlc
   refine Je (fl:=I64) (l:=((W.map (Uk R)).take s++W.drop s)) (by omega) (fun gw e_=> ?_);subst e_
   have hWs:=hW _ (List.getElem_mem hlt)
   refine xo 8 ?_;refine ld ?_ (hc:=(Cl.e1 (Sees.lsH _) Zj hlc rfl))
   refine XO.know 48 (.int .i64 W[s]) rfl (by rw [hgt]) ?_
   refine ox 10 ?_;refine X.part 59 rfl (fun h1=> ?_) (fun h1=> ?_)
   · replace h1:=sp h1
     refine xx 8 ?_
     have hv:(W.map (Uk R))[s]'(by omega)=W[s]:=(by rw [List.getElem_map];unfold Uk;rw [if_pos (by omega)])
     have hnx:=R9 hwl hlt hv;refine X.le (Le.trans Zj (X9 (f:=I64) (ty:=3) (a:=some ⟨gw,0,none⟩) (c:=wc) hnx _)) ?_
     refine X.at (ih (s+1) (by omega) (by omega)) Zp leA
   replace h1:=sp h1
   refine xo 5 ?_
   have hat:W[s].toNat<I.length:=(by omega);have hlo:W[s].toNat<o.length:=(by omega);have hlD:W[s].toNat<D.length:=(by omega)
   refine oo 1 ?_;refine ld ?_ (hc:=(Cl.e1 ho leA hlo (by omega)))
   refine ox 2 ?_;refine X.part 62 rfl (fun h2=> ?_) (fun h2=> ?_)
   focus
    replace h2:=sp h2
    refine xl 5 ?_;refine oo 2 ?_;refine XO.ef0 (Wq (f:=I64) (l:=((W.map (Uk R)).take s++W.drop s)) (n:=s) (u:= -1) rfl rfl sizeOf3 rfl hlc rfl rfl Zj) ?_
    rintro _ _ ⟨rfl,rfl⟩
    refine ox 7 ?_
    have hv:(W.map (Uk R))[s]'(by omega)= -1:=(by rw [List.getElem_map];unfold Uk;rw [if_neg (by omega),if_pos (by rw [←hob _ hlo];simpa using h2)])
   rotate_left
   focus
    replace h2:=sp h2
    refine xx 1 ?_;refine drw ?_;refine dl [0,1,2] 3 ?_;refine dd [4,5,6,7] ?_;refine ldD 8 ?_ (hc:=(Cl.e1 (Sees.lsH _) Zj hlD (by omega)))
    refine dd [9] ?_;refine XD.ef0 10 rfl (Wq (f:=I64) (l:=((W.map (Uk R)).take s++W.drop s)) (n:=s) (u:=(D[W[s].toNat])) rfl rfl sizeOf3 rfl hlc rfl rfl Zj) ?_
    rintro _ _ ⟨rfl,rfl⟩
    refine ⟨trivial,?_⟩
    refine XD.nil ?_;refine xx 6 ?_
    have hv:(W.map (Uk R))[s]'(by omega)=D[W[s].toNat]:=(by rw [List.getElem_map];unfold Uk;rw [if_neg (by omega),if_neg (by rw [←hob _ hlo];simpa using h2),←hl3 _ hat];exact Zr hlD)
   all_goals
    have hnx:=Ed hwl hlt;rw [hv] at hnx;refine X.le (Le.trans Zj (X9 (f:=I64) (ty:=3) (a:=some ⟨gw,0,none⟩) (c:=wc) hnx _)) ?_
    refine X.at (ih (s+1) (by omega) (by omega)) Zp leA
 replace h0:=sp h0;obtain rfl:s=W.length:=by omega
 have hfin:((W.map (Uk R)).take W.length++W.drop W.length)=W.map (Uk R):=(by rw [List.drop_length,List.append_nil,List.take_of_length_le (by omega)])
 rw [hfin];clear ih hcw hfin hwl
 refine xx 3 ?_;refine drw ?_;refine dl [0,1,2,3,4,5] 6 ?_;refine dl [7,9,10,11,12] 13 ?_;refine dd [14] ?_
 have hcI:Z1 (fun j=>o.getD j false) 0 I=Z1 R 0 I:=(cutS_congr I 0 fun j _ h2=>hR j (by omega));have hcL:Z1 (fun j=>o.getD j false) 0 L=Z1 R 0 L:=(cutS_congr L 0 fun j _ h2=>hR j (by omega))
 refine Yj 8 call191 (Le.refl _) (Zzm (m:=I) (a:=ia) (c:=ic) ((Sees.rsH _).le Zj) (ho.le leA) (by omega) (by omega)) ?_
 rintro _ _ ⟨a1,c1,rfl,rfl⟩
 refine ⟨hlA,?_⟩
 rw [hcI]
 refine Yj 15 call192 (Le.refl _) (Zzh (m:=L) (a:=la) (c:=lc) ((Sees.lsH _).le Zj) (ho.le leA) (by omega) (by omega)) ?_
 rintro _ _ ⟨a2,c2,rfl,rfl⟩
 refine ⟨trivial,?_⟩
 rw [hcL]
 refine dd [16,17,18] ?_;refine stD 19 ?_;refine dd [20,21,22] ?_;refine stD 23 ?_;refine XD.nil ?_;refine xl 6 ?_;refine ox 4 ?_
 have hti:(Wb R I).length=(Z1 R 0 I).length:=List.length_map _;have hkl:(Z1 R 0 I).length≤I.length:=D8 R I
 refine X.at (X.loop (fun (s:Nat)=>s≤(Z1 R 0 I).length) (fun s=> [(102,.int .i64 (s:Int)),(101,.int .i64 ((Z1 R 0 I).length:Int)),(100,.slice a1 (Z1 R 0 I).length c1),(4,.slice (some ⟨g,0,none⟩) I.length I.length),(0,.pointer (some ⟨nt,0,none⟩))]) (fun s=>rsH Zx 4 48 a1 c1 (((Wb R I).take s++(Z1 R 0 I).drop s))::lsH I64 3 (some ⟨g,0,none⟩) I.length (D)::pto nt (.cells [.string nm,.int .i64 lo,.slice a1 (Z1 R 0 I).length c1,.slice a2 (Z1 R 0 L).length c2,.slice wa W.length wc].toArray 96 (0,0))::lsH I64 3 a2 c2 (Z1 R 0 L)::lsH I64 3 wa wc (W.map (Uk R))::(q++F)) (fun s=>(Z1 R 0 I).length - s) (fun s hi_ ih=> ?_) 0 (Nat.zero_le _)) Zp leA
 try dsimp only at hi_ ih⊢
 obtain hs0:=hi_
 have hcl:((Wb R I).take s++(Z1 R 0 I).drop s).length=(Z1 R 0 I).length:=(by rw [List.length_append,List.length_take,List.length_drop];omega)
 refine xx 5 ?_;refine X.part 103 rfl (fun h0=> ?_) (fun h0=> ?_)
 · replace h0:=sp h0;have hlt:s<(Z1 R 0 I).length:=(by omega);have hlc:s<((Wb R I).take s++(Z1 R 0 I).drop s).length:=(by omega);have hgt:((Wb R I).take s++(Z1 R 0 I).drop s)[s]=(Z1 R 0 I)[s]:=mid_at hti hlt hlc
   refine Rl (fl:=Zx) (l:=((Wb R I).take s++(Z1 R 0 I).drop s)) (by omega) (fun ga e_=> ?_);subst e_
   refine xo 8 ?_;refine Wm (n:=s) (fl:=Zx) (l:=((Wb R I).take s++(Z1 R 0 I).drop s)) isAgg48 sizeOf48 (Sees.rsH _) hlc ?_ (hq:=Zj)
   refine XO.know 106 (.agg (Zx (Z1 R 0 I)[s]).toArray) rfl (by rw [hgt]) ?_
   refine Zm zeroValue48 fun n1=> ?_
   refine oo 1 ?_;refine stA ?_;refine ol 4 ?_;refine XO.cR call154 (By) ?_;refine ox 1 ?_;refine X.part 109 rfl (fun h1=> ?_) (fun h1=> ?_)
   · replace h1:=sp h1
     refine xx 1 ?_;refine drw ?_;refine dl [0,1,2,3] 4 ?_;refine dl [5,6,7] 8 ?_
     have hjm:jm (Z1 R 0 I)[s]=true:=(by unfold jm;exact decide_eq_true h1);have hmI:(Z1 R 0 I)[s]∈I:=Ru (List.getElem_mem hlt);obtain ⟨hA0,hA1⟩:=hA _ hmI hjm;have hll:(Z1 R 0 I)[s].a.toNat<D.length:=(by omega)
     refine dd [9] ?_;refine ldD 10 ?_ (hc:=(Cl.e1 (Sees.lsH _) Zj hll (by omega)))
     refine dd [11,12] ?_
     have hu:(Wb R I)[s]'(by omega)= { (Z1 R 0 I)[s] with a:=D[(Z1 R 0 I)[s].a.toNat] } :=(by have e1:D[(Z1 R 0 I)[s].a.toNat]=(kb R (Z1 R 0 I)[s].a.toNat:Int):=(by rw [←hl3 _ hA1];exact (Zr hll).symm);rw [e1];unfold Wb;rw [List.getElem_map];unfold Ins.mv;rw [if_pos hjm])
     refine XD.ef0 13 rfl (Ew (f:=Zx) (sz:=4) (l:=((Wb R I).take s++(Z1 R 0 I).drop s)) (n:=s) (k:=1) (u:=(Wb R I)[s]'(by omega)) rfl rfl sizeOf3 (fun _=>rfl) rfl hlc rfl (by rw [hgt,hu];rfl) rfl rfl Zj) ?_
     rintro _ _ ⟨rfl,rfl⟩
     refine ⟨trivial,?_⟩
     refine XD.nil ?_;refine xx 5 ?_
     have hnx:=Ed hti hlt;refine X.le (Le.trans Zj (Ao (f:=Zx) (sz:=4) (ty:=48) (a:=some ⟨ga,0,none⟩) (c:=c1) hnx _)) ?_
     refine X.at (ih (s+1) (by omega) (by omega)) Zp leA
   replace h1:=sp h1
   refine xx 7 ?_
   have hnx:=R9 hti hlt (by unfold Wb;rw [List.getElem_map];unfold Ins.mv;rw [if_neg (by unfold jm;simpa using h1)]);refine X.le (Le.trans Zj (Ao (f:=Zx) (sz:=4) (ty:=48) (a:=some ⟨ga,0,none⟩) (c:=c1) hnx _)) ?_
   refine X.at (ih (s+1) (by omega) (by omega)) Zp leA
 replace h0:=sp h0;have hse:s=(Z1 R 0 I).length:=(by omega);have hfin:((Wb R I).take s++(Z1 R 0 I).drop s)=Wb R I:=(by rw [hse,List.drop_length,List.append_nil,List.take_of_length_le (by omega)])
 rw [hfin]
 refine xx 2 ?_;refine Yo (pto nt (.cells [.string nm,.int .i64 lo,.slice a1 (Z1 R 0 I).length c1,.slice a2 (Z1 R 0 L).length c2,.slice wa W.length wc].toArray 96 (0,0))::rsH Zx 4 48 a1 c1 (Wb R I)::lsH I64 3 a2 c2 (Z1 R 0 L)::lsH I64 3 wa wc (W.map (Uk R))::q) func155 (V4 results155) ⟨_,rfl,a1,c1,a2,c2,by rw [hti]⟩
end
theorem fill3 {D:List Bool}{N:Nat}(h:D.length=N)(h2: ∀ i,i<N→D.getD i false=true):D=List.replicate N true:=by
 refine List.ext_getElem (by simp [h]) (fun i h1 h3=> ?_)
 rw [List.getElem_replicate,←Zr (z:=false) h1];exact h2 i (by omega)
theorem Rc: ∀ {o:List Bool} {a:Nat},a<o.length→o.getD a false=true→(o.set a false).countP id+1=o.countP id
 | [],_,h,_=>by simp at h
 |x::r,0,_,h=>by simp only [List.getD_cons_zero] at h;subst h;simp [List.countP_cons]
 |x::r,a+1,h,h1=>by
  have:=Rc (o:=r) (a:=a) (by simpa using h) (by simpa using h1)
  rw [List.set_cons_succ,List.countP_cons,List.countP_cons];omega
section
variable {G:World}{q:List HP}{a b A:Option Addr}{c d:Nat}{cd:Int}{l:List Ins}{ln:List Int}{o:List Bool}
variable {nt:Nat}{nm:ByteArray}{lo:Int}{ia la wa:Option Addr}{ic lc wc:Nat}{I:List Ins}{L W:List Int}
set_option maxHeartbeats 8000000 in
theorem prune_ok (hA: ∀ i∈I,jm i=true→0≤i.a∧i.a.toNat<I.length)(hLn:L.length=I.length)(hW: ∀ x∈W,x<0∨x.toNat<I.length)(hWn:W.length≤65536)(h0I:0<I.length)(hL:I.length≤65536)(hb: ∀ i∈I,0≤i.a)(hV: ∀ j,Rch I j→ ∀ y∈nxt (I.getD j Zt) j,y<(I.length:Int)):CallF prog G 104 [.pointer (some ⟨nt,0,none⟩)] (pto nt (.cells [.string nm,.int .i64 lo,.slice ia I.length ic,.slice la L.length lc,.slice wa W.length wc].toArray 96 (0,0))::rsH Zx 4 48 ia ic (I)::lsH I64 3 la lc (L)::lsH I64 3 wa wc (W)::q) (Ret fun v q'=> ∃ a1 c1 a2 c2,q'=pto nt (.cells [.string nm,.int .i64 lo,.slice a1 (Wb (unr I) I).length c1,.slice a2 (Z1 (unr I) 0 L).length c2,.slice wa W.length wc].toArray 96 (0,0))::rsH Zx 4 48 a1 c1 (Wb (unr I) I)::lsH I64 3 a2 c2 (Z1 (unr I) 0 L)::lsH I64 3 wa wc (W.map (Uk (unr I)))::q):=by
 refine CallF.of func104 ntmps104 rfl (fun F cs=> ?_)
 refine Rl (fl:=Zx) (l:=I) h0I (fun g e_=> ?_);subst e_
 refine xl 6 ?_;refine oo 1 ?_;refine XO.ef (Q7 (n:=I.length) rfl rfl underlying106 ginfo4 rfl rfl (by omega) (by omega)) ?_
 rintro _ _ ⟨go,rfl,rfl⟩
 refine XO.le (q':=lsH Value.bool 4 (some ⟨go,0,none⟩) I.length (List.replicate I.length false)::_) (Le.trans Zj (by rw [←Jl (f:=Value.bool) (u:=false) rfl];exact Le.refl _)) ?_
 refine ox 10 ?_;refine X.at (X.loop (fun (s:List Bool×Nat)=>s.1.length=I.length∧s.2≤I.length∧ ∀ i,i<s.2→s.1.getD i false=true) (fun s=> [(16,.int .i64 (s.2:Int)),(15,.int .i64 (I.length:Int)),(2,.slice (some ⟨go,0,none⟩) I.length I.length),(0,.pointer (some ⟨nt,0,none⟩))]) (fun s=>lsH Value.bool 4 (some ⟨go,0,none⟩) I.length (s.1)::pto nt (.cells [.string nm,.int .i64 lo,.slice (some ⟨g,0,none⟩) I.length ic,.slice la L.length lc,.slice wa W.length wc].toArray 96 (0,0))::rsH Zx 4 48 (some ⟨g,0,none⟩) ic (I)::lsH I64 3 la lc (L)::lsH I64 3 wa wc (W)::(q++F)) (fun s=>I.length - s.2) (fun s hi_ ih=> ?_) (List.replicate I.length false,0) ⟨by simp,Nat.zero_le _,fun i h=>absurd h (Nat.not_lt_zero i)⟩) Zp leA
 try dsimp only at hi_ ih⊢
 obtain ⟨hl1,hl2,hl3⟩:=hi_
 obtain ⟨D,s⟩:=s;dsimp only at*
 refine xx 5 ?_;refine X.part 17 rfl (fun h0=> ?_) (fun h0=> ?_)
 · replace h0:=sp h0;have hlt:s<D.length:=(by omega)
   refine xo 13 ?_;refine XO.ef0 (Wq (f:=Value.bool) (l:=D) (n:=s) (u:=true) rfl rfl sizeOf4 rfl hlt rfl rfl Zj) ?_
   rintro _ _ ⟨rfl,rfl⟩
   refine ox 6 ?_;refine X.at (ih (D.set s true,s+1) ⟨by rw [List.length_set];exact hl1,by dsimp only;omega,fun i hi=>by dsimp only at hi⊢;rw [Ho hlt];split;rfl;exact hl3 i (by omega)⟩ (by dsimp only;omega)) Zp leA
 replace h0:=sp h0;have hD:D=List.replicate I.length true:=fill3 hl1 (fun i hi=>hl3 i (by omega));subst hD;clear ih hl1 hl2 hl3 h0
 refine xo 4 ?_;refine XO.ef (R3 (u:=0) I64 underlying23 Uh rfl rfl) ?_
 rintro _ _ ⟨gt,rfl,rfl⟩
 refine ox 4 ?_;refine X.at (X.loop (fun (s:List Bool×List Int×Option Addr×Nat)=>PI I s.1 s.2.1∧2*s.1.countP id+s.2.1.length≤2*I.length+1) (fun s=> [(2,.slice (some ⟨go,0,none⟩) I.length I.length),(4,.slice s.2.2.1 s.2.1.length s.2.2.2),(0,.pointer (some ⟨nt,0,none⟩))]) (fun s=>lsH I64 3 s.2.2.1 s.2.2.2 (s.2.1)::lsH Value.bool 4 (some ⟨go,0,none⟩) I.length (s.1)::pto nt (.cells [.string nm,.int .i64 lo,.slice (some ⟨g,0,none⟩) I.length ic,.slice la L.length lc,.slice wa W.length wc].toArray 96 (0,0))::rsH Zx 4 48 (some ⟨g,0,none⟩) ic (I)::lsH I64 3 la lc (L)::lsH I64 3 wa wc (W)::(q++F)) (fun s=>2*s.1.countP id+s.2.1.length) (fun s hi_ ih=> ?_) (List.replicate I.length true, [0],some ⟨gt,0,none⟩,1) ⟨PI.init h0I,by simp [List.countP_replicate]⟩) Zp leA
 try dsimp only at hi_ ih⊢
 obtain ⟨hP,hcb⟩:=hi_
 obtain ⟨out,T,ta,tc⟩:=s;dsimp only at*;have hol:=hP.len
 refine X.fact (fun w s=>(s.le (cs:=_) (ds:=lsH I64 3 ta tc (T)::_) Zj).lsLen) (fun hTl=> ?_)
 refine xx 7 ?_;refine X.part 26 rfl (fun h0=> ?_) (fun h0=> ?_)
 · replace h0:=sp h0;obtain ⟨T2,x,rfl⟩: ∃ T2 x,T=T2++ [x]:=⟨T.dropLast,T.getLast (by rintro rfl;simp at h0),(List.dropLast_concat_getLast _).symm⟩;obtain ⟨x0,x1,x2⟩:=hP.td x (by simp);obtain ⟨a,rfl⟩: ∃ a:Nat,x=(a:Int):=⟨x.toNat,by omega⟩;rw [Int.toNat_natCast] at x1 x2;have hT0:0<(T2++ [(a:Int)]).length:=by simp
   have hTn:(T2++ [(a:Int)]).length=T2.length+1:=by simp
   have hao:a<out.length:=by omega
   refine Je (fl:=I64) (l:=T2++ [(a:Int)]) (by omega) (fun ga e_=> ?_);subst e_
   have hlast:(T2++ [(a:Int)])[(T2++ [(a:Int)]).length - 1]'(Nat.sub_lt hT0 Nat.one_pos)=(a:Int):=by simp
   refine xo 10 ?_;refine ld ?_ (hc:=(A9 (Sees.lsH _) Zj hT0))
   refine XO.know 32 (.int .i64 (a:Int)) rfl (by rw [hlast]) ?_
   refine oo 9 ?_;refine XO.know 37 (.slice (some ⟨ga,0,none⟩) T2.length tc) rfl (by congr 1;simp) ?_
   refine XO.le (q':=lsH I64 3 (some ⟨ga,0,none⟩) tc (T2)::_) (Le.trans Zj (Le.trans (Nc I64 3 (some ⟨ga,0,none⟩) tc (T2++ [(a:Int)]) T2.length _) (by rw [List.take_left];exact Le.refl _))) ?_
   refine oo 8 ?_;refine ld ?_ (hc:=(Cl.e1 (Sees.lsH _) Zj hao rfl))
   refine Zc (Pu.not rfl) ?_;refine ox 1 ?_;refine X.part 42 rfl (fun h1=> ?_) (fun h1=> ?_)
   · replace h1:=sp h1
     refine xx 2 ?_
     have hga:out.getD a false=out[a]:=Zr hao
     refine X.at (ih (out,T2,some ⟨ga,0,none⟩,tc) ⟨PI.skip hP (by rw [Int.toNat_natCast,hga];simpa using h1),by dsimp only;omega⟩ (by dsimp only;omega)) Zp leA
   replace h1:=sp h1
   refine xo 7 ?_;refine XO.ef0 (Wq (f:=Value.bool) (l:=out) (n:=a) (u:=false) rfl rfl sizeOf4 rfl hao rfl rfl Zj) ?_
   rintro _ _ ⟨rfl,rfl⟩
   refine ol 7 ?_;refine oo 2 ?_;refine Wm (n:=a) (fl:=Zx) (l:=I) isAgg48 sizeOf48 (Sees.rsH _) x1 ?_ (hq:=Zj)
   refine Zm zeroValue48 fun n1=> ?_
   refine stA ?_;refine ol 5 ?_;refine XO.cR call154 (By) ?_;refine ox 1 ?_;refine X.part 56 rfl (fun h2=> ?_) (fun h2=> ?_)
   · replace h2:=sp h2
     refine xl 4 ?_;refine XO.ef (R3 (u:=I[a].a) I64 underlying23 Uh rfl rfl) ?_
     rintro _ _ ⟨gb0,rfl,rfl⟩
     refine XO.ef (Ye (f:=I64) (l:=T2) (m:= [I[a].a]) underlying23 Uh rfl rfl rfl Zj ((Sees.lsH _).le Zj) (fun _=>rfl) (by simp only [List.length_append,List.length_cons,List.length_nil];omega) (by simp only [List.length_append,List.length_cons,List.length_nil];omega)) ?_
     rintro _ _ ⟨at0,ct0,rfl,rfl⟩
     refine ol 5 ?_;refine oo 2 ?_;refine Zg [65,4,6,5,2,0] ?_
     apply Zf 4 69 65 rfl
     · intro g3 M3;have h3:=sp g3
       refine ol 1 ?_;refine oo 2 ?_;exact Zz M3 ⟨Yi g3,Zv⟩
     · intro g3 M3;have h3:=sp g3
       refine oo 4 ?_;exact Zz M3 ⟨Yl g3,Zv⟩
     refine ox 1 ?_;refine X.part 69 rfl (fun h3=> ?_) (fun h3=> ?_)
     · replace h3:=sp h3
       refine xo 5 ?_;refine XO.ef (R3 (u:=(a:Int)+1) I64 underlying23 Uh rfl rfl) ?_
       rintro _ _ ⟨gb1,rfl,rfl⟩
       refine XO.ef (Ye (f:=I64) (l:=T2++ [I[a].a]) (m:= [(a:Int)+1]) underlying23 Uh rfl rfl rfl Zj ((Sees.lsH _).le Zj) (fun _=>rfl) (by simp only [List.length_append,List.length_cons,List.length_nil];omega) (by simp only [List.length_append,List.length_cons,List.length_nil];omega)) ?_
       rintro _ _ ⟨at1,ct1,rfl,rfl⟩
       refine ox 3 ?_
       have hga:out.getD a false=out[a]:=Zr hao
       have hgi:I.getD a Zt=I[a]:=Zr x1;have hM:=Ez hb hV hP;rw [Int.toNat_natCast,hgi] at hM
       have hpu:Nj I[a] a= [I[a].a,(a:Int)+1]:=(by unfold Nj jm;rw [if_pos (decide_eq_true (by omega))];rw [if_pos (by omega)];rfl)
       have hcnt:=Rc hao (by rw [hga];simpa using h1);rw [hpu] at hM;have hel:([I[a].a,(a:Int)+1]:List Int).length≤2:=(by simp)
       rw [show T2++ [I[a].a,(a:Int)+1]=T2++ [I[a].a]++ [(a:Int)+1] by simp] at hM
       refine X.at (ih (out.set a false,T2++ [I[a].a]++ [(a:Int)+1],at1,ct1) ⟨hM,by dsimp only;simp only [List.length_append,List.length_cons,List.length_nil] at*;omega⟩ (by dsimp only;simp only [List.length_append,List.length_cons,List.length_nil] at*;omega)) Zp leA
     replace h3:=sp h3
     refine xx 3 ?_
     have hga:out.getD a false=out[a]:=Zr hao
     have hgi:I.getD a Zt=I[a]:=Zr x1;have hM:=Ez hb hV hP;rw [Int.toNat_natCast,hgi] at hM
     have hpu:Nj I[a] a= [I[a].a]:=(by unfold Nj jm;rw [if_pos (decide_eq_true (by omega))];rw [if_neg (by omega)];rfl)
     have hcnt:=Rc hao (by rw [hga];simpa using h1);rw [hpu] at hM;have hel:([I[a].a]:List Int).length≤2:=(by simp)
     refine X.at (ih (out.set a false,T2++ [I[a].a],at0,ct0) ⟨hM,by dsimp only;simp only [List.length_append,List.length_cons,List.length_nil] at*;omega⟩ (by dsimp only;simp only [List.length_append,List.length_cons,List.length_nil] at*;omega)) Zp leA
   replace h2:=sp h2
   refine xl 5 ?_;refine oo 2 ?_;refine Zg [65,6,4,5,2,0] ?_
   apply Zf 4 69 65 rfl
   · intro g3 M3;have h3:=sp g3
     refine ol 1 ?_;refine oo 2 ?_;exact Zz M3 ⟨Yi g3,Zv⟩
   · intro g3 M3;have h3:=sp g3
     refine oo 4 ?_;exact Zz M3 ⟨Yl g3,Zv⟩
   refine ox 1 ?_;refine X.part 69 rfl (fun h3=> ?_) (fun h3=> ?_)
   · replace h3:=sp h3
     refine xo 5 ?_;refine XO.ef (R3 (u:=(a:Int)+1) I64 underlying23 Uh rfl rfl) ?_
     rintro _ _ ⟨gb0,rfl,rfl⟩
     refine XO.ef (Ye (f:=I64) (l:=T2) (m:= [(a:Int)+1]) underlying23 Uh rfl rfl rfl Zj ((Sees.lsH _).le Zj) (fun _=>rfl) (by simp only [List.length_append,List.length_cons,List.length_nil];omega) (by simp only [List.length_append,List.length_cons,List.length_nil];omega)) ?_
     rintro _ _ ⟨at0,ct0,rfl,rfl⟩
     refine ox 3 ?_
     have hga:out.getD a false=out[a]:=Zr hao
     have hgi:I.getD a Zt=I[a]:=Zr x1;have hM:=Ez hb hV hP;rw [Int.toNat_natCast,hgi] at hM
     have hpu:Nj I[a] a= [(a:Int)+1]:=(by unfold Nj jm;rw [if_neg (by simp;omega)];rw [if_pos (by omega)];rfl)
     have hcnt:=Rc hao (by rw [hga];simpa using h1);rw [hpu] at hM;have hel:([(a:Int)+1]:List Int).length≤2:=(by simp)
     refine X.at (ih (out.set a false,T2++ [(a:Int)+1],at0,ct0) ⟨hM,by dsimp only;simp only [List.length_append,List.length_cons,List.length_nil] at*;omega⟩ (by dsimp only;simp only [List.length_append,List.length_cons,List.length_nil] at*;omega)) Zp leA
   replace h3:=sp h3
   refine xx 3 ?_
   have hga:out.getD a false=out[a]:=Zr hao
   have hgi:I.getD a Zt=I[a]:=Zr x1;have hM:=Ez hb hV hP;rw [Int.toNat_natCast,hgi] at hM
   have hpu:Nj I[a] a= []:=(by unfold Nj jm;rw [if_neg (by simp;omega)];rw [if_neg (by omega)];rfl)
   have hcnt:=Rc hao (by rw [hga];simpa using h1);rw [hpu] at hM;have hel:([]:List Int).length≤2:=(by simp)
   rw [List.append_nil] at hM
   refine X.at (ih (out.set a false,T2,some ⟨ga,0,none⟩,tc) ⟨hM,by dsimp only;simp only [List.length_append,List.length_cons,List.length_nil] at*;omega⟩ (by dsimp only;simp only [List.length_append,List.length_cons,List.length_nil] at*;omega)) Zp leA
 replace h0:=sp h0;have hT:T= []:=List.eq_nil_of_length_eq_zero (by omega);subst hT;have hov:=PI.over hb hP;clear ih
 refine xo 5 ?_;refine XO.know 76 (.slice (some ⟨go,0,none⟩) out.length I.length) rfl (by rw [hol]) ?_
 refine Zh call155 leA (Pb (q:=lsH Value.bool 4 (some ⟨go,0,none⟩) I.length (out)::(q++F)) (R:=unr I) (o:=out) (Sees.lsH _) hol (fun j hj=>hov j (by omega)) hA hLn hW hWn h0I hL) ?_
 rintro _ _ ⟨a1,c1,a2,c2,rfl⟩
 refine ox 1 ?_;refine Yo (pto nt (.cells [.string nm,.int .i64 lo,.slice a1 (Wb (unr I) I).length c1,.slice a2 (Z1 (unr I) 0 L).length c2,.slice wa W.length wc].toArray 96 (0,0))::rsH Zx 4 48 a1 c1 (Wb (unr I) I)::lsH I64 3 a2 c2 (Z1 (unr I) 0 L)::lsH I64 3 wa wc (W.map (Uk (unr I)))::q) func104 (V4 results104) ⟨_,rfl,a1,c1,a2,c2,rfl⟩
end
section
variable {G:World}{q:List HP}{a b A:Option Addr}{c d:Nat}{cd:Int}{l:List Ins}{ln:List Int}{o:List Bool}
variable {nt:Nat}{nm:ByteArray}{lo:Int}{ia la wa:Option Addr}{ic lc wc:Nat}{I:List Ins}{L W:List Int}
variable {p1:Nat}
theorem backF_ok {y:Nat}{J:Nat→HP}{Jf:HP→Prop}(hL:I.length≤65536)
 (hy: ∀ i (h:i<(bwd I).length),CallV prog G (.func (.yield y) #[] #[]) (bwd I)[i] (J i:: [pto p1 (.cells [.slice a I.length c].toArray 32 (0,0)),rsH Zx 4 48 a c (I)]) (Ret fun v q=>(v= .bool true∧q=J (i+1):: [pto p1 (.cells [.slice a I.length c].toArray 32 (0,0)),rsH Zx 4 48 a c (I)])∨(v= .bool false∧ ∃ A,Jf A∧q=A:: [pto p1 (.cells [.slice a I.length c].toArray 32 (0,0)),rsH Zx 4 48 a c (I)]))):
 CallF prog G 193 [.func (.yield y) #[] #[],.pointer (some ⟨p1,0,none⟩)] (J 0:: [pto p1 (.cells [.slice a I.length c].toArray 32 (0,0)),rsH Zx 4 48 a c (I)]) (Ret fun _ q=>q=J (bwd I).length:: [pto p1 (.cells [.slice a I.length c].toArray 32 (0,0)),rsH Zx 4 48 a c (I)]∨ ∃ A,Jf A∧q=A:: [pto p1 (.cells [.slice a I.length c].toArray 32 (0,0)),rsH Zx 4 48 a c (I)]):=by
 refine CallF.of func193 ntmps193 rfl (fun F cs=> ?_)
 have hbl:=Xa I
 refine xl 2 ?_;refine ox 5 ?_;refine X.at (X.loop (fun (s:Nat)=>s≤I.length) (fun s=> [(0,.func (.yield y) #[] #[]),(1,.pointer (some ⟨p1,0,none⟩)),(3,.int .i64 ((I.length:Int) - 1 - (s:Int)))]) (fun s=>J s::pto p1 (.cells [.slice a I.length c].toArray 32 (0,0))::rsH Zx 4 48 a c (I)::F) (fun s=>I.length - s) (fun s hi_ ih=> ?_) 0 (Nat.zero_le _)) Zp leA
 try dsimp only at hi_ ih⊢
 obtain hs0:=hi_
 refine xx 6 ?_;refine X.part 8 rfl (fun h0=> ?_) (fun h0=> ?_)
 · replace h0:=sp h0;have hlt:s<I.length:=(by omega);obtain ⟨n,hn⟩: ∃ n,n=I.length - 1 - s:=⟨_,rfl⟩;have hnl:n<I.length:=(by omega)
   refine Rl (fl:=Zx) (l:=I) (by omega) (fun g e_=> ?_);subst e_
   have hy1:=hy s (by omega);rw [Ia,←hn,Zr hnl] at hy1
   refine xl 8 ?_;refine oo 2 ?_;refine Wm (n:=n) (fl:=Zx) (l:=I) isAgg48 sizeOf48 (Sees.rsH _) hnl ?_ (hq:=Zj)
   refine XO.cV hy1 ?_;rintro _ _ (⟨rfl,rfl⟩|⟨rfl,A,hA,rfl⟩) _ e_<;>simp only [ca,na] at e_<;>subst e_
   · refine Zc (Pu.not rfl) ?_;refine ox 1 ?_;refine kx 18 8 ?_
     have hstep:(I.length:Int) - 1 - (s:Int) - 1=(I.length:Int) - 1 - ((s+1:Nat):Int):=(by omega)
     refine X.know 3 (.int .i64 ((I.length:Int) - 1 - ((s+1:Nat):Int))) rfl (by rw [←hstep]) ?_
     refine X.at (ih (s+1) (by omega) (by omega)) Zp leA
   refine Zc (Pu.not rfl) ?_;refine ox 1 ?_;refine X.kt 18 ?_;refine xx 1 ?_;refine Zq (A:: [pto p1 (.cells [.slice (some ⟨g,0,none⟩) I.length c].toArray 32 (0,0)),rsH Zx 4 48 (some ⟨g,0,none⟩) c (I)]) func193 (V4 results193) ⟨_,rfl,.inr ⟨A,hA,rfl⟩⟩
 replace h0:=sp h0;obtain rfl:s=I.length:=by omega
 refine xx 2 ?_;refine Yo (J I.length:: [pto p1 (.cells [.slice a I.length c].toArray 32 (0,0)),rsH Zx 4 48 a c (I)]) func193 (V4 results193) ⟨_,rfl,.inl (by rw [hbl])⟩
theorem Zzr (hL:I.length≤65536):Iter prog G (.func (.func 193) [].toArray [.pointer (some ⟨p1,0,none⟩)].toArray) (bwd I) [pto p1 (.cells [.slice a I.length c].toArray 32 (0,0)),rsH Zx 4 48 a c (I)]:=by
 intro y J Jf hy
 exact H6 call193 (backF_ok (G:=G) (p1:=p1) (J:=J) (Jf:=Jf) hL hy)
theorem back_ok:CallF prog G 156 [.slice a I.length c] ([]) (Ret fun v q'=> ∃ p1,v= .func (.func 193) [].toArray [.pointer (some ⟨p1,0,none⟩)].toArray∧q'= [pto p1 (.cells [.slice a I.length c].toArray 32 (0,0))]):=by
 refine CallF.of func156 ntmps156 rfl (fun F cs=> ?_)
 refine xo 2 ?_;refine Zl fun n1=> ?_
 refine ox 7 ?_;refine Zq [pto n1 (.cells [.slice a I.length c].toArray 32 (0,0))] func156 (Zu results156 rfl) ⟨_,rfl,n1,rfl,rfl⟩
set_option maxHeartbeats 8000000 in
theorem close_ok (hA: ∀ i∈I,jm i=true→0≤i.a∧i.a.toNat<I.length)(hLn:L.length=I.length)(hW: ∀ x∈W,x<0∨x.toNat<I.length)(hWn:W.length≤65536)(h0I:0<I.length)(hL:I.length≤65536):CallF prog G 105 [.pointer (some ⟨nt,0,none⟩)] (pto nt (.cells [.string nm,.int .i64 lo,.slice ia I.length ic,.slice la L.length lc,.slice wa W.length wc].toArray 96 (0,0))::rsH Zx 4 48 ia ic (I)::lsH I64 3 la lc (L)::lsH I64 3 wa wc (W)::q) (Ret fun v q'=> ∃ a1 c1 a2 c2,q'=pto nt (.cells [.string nm,.int .i64 lo,.slice a1 (Wb (cl I) I).length c1,.slice a2 (Z1 (cl I) 0 L).length c2,.slice wa W.length wc].toArray 96 (0,0))::rsH Zx 4 48 a1 c1 (Wb (cl I) I)::lsH I64 3 a2 c2 (Z1 (cl I) 0 L)::lsH I64 3 wa wc (W.map (Uk (cl I)))::q):=by
 refine CallF.of func105 ntmps105 rfl (fun F cs=> ?_)
 refine Rl (fl:=Zx) (l:=I) h0I (fun g e_=> ?_);subst e_
 refine xl 6 ?_;refine oo 6 ?_;refine XO.ef (Q7 (n:=I.length) rfl rfl underlying106 ginfo4 rfl rfl (by omega) (by omega)) ?_
 rintro _ _ ⟨go,rfl,rfl⟩
 refine XO.le (q':=lsH Value.bool 4 (some ⟨go,0,none⟩) I.length (Mz I 0)::_) (Le.trans Zj (by rw [show Mz I 0=List.replicate I.length false from rfl,←Jl (f:=Value.bool) (u:=false) rfl];exact Le.refl _)) ?_
 refine Zm zeroValue106 fun n1=> ?_
 refine st ?_;refine oo 5 ?_;refine XO.know 16 (.int .i64 ((I.length+1:Nat):Int)) rfl (rfl) ?_;refine XO.ef (Q7 (n:=I.length+1) rfl rfl underlying23 Uh rfl rfl (by omega) (by omega)) ?_
 rintro _ _ ⟨gl,rfl,rfl⟩
 refine XO.le (q':=lsH I64 3 (some ⟨gl,0,none⟩) (I.length+1) (List.replicate (I.length+1) 0)::_) (Le.trans Zj (by rw [←Jl (f:=I64) (u:=0) rfl];exact Le.refl _)) ?_
 refine Zm zeroValue23 fun n2=> ?_
 refine st ?_;refine ol 3 ?_;refine oo 3 ?_;refine XO.ef0 (Wq (f:=I64) (l:=List.replicate (I.length+1) 0) (n:=I.length) (u:=(I.length:Int)) rfl rfl sizeOf3 rfl (by simp) rfl rfl Zj) ?_
 rintro _ _ ⟨rfl,rfl⟩
 refine ol 8 ?_;refine V3 call156 (back_ok (I:=I)) ?_
 rintro _ _ ⟨p1,rfl,rfl⟩ _ e_;simp only [ca,na] at e_;subst e_
 refine ox 2 ?_
 have hbl:=Xa I;refine X.range [pto p1 (.cells [.slice (some ⟨g,0,none⟩) I.length ic].toArray 32 (0,0)),rsH Zx 4 48 (some ⟨g,0,none⟩) ic (I)] (fun k=>lsH Value.bool 4 (some ⟨go,0,none⟩) I.length (Mz I (k))::lsH I64 3 (some ⟨gl,0,none⟩) (I.length+1) (U8 I (k))::pto n1 (.cells [.slice (some ⟨go,0,none⟩) I.length I.length].toArray 106 (0,0))::pto n2 (.cells [.slice (some ⟨gl,0,none⟩) (I.length+1) (I.length+1)].toArray 23 (0,0)):: [pto nt (.cells [.string nm,.int .i64 lo,.slice (some ⟨g,0,none⟩) I.length ic,.slice la L.length lc,.slice wa W.length wc].toArray 96 (0,0))]) (fun e qs=>False) (F:=lsH I64 3 la lc (L)::lsH I64 3 wa wc (W)::(q++F)) (Zzr hL) rfl ?_ (by intro x hx;obtain ⟨k,hk,rfl⟩:=List.getElem_of_mem hx;rw [Ia];rfl) rfl (by rw [func105];rfl) rfl (fun i hi l2 rec F0 cs0=> ?_) (fun r=> ?_) (fun r c2 qs2 hJ=>hJ.elim)
 · simp only [ca,na];exact leA
 · have hi':i<I.length:=(by omega);rw [Ia]
   simp only [Cw]
   simp only [ca,na]
   obtain ⟨n,hn⟩: ∃ n,n=I.length - 1 - i:=⟨_,rfl⟩;have hnl:n<I.length:=(by omega);rw [←hn,Zr hnl];have hni:(I.length:Int) - 1 - (i:Int)=(n:Int):=(by omega);rw [hni]
   have hq:=Xw I (k:=i) (by omega);rw [show I.length - i=n+1 by omega] at hq;have hct:=cl_test hq hnl (by rw [Zr hnl];exact hA _ (List.getElem_mem hnl));rw [Zr hnl] at hct;have hll:=hq.1;have hol:=Es I i
   have hout:Mz I (i+1)=if cl I n=true then (Mz I i).set n true else Mz I i:=(by rw [hn];rfl);have hlef:U8 I (i+1)=(U8 I i).set n (if cl I n=true then (U8 I i).getD (n+1) 0 else (n:Int)):=(by rw [hn];rfl)
   have hl1:((U8 I i).set n (n:Int)).length=I.length+1:=(by rw [List.length_set];exact hll);have hx1:n+1<((U8 I i).set n (n:Int)).length:=(by omega);have hg1:((U8 I i).set n (n:Int))[n+1]=(U8 I i).getD (n+1) 0:=(by rw [List.getElem_set_ne (by omega)];exact (Zr (by omega)).symm)
   refine xo 5 ?_;refine Zm zeroValue48 fun n3=> ?_
   refine stA ?_;refine ox 1 ?_;refine X.beginRound rfl leA ?_;refine xl 3 ?_;refine oo 3 ?_;refine XO.ef0 (Wq (f:=I64) (l:=U8 I i) (n:=n) (u:=(n:Int)) rfl rfl sizeOf3 rfl (by omega) rfl rfl Zj) ?_
   rintro _ _ ⟨rfl,rfl⟩
   refine ox 2 ?_;refine drw ?_;refine dl [0] 1 ?_;refine dd [2,3] ?_;refine XD.part 37 rfl (fun k1=> ?_) (fun k1=> ?_)
   focus
    replace k1:=sp k1
    refine dl [4] 5 ?_;refine dd [6,7,8,9] ?_;refine XD.part 43 rfl (fun k2=> ?_) (fun k2=> ?_)
    focus
     replace k2:=sp k2
     refine ldD 10 ?_;refine dl [11] 12 ?_;obtain ⟨hA0,hA1⟩:=hA _ (List.getElem_mem hnl) (by unfold jm;rw [show I[n].c=19 by omega];decide);have hxA:I[n].a.toNat<((U8 I i).set n (n:Int)).length:=(by omega);have hgA:((U8 I i).set n (n:Int))[I[n].a.toNat]=(U8 I i).getD I[n].a.toNat 0:=(by rw [List.getElem_set_ne (by omega)];exact (Zr (by omega)).symm)
     refine dd [13] ?_;refine ldD 14 ?_ (hc:=(Cl.e1 (Sees.lsH _) Zj hxA (by omega)))
     refine XD.know 48 (.int .i64 ((U8 I i).getD I[n].a.toNat 0)) rfl (by rw [hgA]) ?_
     refine ldD 15 ?_;refine dd [16,17,18] ?_;refine ldD 19 ?_ (hc:=(Cl.e1 (Sees.lsH _) Zj hx1 (by omega)))
     refine XD.know 53 (.int .i64 ((U8 I i).getD (n+1) 0)) rfl (by rw [hg1]) ?_
     refine dd [20,21] ?_;refine XD.nil ?_;refine X.part 55 rfl (fun k3=> ?_) (fun k3=> ?_)
     · replace k3:=sp k3
       refine xx 1 ?_;refine drw ?_;refine ldD 0 ?_;refine dl [1] 2 ?_;refine dl [3] 4 ?_;refine dd [5,6,7] ?_;refine ldD 8 ?_ (hc:=(Cl.e1 (Sees.lsH _) Zj hx1 (by omega)))
       refine XD.know 64 (.int .i64 ((U8 I i).getD (n+1) 0)) rfl (by rw [hg1]) ?_
       refine dd [9] ?_;refine XD.ef0 10 rfl (Wq (f:=Value.bool) (l:=Mz I i) (n:=n) (u:=true) rfl rfl sizeOf4 rfl (by omega) rfl rfl Zj) ?_
       rintro _ _ ⟨rfl,rfl⟩
       refine ⟨hlA,?_⟩
       refine dd [11] ?_;refine XD.ef0 12 rfl (Wq (f:=I64) (l:=((U8 I i).set n (n:Int))) (n:=n) (u:=(U8 I i).getD (n+1) 0) rfl rfl sizeOf3 rfl (by omega) rfl rfl Zj) ?_
       rintro _ _ ⟨rfl,rfl⟩
       refine ⟨trivial,?_⟩
       refine XD.nil ?_;refine xx 1 ?_
       have hcl:cl I n=true:=hct.2 ⟨by omega,by omega,by omega⟩;rw [if_pos hcl] at hout hlef
       refine X.fall ⟨rfl,rfl,?_⟩
       simp only [ca,na];rw [hout,hlef];simp only [List.set_set];exact leA
     replace k3:=sp k3
    rotate_left
    focus
     replace k2:=sp k2
     refine dd [10,11,12,13,14,15,16,17,18,19,20,21] ?_;refine XD.nil ?_
   rotate_left 2
   focus
    replace k1:=sp k1
    refine dd [4,5,6,7,8,9,10,11,12,13,14,15,16,17,18,19,20,21] ?_;refine XD.nil ?_
   all_goals
    refine xx 3 ?_
    have hcl: ¬cl I n=true:=(fun e=>by have:=hct.1 e;omega);rw [if_neg hcl] at hout hlef
    refine X.fall ⟨rfl,rfl,?_⟩
    simp only [ca,na];rw [hout,hlef];exact leA
 simp only [ca,na];rw [hbl];have hol:=Es I I.length
 refine xl 3 ?_;refine XO.know 68 (.slice (some ⟨go,0,none⟩) (Mz I I.length).length I.length) rfl (by rw [hol]) ?_
 refine V3 call155 (Pb (q:= [lsH Value.bool 4 (some ⟨go,0,none⟩) I.length (Mz I I.length)]) (R:=cl I) (o:=Mz I I.length) (Sees.lsH _) hol (fun j hj=>by rw [O9 (by omega) (Nat.le_refl _),decide_eq_true (by omega),Bool.true_and]) hA hLn hW hWn h0I hL) ?_
 rintro _ _ ⟨a1,c1,a2,c2,rfl⟩ _ e_;simp only [ca,na] at e_;subst e_
 refine ox 1 ?_;refine X.fall ⟨rfl,F4 ?_⟩
 exact Lv.ret (q':=pto nt (.cells [.string nm,.int .i64 lo,.slice a1 (Wb (cl I) I).length c1,.slice a2 (Z1 (cl I) 0 L).length c2,.slice wa W.length wc].toArray 96 (0,0))::rsH Zx 4 48 a1 c1 (Wb (cl I) I)::lsH I64 3 a2 c2 (Z1 (cl I) 0 L)::lsH I64 3 wa wc (W.map (Uk (cl I)))::q) func105 (V4 results105) ⟨_,rfl,a1,c1,a2,c2,rfl⟩ leA
end
structure ThOk (t:Cod):Prop where
 a: ∀ i∈t.ins,jm i=true→0≤i.a∧i.a.toNat<t.ins.length
 b: ∀ i∈t.ins,0≤i.a
 ln:t.lines.length=t.ins.length
 n:t.ins.length≤65536
 s: ∃ D,Snd t.ins D
section
variable {l:List Ins}{D:Nat→Int}
theorem leadS_lt (hA: ∀ i∈l,jm i=true→0≤i.a∧i.a.toNat<l.length){a:Nat}(ha:a<l.length):leadS l a<l.length:=by
 unfold leadS
 cases e:led l (l.length+1) a with
 |none=>exact ha
 |some j=>exact led_lt (fun i hi hc=>(hA i hi (by unfold jm;rw [hc];decide)).2) ha e
theorem stra_A (hA: ∀ i∈l,jm i=true→0≤i.a∧i.a.toNat<l.length): ∀ i∈Zy l,jm i=true→0≤i.a∧i.a.toNat<(Zy l).length:=by
 intro i hi hj
 obtain ⟨x,hx,rfl⟩:=List.mem_map.1 hi
 rw [mv_jm] at hj
 rw [Yq]
 unfold Ins.mv
 rw [if_pos hj]
 exact ⟨Int.natCast_nonneg _,by simp only [Int.toNat_natCast];exact leadS_lt hA (hA x hx hj).2⟩
theorem S4 (hb: ∀ i∈l,0≤i.a): ∀ i∈Zy l,0≤i.a:=by
 intro i hi
 obtain ⟨x,hx,rfl⟩:=List.mem_map.1 hi
 unfold Ins.mv
 split
 · exact Int.natCast_nonneg _
 exact hb x hx
theorem nxt_jm {i:Ins}(hj:jm i=true)(a:Int):i.a∈nxt i a:=by
 have hc:19≤i.c∧i.c≤21:=by unfold jm at hj;simpa using hj
 unfold nxt
 rw [if_neg (by omega)]
 split
 · exact List.mem_singleton_self _
 rw [if_pos (by omega)];split<;>simp
theorem Da (l:List Ins):(prI l).length=kb (unr (Zy l)) l.length:=by unfold prI;rw [N0,Yq]
theorem pri_A (h:Snd (Zy l) D)(hb: ∀ i∈Zy l,0≤i.a): ∀ i∈prI l,jm i=true→0≤i.a∧i.a.toNat<(prI l).length:=by
 intro i hi hj
 obtain ⟨k,hk,rfl⟩:=List.getElem_of_mem hi
 have hk2:=hk
 rw [Da] at hk2
 obtain ⟨p,hp,hr,rfl⟩:=De hk2
 have hx:(prI l).getD (kb (unr (Zy l)) p) Zt=((Zy l).getD p Zt).mv (kb (unr (Zy l))):=En (by rw [Yq];exact hp) hr
 rw [Zr hk] at hx
 rw [hx] at hj⊢
 rw [mv_jm] at hj
 have hR:=(Na hb p).1 hr
 have hnx:=nxt_jm hj (p:Int)
 obtain ⟨i0,i1⟩:=h.in hR _ hnx
 have hra:Rch (Zy l) ((Zy l).getD p Zt).a.toNat:= .step hR hnx i0 (by omega)
 have hua:=(Na hb _).2 hra
 unfold Ins.mv
 rw [if_pos hj,Da]
 refine ⟨Int.natCast_nonneg _,?_⟩
 simp only [Int.toNat_natCast]
 rw [Yq] at i1
 exact Tm hua (by omega)
theorem pri_pos (h:Snd (Zy l) D)(hb: ∀ i∈Zy l,0≤i.a):0<(prI l).length:=by
 have hz:=(Na hb 0).2 (.zero h.pos)
 have hp:=h.pos
 rw [Yq] at hp
 rw [Da]
 have:=Tm hz hp
 omega
theorem nowR_lt {R:Nat→Bool}{n:Nat}{W:List Int}(hW: ∀ x∈W,x<0∨x.toNat<n): ∀ x∈W.map (Uk R),x<0∨x.toNat<kb R n:=by
 intro x hx
 obtain ⟨y,hy,rfl⟩:=List.mem_map.1 hx
 unfold Uk
 split
 · rename_i h;exact .inl h
 rename_i h
 split
 · left;decide
 rename_i h2
 right
 rw [Int.toNat_natCast]
 have h3:=hW y hy
 exact Tm (by simpa using h2) (by omega)
end
theorem ThOk.of {m:Mdl}{t:Cod}(h:V0 m=0)(ht:t∈m.threads):ThOk t:=by
 obtain ⟨h0,h1⟩:=vchkZ h
 obtain ⟨hin,hn⟩:=N7 h0 ht
 have hd:=h1 t ht
 have hok:=(Hi.1 h0).2.2.2.2.2.2 t ht
 have hb: ∀ i∈t.ins,0≤i.a:=fun i hi=>by
  have:=(hin i hi).2.1
  split at this<;>omega
 refine ⟨fun i hi hj=> ?_,hb,by have:=hok.2.2.1;omega,hn,_,Snd.of hin hd⟩
 have hsl: ∀ x∈t.ins,Kz m t x:=by
  unfold dOf at hd
  split at hd
  · exact absurd hd (by decide)
  split at hd
  · exact absurd hd (by decide)
  rename_i k;exact Decidable.not_not.1 k
 have hc:19≤i.c∧i.c≤21:=by unfold jm at hj;simpa using hj
 have:=(hsl i hi).1 t.ins.length (by unfold Vw;rw [if_neg (by omega),if_neg (by omega),if_neg (by omega),if_pos (by omega)])
 have:=hb i hi
 exact ⟨this,by omega⟩
theorem F7 {A B:HP}(e:A=B)(q:List HP):Le (A::q) (B::q):=by subst e;exact Le.refl _
theorem range_eq {D:List Int}{n:Nat}(h:D.length=n)(h2: ∀ i,i<n→D.getD i 0=(i:Int)):D=(List.range n).map (fun (i:Nat)=>(i:Int)):=by
 refine List.ext_getElem (by simp [h]) (fun i h1 h3=> ?_)
 rw [←Zr (z:=0) h1,h2 i (by omega)];simp
section
variable {G:World}{q:List HP}{a b A:Option Addr}{c d:Nat}{cd:Int}{l:List Ins}{ln:List Int}{o:List Bool}
variable {nt:Nat}{nm:ByteArray}{lo:Int}{ia la wa:Option Addr}{ic lc wc:Nat}{I:List Ins}{L W:List Int}
variable {t:Cod}
def stpL:List Value:= [.func (.func 103) #[] #[],.func (.func 104) #[] #[],.func (.func 105) #[] #[]]
theorem steps_ok:CallF prog G 61 [] ([]) (Ret fun v q'=>v= .agg stpL.toArray∧q'= []):=by
 refine CallF.of func61 ntmps61 rfl (fun F cs=> ?_)
 refine xo 2 ?_;refine Zm zeroValue136 fun n1=> ?_
 refine oo 3 ?_;refine Zc (Cj (cells:=stpL.toArray) zeroValue136 underlying136 sizeOf135 rfl (by kernel_rfl)) ?_
 refine stA ?_;refine ox 1 ?_;refine Zq [] func61 (rA_ results61) ⟨_,rfl,rfl,rfl⟩
set_option maxHeartbeats 8000000 in
theorem tight_ok (hq:CodQ q t)(hT:ThOk t):CallF prog G 37 [.agg (Y2 t).toArray] (q) (Ret fun v q'=> ∃ nt a1 c1 a2 c2 a3 c3,v= .pointer (some ⟨nt,0,none⟩)∧q'=pto nt (.cells [.string t.name,.int .i64 t.locals,.slice a1 (tiI t.ins).length c1,.slice a2 (tiL t.ins t.lines).length c2,.slice a3 (E2 t.ins).length c3].toArray 96 (0,0))::rsH Zx 4 48 a1 c1 (tiI t.ins)::lsH I64 3 a2 c2 (tiL t.ins t.lines)::lsH I64 3 a3 c3 (E2 t.ins)::q):=by
 refine CallF.of func37 ntmps37 rfl (fun F cs=> ?_)
 obtain ⟨hA,hb,hln,hn,D,hD⟩:=hT;have hp:=hD.pos;have hsd:=hD.stra (fun i hi _=>hb i hi);have hsA:=stra_A hA;have hsb:=S4 hb;have hpA:=pri_A hsd hsb;have hpp:=pri_pos hsd hsb;have hsl:=Yq t.ins;have hpl:=Da t.ins;have hkl:=P7 (unr (Zy t.ins)) t.ins.length;have hlen:=Zb (f:=Zx) (sz:=4) (fun _=>rfl) t.ins;have hsi:=hq.i;have hsl2:=hq.l
 refine xo 2 ?_;refine Zl fun n1=> ?_
 refine ox 3 ?_;refine drw ?_;refine Yw 0 ?_;refine dl [1] 2 ?_;refine dd [3] ?_;refine XD.ef 4 rfl (Q7 (n:=t.ins.length) rfl rfl underlying23 Uh rfl rfl (by omega) (by omega)) ?_
 rintro _ _ ⟨gw,rfl,rfl⟩
 refine ⟨hlA,?_⟩
 refine XD.le (q':=lsH I64 3 (some ⟨gw,0,none⟩) t.ins.length (List.replicate t.ins.length 0)::_) (Le.trans Zj (by rw [←Jl (f:=I64) (u:=0) rfl];exact Le.refl _)) ?_
 refine dd [5] ?_;refine XD.bx 6 (fun n2=> ?_)
 refine dd [7] ?_;refine XD.nil ?_;refine xx 1 ?_;refine drw ?_;refine dl [0,1,2] 3 ?_;refine dl [5] 6 ?_;refine Yj 4 call60 (Le.refl _) (Lt (m:=t.ins) (hsi.le leA) (by omega)) ?_
 rintro _ _ ⟨a1,c1,rfl,rfl⟩
 refine ⟨hlA,?_⟩
 refine Yj 7 call36 (Le.refl _) (Nf (m:=t.lines) (hsl2.le leA) (by omega)) ?_
 rintro _ _ ⟨a2,c2,rfl,rfl⟩
 refine ⟨trivial,?_⟩
 refine dd [8,9,10] ?_;refine stD 11 ?_;refine dd [12,13,14] ?_;refine stD 15 ?_;refine XD.nil ?_;refine xl 6 ?_;refine ox 4 ?_;refine X.at (X.loop (fun (s:List Int×Nat)=>s.1.length=t.ins.length∧s.2≤t.ins.length∧ ∀ i,i<s.2→s.1.getD i 0=(i:Int)) (fun s=> [(33,.int .i64 (s.2:Int)),(32,.int .i64 (t.ins.length:Int)),(3,.pointer (some ⟨n2,0,none⟩)),(2,.pointer none)]) (fun s=>lsH I64 3 (some ⟨gw,0,none⟩) t.ins.length (s.1)::pto n2 (.cells [.string t.name,.int .i64 t.locals,.slice a1 t.ins.length c1,.slice a2 t.lines.length c2,.slice (some ⟨gw,0,none⟩) t.ins.length t.ins.length].toArray 96 (0,0))::rsH Zx 4 48 a1 c1 (t.ins)::lsH I64 3 a2 c2 (t.lines)::pto n1 (.cells (Y2 t).toArray 34 (0,0))::(q++F)) (fun s=>t.ins.length - s.2) (fun s hi_ ih=> ?_) (List.replicate t.ins.length 0,0) ⟨by simp,Nat.zero_le _,fun i h=>absurd h (Nat.not_lt_zero i)⟩) Zp leA
 try dsimp only at hi_ ih⊢
 obtain ⟨hl1,hl2,hl3⟩:=hi_
 obtain ⟨W,s⟩:=s;dsimp only at*
 refine xx 5 ?_;refine X.part 34 rfl (fun h0=> ?_) (fun h0=> ?_)
 · replace h0:=sp h0;have hlt:s<W.length:=(by omega)
   refine xl 13 ?_;refine oo 3 ?_;refine XO.ef0 (Wq (f:=I64) (l:=W) (n:=s) (u:=(s:Int)) rfl rfl sizeOf3 rfl hlt rfl rfl Zj) ?_
   rintro _ _ ⟨rfl,rfl⟩
   refine ox 6 ?_;refine X.at (ih (W.set s (s:Int),s+1) ⟨by rw [List.length_set];exact hl1,by dsimp only;omega,fun i hi=>by dsimp only at hi⊢;rw [Vc hlt];split;(rename_i e;rw [e]);exact hl3 i (by omega)⟩ (by dsimp only;omega)) Zp leA
 replace h0:=sp h0;have hW:W=(List.range t.ins.length).map (fun (i:Nat)=>(i:Int)):=range_eq hl1 (fun i hi=>hl3 i (by omega));clear hl2 hl3 ih h0
 have hWl:W.length=t.ins.length:=hl1;have hWr: ∀ x∈W,x<0∨x.toNat<(Zy t.ins).length:=(fun x hx=>by rw [hW] at hx;obtain ⟨i,hi,rfl⟩:=List.mem_map.1 hx;right;have:=List.mem_range.1 hi;omega)
 refine xo 5 ?_;refine V3 call61 (steps_ok) ?_;rintro _ _ ⟨rfl,rfl⟩ _ e_;simp only [ca,na] at e_;subst e_
 refine ox 3 ?_;refine X.loop1 ?_;refine xx 5 ?_;refine X.kt 46 ?_;refine xo 6 ?_;refine Zc (Wz (v:= .func (.func 103) #[] #[]) rfl rfl underlying136 sizeOf135 isAgg135 (by omega) (by omega) rfl) ?_
 refine oo 5 ?_;refine XO.le (Le.trans Zj (F7 (A:=pto n2 (.cells [.string t.name,.int .i64 t.locals,.slice a1 t.ins.length c1,.slice a2 t.lines.length c2,.slice (some ⟨gw,0,none⟩) t.ins.length t.ins.length].toArray 96 (0,0))) (B:=pto n2 (.cells [.string t.name,.int .i64 t.locals,.slice a1 t.ins.length c1,.slice a2 t.lines.length c2,.slice (some ⟨gw,0,none⟩) W.length t.ins.length].toArray 96 (0,0))) (by rw [hWl]) _)) ?_
 refine XO.cV (Q0 call103 (Gx (ia:=a1) (ic:=c1) (la:=a2) (lc:=c2) (wa:=some ⟨gw,0,none⟩) (wc:=t.ins.length) (I:=t.ins) (L:=t.lines) (W:=W) (q:= []) hA (by omega) hn)) ?_
 rintro _ _ rfl _ e_;simp only [ca,na] at e_;subst e_
 refine ox 6 ?_;refine X.inLoop ?_;refine xx 5 ?_;refine X.kt 46 ?_;refine xo 6 ?_;refine Zc (Wz (v:= .func (.func 104) #[] #[]) rfl rfl underlying136 sizeOf135 isAgg135 (by omega) (by omega) rfl) ?_
 refine oo 5 ?_;refine XO.le (Le.trans Zj (F7 (A:=pto n2 (.cells [.string t.name,.int .i64 t.locals,.slice a1 t.ins.length c1,.slice a2 t.lines.length c2,.slice (some ⟨gw,0,none⟩) W.length t.ins.length].toArray 96 (0,0))) (B:=pto n2 (.cells [.string t.name,.int .i64 t.locals,.slice a1 (Zy t.ins).length c1,.slice a2 t.lines.length c2,.slice (some ⟨gw,0,none⟩) W.length t.ins.length].toArray 96 (0,0))) (by rw [hsl]) _)) ?_
 refine XO.cV (Q0 call104 (prune_ok (q:= []) (I:=Zy t.ins) (L:=t.lines) (W:=W) (ia:=a1) (ic:=c1) (la:=a2) (lc:=c2) (wa:=some ⟨gw,0,none⟩) (wc:=t.ins.length) hsA (by omega) hWr (by omega) (by omega) (by omega) hsb (fun j hj y hy=>(hsd.in hj y hy).2))) ?_
 rintro _ _ ⟨a3,c3,a4,c4,rfl⟩ _ e_;simp only [ca,na] at e_;subst e_
 refine ox 6 ?_;refine X.inLoop ?_;refine xx 5 ?_;refine X.kt 46 ?_;refine xo 6 ?_;refine Zc (Wz (v:= .func (.func 105) #[] #[]) rfl rfl underlying136 sizeOf135 isAgg135 (by omega) (by omega) rfl) ?_
 refine oo 5 ?_;refine XO.le (Le.trans Zj (F7 (A:=pto n2 (.cells [.string t.name,.int .i64 t.locals,.slice a3 (prI t.ins).length c3,.slice a4 (Z1 (unr (Zy t.ins)) 0 t.lines).length c4,.slice (some ⟨gw,0,none⟩) W.length t.ins.length].toArray 96 (0,0))) (B:=pto n2 (.cells [.string t.name,.int .i64 t.locals,.slice a3 (prI t.ins).length c3,.slice a4 (Z1 (unr (Zy t.ins)) 0 t.lines).length c4,.slice (some ⟨gw,0,none⟩) (W.map (Uk (unr (Zy t.ins)))).length t.ins.length].toArray 96 (0,0))) (by rw [List.length_map]) _)) ?_
 refine XO.cV (Q0 call105 (close_ok (q:= []) (I:=prI t.ins) (L:=Z1 (unr (Zy t.ins)) 0 t.lines) (W:=W.map (Uk (unr (Zy t.ins)))) (ia:=a3) (ic:=c3) (la:=a4) (lc:=c4) (wa:=some ⟨gw,0,none⟩) (wc:=t.ins.length) hpA (by rw [Tj,hln,hpl]) (by rw [hpl,←hsl];exact nowR_lt hWr) (by rw [List.length_map];omega) hpp (by omega))) ?_
 rintro _ _ ⟨a5,c5,a6,c6,rfl⟩ _ e_;simp only [ca,na] at e_;subst e_
 refine ox 6 ?_;refine X.inLoop ?_;refine xx 5 ?_;refine kx 46 7 ?_
 have hnw:(W.map (Uk (unr (Zy t.ins)))).map (Uk (cl (prI t.ins)))=E2 t.ins:=(by rw [hW];exact nows_two t.ins)
 refine Zq (pto n2 (.cells [.string t.name,.int .i64 t.locals,.slice a5 (tiI t.ins).length c5,.slice a6 (tiL t.ins t.lines).length c6,.slice (some ⟨gw,0,none⟩) (E2 t.ins).length t.ins.length].toArray 96 (0,0))::rsH Zx 4 48 a5 c5 (tiI t.ins)::lsH I64 3 a6 c6 (tiL t.ins t.lines)::lsH I64 3 (some ⟨gw,0,none⟩) t.ins.length (E2 t.ins)::q) func37 (Zu results37 rfl) ⟨_,rfl,n2,a5,c5,a6,c6,some ⟨gw,0,none⟩,t.ins.length,rfl,rfl⟩ (by rw [←hnw];simp only [List.length_map];exact leA)
end
def CodAt (M:Hp)(x:Cod):Prop:=SlAt M x.ia x.ic x.ins.length (x.ins.flatMap Zx)∧SlAt M x.la x.lc x.lines.length (x.lines.map I64)
theorem CodAt.mono {M M':Hp}{x:Cod}(e:Hle M M')(h:CodAt M x):CodAt M' x:=⟨h.1.mono e,h.2.mono e⟩
def CodsAt (M:Hp)(l:List Cod):Prop:= ∀ x∈l,CodAt M x
theorem CodsAt.mono {M M':Hp}{l:List Cod}(e:Hle M M')(h:CodsAt M l):CodsAt M' l:=fun x hx=>(h x hx).mono e
def cosM (l:List Cod):HP:=lst (fun M=>CodsAt M l) fun e h=>CodsAt.mono e h
structure MdAt (M:Hp) (m:Mdl):Prop where
 v:SlAt M m.va m.vc m.vars.length (m.vars.map I64)
 a:SlAt M m.aa m.ac m.arrays.length (m.arrays.map I64)
 c:SlAt M m.ca m.cc m.chans.length (m.chans.map I64)
 t:SlAt M m.ta m.tc m.threads.length (m.threads.flatMap Y2)
 x:CodsAt M m.threads
theorem MdAt.mono {M M':Hp}{m:Mdl}(e:Hle M M')(h:MdAt M m):MdAt M' m:=⟨h.v.mono e,h.a.mono e,h.c.mono e,h.t.mono e,h.x.mono e⟩
def mdM (m:Mdl):HP:=lst (fun M=>MdAt M m) fun e h=>MdAt.mono e h
def MdB (m:Mdl):Prop:=m.vars.length≤9223372036854775807∧m.arrays.length≤9223372036854775807∧m.chans.length≤9223372036854775807∧m.threads.length≤9223372036854775807∧m.arrays.length≤m.ac∧ ∀ x∈m.threads,x.name.size≤9223372036854775807∧x.ins.length≤9223372036854775807∧x.lines.length≤9223372036854775807
theorem Ox {q:List HP}{m:Mdl}(h:Kn q fun M=>MdAt M m)(b:MdB m):MdlQ q m:=
 ⟨Kn.sees (h.imp fun _ k=>k.v.2.2),Kn.sees (h.imp fun _ k=>k.a.2.2),Kn.sees (h.imp fun _ k=>k.c.2.2),Kn.sees (h.imp fun _ k=>k.t.2.2),
  fun x hx=>⟨Kn.sees (h.imp fun _ k=>(k.x x hx).1.2.2),Kn.sees (h.imp fun _ k=>(k.x x hx).2.2.2),(b.2.2.2.2.2 x hx).1,(b.2.2.2.2.2 x hx).2.1,(b.2.2.2.2.2 x hx).2.2⟩,b.1,b.2.1,b.2.2.1,b.2.2.2.1,b.2.2.2.2.1⟩
def mdZ:Mdl:=⟨[], [], [],0,0, [],none,0,none,0,none,0,none,0⟩
section
variable {P:Program}{G:World}{fr:Fc}{Q:Y3}{k:List Item}{p:PE}{ds:List Deferred}{cs:List Frame}{q q0:List HP}{ops lo:List Oper}{ty sz:Nat}{a:Option Addr}{c:Nat}
theorem Am {todo:List Item}{l:List Int}(K:X P G fr Q todo p ds cs (lst (fun M=>SlAt M a c l.length (l.map I64)) SlAt.mono::q0))(hq:Le q (Wx.lsH I64 ty a c l::q0):=by exact Zj):X P G fr Q todo p ds cs q:=by
 unfold Wx.lsH at hq
 exact .frz Kn.here K hq
theorem I4 {todo:List Item}{α:Type}{f:α→List Value}{l:List α}(K:X P G fr Q todo p ds cs (lst (fun M=>SlAt M a c l.length (l.flatMap f)) SlAt.mono::q0))(hq:Le q (Wx.rsH f sz ty a c l::q0):=by exact Zj):X P G fr Q todo p ds cs q:= .frzR Kn.here K hq
end
theorem Zz2 {q:List HP}:Le q (cosM []::q):=Kn.add (fun _ _ _ x hx=>by cases hx)
theorem T6 {q:List HP}{l:List Cod}{x:Cod}(h:Kn q fun M=>CodsAt M l)(h1:Kn q fun M=>CodAt M x):Le q (cosM (l++ [x])::q):=
 Kn.add ((h.and h1).imp fun M k y hy=>by
  rcases List.mem_append.1 hy with hy|hy
  · exact k.1 y hy
  rw [List.mem_singleton.1 hy];exact k.2)
def Cod.pl (x:Cod):ByteArray×Int×List Ins×List Int:=(x.name,x.locals,x.ins,x.lines)
def Gw (t:Cod):ByteArray×Int×List Ins×List Int:=(t.name,t.locals,tiI t.ins,tiL t.ins t.lines)
structure TigM (m m':Mdl):Prop where
 v:m'.vars=m.vars
 a:m'.arrays=m.arrays
 c:m'.chans=m.chans
 mu:m'.mutexes=m.mutexes
 co:m'.conds=m.conds
 t:m'.threads.map Cod.pl=m.threads.map Gw
theorem tiI_le (l:List Ins):(tiI l).length≤l.length:=by rw [Q1];exact P7 _ _
theorem tig_b {q:List HP}{m:Mdl}{T:List Cod}(hq:MdlQ q m)(hok: ∀ x∈m.threads,Dx x)(h:T.map Cod.pl=m.threads.map Gw): ∀ x∈T,x.name.size≤9223372036854775807∧x.ins.length≤9223372036854775807∧x.lines.length≤9223372036854775807:=by
 intro x hx
 have h1:Cod.pl x∈m.threads.map Gw:=by rw [←h];exact List.mem_map_of_mem hx
 obtain ⟨t,ht,e⟩:=List.mem_map.1 h1
 have h2:=hq.x t ht
 simp only [Cod.pl,Gw,Prod.mk.injEq] at e
 obtain ⟨e1,e2,e3,e4⟩:=e
 have h3:=tiI_le t.ins
 have h4:(tiL t.ins t.lines).length≤t.lines.length:=by rw [S0];exact D8 _ _
 have h5:=h2.n;have h6:=h2.ni;have h7:=h2.nl
 rw [←e1,←e3,←e4];exact ⟨h5,by omega,by omega⟩
theorem C8:(prog.info? 34).map (fun i=>(i.zero,i.size,i.bytes))=some (some (.agg #[.string ⟨#[]⟩,.int .i64 0,.slice none 0 0,.slice none 0 0]),4,72):=by kernel_rfl
section
variable {G:World}{q:List HP}{a b A:Option Addr}{c d:Nat}{cd:Int}{l:List Ins}{ln:List Int}{o:List Bool}
variable {nt:Nat}{nm:ByteArray}{lo:Int}{ia la wa:Option Addr}{ic lc wc:Nat}{I:List Ins}{L W:List Int}
variable {m:Mdl}{th at_:Int}
set_option maxHeartbeats 8000000 in
theorem Ck (gc:GC q)(g:GE q)(hq:MdlQ q m):CallF prog G 11 [.agg (Wo m).toArray] (q) (Ret fun v q'=>(V0 m≠0∧v= .tuple [.agg (Wo mdZ).toArray,.int .i64 2].toArray∧q'=q)∨(V0 m=0∧ ∃ m',TigM m m'∧MdB m'∧v= .tuple [.agg (Wo m').toArray,.int .i64 0].toArray∧q'=mdM m'::q)):=by
 refine CallF.of func11 ntmps11 rfl (fun F cs=> ?_)
 have hlen:=Zb (f:=Y2) (sz:=4) (fun _=>rfl) m.threads;have hnt:=hq.nt
 refine xo 2 ?_;refine Zl fun n1=> ?_
 refine Zm zeroValue26 fun n2=> ?_
 refine oo 5 ?_;refine ldA ?_;refine XO.cR call28 (Br (gc.le leA) (g.le leA) (hq.le leA)) ?_;refine ox 2 ?_;refine X.part 9 rfl (fun h0=> ?_) (fun h0=> ?_)
 · replace h0:=sp h0
   refine xo 4 ?_;refine stA ?_;refine ox 2 ?_;refine Zq (q) func11 (Hd results11) ⟨_,rfl,.inl ⟨h0,rfl,rfl⟩⟩
 replace h0:=sp h0;obtain ⟨hk0,_⟩:=vchkZ h0;have hok:=Hi.1 hk0;have hb1:=hok.2.2.1.1;have hb2:=hok.2.2.2.1.1;have hb3:=hok.2.2.2.2.1.1;have hb4:=hok.2.2.2.2.2.1
 refine xo 4 ?_;refine ldA ?_;refine Zm zeroValue26 fun n3=> ?_
 refine stA ?_;refine ox 2 ?_;refine drw ?_;refine dl [0] 1 ?_;refine dl [3] 4 ?_;refine dl [6] 7 ?_;refine Yj 2 call35 (Le.refl _) (Gh (m:=m.vars) (hq.v.le leA) (by omega)) ?_
 rintro _ _ ⟨av,cv,rfl,rfl⟩
 refine ⟨hlA,?_⟩
 refine dd [9] ?_;refine Yj 5 call36 (Le.refl _) (Nf (m:=m.arrays) (hq.a.le leA) (by omega)) ?_
 rintro _ _ ⟨ar,cr,rfl,rfl⟩
 refine ⟨hlA,?_⟩
 refine Yj 8 call36 (Le.refl _) (Nf (m:=m.chans) (hq.c.le leA) (by omega)) ?_
 rintro _ _ ⟨an,cn,rfl,rfl⟩
 refine ⟨trivial,?_⟩
 refine stD 10 ?_;refine dd [11] ?_;refine stD 12 ?_;refine dd [13] ?_;refine stD 14 ?_;refine XD.nil ?_;refine xo 3 ?_;refine st ?_;refine ol 5 ?_;refine ox 4 ?_;refine Am ?_;refine Am ?_;refine Am ?_;refine X.at (X.loop (fun (s:(List Cod×Nat)×Option Addr×Option Addr×Nat)=>s.1.2≤m.threads.length∧s.2.1=m.ta∧s.1.1.map Cod.pl=(m.threads.take s.1.2).map Gw) (fun s=> [(28,.int .i64 (s.1.2:Int)),(27,.int .i64 (m.threads.length:Int)),(26,.slice s.2.1 m.threads.length m.tc),(2,.pointer (some ⟨n2,0,none⟩)),(3,.int .i64 0),(4,.pointer (some ⟨n3,0,none⟩))]) (fun s=>rsH Y2 4 34 s.2.2.1 s.2.2.2 (s.1.1)::cosM s.1.1::pto n3 (.cells [.slice av m.vars.length cv,.slice ar m.arrays.length cr,.slice an m.chans.length cn,.int .i64 m.mutexes,.int .i64 m.conds,.slice s.2.2.1 s.1.1.length s.2.2.2].toArray 26 (0,0))::lst (fun M=>SlAt M av cv m.vars.length (m.vars.map I64)) SlAt.mono::lst (fun M=>SlAt M ar cr m.arrays.length (m.arrays.map I64)) SlAt.mono::lst (fun M=>SlAt M an cn m.chans.length (m.chans.map I64)) SlAt.mono::pto n1 (.cells (Wo m).toArray 26 (0,0))::pto n2 (.cells [.slice none 0 0,.slice none 0 0,.slice none 0 0,.int .i64 0,.int .i64 0,.slice none 0 0].toArray 26 (0,0))::(q++F)) (fun s=>m.threads.length - s.1.2) (fun s hi_ ih=> ?_) (([],0),m.ta,none,0) ⟨Nat.zero_le _,rfl,rfl⟩) Zp (Le.trans leA (Le.trans Zz2 (Yx Y2 4 34 _)))
 try dsimp only at hi_ ih⊢
 obtain ⟨hs0,hta,hmp⟩:=hi_
 obtain ⟨⟨T,s⟩,ta,a',c'⟩:=s;dsimp only at*;have hTl:T.length=s:=by have:=congrArg List.length hmp;simp at this;omega
 refine xx 5 ?_;refine X.part 29 rfl (fun h1=> ?_) (fun h1=> ?_)
 · replace h1:=sp h1;subst hta;have hth:s<m.threads.length:=(by omega);have hT:=ThOk.of h0 (List.getElem_mem hth)
   have hta0:True:=trivial
   refine xo 6 ?_;refine Y6 hq.t (by rw [hlen];omega) (fun b1 o1 e1=> ?_)
   have hs1:=hq.t;rw [e1] at hs1
   refine XO.know 26 (.slice (some ⟨b1,o1,none⟩) m.threads.length m.tc) rfl (by rw [e1]) ?_
   refine oo 1 ?_;refine Wm (n:=s) isAgg34 sizeOf34 hs1 hth ?_
   refine Zm zeroValue34 fun n4=> ?_
   refine stA ?_;refine ox 1 ?_;refine drw ?_;refine dl [0] 1 ?_;refine Yw 2 ?_;refine Yj 3 call37 (Le.refl _) (tight_ok (t:=m.threads[s]) ((hq.x _ (List.getElem_mem hth)).le leA) hT) ?_
   rintro _ _ ⟨nt,a1,c1,a2,c2,a3,c3,rfl,rfl⟩
   refine ⟨hlA,?_⟩
   obtain ⟨x,hx⟩: ∃ x:Cod,x=⟨m.threads[s].name,m.threads[s].locals,tiI m.threads[s].ins,tiL m.threads[s].ins m.threads[s].lines,a1,c1,a2,c2⟩:=⟨_,rfl⟩
   refine dd [4,5] ?_;refine Yw 6 ?_;refine XD.know 38 (.agg (Y2 x).toArray) rfl (by rw [hx];rfl) ?_
   refine XD.ef 7 rfl (Yd Y2 underlying24 C8 rfl rfl (fun _=>rfl) rfl) ?_
   rintro _ _ ⟨gx,rfl,rfl⟩
   refine ⟨hlA,?_⟩
   refine XD.ef 8 rfl (Zo (f:=Y2) (l:=T) (m:= [x]) underlying24 C8 rfl rfl (fun _=>rfl) rfl rfl Zj ((Sees.rsH _).le Zj) (fun _=>rfl) (by simp only [List.length_cons,List.length_nil];omega) (by simp only [List.length_cons,List.length_nil];omega)) ?_
   rintro _ _ ⟨a4,c4,rfl,rfl⟩
   refine ⟨trivial,?_⟩
   refine dd [9] ?_;refine stD 10 ?_;refine XD.nil ?_;refine xx 5 ?_;refine I4 (f:=Zx) (a:=a1) (c:=c1) (l:=tiI m.threads[s].ins) (sz:=4) (ty:=48) ?_
   refine Am (a:=a2) (c:=c2) (l:=tiL m.threads[s].ins m.threads[s].lines) (ty:=3) ?_
   refine X.le (T6 (l:=T) (x:=x) knA (by subst hx;exact Kn.and (knA (φ:=fun M=>SlAt M a1 c1 (tiI m.threads[s].ins).length ((tiI m.threads[s].ins).flatMap Zx))) (knA (φ:=fun M=>SlAt M a2 c2 (tiL m.threads[s].ins m.threads[s].lines).length ((tiL m.threads[s].ins m.threads[s].lines).map I64))))) ?_
   have hmp2:(T++ [x]).map Cod.pl=(m.threads.take (s+1)).map Gw:=(by rw [List.take_succ_eq_append_getElem hth,List.map_append,List.map_append,hmp,hx];rfl)
   refine X.at (ih ((T++ [x],s+1),some ⟨b1,o1,none⟩,a4,c4) ⟨by dsimp only;omega,e1.symm,hmp2⟩ (by dsimp only;omega)) Zp leA
 replace h1:=sp h1;obtain rfl:s=m.threads.length:=(by omega);rw [List.take_length] at hmp
 refine xo 4 ?_;refine ldA ?_;refine stA ?_;refine ox 2 ?_;refine I4 (f:=Y2) (a:=a') (c:=c') (l:=T) (sz:=4) (ty:=34) ?_
 refine X.le (q':=mdM (⟨m.vars,m.arrays,m.chans,m.mutexes,m.conds,T,av,cv,ar,cr,an,cn,a',c'⟩:Mdl)::_) (Kn.add ((Kn.and (knA (φ:=fun M=>SlAt M av cv m.vars.length (m.vars.map I64))) (Kn.and (knA (φ:=fun M=>SlAt M ar cr m.arrays.length (m.arrays.map I64))) (Kn.and (knA (φ:=fun M=>SlAt M an cn m.chans.length (m.chans.map I64))) (Kn.and (knA (φ:=fun M=>SlAt M a' c' T.length (T.flatMap Y2))) (knA (φ:=fun M=>CodsAt M T)))))).imp fun M k=>⟨k.1,k.2.1,k.2.2.1,k.2.2.2.1,k.2.2.2.2⟩)) ?_
 refine X.fact (fun w s=>Kn.fact (q:=mdM (⟨m.vars,m.arrays,m.chans,m.mutexes,m.conds,T,av,cv,ar,cr,an,cn,a',c'⟩:Mdl)::_) knA (fun M (k:MdAt M (⟨m.vars,m.arrays,m.chans,m.mutexes,m.conds,T,av,cv,ar,cr,an,cn,a',c'⟩:Mdl))=>k.a.1) s) (fun hka=> ?_)
 have hpl: ∀ x∈T,x.name.size≤9223372036854775807∧x.ins.length≤9223372036854775807∧x.lines.length≤9223372036854775807:=tig_b hq hok.2.2.2.2.2.2 hmp
 refine Zq (mdM (⟨m.vars,m.arrays,m.chans,m.mutexes,m.conds,T,av,cv,ar,cr,an,cn,a',c'⟩:Mdl)::q) func11 (Hd results11) ⟨_,rfl,.inr ⟨h0,(⟨m.vars,m.arrays,m.chans,m.mutexes,m.conds,T,av,cv,ar,cr,an,cn,a',c'⟩:Mdl),⟨rfl,rfl,rfl,rfl,rfl,hmp⟩,⟨by show m.vars.length≤_;omega,by show m.arrays.length≤_;omega,by show m.chans.length≤_;omega,by show T.length≤_;omega,hka,hpl⟩,rfl,rfl⟩⟩
end
end Go.Proofs.YtgonllbkcgaliaaGreatDoor
