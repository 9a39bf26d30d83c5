/- Contracts of functions, proved by walking their code. -/
import Derived.Test.YtflkjkhijcdbaaaGreatEh
import Derived.KernelRfl
set_option maxRecDepth 100000
set_option linter.unusedVariables false
set_option linter.unusedSimpArgs false
namespace Go.Proofs.YtflkjkhijcdbaaaGreat
open Go Go.RowKit Wx Go.Proofs.Tryz
def R8 (m c:Nat)(rooms:List Int):Sy:=⟨List.replicate m (-1),List.replicate c [],rooms.map fun r=>⟨r, [],0⟩⟩
abbrev Ri (r:Int):Prop:=1≤r∧r≤16
def My (m c:Int)(rooms:List Int):Prop:=(0≤m∧m≤64)∧(0≤c∧c≤64)∧rooms.length≤64∧ ∀ r∈rooms,Ri r
instance (m c:Int) (rooms:List Int):Decidable (My m c rooms):=by unfold My;exact inferInstance
theorem newS_ok {m c:Nat}{rooms:List Int}(h:My m c rooms):(R8 m c rooms).ok 0:=by
 obtain ⟨⟨_,h1⟩,⟨_,h2⟩,h3,h4⟩:=h
 refine ⟨by simp [R8];omega,by simp [R8];omega,by simp [R8];omega,fun o ho=> ?_,fun l hl=> ?_,fun x hx=> ?_⟩
 · have:=(List.mem_replicate.1 ho).2;omega
 · have:=(List.mem_replicate.1 hl).2;subst this;simp
 obtain ⟨r,hr,rfl⟩:=List.mem_map.1 hx
 obtain ⟨a,b⟩:=h4 r hr
 exact ⟨⟨a,b⟩,by simp,by simp,by simp [Ch.items];omega,by simp⟩
def ch1 (r:Int):ChC:=⟨⟨none,0, []⟩,r,0⟩
section
variable {G:World}{q:List HP}{a b:Option Addr}{c d g p p2 i n:Nat}{σ σ2:SyC}{s s2:Sy}{k t v m at_ number mm cc:Int}{rooms:List Int}
theorem New_no (hs:Sees q a (rooms.map I64))(ok: ¬My mm cc rooms):CallF prog G 46 [.int .i64 mm,.int .i64 cc,.slice a rooms.length c] (q) (Ret fun v q'=>v= .tuple [.pointer none,.int .i64 2].toArray∧q'=q):=by
 refine CallF.of func46 ntmps46 rfl (fun F cs=> ?_)
 refine xo 11 ?_;refine Zh [13,7,6,0,1,2] ?_
 apply Zy 3 16 13 rfl
 · intro g1 M1;have h1:=sp g1
   refine oo 3 ?_;exact Zz M1 ⟨orF g1,Zw⟩
 · intro g1 M1;have h1:=sp g1
   refine oo 3 ?_;exact Zz M1 ⟨orT g1,Zw⟩
 refine oo 1 ?_;refine Zh [17,7,6,0,1,2] ?_
 apply Zy 3 20 17 rfl
 · intro g1 M1;have h1:=sp g1
   refine oo 3 ?_;exact Zz M1 ⟨orF g1,Zw⟩
 · intro g1 M1;have h1:=sp g1
   refine oo 3 ?_;exact Zz M1 ⟨orT g1,Zw⟩
 refine oo 1 ?_;refine Zh [21,7,6,0,1,2] ?_
 apply Zy 3 24 21 rfl
 · intro g1 M1;have h1:=sp g1
   refine oo 3 ?_;exact Zz M1 ⟨orF g1,Zw⟩
 · intro g1 M1;have h1:=sp g1
   refine oo 3 ?_;exact Zz M1 ⟨orT g1,Zw⟩
 refine oo 1 ?_;refine Zh [25,7,6,0,1,2] ?_
 apply Zy 4 29 25 rfl
 · intro g1 M1;have h1:=sp g1
   refine oo 4 ?_;exact Zz M1 ⟨orF g1,Zw⟩
 · intro g1 M1;have h1:=sp g1
   refine oo 4 ?_;exact Zz M1 ⟨orT g1,Zw⟩
 refine ox 1 ?_
 rcases Decidable.em ((0≤mm∧mm≤64)∧(0≤cc∧cc≤64)∧rooms.length≤64) with hf|hf
 · obtain ⟨⟨hm0,hm1⟩,⟨hc0,hc1⟩,hl⟩:=hf
   refine X.know 29 (.bool false) rfl (congrArg Value.bool (by simp;omega)) ?_
   obtain ⟨M,rfl⟩:=Int.eq_ofNat_of_zero_le hm0;obtain ⟨C,rfl⟩:=Int.eq_ofNat_of_zero_le hc0
   refine xo 5 ?_;refine XO.ef (Rg (n:=C) rfl rfl underlying173 Tryz.info191 rfl rfl (by omega) (by omega)) ?_
   rintro _ _ ⟨g,rfl,rfl⟩
   refine XO.le (q':=rsH cqs 1 191 (some ⟨g,0,none⟩) C (List.replicate C ⟨none,0, []⟩)::(q++F)) (by unfold rsH;rw [show (List.replicate C (⟨none,0, []⟩:SlV Int)).flatMap cqs=(List.replicate C (Value.slice none 0 0).cells.toList).flatten by simp [List.flatMap,cqs,Value.cells],List.length_replicate];exact leA) ?_
   refine oo 1 ?_;refine Y2 fun n1=> ?_
   refine ox 9 ?_;refine X.at (X.loop (fun (s:Nat×Option Addr×Nat)=>s.1≤M) (fun s=> [(2,.slice a rooms.length c),(8,.pointer (some ⟨n1,0,none⟩)),(34,.int .i64 (M:Int)),(35,.int .i64 (s.1:Int))]) (fun s=>pto n1 (.cells [.bool true,.slice s.2.1 (List.replicate s.1 (-1:Int)).length s.2.2,.slice (some ⟨g,0,none⟩) C C,.slice none 0 0].toArray 176 (0,0))::lsH I64 3 s.2.1 s.2.2 (List.replicate s.1 (-1))::rsH cqs 1 191 (some ⟨g,0,none⟩) C (List.replicate C ⟨none,0, []⟩)::(q++F)) (fun s=>M - s.1) (fun s hi_ ih=> ?_) (0,none,0) (by dsimp only;omega)) Zu (Le.trans leA (Le.trans (Za I64 3 _) leA))
   try dsimp only at hi_ ih⊢
   obtain hi:=hi_
   obtain ⟨i,a1,c1⟩:=s;dsimp only at*
   refine xx 5 ?_;refine X.part 36 rfl (fun h0=> ?_) (fun h0=> ?_)
   · have h0:=of_decide_eq_true h0;have hi0:i<M:=(by omega)
     refine xj 9 ?_;refine XO.ef (U9 (u:= -1) I64 underlying22 Tryz.info3 rfl rfl) ?_
     rintro _ _ ⟨g2,rfl,rfl⟩
     refine XO.ef (Yw (f:=I64) (l:=List.replicate i (-1)) (m:= [-1]) underlying22 Tryz.info3 rfl rfl rfl Zk ((Sees.lsH _).le leA) (fun _=>rfl) (by simp;omega) (by simp;omega)) ?_
     rintro _ _ ⟨a2,c2,rfl,rfl⟩
     rw [←List.replicate_succ' (n:=i)]
     refine oo 2 ?_;refine st ?_;refine ox 6 ?_;refine X.at (ih (i+1,a2,c2) (by dsimp only;omega) (by dsimp only;omega)) Zu leA
   have h0:=of_decide_eq_false h0;obtain rfl:i=M:=by omega
   clear ih
   refine xx 10 ?_;refine X.at (X.loop (fun (s:Nat×Option Addr×Nat)=>s.1≤rooms.length∧ ∀ r∈rooms.take s.1,Ri r) (fun s=> [(8,.pointer (some ⟨n1,0,none⟩)),(47,.slice a rooms.length c),(48,.int .i64 (rooms.length:Int)),(49,.int .i64 (s.1:Int))]) (fun s=>pto n1 (.cells [.bool true,.slice a1 (List.replicate i (-1:Int)).length c1,.slice (some ⟨g,0,none⟩) C C,.slice s.2.1 ((rooms.take s.1).map ch1).length s.2.2].toArray 176 (0,0))::lsH I64 3 a1 c1 (List.replicate i (-1))::rsH cqs 1 191 (some ⟨g,0,none⟩) C (List.replicate C ⟨none,0, []⟩)::rsH chs 3 180 s.2.1 s.2.2 ((rooms.take s.1).map ch1)::(q++F)) (fun s=>rooms.length - s.1) (fun s hi_ ih=> ?_) (0,none,0) ⟨by dsimp only;omega,by simp⟩) Zu (Le.trans leA (Le.trans (Zi chs 3 180 _) leA))
   try dsimp only at hi_ ih⊢
   obtain ⟨hi1,hi2⟩:=hi_
   obtain ⟨j,a3,c3⟩:=s;dsimp only at*
   refine xx 5 ?_;refine X.part 50 rfl (fun h0=> ?_) (fun h0=> ?_)
   · have h0:=of_decide_eq_true h0;have hj0:j<rooms.length:=(by omega)
     refine Yb (hs.le leA) (by simp;omega) (fun b1 o1 e_=> ?_);subst e_
     refine xj 7 ?_;refine oo 8 ?_;refine Zh [55,10,8,47,48,49] ?_
     apply Zy 3 58 55 rfl
     · intro g1 M1;have h1:=sp g1
       refine oo 3 ?_;exact Zz M1 ⟨orF g1,Zw⟩
     · intro g1 M1;have h1:=sp g1
       refine oo 3 ?_;exact Zz M1 ⟨orT g1,Zw⟩
     refine ox 1 ?_
     rcases Decidable.em (Ri rooms[j]) with hk|hk
     · refine X.know 58 (.bool false) rfl (congrArg Value.bool (by simp;omega)) ?_
       refine xj 7 ?_;refine oo 2 ?_;refine XO.ef (Z9 (u:=ch1 rooms[j]) chs underlying174 Tryz.info180 rfl rfl (fun _=>rfl) rfl) ?_
       rintro _ _ ⟨g2,rfl,rfl⟩
       have hlm:((rooms.take j).map ch1).length=j:=by simp;omega
       refine XO.ef (Z8 (l:=(rooms.take j).map ch1) (m:= [ch1 rooms[j]]) underlying174 Tryz.info180 rfl rfl (fun _=>rfl) rfl rfl Zk ((Sees.rsH _).le leA) (fun _=>rfl) (by simp;omega) (by simp;omega)) ?_
       rintro _ _ ⟨a4,c4,rfl,rfl⟩
       rw [show (rooms.take j).map ch1++ [ch1 rooms[j]]=(rooms.take (j+1)).map ch1 by rw [List.take_succ_eq_append_getElem hj0,List.map_append];rfl]
       refine oo 2 ?_;refine st ?_;refine ox 6 ?_;refine X.at (ih (j+1,a4,c4) ⟨by dsimp only;omega,by dsimp only;rw [List.take_succ_eq_append_getElem hj0];intro y hy;rcases List.mem_append.1 hy with hy|hy;exact hi2 y hy;rw [List.mem_singleton.1 hy];exact hk⟩ (by dsimp only;omega)) Zu leA
     refine X.know 58 (.bool true) rfl (congrArg Value.bool (by simp;omega)) ?_
     refine xx 6 ?_;refine Zq (q) func46 (Wn results46 rfl rfl) ⟨_,rfl,rfl,rfl⟩
   have h0:=of_decide_eq_false h0;obtain rfl:j=rooms.length:=by omega
   rw [List.take_length] at*
   exact absurd ⟨⟨by omega,by omega⟩,⟨by omega,by omega⟩,hl,hi2⟩ ok
 refine X.know 29 (.bool true) rfl (congrArg Value.bool (by simp;omega)) ?_
 refine xx 6 ?_;refine Zq (q) func46 (Wn results46 rfl rfl) ⟨_,rfl,rfl,rfl⟩
theorem New_ok (hs:Sees q a (rooms.map I64))(ok:My mm cc rooms):CallF prog G 46 [.int .i64 mm,.int .i64 cc,.slice a rooms.length c] (q) (Ret fun v q'=> ∃ p σ,Real σ (R8 mm.toNat cc.toNat rooms)∧v= .tuple [.pointer (some ⟨p,0,none⟩),.int .i64 0].toArray∧q'=syL p σ++q):=by
 refine CallF.of func46 ntmps46 rfl (fun F cs=> ?_)
 refine xo 11 ?_;refine Zh [13,7,6,0,1,2] ?_
 apply Zy 3 16 13 rfl
 · intro g1 M1;have h1:=sp g1
   refine oo 3 ?_;exact Zz M1 ⟨orF g1,Zw⟩
 · intro g1 M1;have h1:=sp g1
   refine oo 3 ?_;exact Zz M1 ⟨orT g1,Zw⟩
 refine oo 1 ?_;refine Zh [17,7,6,0,1,2] ?_
 apply Zy 3 20 17 rfl
 · intro g1 M1;have h1:=sp g1
   refine oo 3 ?_;exact Zz M1 ⟨orF g1,Zw⟩
 · intro g1 M1;have h1:=sp g1
   refine oo 3 ?_;exact Zz M1 ⟨orT g1,Zw⟩
 refine oo 1 ?_;refine Zh [21,7,6,0,1,2] ?_
 apply Zy 3 24 21 rfl
 · intro g1 M1;have h1:=sp g1
   refine oo 3 ?_;exact Zz M1 ⟨orF g1,Zw⟩
 · intro g1 M1;have h1:=sp g1
   refine oo 3 ?_;exact Zz M1 ⟨orT g1,Zw⟩
 refine oo 1 ?_;refine Zh [25,7,6,0,1,2] ?_
 apply Zy 4 29 25 rfl
 · intro g1 M1;have h1:=sp g1
   refine oo 4 ?_;exact Zz M1 ⟨orF g1,Zw⟩
 · intro g1 M1;have h1:=sp g1
   refine oo 4 ?_;exact Zz M1 ⟨orT g1,Zw⟩
 refine ox 1 ?_
 rcases Decidable.em ((0≤mm∧mm≤64)∧(0≤cc∧cc≤64)∧rooms.length≤64) with hf|hf
 · obtain ⟨⟨hm0,hm1⟩,⟨hc0,hc1⟩,hl⟩:=hf
   refine X.know 29 (.bool false) rfl (congrArg Value.bool (by simp;omega)) ?_
   obtain ⟨M,rfl⟩:=Int.eq_ofNat_of_zero_le hm0;obtain ⟨C,rfl⟩:=Int.eq_ofNat_of_zero_le hc0
   refine xo 5 ?_;refine XO.ef (Rg (n:=C) rfl rfl underlying173 Tryz.info191 rfl rfl (by omega) (by omega)) ?_
   rintro _ _ ⟨g,rfl,rfl⟩
   refine XO.le (q':=rsH cqs 1 191 (some ⟨g,0,none⟩) C (List.replicate C ⟨none,0, []⟩)::(q++F)) (by unfold rsH;rw [show (List.replicate C (⟨none,0, []⟩:SlV Int)).flatMap cqs=(List.replicate C (Value.slice none 0 0).cells.toList).flatten by simp [List.flatMap,cqs,Value.cells],List.length_replicate];exact leA) ?_
   refine oo 1 ?_;refine Y2 fun n1=> ?_
   refine ox 9 ?_;refine X.at (X.loop (fun (s:Nat×Option Addr×Nat)=>s.1≤M) (fun s=> [(2,.slice a rooms.length c),(8,.pointer (some ⟨n1,0,none⟩)),(34,.int .i64 (M:Int)),(35,.int .i64 (s.1:Int))]) (fun s=>pto n1 (.cells [.bool true,.slice s.2.1 (List.replicate s.1 (-1:Int)).length s.2.2,.slice (some ⟨g,0,none⟩) C C,.slice none 0 0].toArray 176 (0,0))::lsH I64 3 s.2.1 s.2.2 (List.replicate s.1 (-1))::rsH cqs 1 191 (some ⟨g,0,none⟩) C (List.replicate C ⟨none,0, []⟩)::(q++F)) (fun s=>M - s.1) (fun s hi_ ih=> ?_) (0,none,0) (by dsimp only;omega)) Zu (Le.trans leA (Le.trans (Za I64 3 _) leA))
   try dsimp only at hi_ ih⊢
   obtain hi:=hi_
   obtain ⟨i,a1,c1⟩:=s;dsimp only at*
   refine xx 5 ?_;refine X.part 36 rfl (fun h0=> ?_) (fun h0=> ?_)
   · have h0:=of_decide_eq_true h0;have hi0:i<M:=(by omega)
     refine xj 9 ?_;refine XO.ef (U9 (u:= -1) I64 underlying22 Tryz.info3 rfl rfl) ?_
     rintro _ _ ⟨g2,rfl,rfl⟩
     refine XO.ef (Yw (f:=I64) (l:=List.replicate i (-1)) (m:= [-1]) underlying22 Tryz.info3 rfl rfl rfl Zk ((Sees.lsH _).le leA) (fun _=>rfl) (by simp;omega) (by simp;omega)) ?_
     rintro _ _ ⟨a2,c2,rfl,rfl⟩
     rw [←List.replicate_succ' (n:=i)]
     refine oo 2 ?_;refine st ?_;refine ox 6 ?_;refine X.at (ih (i+1,a2,c2) (by dsimp only;omega) (by dsimp only;omega)) Zu leA
   have h0:=of_decide_eq_false h0;obtain rfl:i=M:=by omega
   clear ih
   refine xx 10 ?_;refine X.at (X.loop (fun (s:Nat×Option Addr×Nat)=>s.1≤rooms.length∧ ∀ r∈rooms.take s.1,Ri r) (fun s=> [(8,.pointer (some ⟨n1,0,none⟩)),(47,.slice a rooms.length c),(48,.int .i64 (rooms.length:Int)),(49,.int .i64 (s.1:Int))]) (fun s=>pto n1 (.cells [.bool true,.slice a1 (List.replicate i (-1:Int)).length c1,.slice (some ⟨g,0,none⟩) C C,.slice s.2.1 ((rooms.take s.1).map ch1).length s.2.2].toArray 176 (0,0))::lsH I64 3 a1 c1 (List.replicate i (-1))::rsH cqs 1 191 (some ⟨g,0,none⟩) C (List.replicate C ⟨none,0, []⟩)::rsH chs 3 180 s.2.1 s.2.2 ((rooms.take s.1).map ch1)::(q++F)) (fun s=>rooms.length - s.1) (fun s hi_ ih=> ?_) (0,none,0) ⟨by dsimp only;omega,by simp⟩) Zu (Le.trans leA (Le.trans (Zi chs 3 180 _) leA))
   try dsimp only at hi_ ih⊢
   obtain ⟨hi1,hi2⟩:=hi_
   obtain ⟨j,a3,c3⟩:=s;dsimp only at*
   refine xx 5 ?_;refine X.part 50 rfl (fun h0=> ?_) (fun h0=> ?_)
   · have h0:=of_decide_eq_true h0;have hj0:j<rooms.length:=(by omega)
     refine Yb (hs.le leA) (by simp;omega) (fun b1 o1 e_=> ?_);subst e_
     refine xj 7 ?_;refine oo 8 ?_;refine Zh [55,10,8,47,48,49] ?_
     apply Zy 3 58 55 rfl
     · intro g1 M1;have h1:=sp g1
       refine oo 3 ?_;exact Zz M1 ⟨orF g1,Zw⟩
     · intro g1 M1;have h1:=sp g1
       refine oo 3 ?_;exact Zz M1 ⟨orT g1,Zw⟩
     refine ox 1 ?_
     rcases Decidable.em (Ri rooms[j]) with hk|hk
     · refine X.know 58 (.bool false) rfl (congrArg Value.bool (by simp;omega)) ?_
       refine xj 7 ?_;refine oo 2 ?_;refine XO.ef (Z9 (u:=ch1 rooms[j]) chs underlying174 Tryz.info180 rfl rfl (fun _=>rfl) rfl) ?_
       rintro _ _ ⟨g2,rfl,rfl⟩
       have hlm:((rooms.take j).map ch1).length=j:=by simp;omega
       refine XO.ef (Z8 (l:=(rooms.take j).map ch1) (m:= [ch1 rooms[j]]) underlying174 Tryz.info180 rfl rfl (fun _=>rfl) rfl rfl Zk ((Sees.rsH _).le leA) (fun _=>rfl) (by simp;omega) (by simp;omega)) ?_
       rintro _ _ ⟨a4,c4,rfl,rfl⟩
       rw [show (rooms.take j).map ch1++ [ch1 rooms[j]]=(rooms.take (j+1)).map ch1 by rw [List.take_succ_eq_append_getElem hj0,List.map_append];rfl]
       refine oo 2 ?_;refine st ?_;refine ox 6 ?_;refine X.at (ih (j+1,a4,c4) ⟨by dsimp only;omega,by dsimp only;rw [List.take_succ_eq_append_getElem hj0];intro y hy;rcases List.mem_append.1 hy with hy|hy;exact hi2 y hy;rw [List.mem_singleton.1 hy];exact hk⟩ (by dsimp only;omega)) Zu leA
     exact absurd (ok.2.2.2 _ (List.getElem_mem hj0)) hk
   have h0:=of_decide_eq_false h0;obtain rfl:j=rooms.length:=by omega
   rw [List.take_length] at*
   refine xx 8 ?_;refine X.le (Fm (lsV 3) ⟨none,0, []⟩ (fun q=>Za I64 3 q) C _) ?_
   refine X.le (Dt (fun (x:ChC)=>lsV 2 x.q) (rooms.map ch1) (fun x hx q=>by obtain ⟨r,_,rfl⟩:=List.mem_map.1 hx;exact Za I64 2 q) _) ?_
   refine Zq ([pto n1 (.cells [.bool true,.slice a1 (List.replicate i (-1:Int)).length c1,.slice (some ⟨g,0,none⟩) C C,.slice a3 (rooms.map ch1).length c3].toArray 176 (0,0)),lsH I64 3 a1 c1 (List.replicate i (-1:Int)),rsH cqs 1 191 (some ⟨g,0,none⟩) C (List.replicate C (⟨none,0, []⟩:SlV Int)),stars ((List.replicate C (⟨none,0, []⟩:SlV Int)).map (lsV 3)),rsH chs 3 180 a3 c3 (rooms.map ch1),stars ((rooms.map ch1).map fun x=>lsV 2 x.q)]++q) func46 (Wn results46 rfl rfl) ⟨_,rfl,n1,⟨a1,c1,List.replicate i (-1),some ⟨g,0,none⟩,C,List.replicate C ⟨none,0, []⟩,a3,c3,rooms.map ch1⟩,⟨rfl,by simp [R8],by simp [R8,ch1,ChC.row,Ch.row,Ch.items,Function.comp_def]⟩,rfl,by unfold syL;simp⟩
 exact absurd ⟨ok.1,ok.2.1,ok.2.2.1⟩ hf
set_option maxHeartbeats 1000000 in
theorem Copy_ok (hR:Real σ s){N:Nat}(hs:s.ok N)(hN:N≤1000):CallF prog G 67 [.pointer (some ⟨p,0,none⟩)] ((syL p σ)) (Ret fun v q'=> ∃ p2 σ2,Real σ2 s∧v= .pointer (some ⟨p2,0,none⟩)∧q'=syL p2 σ2++syL p σ):=by
 refine CallF.of func67 ntmps67 rfl (fun F cs=> ?_)
 have ho:=hR.lo;have hc:=hR.lc;have hh:=hR.lh;have hno:=hs.no;have hnc:=hs.nc;have hnh:=hs.nh
 change X _ _ _ _ _ _ _ _ (pto p (.cells [.bool true,.slice σ.ao σ.owners.length σ.co,.slice σ.ac σ.conds.length σ.cc,.slice σ.ah σ.chans.length σ.ch].toArray 176 (0,0))::lsH I64 3 σ.ao σ.co σ.owners::rsH cqs 1 191 σ.ac σ.cc σ.conds::stars (σ.conds.map (lsV 3))::rsH chs 3 180 σ.ah σ.ch σ.chans::stars (σ.chans.map fun x=>lsV 2 x.q)::F)
 refine xo 8 ?_;refine XO.cR call106 (Yl (p:=p) clA) ?_
 refine XO.pu (Pu.not rfl) ?_;refine ox 1 ?_;refine kx 8 3 ?_;refine drw ?_;refine dl [0,1,2] 3 ?_;refine dl [5,6,7] 8 ?_;refine dl [10,11,12] 13 ?_;refine Ww 4 call70 (Le.refl _) (J9 (l:=σ.owners) (a:=σ.ao) (c:=σ.co) ((Sees.lsH _).le leA) (by omega)) ?_
 rintro _ _ ⟨ao1,co1,rfl,rfl⟩
 refine ⟨hlA,?_⟩
 refine Ww 9 call107 (Le.refl _) (O3 (l:=σ.conds) (a:=σ.ac) (c:=σ.cc) ((Sees.rsH _).le leA) (by omega)) ?_
 rintro _ _ ⟨ac1,cc1,rfl,rfl⟩
 refine ⟨hlA,?_⟩
 refine Ww 14 call108 (Le.refl _) (O2 (l:=σ.chans) (a:=σ.ah) (c:=σ.ch) ((Sees.rsH _).le leA) (by omega)) ?_
 rintro _ _ ⟨ah1,ch1,rfl,rfl⟩
 refine ⟨trivial,?_⟩
 refine dd [15] ?_;refine XD.bx 16 (fun n1=> ?_)
 refine dd [17] ?_;refine XD.nil ?_;refine xj 6 ?_;refine ox 4 ?_;refine X.at (X.loop (fun (zc:List (SlV Int))=>zc.length≤σ.conds.length∧zc.map (fun (x:SlV Int)=>x.l)=(σ.conds.take zc.length).map (fun (x:SlV Int)=>x.l)) (fun zc=> [(0,.pointer (some ⟨p,0,none⟩)),(3,.pointer (some ⟨n1,0,none⟩)),(30,.int .i64 (σ.conds.length:Int)),(31,.int .i64 (zc.length:Int))]) (fun zc=>rsH cqs 1 191 ac1 cc1 (zc++σ.conds.drop zc.length)::stars (zc.map (lsV 3))::pto n1 (.cells [.bool true,.slice ao1 σ.owners.length co1,.slice ac1 σ.conds.length cc1,.slice ah1 σ.chans.length ch1].toArray 176 (0,0))::lsH I64 3 ao1 co1 σ.owners::rsH chs 3 180 ah1 ch1 σ.chans::pto p (.cells [.bool true,.slice σ.ao σ.owners.length σ.co,.slice σ.ac σ.conds.length σ.cc,.slice σ.ah σ.chans.length σ.ch].toArray 176 (0,0))::lsH I64 3 σ.ao σ.co σ.owners::rsH cqs 1 191 σ.ac σ.cc σ.conds::stars (σ.conds.map (lsV 3))::rsH chs 3 180 σ.ah σ.ch σ.chans::stars (σ.chans.map fun x=>lsV 2 x.q)::F) (fun zc=>σ.conds.length - zc.length) (fun zc hi_ ih=> ?_) [] ⟨by simp,by simp⟩) Zu (by simp only [List.nil_append,List.drop_zero,List.length_nil];exact Le.trans leA (Le.trans (W1 _) leA))
 try dsimp only at hi_ ih⊢
 obtain ⟨hi1,hzc⟩:=hi_
 have hlf:(zc++σ.conds.drop zc.length).length=σ.conds.length:=by simp;omega
 refine xx 5 ?_;refine X.part 32 rfl (fun h0=> ?_) (fun h0=> ?_)
 · have h0:=of_decide_eq_true h0;have hi0:zc.length<σ.conds.length:=(by omega)
   refine Yk (l:=zc++σ.conds.drop zc.length) (ty:=191) (fl:=cqs) (a:=ac1) (by omega) (fun g2 e2=> ?_);rw [e2]
   refine Yk (l:=σ.conds) (ty:=191) (fl:=cqs) (a:=σ.ac) (by omega) (fun g e_=> ?_);rw [e_]
   refine X.le (N1 hi0) ?_
   have hll:σ.conds[zc.length].l.length≤1000:=hs.lenC hR hi0 hN
   refine xx 9 ?_;refine drw ?_;refine dl [0,1,2] 3 ?_;refine dl [4,5,6,7] 8 ?_;refine dd [9,10,11] ?_;refine XD.know 45 (.pointer (some ⟨g,zc.length*1,none⟩)) rfl (by simp) ?_
   refine Un 12 call89 (all_ok (f:=cqs) (sz:=1) (ty:=191) (g:=g) (l:=σ.conds) (i:=zc.length) (m:=σ.conds[zc.length].l) (a:=σ.conds[zc.length].a) (c:=σ.conds[zc.length].c) hi0 (fun _=>rfl) rfl rfl (by omega)) ?_
   rintro _ _ ⟨a5,c5,rfl,rfl⟩ _ e_;simp only [ca,na] at e_;subst e_
   refine ⟨hlA,?_⟩
   refine dd [13,14,15] ?_
   have hgi:(zc++σ.conds.drop zc.length)[zc.length]'(by omega)=σ.conds[zc.length]:=by rw [List.getElem_append_right (Nat.le_refl _)];simp
   refine XD.ef0 16 rfl (Yi (g:=g2) (f:=cqs) (sz:=1) (l:=zc++σ.conds.drop zc.length) (u:=(⟨a5,c5,σ.conds[zc.length].l⟩:SlV Int)) (n:=zc.length) (k:=0) (j:=(zc.length:Int)) (by simp [evp,lkp]) rfl sizeOf22 (fun _=>rfl) rfl (by omega) rfl (by rw [hgi];rfl) rfl rfl Zk) ?_
   rintro _ _ ⟨rfl,rfl⟩
   refine ⟨trivial,?_⟩
   refine XD.nil ?_;refine xx 5 ?_
   rw [T9 zc _ zc.length (⟨a5,c5,σ.conds[zc.length].l⟩:SlV Int) rfl (by simp;omega),List.drop_drop]
   refine X.le (Ns hi0 (a:=σ.conds[zc.length].a) (c:=σ.conds[zc.length].c) (m:=σ.conds[zc.length].l)) ?_
   rw [show σ.conds.set zc.length ⟨σ.conds[zc.length].a,σ.conds[zc.length].c,σ.conds[zc.length].l⟩=σ.conds from List.set_getElem_self hi0]
   refine X.le (q':=stars ((zc++ [(⟨a5,c5,σ.conds[zc.length].l⟩:SlV Int)]).map (lsV 3))::_) (Le.trans (show Le _ (stars (zc.map (lsV 3))::(lsV 3) (⟨a5,c5,σ.conds[zc.length].l⟩:SlV Int)::_) from Le.pick Zk Zk) (Le.stars_snoc (lsV 3) zc (⟨a5,c5,σ.conds[zc.length].l⟩:SlV Int) _)) ?_
   rw [←e2,←e_]
   rw [show zc.length+1=(zc++ [(⟨a5,c5,σ.conds[zc.length].l⟩:SlV Int)]).length by simp]
   refine X.at (ih (zc++ [(⟨a5,c5,σ.conds[zc.length].l⟩:SlV Int)]) ⟨by simp;omega,by rw [List.length_append,List.length_singleton,List.take_succ_eq_append_getElem hi0,List.map_append,List.map_append,hzc];rfl⟩ (by simp;omega)) Zu leA
 have h0:=of_decide_eq_false h0;have hlzc:zc.length=σ.conds.length:=by omega
 rw [hlzc,List.take_length] at hzc;rw [hlzc,List.drop_length,List.append_nil];clear ih hlf h0 hi1
 refine xj 8 ?_;refine ox 4 ?_;refine X.at (X.loop (fun (zh:List ChC)=>zh.length≤σ.chans.length∧zh.map (ChC.row)=(σ.chans.take zh.length).map (ChC.row)) (fun zh=> [(0,.pointer (some ⟨p,0,none⟩)),(3,.pointer (some ⟨n1,0,none⟩)),(55,.int .i64 (σ.chans.length:Int)),(56,.int .i64 (zh.length:Int))]) (fun zh=>rsH chs 3 180 ah1 ch1 (zh++σ.chans.drop zh.length)::stars (zh.map fun x=>lsV 2 x.q)::pto n1 (.cells [.bool true,.slice ao1 σ.owners.length co1,.slice ac1 σ.conds.length cc1,.slice ah1 σ.chans.length ch1].toArray 176 (0,0))::lsH I64 3 ao1 co1 σ.owners::rsH cqs 1 191 ac1 cc1 zc::stars (zc.map (lsV 3))::pto p (.cells [.bool true,.slice σ.ao σ.owners.length σ.co,.slice σ.ac σ.conds.length σ.cc,.slice σ.ah σ.chans.length σ.ch].toArray 176 (0,0))::lsH I64 3 σ.ao σ.co σ.owners::rsH cqs 1 191 σ.ac σ.cc σ.conds::stars (σ.conds.map (lsV 3))::rsH chs 3 180 σ.ah σ.ch σ.chans::stars (σ.chans.map fun x=>lsV 2 x.q)::F) (fun zh=>σ.chans.length - zh.length) (fun zh hi_ ih=> ?_) [] ⟨by simp,by simp⟩) Zu (by simp only [List.nil_append,List.drop_zero,List.length_nil];exact Le.trans leA (Le.trans (W1 _) leA))
 try dsimp only at hi_ ih⊢
 obtain ⟨hi1,hzh⟩:=hi_
 have hlf:(zh++σ.chans.drop zh.length).length=σ.chans.length:=by simp;omega
 refine xx 5 ?_;refine X.part 57 rfl (fun h0=> ?_) (fun h0=> ?_)
 · have h0:=of_decide_eq_true h0;have hi0:zh.length<σ.chans.length:=(by omega)
   refine Yk (l:=zh++σ.chans.drop zh.length) (ty:=180) (fl:=chs) (a:=ah1) (by omega) (fun g2 e2=> ?_);rw [e2]
   refine Yk (l:=σ.chans) (ty:=180) (fl:=chs) (a:=σ.ah) (by omega) (fun g e_=> ?_);rw [e_]
   refine X.le (Rb hi0) ?_
   have hll:σ.chans[zh.length].q.l.length≤1000:=hs.lenH hR hi0 hN
   refine xx 9 ?_;refine drw ?_;refine dl [0,1,2] 3 ?_;refine dl [4,5,6,7] 8 ?_;refine dd [9,10,11] ?_;refine XD.know 70 (.pointer (some ⟨g,zh.length*3,none⟩)) rfl (by simp) ?_
   refine Un 12 call92 (G5 (f:=chs) (sz:=3) (ty:=180) (g:=g) (l:=σ.chans) (i:=zh.length) (m:=σ.chans[zh.length].q.l) (a:=σ.chans[zh.length].q.a) (c:=σ.chans[zh.length].q.c) hi0 (fun _=>rfl) rfl rfl (by omega)) ?_
   rintro _ _ ⟨a5,c5,rfl,rfl⟩ _ e_;simp only [ca,na] at e_;subst e_
   refine ⟨hlA,?_⟩
   refine dd [13,14,15] ?_
   have hgi:(zh++σ.chans.drop zh.length)[zh.length]'(by omega)=σ.chans[zh.length]:=by rw [List.getElem_append_right (Nat.le_refl _)];simp
   refine XD.ef0 16 rfl (Yi (g:=g2) (f:=chs) (sz:=3) (l:=zh++σ.chans.drop zh.length) (u:=(⟨⟨a5,c5,σ.chans[zh.length].q.l⟩,σ.chans[zh.length].room,σ.chans[zh.length].sent⟩:ChC)) (n:=zh.length) (k:=0) (j:=(zh.length:Int)) (by simp [evp,lkp]) rfl sizeOf23 (fun _=>rfl) rfl (by omega) rfl (by rw [hgi];rfl) rfl rfl Zk) ?_
   rintro _ _ ⟨rfl,rfl⟩
   refine ⟨trivial,?_⟩
   refine XD.nil ?_;refine xx 5 ?_
   rw [T9 zh _ zh.length (⟨⟨a5,c5,σ.chans[zh.length].q.l⟩,σ.chans[zh.length].room,σ.chans[zh.length].sent⟩:ChC) rfl (by simp;omega),List.drop_drop]
   refine X.le (N0 hi0 σ.chans[zh.length]) ?_
   rw [show σ.chans.set zh.length σ.chans[zh.length]=σ.chans from List.set_getElem_self hi0]
   refine X.le (q':=stars ((zh++ [(⟨⟨a5,c5,σ.chans[zh.length].q.l⟩,σ.chans[zh.length].room,σ.chans[zh.length].sent⟩:ChC)]).map (fun (x:ChC)=>lsV 2 x.q))::_) (Le.trans (show Le _ (stars (zh.map (fun (x:ChC)=>lsV 2 x.q))::(fun (x:ChC)=>lsV 2 x.q) (⟨⟨a5,c5,σ.chans[zh.length].q.l⟩,σ.chans[zh.length].room,σ.chans[zh.length].sent⟩:ChC)::_) from Le.pick Zk Zk) (Le.stars_snoc (fun (x:ChC)=>lsV 2 x.q) zh (⟨⟨a5,c5,σ.chans[zh.length].q.l⟩,σ.chans[zh.length].room,σ.chans[zh.length].sent⟩:ChC) _)) ?_
   rw [←e2,←e_]
   rw [show zh.length+1=(zh++ [(⟨⟨a5,c5,σ.chans[zh.length].q.l⟩,σ.chans[zh.length].room,σ.chans[zh.length].sent⟩:ChC)]).length by simp]
   refine X.at (ih (zh++ [(⟨⟨a5,c5,σ.chans[zh.length].q.l⟩,σ.chans[zh.length].room,σ.chans[zh.length].sent⟩:ChC)]) ⟨by simp;omega,by rw [List.length_append,List.length_singleton,List.take_succ_eq_append_getElem hi0,List.map_append,List.map_append,hzh];rfl⟩ (by simp;omega)) Zu leA
 have h0:=of_decide_eq_false h0;have hlzh:zh.length=σ.chans.length:=by omega
 rw [hlzh,List.take_length] at hzh;rw [hlzh,List.drop_length,List.append_nil];clear ih hlf h0 hi1
 refine xx 7 ?_;refine Zq ([pto n1 (.cells [.bool true,.slice ao1 σ.owners.length co1,.slice ac1 σ.conds.length cc1,.slice ah1 σ.chans.length ch1].toArray 176 (0,0)),lsH I64 3 ao1 co1 σ.owners,rsH cqs 1 191 ac1 cc1 zc,stars (zc.map (lsV 3)),rsH chs 3 180 ah1 ch1 zh,stars (zh.map fun x=>lsV 2 x.q),pto p (.cells [.bool true,.slice σ.ao σ.owners.length σ.co,.slice σ.ac σ.conds.length σ.cc,.slice σ.ah σ.chans.length σ.ch].toArray 176 (0,0)),lsH I64 3 σ.ao σ.co σ.owners,rsH cqs 1 191 σ.ac σ.cc σ.conds,stars (σ.conds.map (lsV 3)),rsH chs 3 180 σ.ah σ.ch σ.chans,stars (σ.chans.map fun x=>lsV 2 x.q)]) func67 (Zm results67 rfl) ⟨_,rfl,n1,⟨ao1,co1,σ.owners,ac1,cc1,zc,ah1,ch1,zh⟩,⟨hR.o,hzc.trans hR.c,hzh.trans hR.h⟩,rfl,by unfold syL;simp [hlzc,hlzh]⟩
end
def Qg (b:Bool):Int:=if b then 1 else 0
def Wh (op a b:Int):Int×Int:=
 if op=3 then (Qg (decide (a=b)),0) else if op=4 then (Qg (decide (a≠b)),0) else if op=5 then (Qg (decide (a<b)),0) else if op=6 then (Qg (decide (a≤b)),0)
 else if (op=10∨op=11)∧b=0 then (0,1)
 else let n:=if op=7 then a+b else if op=8 then a - b else if op=9 then a*b else if op=10 then a.tdiv b else a.tmod b
  if val n then (n,0) else (0,2)
def Y8 (l:List Int):Int:=l.foldr (· + ·) 0
abbrev Ac:=Int×Bool×Int
abbrev Sn:=Int×Int×Int
structure PTr where
 decl:Int
 st:Int
 loc:List Int
 left:List PStm
 sp:List Int
structure POut where
 kind:Int
 trap:Int
 th:Int
 stmt:Int
 deriving DecidableEq
structure SS where
 cells:List Int
 sy:Sy
 ths:List PTr
 out:POut
structure PEv where
 th:Int
 stmt:Int
 woke:Bool
 trap:Int
 told:Bool
 outv:Int
 value:Int
 acc:List Ac
 syn:List Sn
structure PPr where
 vars:List Int
 arrs:List Int
 room:List Int
 mu:Int
 co:Int
 main:Int
 ths:List (Int×List PStm)
def PPr.cell (p:PPr)(a i:Int):Int:=if 0≤i∧i<p.arrs.getD a.toNat 0 then p.vars.length+Y8 (p.arrs.take a.toNat)+i else -1
abbrev Mad:=Int×Int×List Ac
mutual
def PEx.made (p:PPr)(cells loc:List Int):PEx→Mad
 | .mk k n _ slot lc op args=>
  if k=1 then (n,0, [])
  else if k=2 then (if lc=true then (loc.getD slot.toNat 0,0, []) else (cells.getD slot.toNat 0,0, [(slot,false,cells.getD slot.toNat 0)]))
  else
   let a:=(Yt p cells loc args).getD 0 (0,0, [])
   if a.2.1≠0 then a
   else if k=3 then (if p.cell slot a.1<0 then (0,3,a.2.2) else (cells.getD (p.cell slot a.1).toNat 0,0,a.2.2++ [(p.cell slot a.1,false,cells.getD (p.cell slot a.1).toNat 0)]))
   else if k=4 then ((Wh 8 0 a.1).1,(Wh 8 0 a.1).2,a.2.2)
   else if k=5 then (Qg (a.1==0),0,a.2.2)
   else if (op=1∧a.1≠0)∨(op=2∧a.1=0) then (Qg (op==1),0,a.2.2)
   else
    let b:=(Yt p cells loc args).getD 1 (0,0, [])
    if b.2.1≠0 then (b.1,b.2.1,a.2.2++b.2.2)
    else if op≤2 then (Qg (b.1 !=0),0,a.2.2++b.2.2)
    else ((Wh op a.1 b.1).1,(Wh op a.1 b.1).2,a.2.2++b.2.2)
def Yt (p:PPr)(cells loc:List Int):List PEx→List Mad
 | []=> []
 |e::r=>e.made p cells loc::Yt p cells loc r
end
abbrev zStm:PStm:= .mk 0 0 0 em em (.mk 0 0 em 0 false 0 []) (.mk 0 0 em 0 false 0 []) [] [] 0 0 0 false
abbrev zTr:PTr:=⟨0,0, [], [], []⟩
def SS.th (s:SS)(n:Nat):PTr:=s.ths.getD n zTr
def PTr.next (t:PTr):PStm:=t.left.headD zStm
def SS.can (p:PPr)(s:SS)(n:Nat):Bool:=
 let t:=s.th n
 if s.out.kind=4∨t.st=2∨t.st=4 then false
 else match t.next with
 | .mk k _ _ _ _ _ _ _ _ _ slot other _=>
  if t.st=3 then s.sy.owners.getD other.toNat 0== -1
  else if k=6 then s.sy.owners.getD slot.toNat 0== -1||s.sy.owners.getD slot.toNat 0==n
  else if k=11 then decide (((s.sy.chans.getD slot.toNat ch0).items.length:Int)<p.room.getD slot.toNat 0)
  else if k=12 then decide (0<(s.sy.chans.getD slot.toNat ch0).items.length)
  else if k=14 then t.sp.all fun i=>(s.th i.toNat).st==4
  else true
def SS.all (p:PPr)(s:SS):List Int:=((List.range s.ths.length).filter fun n=>s.can p n).map fun (n:Nat)=>(n:Int)
def SS.stands (p:PPr)(s:SS):SS:=
 let z:= { s with out:=⟨1,0,0,0⟩ }
 if 0<(z.all p).length then z
 else { s with out:=⟨if s.ths.all fun t=>t.st==4 then 2 else 3,0,0,0⟩ }
def SS.put (s:SS)(n:Nat)(t:PTr):SS:= { s with ths:=s.ths.set n t }
def Vv (p:PPr)(d:Int):PTr:=
 let b:=p.ths.getD d.toNat (0, [])
 ⟨d,if b.2= [] then 4 else 1,List.replicate b.1.toNat 0,b.2, []⟩
def SS.into (s:SS)(n:Nat)(slot:Int)(loc:Bool)(v:Int):SS×List Ac:=
 if loc=true then (s.put n { s.th n with loc:=(s.th n).loc.set slot.toNat v }, [])
 else ({ s with cells:=s.cells.set slot.toNat v }, [(slot,true,v)])
def SS.data (p:PPr)(s:SS)(n:Nat)(x:PStm)(ev:PEv):SS×PEv×Int:=
 match x with
 | .mk k _ _ _ _ e ix body els _ slot _ loc=>
  let t:=s.th n
  let i:Mad:=if k=3 then ix.made p s.cells t.loc else (0,0, [])
  if i.2.1≠0 then (s, { ev with acc:=i.2.2 },i.2.1)
  else
   let v:=e.made p s.cells t.loc
   let ev:= { ev with acc:=i.2.2++v.2.2 }
   if v.2.1≠0 then (s,ev,v.2.1)
   else if k=1∨k=2 then ((s.into n slot loc v.1).1, { ev with acc:=ev.acc++(s.into n slot loc v.1).2 },0)
   else if k=3 then
    if p.cell slot i.1<0 then (s,ev,3)
    else ({ s with cells:=s.cells.set (p.cell slot i.1).toNat v.1 }, { ev with acc:=ev.acc++ [(p.cell slot i.1,true,v.1)] },0)
   else if k=4 then (s.put n { t with left:=(if v.1=0 then els else body)++t.left }, { ev with value:=v.1 },0)
   else if k=5 then (s.put n { t with left:=(if v.1=0 then [] else body++ [x])++t.left }, { ev with value:=v.1 },0)
   else if k=11 then ({ s with sy:=(Vz s.sy slot v.1).1 }, { ev with syn:=ev.syn++ [(4,slot,((s.sy.chans.getD slot.toNat ch0).all.length:Int))] },0)
   else (s, { ev with told:=true,outv:=v.1 },0)
def SS.wake (s:SS):List Int→SS
 | []=>s
 |i::r=>SS.wake (s.put i.toNat { s.th i.toNat with st:=3 }) r
def SS.others (p:PPr)(s:SS)(n:Nat)(x:PStm)(ev:PEv):SS×PEv×Int:=
 match x with
 | .mk k _ _ _ _ _ _ _ _ _ slot other loc=>
  let t:=s.th n
  if k=6 then
   if s.sy.owners.getD slot.toNat 0≠ -1 then (s,ev,4)
   else ({ s with sy:=(Wi s.sy slot n).1 }, { ev with syn:=ev.syn++ [(1,slot,0)] },0)
  else if k=7 then
   if s.sy.owners.getD slot.toNat 0≠n then (s,ev,4)
   else ({ s with sy:=(Z6 s.sy slot n).1 }, { ev with syn:=ev.syn++ [(2,slot,0)] },0)
  else if k=8 then
   if s.sy.owners.getD other.toNat 0≠n then (s,ev,4)
   else
    let z:=({ s with sy:=(Ul (Z6 s.sy other n).1 slot n).1 } :SS).put n { t with st:=2,left:=x::t.left }
    (z, { ev with syn:=ev.syn++ [(2,other,0)] },0)
  else if k=9∨k=10 then
   let l:=s.sy.conds.getD slot.toNat []
   let many:=if k=10 then l.length else min 1 l.length
   let z:=s.wake (l.take many)
   ({ z with sy:=if k=10 then (J4 s.sy slot).1 else (Yr s.sy slot).1 }, { ev with syn:=ev.syn++(l.take many).map fun i=>(3,slot,i) },0)
  else if k=12 then
   let l:=(s.sy.chans.getD slot.toNat ch0).items
   let z:SS:= { s with sy:=(W5 s.sy slot).1 }
   ((z.into n other loc (l.headD 0)).1, { ev with syn:=ev.syn++ [(5,slot,((s.sy.chans.getD slot.toNat ch0).taken:Int))],acc:=ev.acc++(z.into n other loc (l.headD 0)).2 },0)
  else if k=13 then
   if 8≤s.ths.length then (s,ev,5)
   else
    let z:=s.put n { t with sp:=t.sp++ [(s.ths.length:Int)] }
    ({ z with ths:=z.ths++ [Vv p slot] }, { ev with syn:=ev.syn++ [(6,0,(s.ths.length:Int))] },0)
  else (s, { ev with syn:=ev.syn++t.sp.map fun i=>(7,0,i) },0)
def zEv (n id:Int):PEv:=⟨n,id,false,0,false,0,0, [], []⟩
def PStm.idn:PStm→Int
 | .mk _ _ _ _ _ _ _ _ _ id _ _ _=>id
def PStm.kd:PStm→Int
 | .mk k _ _ _ _ _ _ _ _ _ _ _ _=>k
def PStm.oth:PStm→Int
 | .mk _ _ _ _ _ _ _ _ _ _ _ other _=>other
def SS.did (p:PPr)(s:SS)(n:Nat):SS×PEv×Int:=
 let t:=s.th n
 let x:=t.next
 let ev:=zEv n x.idn
 let o:=s.put n { t with left:=t.left.drop 1 }
 if t.st=3 then
  let z:=s.put n { t with st:=1,left:=t.left.drop 1 }
  ({ z with sy:=(Wi s.sy x.oth n).1 }, { ev with woke:=true,syn:= [(1,x.oth,0)] },0)
 else if x.kd≤5∨x.kd=11∨x.kd=15 then o.data p n x ev else o.others p n x ev
def SS.step (p:PPr)(s:SS)(n:Nat):SS×PEv:=
 let r:=s.did p n
 let x:=(s.th n).next
 if r.2.2≠0 then ({ s with out:=⟨4,r.2.2,n,x.idn⟩ }, { zEv n x.idn with trap:=r.2.2,acc:=r.2.1.acc })
 else
  let t:=r.1.th n
  if t.left= [] then ((r.1.put n { t with st:=4 }).stands p, { r.2.1 with syn:=r.2.1.syn++ [(8,0,0)] })
  else (r.1.stands p,r.2.1)
end Go.Proofs.YtflkjkhijcdbaaaGreat
namespace Go.Proofs.YtflkjkhijcdbaaaGreat
open Go Go.RowKit Wx Go.Proofs.Tryz
attribute [local irreducible] Wx.lsH Wx.rsH Wx.stars
theorem Lr {a b:Int}(ha:val a)(hb:val b): -4611686018427387904≤a*b∧a*b≤4611686018427387904:=by
 unfold val at ha hb
 have h1:a*b≤a.natAbs*b.natAbs:=by rw [←Int.natCast_mul,←Int.natAbs_mul];omega
 have h2: -(a.natAbs*b.natAbs:Int)≤a*b:=by rw [←Int.natCast_mul,←Int.natAbs_mul];omega
 have h3:(a.natAbs:Int)*b.natAbs≤2147483648*2147483648:=by
  rw [←Int.natCast_mul]
  have:a.natAbs*b.natAbs≤2147483648*2147483648:=Nat.mul_le_mul (by omega) (by omega)
  omega
 omega
theorem La {a b:Int}(ha:val a): -2147483648≤a.tdiv b∧a.tdiv b≤2147483648:=by
 unfold val at ha
 have h:=Int.natAbs_tdiv_le_natAbs a b
 omega
theorem Ll {a b:Int}(ha:val a): -2147483648≤a.tmod b∧a.tmod b≤2147483648:=by
 unfold val at ha
 have h:(a.tmod b).natAbs≤a.natAbs:=by rw [Int.natAbs_tmod];exact Nat.mod_le _ _
 omega
def Vh (k:Int):PanicEntry:= { v:= .iface 199 (.agg [.int .i64 k].toArray),recovered:=false }
def Wl (op a b:Int):Int×Int:=if op≤2 then (Qg (b !=0),0) else Wh op a b
section
variable {G:World}{q:List HP}{n c op u z:Int}{bb:Bool}
theorem Jy:CallF prog G 79 [.int .i64 n,.int .i64 c] (q) (Ret fun v q'=>v= .bool (decide (0≤n∧n<c))∧q'=q):=by
 refine CallF.of func79 ntmps79 rfl (fun F cs=> ?_)
 refine xo 9 ?_;refine Zh [7,4,0,1] ?_
 apply Zp 4 11 7 rfl
 · intro g1 M1;have h1:=sp g1
   refine oo 4 ?_;exact Zz M1 ⟨Wj g1,Zw⟩
 · intro g1 M1;have h1:=sp g1
   refine oo 4 ?_;exact Zz M1 ⟨Wk g1,Zw⟩
 refine ox 2 ?_;refine Zq (q) func79 (Zm results79 rfl) ⟨_,rfl,congrArg Value.bool (by rw [Bool.eq_iff_iff];simp),rfl⟩
theorem Ua:CallF prog G 190 [.bool bb] (q) (Ret fun v q'=>v= .int .i64 (Qg bb)∧q'=q):=by
 refine CallF.of func190 ntmps190 rfl (fun F cs=> ?_)
 refine xx 9 ?_;refine X.part 3 rfl (fun h0=> ?_) (fun h0=> ?_)
 · refine xx 5 ?_;refine Zq (q) func190 (Zm results190 rfl) ⟨_,rfl,by rw [show bb=true by simpa using h0];rfl,rfl⟩
 refine xx 6 ?_;refine Zq (q) func190 (Zm results190 rfl) ⟨_,rfl,by rw [show bb=false by simpa using h0];rfl,rfl⟩
theorem Kz:CallF prog G 144 [.bool bb] (q) (Ret fun v q'=>v= .int .i64 (Qg bb)∧q'=q):=by
 refine CallF.of func144 ntmps144 rfl (fun F cs=> ?_)
 refine xx 9 ?_;refine X.part 3 rfl (fun h0=> ?_) (fun h0=> ?_)
 · refine xx 5 ?_;refine Zq (q) func144 (Zm results144 rfl) ⟨_,rfl,by rw [show bb=true by simpa using h0];rfl,rfl⟩
 refine xx 6 ?_;refine Zq (q) func144 (Zm results144 rfl) ⟨_,rfl,by rw [show bb=false by simpa using h0];rfl,rfl⟩
set_option maxHeartbeats 4000000 in
theorem two05_ok (ho:3≤op∧op≤11)(hu:val u)(hz:val z):CallF prog G 143 [.int .i64 op,.int .i64 u,.int .i64 z] (q) (Ret fun v q'=>v= .tuple [.int .i64 (Wh op u z).1,.int .i64 (Wh op u z).2].toArray∧q'=q):=by
 refine CallF.of func143 ntmps143 rfl (fun F cs=> ?_)
 have hu2:=hu;have hz2:=hz;unfold val at hu2 hz2
 have hcase:op=3∨op=4∨op=5∨op=6∨op=7∨op=8∨op=9∨op=10∨op=11:=by omega
 rcases hcase with rfl|rfl|rfl|rfl|rfl|rfl|rfl|rfl|rfl
 · refine xx 20 ?_;refine X.kt 10 ?_;refine xo 6 ?_;refine XO.cR call144 (Kz) ?_;refine ox 3 ?_;refine Zq (q) func143 (Wn results143 rfl rfl) ⟨_,rfl,by simp [Wh]<;>first|rfl|(congr 1;rw [Bool.eq_iff_iff];simp),rfl⟩
 · refine xx 20 ?_;refine kx 10 6 ?_;refine X.kt 16 ?_;refine xo 6 ?_;refine XO.cR call144 (Kz) ?_;refine ox 3 ?_;refine Zq (q) func143 (Wn results143 rfl rfl) ⟨_,rfl,by simp [Wh]<;>first|rfl|(congr 1;rw [Bool.eq_iff_iff];simp),rfl⟩
 iterate 4
  focus
   refine xx 20 ?_;refine kx 10 6 ?_;refine kx 16 6 ?_
  rotate_left
 focus
  have hm:=Lr hu hz
  refine xx 20 ?_;refine kx 10 6 ?_;refine kx 16 6 ?_;refine kx 22 6 ?_;refine kx 28 6 ?_;refine kx 34 6 ?_;refine kx 39 6 ?_;refine X.kt 44 ?_;refine xo 4 ?_;refine XO.pu (Pu.mul rfl rfl (by omega) (by omega)) ?_
  refine oo 9 ?_;refine Zh [65,8,7,6] ?_
  apply Zy 3 68 65 rfl
  · intro g1 M1;have h1:=sp g1
    refine oo 3 ?_;exact Zz M1 ⟨orF g1,Zw⟩
  · intro g1 M1;have h1:=sp g1
    refine oo 3 ?_;exact Zz M1 ⟨orT g1,Zw⟩
  refine ox 1 ?_;refine X.part 68 rfl (fun h1=> ?_) (fun h1=> ?_)
  focus
   replace h1:=sp h1
   refine xx 6 ?_
  rotate_left
  focus
   replace h1:=sp h1
   refine xx 8 ?_
 rotate_left 2
 · have hm:=La (b:=z) hu
   refine xx 20 ?_;refine kx 10 6 ?_;refine kx 16 6 ?_;refine kx 22 6 ?_;refine kx 28 6 ?_;refine kx 34 6 ?_;refine kx 39 6 ?_;refine kx 44 6 ?_;refine X.kt 49 ?_;refine xx 7 ?_;refine X.part 52 rfl (fun h1=> ?_) (fun h1=> ?_)
   · replace h1:=sp h1
     refine xx 6 ?_;refine Zq (q) func143 (Wn results143 rfl rfl) ⟨_,rfl,by first|(simp [Wh,h1];done)|(unfold Wh val;simp [h1];omega)|(unfold Wh val;simp only [h1];simp;grind),rfl⟩
   replace h1:=sp h1
   refine xo 5 ?_;refine XO.pu (Fb rfl rfl (by omega)) ?_
   refine XO.know 55 (.int .i64 (u.tdiv z)) rfl (congrArg (Value.int .i64) (show IntKind.i64.wrap (u.tdiv z)=u.tdiv z from Uz (by omega) (by omega))) ?_
   refine oo 9 ?_;refine Zh [65,8,7,6] ?_
   apply Zy 3 68 65 rfl
   · intro g2 M2;have h2:=sp g2
     refine oo 3 ?_;exact Zz M2 ⟨orF g2,Zw⟩
   · intro g2 M2;have h2:=sp g2
     refine oo 3 ?_;exact Zz M2 ⟨orT g2,Zw⟩
   refine ox 1 ?_;refine X.part 68 rfl (fun h2=> ?_) (fun h2=> ?_)
   focus
    replace h2:=sp h2
    refine xx 6 ?_
   rotate_left
   focus
    replace h2:=sp h2
    refine xx 8 ?_
   all_goals
    refine Zq (q) func143 (Wn results143 rfl rfl) ⟨_,rfl,by first|(simp [Wh,h1,h2];done)|(unfold Wh val;simp [h1,h2];omega)|(unfold Wh val;simp only [h1,h2];simp;grind),rfl⟩
 · have hm:=Ll (b:=z) hu
   refine xx 20 ?_;refine kx 10 6 ?_;refine kx 16 6 ?_;refine kx 22 6 ?_;refine kx 28 6 ?_;refine kx 34 6 ?_;refine kx 39 6 ?_;refine kx 44 6 ?_;refine kx 49 6 ?_;refine X.kt 56 ?_;refine xx 7 ?_;refine X.part 59 rfl (fun h1=> ?_) (fun h1=> ?_)
   · replace h1:=sp h1
     refine xx 6 ?_;refine Zq (q) func143 (Wn results143 rfl rfl) ⟨_,rfl,by first|(simp [Wh,h1];done)|(unfold Wh val;simp [h1];omega)|(unfold Wh val;simp only [h1];simp;grind),rfl⟩
   replace h1:=sp h1
   refine xo 5 ?_;refine XO.pu (Pu.rem rfl rfl (by omega)) ?_
   refine oo 9 ?_;refine Zh [65,8,7,6] ?_
   apply Zy 3 68 65 rfl
   · intro g2 M2;have h2:=sp g2
     refine oo 3 ?_;exact Zz M2 ⟨orF g2,Zw⟩
   · intro g2 M2;have h2:=sp g2
     refine oo 3 ?_;exact Zz M2 ⟨orT g2,Zw⟩
   refine ox 1 ?_;refine X.part 68 rfl (fun h2=> ?_) (fun h2=> ?_)
   focus
    replace h2:=sp h2
    refine xx 6 ?_
   rotate_left
   focus
    replace h2:=sp h2
    refine xx 8 ?_
   all_goals
    refine Zq (q) func143 (Wn results143 rfl rfl) ⟨_,rfl,by first|(simp [Wh,h1,h2];done)|(unfold Wh val;simp [h1,h2];omega)|(unfold Wh val;simp only [h1,h2];simp;grind),rfl⟩
 · refine X.kt 22 ?_;refine xo 6 ?_;refine XO.cR call144 (Kz) ?_;refine ox 3 ?_;refine Zq (q) func143 (Wn results143 rfl rfl) ⟨_,rfl,by simp [Wh]<;>first|rfl|(congr 1;rw [Bool.eq_iff_iff];simp),rfl⟩
 · refine kx 22 6 ?_;refine X.kt 28 ?_;refine xo 6 ?_;refine XO.cR call144 (Kz) ?_;refine ox 3 ?_;refine Zq (q) func143 (Wn results143 rfl rfl) ⟨_,rfl,by simp [Wh]<;>first|rfl|(congr 1;rw [Bool.eq_iff_iff];simp),rfl⟩
 focus
  refine kx 22 6 ?_;refine kx 28 6 ?_;refine X.kt 34 ?_;refine xo 14 ?_;refine Zh [65,8,7,6] ?_
  apply Zy 3 68 65 rfl
  · intro g1 M1;have h1:=sp g1
    refine oo 3 ?_;exact Zz M1 ⟨orF g1,Zw⟩
  · intro g1 M1;have h1:=sp g1
    refine oo 3 ?_;exact Zz M1 ⟨orT g1,Zw⟩
  refine ox 1 ?_;refine X.part 68 rfl (fun h1=> ?_) (fun h1=> ?_)
  focus
   replace h1:=sp h1
   refine xx 6 ?_
  rotate_left
  focus
   replace h1:=sp h1
   refine xx 8 ?_
 rotate_left 2
 focus
  refine kx 22 6 ?_;refine kx 28 6 ?_;refine kx 34 6 ?_;refine X.kt 39 ?_;refine xo 14 ?_;refine Zh [65,8,7,6] ?_
  apply Zy 3 68 65 rfl
  · intro g1 M1;have h1:=sp g1
    refine oo 3 ?_;exact Zz M1 ⟨orF g1,Zw⟩
  · intro g1 M1;have h1:=sp g1
    refine oo 3 ?_;exact Zz M1 ⟨orT g1,Zw⟩
  refine ox 1 ?_;refine X.part 68 rfl (fun h1=> ?_) (fun h1=> ?_)
  focus
   replace h1:=sp h1
   refine xx 6 ?_
  rotate_left
  focus
   replace h1:=sp h1
   refine xx 8 ?_
 all_goals
  refine Zq (q) func143 (Wn results143 rfl rfl) ⟨_,rfl,by first|(simp [Wh,h1];done)|(unfold Wh val;simp [h1];omega)|(unfold Wh val;simp only [h1];simp;grind),rfl⟩
theorem Kb:CallF prog G 169 [.int .i64 z] (q) (RP (fun _ _=>False) (fun ch q'=>ch= [Vh z]∧q'=q)):=by
 refine CallF.of func169 ntmps169 rfl (fun F cs=> ?_)
 refine xo 4 ?_;exact XO.pn (Pn.panic rfl) (FQ.panic func169 (RP.thr ⟨rfl,rfl⟩))
theorem Ja:CallF prog G 189 [.int .i64 z] (q) (RP (fun v q'=>(val z∧v= .int .i64 z)∧q'=q) (fun ch q'=>(¬val z∧ch= [Vh 2])∧q'=q)):=by
 refine CallF.of func189 ntmps189 rfl (fun F cs=> ?_)
 refine xo 10 ?_;refine Zh [5,2,0] ?_
 apply Zy 3 8 5 rfl
 · intro g1 M1;have h1:=sp g1
   refine oo 3 ?_;exact Zz M1 ⟨orF g1,Zw⟩
 · intro g1 M1;have h1:=sp g1
   refine oo 3 ?_;exact Zz M1 ⟨orT g1,Zw⟩
 refine ox 1 ?_;refine X.part 8 rfl (fun h1=> ?_) (fun h1=> ?_)
 · replace h1:=sp h1
   refine xo 2 ?_;refine Vb call169 (Le.refl _) (Kb) ?_ ?_
   · rintro _ _ ⟨rfl,rfl⟩
     exact FQ.panic func189 (RP.thr ⟨⟨(by unfold val;omega),rfl⟩,rfl⟩)
   rintro _ _ ⟨⟩
 replace h1:=sp h1
 refine xx 7 ?_;refine Zq (q) func189 (Zm results189 rfl) (RP.ret ⟨⟨(by unfold val;omega),rfl⟩,rfl⟩)
set_option maxHeartbeats 4000000 in
theorem both_ok (ho:1≤op∧op≤11)(hu:val u)(hz:val z):CallF prog G 191 [.int .i64 op,.int .i64 u,.int .i64 z] (q) (RP (fun v q'=>((Wl op u z).2=0∧v= .int .i64 (Wl op u z).1)∧q'=q) (fun ch q'=>((Wl op u z).2≠0∧ch= [Vh (Wl op u z).2])∧q'=q)):=by
 refine CallF.of func191 ntmps191 rfl (fun F cs=> ?_)
 have hu2:=hu;have hz2:=hz;unfold val at hu2 hz2
 have hcase:op=1∨op=2∨op=3∨op=4∨op=5∨op=6∨op=7∨op=8∨op=9∨op=10∨op=11:=by omega
 rcases hcase with rfl|rfl|rfl|rfl|rfl|rfl|rfl|rfl|rfl|rfl|rfl
 · refine xx 16 ?_;refine X.kt 8 ?_;refine xo 7 ?_;refine XO.cR call190 (Ua) ?_;refine ox 2 ?_;refine Zq (q) func191 (Zm results191 rfl) (RP.ret ⟨⟨by simp [Wl,Wh],by simp [Wl,Wh]<;>first|rfl|(congr 1;rw [Bool.eq_iff_iff];simp)⟩,rfl⟩)
 · refine xx 16 ?_;refine kx 8 5 ?_;refine X.kt 8 ?_;refine xo 5 ?_;refine XO.cR call190 (Ua) ?_;refine ox 2 ?_;refine Zq (q) func191 (Zm results191 rfl) (RP.ret ⟨⟨by simp [Wl,Wh],by simp [Wl,Wh]<;>first|rfl|(congr 1;rw [Bool.eq_iff_iff];simp)⟩,rfl⟩)
 · refine xx 16 ?_;refine kx 8 5 ?_;refine kx 8 6 ?_;refine X.kt 14 ?_;refine xo 6 ?_;refine XO.cR call190 (Ua) ?_;refine ox 2 ?_;refine Zq (q) func191 (Zm results191 rfl) (RP.ret ⟨⟨by simp [Wl,Wh],by simp [Wl,Wh]<;>first|rfl|(congr 1;rw [Bool.eq_iff_iff];simp)⟩,rfl⟩)
 iterate 5
  focus
   refine xx 16 ?_;refine kx 8 5 ?_;refine kx 8 6 ?_;refine kx 14 6 ?_
  rotate_left
 focus
  have hm:=Lr hu hz
  refine xx 16 ?_;refine kx 8 5 ?_;refine kx 8 6 ?_;refine kx 14 6 ?_;refine kx 20 6 ?_;refine kx 26 6 ?_;refine kx 32 6 ?_;refine kx 38 6 ?_;refine kx 44 6 ?_;refine X.kt 50 ?_;refine xo 5 ?_;refine XO.pu (Pu.mul rfl rfl (by omega) (by omega)) ?_
  have e0:Wl 9 u z=if val (u*z) then ((u*z),0) else (0,2):=by rfl
  refine Vb call189 (Le.refl _) (Ja (z:=(u*z)) (q:=q++F)) ?_ ?_
  · rintro _ _ ⟨⟨hn,rfl⟩,rfl⟩
    exact FQ.panic func191 (RP.thr ⟨⟨by rw [e0,if_neg hn];decide,by rw [e0,if_neg hn]⟩,rfl⟩)
 rotate_left
 focus
  have hm:=La (b:=z) hu
  refine xx 16 ?_;refine kx 8 5 ?_;refine kx 8 6 ?_;refine kx 14 6 ?_;refine kx 20 6 ?_;refine kx 26 6 ?_;refine kx 32 6 ?_;refine kx 38 6 ?_;refine kx 44 6 ?_;refine kx 50 9 ?_;refine X.part 57 rfl (fun h1=> ?_) (fun h1=> ?_)
  · replace h1:=sp h1
    refine xo 2 ?_;refine Vb call169 (Le.refl _) (Kb) ?_ ?_
    · rintro _ _ ⟨rfl,rfl⟩
      exact FQ.panic func191 (RP.thr ⟨⟨by simp [Wl,Wh,h1],by simp [Wl,Wh,h1]⟩,rfl⟩)
    rintro _ _ ⟨⟩
  replace h1:=sp h1
  refine xx 8 ?_;refine X.kt 60 ?_;refine xo 5 ?_;refine XO.pu (Fb rfl rfl (by omega)) ?_
  refine XO.know 63 (.int .i64 (u.tdiv z)) rfl (congrArg (Value.int .i64) (show IntKind.i64.wrap (u.tdiv z)=u.tdiv z from Uz (by omega) (by omega))) ?_
  have e0:Wl 10 u z=if val (u.tdiv z) then ((u.tdiv z),0) else (0,2):=by unfold Wl Wh;rw [if_neg (by decide),if_neg (by decide),if_neg (by decide),if_neg (by decide),if_neg (by decide),if_neg (fun h=>h1 h.2)];rfl
  refine Vb call189 (Le.refl _) (Ja (z:=(u.tdiv z)) (q:=q++F)) ?_ ?_
  · rintro _ _ ⟨⟨hn,rfl⟩,rfl⟩
    exact FQ.panic func191 (RP.thr ⟨⟨by rw [e0,if_neg hn];decide,by rw [e0,if_neg hn]⟩,rfl⟩)
 rotate_left
 focus
  have hm:=Ll (b:=z) hu
  refine xx 16 ?_;refine kx 8 5 ?_;refine kx 8 6 ?_;refine kx 14 6 ?_;refine kx 20 6 ?_;refine kx 26 6 ?_;refine kx 32 6 ?_;refine kx 38 6 ?_;refine kx 44 6 ?_;refine kx 50 9 ?_;refine X.part 57 rfl (fun h1=> ?_) (fun h1=> ?_)
  · replace h1:=sp h1
    refine xo 2 ?_;refine Vb call169 (Le.refl _) (Kb) ?_ ?_
    · rintro _ _ ⟨rfl,rfl⟩
      exact FQ.panic func191 (RP.thr ⟨⟨by simp [Wl,Wh,h1],by simp [Wl,Wh,h1]⟩,rfl⟩)
    rintro _ _ ⟨⟩
  replace h1:=sp h1
  refine xx 8 ?_;refine Wp 60 ?_;refine xo 6 ?_;refine XO.pu (Pu.rem rfl rfl (by omega)) ?_
  have e0:Wl 11 u z=if val (u.tmod z) then ((u.tmod z),0) else (0,2):=by unfold Wl Wh;rw [if_neg (by decide),if_neg (by decide),if_neg (by decide),if_neg (by decide),if_neg (by decide),if_neg (fun h=>h1 h.2)];rfl
  refine Vb call189 (Le.refl _) (Ja (z:=(u.tmod z)) (q:=q++F)) ?_ ?_
  · rintro _ _ ⟨⟨hn,rfl⟩,rfl⟩
    exact FQ.panic func191 (RP.thr ⟨⟨by rw [e0,if_neg hn];decide,by rw [e0,if_neg hn]⟩,rfl⟩)
 rotate_left
 · refine X.kt 20 ?_;refine xo 6 ?_;refine XO.cR call190 (Ua) ?_;refine ox 2 ?_;refine Zq (q) func191 (Zm results191 rfl) (RP.ret ⟨⟨by simp [Wl,Wh],by simp [Wl,Wh]<;>first|rfl|(congr 1;rw [Bool.eq_iff_iff];simp)⟩,rfl⟩)
 · refine kx 20 6 ?_;refine X.kt 26 ?_;refine xo 6 ?_;refine XO.cR call190 (Ua) ?_;refine ox 2 ?_;refine Zq (q) func191 (Zm results191 rfl) (RP.ret ⟨⟨by simp [Wl,Wh],by simp [Wl,Wh]<;>first|rfl|(congr 1;rw [Bool.eq_iff_iff];simp)⟩,rfl⟩)
 · refine kx 20 6 ?_;refine kx 26 6 ?_;refine X.kt 32 ?_;refine xo 6 ?_;refine XO.cR call190 (Ua) ?_;refine ox 2 ?_;refine Zq (q) func191 (Zm results191 rfl) (RP.ret ⟨⟨by simp [Wl,Wh],by simp [Wl,Wh]<;>first|rfl|(congr 1;rw [Bool.eq_iff_iff];simp)⟩,rfl⟩)
 focus
  refine kx 20 6 ?_;refine kx 26 6 ?_;refine kx 32 6 ?_;refine X.kt 38 ?_;refine xo 6 ?_
  have e0:Wl 7 u z=if val (u+z) then ((u+z),0) else (0,2):=by rfl
  refine Vb call189 (Le.refl _) (Ja (z:=(u+z)) (q:=q++F)) ?_ ?_
  · rintro _ _ ⟨⟨hn,rfl⟩,rfl⟩
    exact FQ.panic func191 (RP.thr ⟨⟨by rw [e0,if_neg hn];decide,by rw [e0,if_neg hn]⟩,rfl⟩)
 rotate_left
 focus
  refine kx 20 6 ?_;refine kx 26 6 ?_;refine kx 32 6 ?_;refine kx 38 6 ?_;refine X.kt 44 ?_;refine xo 6 ?_
  have e0:Wl 8 u z=if val (u - z) then ((u - z),0) else (0,2):=by rfl
  refine Vb call189 (Le.refl _) (Ja (z:=(u - z)) (q:=q++F)) ?_ ?_
  · rintro _ _ ⟨⟨hn,rfl⟩,rfl⟩
    exact FQ.panic func191 (RP.thr ⟨⟨by rw [e0,if_neg hn];decide,by rw [e0,if_neg hn]⟩,rfl⟩)
 all_goals
  rintro _ _ ⟨⟨hv,rfl⟩,rfl⟩
  refine ox 2 ?_;refine Zq (q) func191 (Zm results191 rfl) (RP.ret ⟨⟨by rw [e0,if_pos hv],by rw [e0,if_pos hv]⟩,rfl⟩)
end
section
variable {G:World}{q:List HP}{n c lo:Int}{bb:Bool}{pa pp:Nat}{x1:Value}{g:FC}
theorem Rw (ha:CellsAt q pa 0 [.pointer (some ⟨pp,0,none⟩),x1,.int .i64 lo])(hp:CellsAt q pp 0 (pgC g)):CallF prog G 159 [.pointer (some ⟨pa,0,none⟩),.int .i64 n,.bool bb] (q) (Ret fun v q'=>v= .bool (decide (0≤n∧n<if bb=true then lo else (g.vars.l.length:Int)))∧q'=q):=by
 refine CallF.of func159 ntmps159 rfl (fun F cs=> ?_)
 refine xx 9 ?_;refine X.part 7 rfl (fun h1=> ?_) (fun h1=> ?_)
 · replace h1:=sp h1
   refine xo 7 ?_;refine ld ?_ (hc:=((ha.le leA) 2 _ rfl))
   refine XO.cR call79 (Jy) ?_;refine ox 2 ?_;refine Zq (q) func159 (Zm results159 rfl) ⟨_,rfl,by rw [if_pos h1],rfl⟩
 replace h1:=sp h1
 refine xo 8 ?_;refine ld ?_ (hc:=((ha.le leA) 0 _ rfl))
 refine oo 2 ?_;refine ld ?_ (hc:=((hp.le leA) 0 _ rfl))
 refine XO.know 21 (.slice g.vars.a g.vars.l.length g.vars.c) rfl (rfl) ?_;refine oo 1 ?_;refine XO.cR call79 (Jy) ?_;refine ox 2 ?_;refine Zq (q) func159 (Zm results159 rfl) ⟨_,rfl,by rw [if_neg (by rw [h1];decide)],rfl⟩
end
def ExAt (M:Hp)(a:Addr)(e:Ex):Prop:=SeesZ M (some a) (exC e)∧e.At M
def StAt (M:Hp)(a:Addr)(s:Stm):Prop:=SeesZ M (some a) (stC s)∧s.At M
theorem J5 {M:Hp}{a:Option Addr}{vs ws:List Value}(h:SeesZ M a vs)(k:SeesZ M a ws)(e:vs.length=ws.length):vs=ws:=by
 apply List.ext_getElem? 
 intro i
 by_cases hi:i<vs.length
 · obtain ⟨b,o,cur,ty,e1,e2,e3⟩:=h i vs[i] (List.getElem?_eq_getElem hi)
   obtain ⟨b',o',cur',ty',f1,f2,f3⟩:=k i (ws[i]'(e ▸ hi)) (List.getElem?_eq_getElem _)
   rw [e1] at f1;cases f1
   rw [e2] at f2;cases f2
   rw [e3] at f3
   rw [List.getElem?_eq_getElem hi,List.getElem?_eq_getElem (e ▸ hi)];exact f3
 rw [List.getElem?_eq_none (by omega),List.getElem?_eq_none (by omega)]
theorem Tm {α:Type}{f:α→List Value}{sz:Nat}(hf: ∀ x,(f x).length=sz){l:List α}{i k:Nat}(hi:i<l.length)(hk:k<sz):(l.flatMap f)[i*sz+k]? =(f l[i])[k]? :=by
 have h:(l.flatMap f)[i*sz+k]? =_:=congrArg (fun z:List Value=>z[i*sz+k]?) (List.take_append_drop (i*sz) (l.flatMap f)).symm
 rw [Ky hf,List.getElem?_append_right (by rw [Zv hf,List.length_take];rw [Nat.min_eq_left (by omega)];omega)] at h
 rw [h,Zv hf,List.length_take,Nat.min_eq_left (by omega),show i*sz+k - i*sz=k by omega,List.getElem?_drop]
 have e2:l.flatMap f=(l.take i).flatMap f++(f l[i]++(l.drop (i+1)).flatMap f):=by
  conv=>lhs;rw [←List.take_append_drop i l,List.flatMap_append,List.drop_eq_getElem_cons hi,List.flatMap_cons]
 rw [e2,List.getElem?_append_right (by rw [Zv hf,List.length_take,Nat.min_eq_left (by omega)];omega),Zv hf,List.length_take,Nat.min_eq_left (by omega),show i*sz+k - i*sz=k by omega,
  List.getElem?_append_left (by rw [hf];exact hk)]
theorem SeesZ.row {α:Type}{M:Hp}{f:α→List Value}{sz:Nat}{a:Option Addr}(hf: ∀ x,(f x).length=sz)(h0:0<sz){l:List α}{i:Nat}(h:SeesZ M a (l.flatMap f))(hi:i<l.length): ∃ b o,a=some ⟨b,o,none⟩∧SeesZ M (some ⟨b,o+i*sz,none⟩) (f l[i]):=by
 have hl:=hf l[i]
 obtain ⟨b,o,cur,ty,e1,e2,e3⟩:=h (i*sz+0) ((f l[i])[0]'(by omega)) (by rw [Tm hf hi h0];exact List.getElem?_eq_getElem (by omega))
 refine ⟨b,o,e1,fun k u hk=> ?_⟩
 have hk2:k<sz:=by rw [←hl];exact (List.getElem?_eq_some_iff.1 hk).1
 obtain ⟨b',o',cur',ty',f1,f2,f3⟩:=h (i*sz+k) u (by rw [Tm hf hi hk2];exact hk)
 rw [e1] at f1;cases f1
 exact ⟨b,o+i*sz,cur',ty',rfl,f2,by rw [Nat.add_assoc];exact f3⟩
theorem SeesZ.sub {M:Hp}{b o:Nat}{vs ws pre post:List Value}(h:SeesZ M (some ⟨b,o,none⟩) vs)(e:vs=pre++(ws++post)):SeesZ M (some ⟨b,o+pre.length,none⟩) ws:=fun i u hu=>by
 obtain ⟨b',o',cur,ty,e1,e2,e3⟩:=h (pre.length+i) u (by rw [e,List.getElem?_append_right (by omega),show pre.length+i - pre.length=i by omega,List.getElem?_append_left (List.getElem?_eq_some_iff.1 hu).1];exact hu)
 cases e1
 exact ⟨b,o+pre.length,cur,ty,rfl,e2,by rw [Nat.add_assoc];exact e3⟩
mutual
theorem Ex.uniq {M:Hp}: ∀ {x y:Ex},exC x=exC y→x.At M→y.At M→x=y
 | .mk k n nm sl lo op args aa ac,.mk k' n' nm' sl' lo' op' args' aa' ac',h,⟨h1,h2⟩,⟨g1,g2⟩=>by
  simp only [exC,List.cons.injEq,Value.int.injEq,Value.string.injEq,Value.bool.injEq,Value.slice.injEq,true_and,and_true] at h
  obtain ⟨rfl,rfl,rfl,rfl,rfl,rfl,rfl,hl,rfl⟩:=h
  have e:=J5 h1.2.2 g1.2.2 (by rw [Zv Z4,Zv Z4,hl])
  rw [Exs.uniq e hl h2 g2]
theorem Exs.uniq {M:Hp}: ∀ {l m:List Ex},l.flatMap exC=m.flatMap exC→l.length=m.length→Ex.Ats M l→Ex.Ats M m→l=m
 | [], [],_,_,_,_=>rfl
 | [],_::_,_,h,_,_=>by simp at h
 |_::_, [],_,h,_,_=>by simp at h
 |x::l,y::m,h,hl,⟨h1,h2⟩,⟨g1,g2⟩=>by
  rw [List.flatMap_cons,List.flatMap_cons] at h
  obtain ⟨e1,e2⟩:=List.append_inj h (by rw [Z4,Z4])
  rw [Ex.uniq e1 h1 g1,Exs.uniq e2 (by simpa using hl) h2 g2]
end
mutual
theorem Stm.uniq {M:Hp}: ∀ {x y:Stm},stC x=stC y→x.At M→y.At M→x=y
 | .mk k ln cl nm wt e ix body els ba bc ea ec id sl ot lo,.mk k' ln' cl' nm' wt' e' ix' body' els' ba' bc' ea' ec' id' sl' ot' lo',h,⟨h1,h2,⟨h3,h4⟩,h5,h6⟩,⟨g1,g2,⟨g3,g4⟩,g5,g6⟩=>by
  simp only [stC] at h
  obtain ⟨a1,a2⟩:=List.append_inj h rfl
  obtain ⟨b1,b2⟩:=List.append_inj a2 (by rw [Z4,Z4])
  obtain ⟨c1,c2⟩:=List.append_inj b2 (by rw [Z4,Z4])
  simp only [List.cons.injEq,Value.int.injEq,Value.string.injEq,Value.bool.injEq,Value.slice.injEq,true_and,and_true] at a1 c2
  obtain ⟨rfl,rfl,rfl,rfl,rfl⟩:=a1
  obtain ⟨⟨rfl,hl,rfl⟩,⟨rfl,hm,rfl⟩,rfl,rfl,rfl,rfl⟩:=c2
  have e1:=J5 h3.2.2 g3.2.2 (by rw [Zv Z3,Zv Z3,hl])
  have e2:=J5 h5.2.2 g5.2.2 (by rw [Zv Z3,Zv Z3,hm])
  rw [Ex.uniq b1 h1 g1,Ex.uniq c1 h2 g2,Stms.uniq e1 hl h4 g4,Stms.uniq e2 hm h6 g6]
theorem Stms.uniq {M:Hp}: ∀ {l m:List Stm},l.flatMap stC=m.flatMap stC→l.length=m.length→Stm.Ats M l→Stm.Ats M m→l=m
 | [], [],_,_,_,_=>rfl
 | [],_::_,_,h,_,_=>by simp at h
 |_::_, [],_,h,_,_=>by simp at h
 |x::l,y::m,h,hl,⟨h1,h2⟩,⟨g1,g2⟩=>by
  rw [List.flatMap_cons,List.flatMap_cons] at h
  obtain ⟨e1,e2⟩:=List.append_inj h (by rw [Z3,Z3])
  rw [Stm.uniq e1 h1 g1,Stms.uniq e2 (by simpa using hl) h2 g2]
end
theorem ExAt.uniq {M:Hp}{a:Addr}{x y:Ex}(h:ExAt M a x)(k:ExAt M a y):x=y:=Ex.uniq (J5 h.1 k.1 (by rw [Z4,Z4])) h.2 k.2
theorem StAt.uniq {M:Hp}{a:Addr}{x y:Stm}(h:StAt M a x)(k:StAt M a y):x=y:=Stm.uniq (J5 h.1 k.1 (by rw [Z3,Z3])) h.2 k.2
theorem SeesZ.brn {M:Hp}{a:Addr}{v:Value}{vs:List Value}{w:World}(h:SeesZ M (some a) (v::vs))(l:Hle M (wh w)):Brn w a:=by
 obtain ⟨b,o,cur,ty,e1,e2,_⟩:=h 0 v rfl
 cases e1
 exact ⟨cur,ty,l _ _ e2⟩
theorem ExAt.brn {M:Hp}{a:Addr}{x:Ex}{w:World}(h:ExAt M a x)(l:Hle M (wh w)):Brn w a:=by cases x;exact SeesZ.brn h.1 l
theorem StAt.brn {M:Hp}{a:Addr}{x:Stm}{w:World}(h:StAt M a x)(l:Hle M (wh w)):Brn w a:=by cases x;exact SeesZ.brn h.1 l
abbrev K6:=List (Addr×Value×Nat)
def ExKs (M:Hp)(n:Nat)(es:K6):Prop:= ∀ e∈es,∃ x,ExAt M e.1 x∧n<x.sz
def StKs (M:Hp)(n:Nat)(es:K6):Prop:= ∀ e∈es,∃ x,StAt M e.1 x∧n<x.sz
theorem KeysAt.ex {q:List HP}{a:Addr}{es:K6}{x:Ex}(h:Kn q fun M=>ExAt M a x∧ExKs M x.sz es):KeysAt q a es:=by
 rintro G w ⟨_,M,k,l,_,_,_,_,p⟩
 obtain ⟨h1,h2⟩:=h M k p
 refine ⟨h1.brn l,fun e he=> ?_⟩
 obtain ⟨y,h3,h4⟩:=h2 e he
 exact ⟨fun ha=>by have:=(ha ▸ h1).uniq h3;subst this;exact Nat.lt_irrefl _ h4,h3.brn l⟩
theorem KeysAt.st {q:List HP}{a:Addr}{es:K6}{x:Stm}(h:Kn q fun M=>StAt M a x∧StKs M x.sz es):KeysAt q a es:=by
 rintro G w ⟨_,M,k,l,_,_,_,_,p⟩
 obtain ⟨h1,h2⟩:=h M k p
 refine ⟨h1.brn l,fun e he=> ?_⟩
 obtain ⟨y,h3,h4⟩:=h2 e he
 exact ⟨fun ha=>by have:=(ha ▸ h1).uniq h3;subst this;exact Nat.lt_irrefl _ h4,h3.brn l⟩
theorem Ma: ∀ l:List Ex,l.length≤Qn l
 | []=>Nat.zero_le _
 |e::r=>by
  have h:=Ma r
  have h1:1≤e.sz:=by cases e;simp only [Ex.sz];omega
  simp only [Qn,List.length_cons];omega
theorem Jg: ∀ l:List Stm,l.length≤Zg l
 | []=>Nat.zero_le _
 |e::r=>by
  have h:=Jg r
  have h1:1≤e.sz:=by cases e;simp only [Stm.sz];omega
  simp only [Zg,List.length_cons];omega
section
variable {q:List HP}{a:Option Addr}{c b o i:Nat}{l:List Ex}{m:List Stm}
theorem Kn.exn {k n:Int}{nm:ByteArray}{slot:Int}{loc:Bool}{op:Int}(h:Kn q fun M=>Ex.Ats M l):Kn (lst (fun M=>SlAt M a c l.length (l.flatMap exC)) SlAt.mono::q) fun M=>(Ex.mk k n nm slot loc op l a c).At M:=
 (Kn.here.and h.there).imp fun M h=>⟨h.1,h.2⟩
theorem Kn.blM {m:List Stm}:Kn (blM a c m::q) fun M=>BlkAt M a c m:=Kn.here
theorem Kn.exsM:Kn (exsM l::q) fun M=>Ex.Ats M l:=Kn.here
theorem P7:Le q (exsM []::q):=Kn.add (fun _ _ _=>trivial)
theorem Ct {e:Ex}:Le (exsM l::exM e::q) (exsM (l++ [e])::q):=by
 have h:Kn (exsM l::exM e::q) fun M=>Ex.Ats M (l++ [e]):=(Kn.exsM.and Kn.exM.there).imp fun M h=>Yo.2 fun x hx=>by
  rcases List.mem_append.1 hx with hx|hx
  · exact Yo.1 h.1 x hx
  rw [List.mem_singleton.1 hx];exact h.2
 exact Le.trans (Kn.add (mn:=fun l h=>Ex.Ats.mono l h) h) (Le.cons _ ((Le.drop _ _).trans (Le.drop _ _)))
theorem Ce {m:List Ex}{s:Nat}(h:s<m.length):Z2 (m.take (s+1))=Z2 (m.take s)++ [m[s].er]:=by
 rw [Yy,Yy,List.take_succ_eq_append_getElem h,List.map_append];rfl
theorem Kn.exC {e:Ex}(h:Kn q fun M=>ExAt M ⟨b,o,none⟩ e):CellsAt q b o (exC e):=fun k v hk=>(Kn.sees (h.imp fun M h=>h.1)).cl hk
theorem Kn.stC {e:Stm}(h:Kn q fun M=>StAt M ⟨b,o,none⟩ e):CellsAt q b o (stC e):=fun k v hk=>(Kn.sees (h.imp fun M h=>h.1)).cl hk
theorem ExKs.down {M:Hp}{n k:Nat}{es:K6}(h:ExKs M n es)(hk:k≤n):ExKs M k es:=fun e he=>let ⟨x,h1,h2⟩:=h e he;⟨x,h1,by omega⟩
theorem StKs.down {M:Hp}{n k:Nat}{es:K6}(h:StKs M n es)(hk:k≤n):StKs M k es:=fun e he=>let ⟨x,h1,h2⟩:=h e he;⟨x,h1,by omega⟩
theorem ExKs.more {M:Hp}{n:Nat}{es:K6}{a:Addr}{v:Value}{k:Nat}{x:Ex}(h:ExKs M n es)(hx:ExAt M a x)(hn:n<x.sz):ExKs M n (es++ [(a,v,k)]):=fun e he=>by
 rcases List.mem_append.1 he with he|he
 · exact h e he
 rw [List.mem_singleton.1 he];exact ⟨x,hx,hn⟩
theorem StKs.more {M:Hp}{n:Nat}{es:K6}{a:Addr}{v:Value}{k:Nat}{x:Stm}(h:StKs M n es)(hx:StAt M a x)(hn:n<x.sz):StKs M n (es++ [(a,v,k)]):=fun e he=>by
 rcases List.mem_append.1 he with he|he
 · exact h e he
 rw [List.mem_singleton.1 he];exact ⟨x,hx,hn⟩
end
section
variable {G:World}{q:List HP}{pc m1 m2 b o k k1 k2:Nat}{a:Option Addr}{c:Nat}{es:K6}
set_option maxHeartbeats 2000000 in
theorem G1: ∀ (N:Nat) {e:Ex} {b o:Nat} {es:K6} {k:Nat} {q:List HP},e.sz≤N→N≤1000000→CellsAt q pc 0 [.map (some m1),.map (some m2)]→(Kn q fun M=>ExAt M ⟨b,o,none⟩ e∧ExKs M e.sz es)→CallF prog G 204 [.pointer (some ⟨pc,0,none⟩),.pointer (some ⟨b,o,none⟩)] (pto m2 (.map ((es).map Wz).toArray k)::q) (Ret fun v q'=> ∃ (e':Ex) (k':Nat),e'.er=e.er∧v= .agg (exC e').toArray∧q'=exM e'::pto m2 (.map ((es).map Wz).toArray k')::q):=fun N=>by
 induction N with
 |zero=>intro e b o es k q hs;exact absurd hs (by cases e;simp only [Ex.sz];omega)
 |succ N IH=> 
 intro e b o es k q hs hN hc hK
 obtain ⟨kd,n,nm,sl,lo,op,l,aa,ac⟩:=e
 refine CallF.of func204 ntmps204 rfl (fun F cs=> ?_)
 have hCe:=Kn.exC (hK.imp fun M h=>h.1)
 have hA:Kn q fun M=>SlAt M aa ac l.length (l.flatMap exC)∧Ex.Ats M l:=hK.imp fun M h=>h.1.2;have hS:=Kn.sees (hA.imp fun M h=>h.1.2.2)
 have hl:l.length+1≤N+1:=by have:=Ma l;simp only [Ex.sz] at hs;omega
 have hlen:=Zv Z4 l
 obtain ⟨J_,hJ,_,hJ2,_⟩:=info_parts Uy;have hJz:J_.size≠0:=by rw [hJ2];decide
 refine xo 2 ?_;refine XO.al zeroValue124 fun n1=> ?_
 refine oo 6 ?_;refine ld ?_ (hc:=((hc.le leA) 1 _ rfl))
 refine oo 2 ?_;refine XO.ef0 (Ew underlying306 underlying274 hJ hJz rfl rfl rfl ((KeysAt.ex hK).le leA) Zk) ?_;rintro _ _ ⟨rfl,rfl⟩
 refine oo 6 ?_;refine ld ?_ (hc:=((hc.le leA) 1 _ rfl))
 refine oo 1 ?_;refine XO.dfDel (fun cst=> ?_)
 refine oo 5 ?_;refine Pf (us:=exC (.mk kd n nm sl lo op l aa ac)) isAgg124 sizeOf124 rfl (hCe.le leA) ?_
 refine XO.al zeroValue124 fun n2=> ?_
 refine stA ?_;refine oo 4 ?_;refine st ?_;refine oo 7 ?_;refine ld ?_ (hc:=((hCe.le leA) 6 _ rfl))
 refine ox 4 ?_;refine X.at (X.loop (fun (s:(Nat×Nat)×Option Addr×Nat×List Ex)=>s.1.1≤l.length∧Z2 s.2.2.2=Z2 (l.take s.1.1)∧s.2.2.2.length=s.1.1) (fun s=> [(0,.pointer (some ⟨pc,0,none⟩)),(1,.pointer (some ⟨b,o,none⟩)),(4,.pointer (some ⟨n1,0,none⟩)),(5,.pointer (some ⟨n2,0,none⟩)),(28,.int .i64 (l.length:Int)),(29,.int .i64 (s.1.1:Int))]) (fun s=>pto n2 (.cells [.int .i64 kd,.int .i64 n,.string nm,.int .i64 sl,.bool lo,.int .i64 op,.slice s.2.1 (s.2.2.2).length s.2.2.1].toArray 124 (0,0))::pto n1 (.cells [.int .i64 0,.int .i64 0,.string ⟨#[]⟩,.int .i64 0,.bool false,.int .i64 0,.slice none 0 0].toArray 124 (0,0))::rsH exC 7 124 s.2.1 s.2.2.1 s.2.2.2::exsM s.2.2.2::pto m2 (.map (((es++ [((⟨b,o,none⟩:Addr),(.agg [].toArray:Value),k)]:K6)).map Wz).toArray s.1.2)::(q++F)) (fun s=>l.length - s.1.1) (fun s hi_ ih=> ?_) ((0,k+1),none,0, []) ⟨Nat.zero_le _,by simp [Z2],rfl⟩) Zu (Le.trans leA (Le.trans (Le.trans (Zi exC 7 124 _) P7) leA))
 try dsimp only at hi_ ih⊢
 obtain ⟨hi1,hi2,hi3⟩:=hi_
 obtain ⟨⟨i,kk⟩,a1,c1,l1⟩:=s;dsimp only at*
 refine xx 5 ?_;refine X.part 30 rfl (fun h0=> ?_) (fun h0=> ?_)
 · replace h0:=sp h0;have hlt:i<l.length:=(by omega)
   obtain ⟨x,hx⟩: ∃ x,x=l[i]:=⟨_,rfl⟩;have hxs:x.sz<Ex.sz (.mk kd n nm sl lo op l aa ac):=by rw [hx];simp only [Ex.sz];have:=W8 (List.getElem_mem hlt);omega
   refine Yb (hS.le leA) (by rw [hlen];omega) (fun ab ao e_=> ?_);subst e_
   have hKx:Kn q fun M=>ExAt M ⟨ab,ao+(i:Int).toNat*7,none⟩ x∧ExKs M x.sz (es++ [(⟨b,o,none⟩,.agg [].toArray,k)]):=hK.imp fun M h=>by
    obtain ⟨b',o',e1,e2⟩:=SeesZ.row Z4 (by decide) h.1.2.1.2.2 hlt
    cases e1
    refine ⟨⟨by rw [hx];exact e2,by rw [hx];exact Yo.1 h.1.2.2 _ (List.getElem_mem hlt)⟩,(h.2.down (Nat.le_of_lt hxs)).more h.1 hxs⟩
   refine xx 10 ?_;refine drw ?_;refine dd [0,1,2] ?_;refine ldD 3 ?_ (hc:=((hc.le leA) 1 _ rfl))
   refine dd [4,5,6] ?_;refine ldD 7 ?_ (hc:=((hCe.le leA) 6 _ rfl))
   refine dd [8,9] ?_;refine Y3 (fl:= [⟨14,7,fun g=> .pointer (some ⟨g,0,none⟩),fun g=>pto g (.cells [].toArray 309 (0,0))⟩]) ?_
   refine XF.ef 10 ⟨⟨_,rfl,rfl,rfl,rfl,rfl,rfl,fun q=>Ef.alloc zeroValue309⟩,trivial⟩ (Rd.efE (B4 underlying306 underlying274 hJ hJz rfl rfl ((KeysAt.ex hKx).le leA) Zk zeroValue309)) ?_ (hL:=(hlA (h:=by repeat first|exact trivial|refine ⟨clA,?_⟩|refine ⟨(hc.le leA) 1 _ rfl,?_⟩|refine ⟨(hCe.le leA) 6 _ rfl,?_⟩)))
   rintro _ _ ⟨rfl,rfl⟩
   refine ⟨(hlA (h:=by repeat first|exact trivial|refine ⟨clA,?_⟩|refine ⟨(hc.le leA) 1 _ rfl,?_⟩|refine ⟨(hCe.le leA) 6 _ rfl,?_⟩)),?_⟩
   refine XF.pu 11 ⟨⟨_,rfl,rfl,rfl,rfl,rfl,rfl,fun q=>Ef.alloc zeroValue309⟩,trivial⟩ (Pu.move rfl) ?_ (hL:=(hlA (h:=by repeat first|exact trivial|refine ⟨clA,?_⟩|refine ⟨(hc.le leA) 1 _ rfl,?_⟩|refine ⟨(hCe.le leA) 6 _ rfl,?_⟩)))
   refine XF.pu 12 ⟨⟨_,rfl,rfl,rfl,rfl,rfl,rfl,fun q=>Ef.alloc zeroValue309⟩,trivial⟩ (Pu.extract rfl rfl) ?_ (hL:=(hlA (h:=by repeat first|exact trivial|refine ⟨clA,?_⟩|refine ⟨(hc.le leA) 1 _ rfl,?_⟩|refine ⟨(hCe.le leA) 6 _ rfl,?_⟩)))
   refine XF.pu 13 ⟨⟨_,rfl,rfl,rfl,rfl,rfl,rfl,fun q=>Ef.alloc zeroValue309⟩,trivial⟩ (Pu.extract rfl rfl) ?_ (hL:=(hlA (h:=by repeat first|exact trivial|refine ⟨clA,?_⟩|refine ⟨(hc.le leA) 1 _ rfl,?_⟩|refine ⟨(hCe.le leA) 6 _ rfl,?_⟩)))
   refine Vw (e0:=⟨14,7,fun g=> .pointer (some ⟨g,0,none⟩),fun g=>pto g (.cells [].toArray 309 (0,0))⟩) (hnd:=by simp) 14 ⟨⟨_,rfl,rfl,rfl,rfl,rfl,rfl,fun q=>Ef.alloc zeroValue309⟩,trivial⟩ (fun ne=> ?_) (hL:=(hlA (h:=by repeat first|exact trivial|refine ⟨clA,?_⟩|refine ⟨(hc.le leA) 1 _ rfl,?_⟩|refine ⟨(hCe.le leA) 6 _ rfl,?_⟩)))
   change XF _ _ _ _ _ _ _ [] _ _ _ ((7,.pointer (some ⟨ne,0,none⟩))::_) _ _ (pto ne (.cells [].toArray 309 (0,0))::_)
   refine XF.back ?_ (hL:=(hlA (h:=by repeat first|exact trivial|refine ⟨clA,?_⟩|refine ⟨(hc.le leA) 1 _ rfl,?_⟩|refine ⟨(hCe.le leA) 6 _ rfl,?_⟩)))
   refine V9 15 ?_;refine dd [16] ?_;refine XD.nil ?_;refine xo 3 ?_;refine XO.pu (Pu.not rfl) ?_;refine ox 1 ?_;refine X.kt 47 ?_;refine xx 1 ?_;refine drw ?_;refine dl [0] 1 ?_;refine dd [2,3,4,5] ?_;refine ldD 6 ?_ (hc:=((hCe.le leA) 6 _ rfl))
   refine dd [7,8] ?_;refine Ww 9 call204 Zk (IH (by omega) (by omega) (hc.le leA) (hKx.le leA)) ?_
   rintro _ _ ⟨e2,k2,he2,rfl,rfl⟩
   refine ⟨(hlA (h:=by repeat first|exact trivial|refine ⟨clA,?_⟩|refine ⟨(hc.le leA) 1 _ rfl,?_⟩|refine ⟨(hCe.le leA) 6 _ rfl,?_⟩)),?_⟩
   refine XD.ef 10 rfl (Z9 exC underlying122 Uy rfl rfl Z4 rfl) ?_;rintro _ _ ⟨g,rfl,rfl⟩
   refine ⟨(hlA (h:=by repeat first|exact trivial|refine ⟨clA,?_⟩|refine ⟨(hc.le leA) 1 _ rfl,?_⟩|refine ⟨(hCe.le leA) 6 _ rfl,?_⟩)),?_⟩
   refine XD.ef 11 rfl (Z8 (f:=exC) (l:=l1) (m:= [e2]) underlying122 Uy rfl rfl Z4 rfl rfl Zk ((Sees.rsH _).le Zk) E5 (by simp;omega) (by simp;omega)) ?_
   rintro _ _ ⟨a3,c3,rfl,rfl⟩
   refine ⟨(hlA (h:=by repeat first|exact trivial|refine ⟨clA,?_⟩|refine ⟨(hc.le leA) 1 _ rfl,?_⟩|refine ⟨(hCe.le leA) 6 _ rfl,?_⟩)),?_⟩
   refine dd [12] ?_;refine stD 13 ?_;refine XD.nil ?_;refine xx 5 ?_;refine X.le (q':=exsM (l1++ [e2])::_) (Le.trans (Le.pick Zk Zk) Ct) ?_
   refine X.at (ih ((i+1,k2),a3,c3,l1++ [e2]) ⟨by dsimp only;omega,by dsimp only;rw [Ce hlt,←hi2,←hx,←he2,Yy,Yy,List.map_append];rfl,by dsimp only;rw [List.length_append];simp [hi3]⟩ (by dsimp only;omega)) Zu leA
 replace h0:=sp h0;obtain rfl:i=l.length:=(by omega);rw [List.take_length] at hi2;clear ih
 refine X.le (q':=rsH exC 7 124 a1 c1 l1::exsM l1::_) (Le.pick Zk Zk) ?_
 refine X.frzR (Kn.exn (k:=kd) (n:=n) (nm:=nm) (slot:=sl) (loc:=lo) (op:=op) Kn.exsM) (mn:=fun l h=>Ex.At.mono l h) ?_ (hq:=Le.refl _)
 refine xo 4 ?_;refine ldA ?_;refine stA ?_;refine ox 1 ?_;exact X.ret ⟨rfl,Lv.del (mt:=306) rfl underlying306 underlying274 hJ hJz ((KeysAt.ex hK).le leA) Zk (Lv.ret (q':=(exM (Ex.mk kd n nm sl lo op l1 a1 c1)::pto m2 (.map ((es).map Wz).toArray kk)::q)) func204 (rA_ results204) ⟨_,rfl,(Ex.mk kd n nm sl lo op l1 a1 c1),kk,by simp only [Ex.er,hi2],rfl,rfl⟩ leA)⟩
end
mutual
/-- Expressions that are not great. -/
def Stm.lm (B:Nat):Stm→Prop
 | .mk _ _ _ _ _ e ix body els _ _ _ _ _ _ _ _=>e.sz≤B∧ix.sz≤B∧Wr B body∧Wr B els
def Wr (B:Nat):List Stm→Prop
 | []=>True
 |s::r=>s.lm B∧Wr B r
end
theorem Jb {B:Nat}{x:Stm}: ∀ {l:List Stm},Wr B l→x∈l→x.lm B
 |y::r,⟨h1,h2⟩,h=>by
  rcases List.mem_cons.1 h with rfl|h
  · exact h1
  exact Jb h2 h
theorem Pm {m:List Stm}{s:Nat}(h:s<m.length):Zj (m.take (s+1))=Zj (m.take s)++ [m[s].er]:=by
 rw [Yg,Yg,List.take_succ_eq_append_getElem h,List.map_append];rfl
theorem Yq {M:Hp}{b o:Nat}{pre post:List Value}{e:Ex}{vs:List Value}(h:SeesZ M (some ⟨b,o,none⟩) vs)(hv:vs=pre++(exC e++post))(he:e.At M){n:Nat}(hn:n=o+pre.length):ExAt M ⟨b,n,none⟩ e:=hn ▸ ⟨SeesZ.sub h hv,he⟩
def CSt (G:World)(pc m1 m2 B N:Nat):Prop:= ∀ {s:Stm} {b o:Nat} {es:K6} {k1 k2:Nat} {q:List HP},s.sz≤N→s.lm B→CellsAt q pc 0 [.map (some m1),.map (some m2)]→(Kn q fun M=>StAt M ⟨b,o,none⟩ s∧StKs M s.sz es)→
 CallF prog G 187 [.pointer (some ⟨pc,0,none⟩),.pointer (some ⟨b,o,none⟩)] (pto m1 (.map ((es).map Wz).toArray k1)::pto m2 (.map (([]).map Wz).toArray k2)::q) (Ret fun v q'=> ∃ (s':Stm) (k1' k2':Nat),s'.er=s.er∧v= .agg (stC s').toArray∧q'=stM s'::pto m1 (.map ((es).map Wz).toArray k1')::pto m2 (.map (([]).map Wz).toArray k2')::q)
def CSts (G:World)(pc m1 m2 B N:Nat):Prop:= ∀ {l:List Stm} {a:Option Addr} {c:Nat} {es:K6} {k1 k2:Nat} {q:List HP},Zg l≤N→Wr B l→CellsAt q pc 0 [.map (some m1),.map (some m2)]→(Kn q fun M=>BlkAt M a c l∧StKs M (Zg l) es)→
 CallF prog G 161 [.pointer (some ⟨pc,0,none⟩),.slice a l.length c] (pto m1 (.map ((es).map Wz).toArray k1)::pto m2 (.map (([]).map Wz).toArray k2)::q) (Ret fun v q'=> ∃ (l':List Stm) (a':Option Addr) (c':Nat) (k1' k2':Nat),Zj l'=Zj l∧v= .slice a' l'.length c'∧q'=blM a' c' l'::pto m1 (.map ((es).map Wz).toArray k1')::pto m2 (.map (([]).map Wz).toArray k2')::q)
section
variable {G:World}{q:List HP}{pc m1 m2 b o k k1 k2 B N:Nat}{a:Option Addr}{c:Nat}{es:K6}
set_option maxHeartbeats 4000000 in
theorem cst_step {s:Stm}(IH:CSts G pc m1 m2 B N)(hB:B≤1000000)(hs:s.sz≤N+1)(hb:s.lm B)(hc:CellsAt q pc 0 [.map (some m1),.map (some m2)])(hK:Kn q fun M=>StAt M ⟨b,o,none⟩ s∧StKs M s.sz es):CallF prog G 187 [.pointer (some ⟨pc,0,none⟩),.pointer (some ⟨b,o,none⟩)] (pto m1 (.map ((es).map Wz).toArray k1)::pto m2 (.map (([]).map Wz).toArray k2)::q) (Ret fun v q'=> ∃ (s':Stm) (k1' k2':Nat),s'.er=s.er∧v= .agg (stC s').toArray∧q'=stM s'::pto m1 (.map ((es).map Wz).toArray k1')::pto m2 (.map (([]).map Wz).toArray k2')::q):=by
 refine CallF.of func187 ntmps187 rfl (fun F cs=> ?_)
 obtain ⟨k,ln,cl,nm,wt,⟨ek,en,enm,esl,elo,eop,el,ea,ec⟩,⟨xk,xn,xnm,xsl,xlo,xop,xl,xa,xc⟩,bd,es2,ba,bc,ea2,ec2,id,sl,ot,lo⟩:=s
 obtain ⟨hb1,hb2,hb3,hb4⟩:=hb
 have hCs:=Kn.stC (hK.imp fun M h=>h.1)
 have hKe:Kn q fun M=>ExAt M ⟨b,o+5,none⟩ (Ex.mk ek en enm esl elo eop el ea ec)∧ExKs M (Ex.sz (Ex.mk ek en enm esl elo eop el ea ec)) []:=hK.imp fun M h=>⟨Yq (pre:= [.int .i64 k,.int .i64 ln,.int .i64 cl,.string nm,.string wt]) h.1.1 rfl h.1.2.1 rfl,fun _ h=>by cases h⟩
 have hKx:Kn q fun M=>ExAt M ⟨b,o+12,none⟩ (Ex.mk xk xn xnm xsl xlo xop xl xa xc)∧ExKs M (Ex.sz (Ex.mk xk xn xnm xsl xlo xop xl xa xc)) []:=hK.imp fun M h=>⟨Yq (pre:= [.int .i64 k,.int .i64 ln,.int .i64 cl,.string nm,.string wt]++exC (Ex.mk ek en enm esl elo eop el ea ec)) h.1.1 rfl h.1.2.2.1 rfl,fun _ h=>by cases h⟩
 have hsz:Zg bd≤N∧Zg es2≤N:=by simp only [Stm.sz] at hs;omega
 have hKb:Kn q fun M=>BlkAt M ba bc bd∧StKs M (Zg bd) (es++ [((⟨b,o,none⟩:Addr),(.agg [].toArray:Value),k1)]:K6):=hK.imp fun M h=>⟨h.1.2.2.2.1,(h.2.down (by simp only [Stm.sz];omega)).more h.1 (by simp only [Stm.sz];omega)⟩
 have hKl:Kn q fun M=>BlkAt M ea2 ec2 es2∧StKs M (Zg es2) (es++ [((⟨b,o,none⟩:Addr),(.agg [].toArray:Value),k1)]:K6):=hK.imp fun M h=>⟨⟨h.1.2.2.2.2.1,h.1.2.2.2.2.2⟩,(h.2.down (by simp only [Stm.sz];omega)).more h.1 (by simp only [Stm.sz];omega)⟩
 obtain ⟨J_,hJ,_,hJ2,_⟩:=info_parts Ve;have hJz:J_.size≠0:=by rw [hJ2];decide
 refine xo 2 ?_;refine XO.al zeroValue126 fun n1=> ?_
 refine oo 6 ?_;refine ld ?_ (hc:=((hc.le leA) 0 _ rfl))
 refine oo 2 ?_;refine XO.ef0 (Ew underlying305 underlying146 hJ hJz rfl rfl rfl ((KeysAt.st hK).le leA) Zk) ?_;rintro _ _ ⟨rfl,rfl⟩
 refine oo 6 ?_;refine ld ?_ (hc:=((hc.le leA) 0 _ rfl))
 refine oo 1 ?_;refine XO.dfDel (fun cst=> ?_)
 refine oo 5 ?_;refine Pf (us:=stC (.mk k ln cl nm wt (Ex.mk ek en enm esl elo eop el ea ec) (Ex.mk xk xn xnm xsl xlo xop xl xa xc) bd es2 ba bc ea2 ec2 id sl ot lo)) isAgg126 sizeOf126 rfl (hCs.le leA) ?_
 refine XO.al zeroValue126 fun n2=> ?_
 refine stA ?_;refine ox 2 ?_;refine drw ?_;refine dd [0,1,2,3,5,6,7,8] ?_;refine Ww 4 call204 Zk (G1 B (e:=(Ex.mk ek en enm esl elo eop el ea ec)) hb1 hB (hc.le leA) (hKe.le leA)) ?_
 rintro _ _ ⟨⟨fk,fn,fnm,fsl,flo,fop,fl,fa,fc⟩,kkf,hrf,rfl,rfl⟩
 refine ⟨trivial,?_⟩
 refine dd [10] ?_;refine Ww 9 call204 Zk (G1 B (e:=(Ex.mk xk xn xnm xsl xlo xop xl xa xc)) hb2 hB (hc.le leA) (hKx.le leA)) ?_
 rintro _ _ ⟨⟨yk,yn,ynm,ysl,ylo,yop,yl,ya,yc⟩,kky,hry,rfl,rfl⟩
 refine ⟨trivial,?_⟩
 refine V9 11 ?_;refine dd [12] ?_;refine V9 13 ?_;refine XD.nil ?_;refine xx 1 ?_;refine drw ?_;refine dd [0,1,2,3] ?_;refine ldD 4 ?_ (hc:=((hCs.le leA) 19 _ rfl))
 refine dd [6,7,8,9] ?_;refine ldD 10 ?_ (hc:=((hCs.le leA) 20 _ rfl))
 refine Ww 5 call161 (Le.pick Zk Zk) (IH (l:=bd) (es:=(es++ [((⟨b,o,none⟩:Addr),(.agg [].toArray:Value),k1)]:K6)) hsz.1 hb3 (hc.le leA) (hKb.le leA)) ?_
 rintro _ _ ⟨l1,a1,c1,p1,r1,hl1,rfl,rfl⟩
 refine ⟨(hlA (h:=by repeat first|exact trivial|refine ⟨clA,?_⟩|refine ⟨(hCs.le leA) 19 _ rfl,?_⟩|refine ⟨(hCs.le leA) 20 _ rfl,?_⟩)),?_⟩
 refine dd [12] ?_;refine Ww 11 call161 (Le.pick Zk Zk) (IH (l:=es2) (es:=(es++ [((⟨b,o,none⟩:Addr),(.agg [].toArray:Value),k1)]:K6)) hsz.2 hb4 (hc.le leA) (hKl.le leA)) ?_
 rintro _ _ ⟨l2,a2,c2,p2,r2,hl2,rfl,rfl⟩
 refine ⟨trivial,?_⟩
 refine stD 13 ?_;refine dd [14] ?_;refine stD 15 ?_;refine XD.nil ?_;refine xo 2 ?_;refine ldA ?_;refine stA ?_;refine ox 1 ?_;refine X.le (q':=exM (Ex.mk fk fn fnm fsl flo fop fl fa fc)::exM (Ex.mk yk yn ynm ysl ylo yop yl ya yc)::blM a1 c1 l1::blM a2 c2 l2::_) (Le.pick Zk (Le.pick Zk (Le.pick Zk Zk))) ?_
 refine X.le (q':=stM (Stm.mk k ln cl nm wt (Ex.mk fk fn fnm fsl flo fop fl fa fc) (Ex.mk yk yn ynm ysl ylo yop yl ya yc) l1 l2 a1 c1 a2 c2 id sl ot lo)::_) (Le.trans (Kn.add (φ:=fun M=>Stm.At M (Stm.mk k ln cl nm wt (Ex.mk fk fn fnm fsl flo fop fl fa fc) (Ex.mk yk yn ynm ysl ylo yop yl ya yc) l1 l2 a1 c1 a2 c2 id sl ot lo)) (mn:=fun l h=>Stm.At.mono l h) ((Kn.exM.and (Kn.exM.there.and (Kn.blM.there.there.and Kn.blM.there.there.there))).imp fun M h=>⟨h.1,h.2.1,h.2.2.1,h.2.2.2.1,h.2.2.2.2⟩)) (Le.cons _ ((Le.drop _ _).trans ((Le.drop _ _).trans ((Le.drop _ _).trans (Le.drop _ _)))))) ?_
 exact X.ret ⟨rfl,Lv.del (mt:=305) rfl underlying305 underlying146 hJ hJz ((KeysAt.st hK).le leA) Zk (Lv.ret (q':=(stM (Stm.mk k ln cl nm wt (Ex.mk fk fn fnm fsl flo fop fl fa fc) (Ex.mk yk yn ynm ysl ylo yop yl ya yc) l1 l2 a1 c1 a2 c2 id sl ot lo)::pto m1 (.map ((es).map Wz).toArray p2)::pto m2 (.map (([]).map Wz).toArray r2)::q)) func187 (rA_ results187) ⟨_,rfl,(Stm.mk k ln cl nm wt (Ex.mk fk fn fnm fsl flo fop fl fa fc) (Ex.mk yk yn ynm ysl ylo yop yl ya yc) l1 l2 a1 c1 a2 c2 id sl ot lo),p2,r2,by simp only [Stm.er,hl1,hl2,hrf,hry],rfl,rfl⟩ leA)⟩
set_option maxHeartbeats 4000000 in
theorem D4 {l:List Stm}(IH:CSt G pc m1 m2 B N)(hN:N≤1000000)(hs:Zg l≤N)(hb:Wr B l)(hc:CellsAt q pc 0 [.map (some m1),.map (some m2)])(hK:Kn q fun M=>BlkAt M a c l∧StKs M (Zg l) es):CallF prog G 161 [.pointer (some ⟨pc,0,none⟩),.slice a l.length c] (pto m1 (.map ((es).map Wz).toArray k1)::pto m2 (.map (([]).map Wz).toArray k2)::q) (Ret fun v q'=> ∃ (l':List Stm) (a':Option Addr) (c':Nat) (k1' k2':Nat),Zj l'=Zj l∧v= .slice a' l'.length c'∧q'=blM a' c' l'::pto m1 (.map ((es).map Wz).toArray k1')::pto m2 (.map (([]).map Wz).toArray k2')::q):=by
 refine CallF.of func161 ntmps161 rfl (fun F cs=> ?_)
 have hS:=Kn.sees (hK.imp fun M h=>h.1.1.2.2);have hl:l.length≤N:=Nat.le_trans (Jg l) hs;have hlen:=Zv Z3 l
 obtain ⟨J_,hJ,_,hJ2,_⟩:=info_parts Ve;have hJz:J_.size≠0:=by rw [hJ2];decide
 refine xx 16 ?_;refine X.at (X.loop (fun (s:(Nat×Nat×Nat)×Option Addr×Nat×List Stm)=>s.1.1≤l.length∧Zj s.2.2.2=Zj (l.take s.1.1)∧s.2.2.2.length=s.1.1) (fun s=> [(0,.pointer (some ⟨pc,0,none⟩)),(1,.slice a l.length c),(5,.slice s.2.1 s.2.2.2.length s.2.2.1),(10,.int .i64 (l.length:Int)),(11,.int .i64 (s.1.1:Int))]) (fun s=>rsH stC 25 126 s.2.1 s.2.2.1 s.2.2.2::stsM s.2.2.2::pto m1 (.map ((es).map Wz).toArray s.1.2.1)::pto m2 (.map (([]).map Wz).toArray s.1.2.2)::(q++F)) (fun s=>l.length - s.1.1) (fun s hi_ ih=> ?_) ((0,k1,k2),none,0, []) ⟨Nat.zero_le _,by simp [Zj],rfl⟩) Zu (Le.trans leA (Le.trans (Le.trans (Zi stC 25 126 _) Kt) leA))
 try dsimp only at hi_ ih⊢
 obtain ⟨hi1,hi2,hi3⟩:=hi_
 obtain ⟨⟨i,j1,j2⟩,a1,c1,l1⟩:=s;dsimp only at*
 refine xx 5 ?_;refine X.part 12 rfl (fun h0=> ?_) (fun h0=> ?_)
 · replace h0:=sp h0;have hlt:i<l.length:=(by omega)
   obtain ⟨x,hx⟩: ∃ x,x=l[i]:=⟨_,rfl⟩;have hxs:x.sz≤Zg l:=hx ▸ Uq (List.getElem_mem hlt);have hxb:x.lm B:=hx ▸ Jb hb (List.getElem_mem hlt)
   refine Yb (hS.le leA) (by rw [hlen];omega) (fun ab ao e_=> ?_);subst e_
   have hKx:Kn q fun M=>StAt M ⟨ab,ao+(i:Int).toNat*25,none⟩ x∧StKs M x.sz es:=hK.imp fun M h=>by
    obtain ⟨b',o',e1,e2⟩:=SeesZ.row Z3 (by decide) h.1.1.2.2 hlt
    cases e1
    exact ⟨⟨by rw [hx];exact e2,by rw [hx];exact Vk.1 h.1.2 _ (List.getElem_mem hlt)⟩,h.2.down hxs⟩
   refine xx 10 ?_;refine drw ?_;refine dd [0,1,2] ?_;refine ldD 3 ?_ (hc:=((hc.le leA) 0 _ rfl))
   refine dd [4,5,6] ?_;refine Y3 (fl:= [⟨11,7,fun g=> .pointer (some ⟨g,0,none⟩),fun g=>pto g (.cells [].toArray 309 (0,0))⟩]) ?_
   refine XF.ef 7 ⟨⟨_,rfl,rfl,rfl,rfl,rfl,rfl,fun q=>Ef.alloc zeroValue309⟩,trivial⟩ (Rd.efE (B4 underlying305 underlying146 hJ hJz rfl rfl ((KeysAt.st hKx).le leA) Zk zeroValue309)) ?_ (hL:=(hlA (h:=by repeat first|exact trivial|refine ⟨clA,?_⟩|refine ⟨(hc.le leA) 0 _ rfl,?_⟩)))
   rintro _ _ ⟨rfl,rfl⟩
   refine ⟨trivial,?_⟩
   refine XF.pu 8 ⟨⟨_,rfl,rfl,rfl,rfl,rfl,rfl,fun q=>Ef.alloc zeroValue309⟩,trivial⟩ (Pu.move rfl) ?_
   refine XF.pu 9 ⟨⟨_,rfl,rfl,rfl,rfl,rfl,rfl,fun q=>Ef.alloc zeroValue309⟩,trivial⟩ (Pu.extract rfl rfl) ?_
   refine XF.pu 10 ⟨⟨_,rfl,rfl,rfl,rfl,rfl,rfl,fun q=>Ef.alloc zeroValue309⟩,trivial⟩ (Pu.extract rfl rfl) ?_
   refine Vw (e0:=⟨11,7,fun g=> .pointer (some ⟨g,0,none⟩),fun g=>pto g (.cells [].toArray 309 (0,0))⟩) (hnd:=by simp) 11 ⟨⟨_,rfl,rfl,rfl,rfl,rfl,rfl,fun q=>Ef.alloc zeroValue309⟩,trivial⟩ (fun ne=> ?_)
   change XF _ _ _ _ _ _ _ [] _ _ _ ((7,.pointer (some ⟨ne,0,none⟩))::_) _ _ (pto ne (.cells [].toArray 309 (0,0))::_)
   refine XF.back ?_;refine V9 12 ?_;refine dd [13] ?_;refine XD.nil ?_;refine xo 3 ?_;refine XO.pu (Pu.not rfl) ?_;refine ox 1 ?_;refine X.kt 26 ?_;refine xo 7 ?_;refine Zb call187 (Le.pick Zk Zk) (IH (s:=x) (es:=es) (by omega) hxb (hc.le leA) (hKx.le leA)) ?_
   rintro _ _ ⟨s2,p2,r2,hs2,rfl,rfl⟩
   refine XO.ef (Z9 stC underlying53 Ve rfl rfl Z3 rfl) ?_;rintro _ _ ⟨g,rfl,rfl⟩
   refine XO.ef (Z8 (f:=stC) (l:=l1) (m:= [s2]) underlying53 Ve rfl rfl Z3 rfl rfl Zk ((Sees.rsH _).le Zk) Hr (by simp;omega) (by simp;omega)) ?_
   rintro _ _ ⟨a3,c3,rfl,rfl⟩
   refine ox 7 ?_;refine X.le (q':=stsM (l1++ [s2])::_) (Le.trans (Le.pick Zk Zk) Hn) ?_
   refine X.at (ih ((i+1,p2,r2),a3,c3,l1++ [s2]) ⟨by dsimp only;omega,by dsimp only;rw [Pm hlt,←hi2,←hx,←hs2,Yg,Yg,List.map_append];rfl,by dsimp only;rw [List.length_append];simp [hi3]⟩ (by dsimp only;omega)) Zu leA
 replace h0:=sp h0;obtain rfl:i=l.length:=(by omega);rw [List.take_length] at hi2;clear ih
 refine X.le (q':=rsH stC 25 126 a1 c1 l1::stsM l1::_) (Le.pick Zk Zk) ?_
 refine X.frzR (Kn.blk Kn.stsM) (mn:=BlkAt.mono) ?_ (hq:=Le.refl _)
 refine xx 7 ?_;refine Zq (blM a1 c1 l1::pto m1 (.map ((es).map Wz).toArray j1)::pto m2 (.map (([]).map Wz).toArray j2)::q) func161 (Zm results161 rfl) ⟨_,rfl,l1,a1,c1,j1,j2,hi2,rfl,rfl⟩
theorem E7 (hB:B≤1000000): ∀ N,N≤1000000→CSt G pc m1 m2 B N∧CSts G pc m1 m2 B N
 |0,_=>by
  have h0:CSt G pc m1 m2 B 0:=fun {s} _ _ _ _ _ _ hs=>absurd hs (by cases s;simp only [Stm.sz];omega)
  exact ⟨h0,fun hs hb hc hK=>D4 h0 (by omega) hs hb hc hK⟩
 |N+1,hN=>by
  have h:CSts G pc m1 m2 B N:=(E7 hB N (by omega)).2
  have h1:CSt G pc m1 m2 B (N+1):=fun hs hb hc hK=>cst_step h hB hs hb hc hK
  exact ⟨h1,fun hs hb hc hK=>D4 h1 hN hs hb hc hK⟩
end
mutual
def PStm.its:PStm→Int→List (Int×PStm)
 | .mk k ln cl nm wt e ix body els id slot other loc,d=>(d,.mk k ln cl nm wt e ix body els id slot other loc)::(Zt body (d+1)++Zt els (d+1))
def Zt:List PStm→Int→List (Int×PStm)
 | [],_=> []
 |s::r,d=>s.its d++Zt r d
end
theorem Q5: ∀ (l:List PStm) (d:Int),Zt l d=l.flatMap fun s=>s.its d
 | [],_=>rfl
 |s::r,d=>by simp only [Zt,List.flatMap_cons,Q5 r d]
mutual
theorem Jc: ∀ (s:PStm) (d:Int),(∃ r,s.its d=(d,s)::r∧ ∀ x∈r,d<x.1)
 | .mk k ln cl nm wt e ix body els id slot other loc,d=>⟨_,rfl,fun x hx=>by
  rcases List.mem_append.1 hx with hx|hx
  · have:=Q6 body (d+1) x hx;omega
  have:=Q6 els (d+1) x hx;omega⟩
theorem Q6: ∀ (l:List PStm) (d:Int),∀ x∈Zt l d,d≤x.1
 | [],_,x,hx=>by cases hx
 |s::r,d,x,hx=>by
  rcases List.mem_append.1 hx with hx|hx
  · obtain ⟨t,h1,h2⟩:=Jc s d
    rw [h1] at hx
    rcases List.mem_cons.1 hx with rfl|hx
    · exact Int.le_refl _
    exact Int.le_of_lt (h2 x hx)
  exact Q6 r d x hx
end
def H5 (l:List (Int×PStm)):List PStm:=(l.filter fun x=>x.1==1).map (·.2)
theorem R3 (a b:List (Int×PStm)):H5 (a++b)=H5 a++H5 b:=by simp [H5]
theorem Gj: ∀ l:List PStm,H5 (Zt l 1)=l
 | []=>rfl
 |s::r=>by
  obtain ⟨t,h1,h2⟩:=Jc s 1
  have h3:H5 t= []:=by
   unfold H5
   rw [List.map_eq_nil_iff,List.filter_eq_nil_iff]
   intro x hx
   have:=h2 x hx
   simp only [beq_iff_eq];omega
  have h4:s.its 1= [(1,s)]++t:=h1
  simp only [Zt]
  rw [R3,h4,R3,h3,Gj r];rfl
theorem I3 {l:List (Int×PStm)}{i:Nat}(h:i<l.length):H5 (l.take (i+1))=H5 (l.take i)++(if l[i].1=1 then [l[i].2] else []):=by
 rw [List.take_succ_eq_append_getElem h,R3]
 congr 1
 unfold H5
 by_cases hx:l[i].1=1<;>simp [hx]
def itK (l:List PStm)(d:Int)(i:Nat):Nat:=((l.take i).flatMap fun s=>s.its d).length
theorem itK_step {l:List PStm}{d:Int}{i:Nat}(h:i<l.length):itK l d (i+1)=itK l d i+(l[i].its d).length:=Ng _ h
theorem itK_all (l:List PStm)(d:Int):itK l d l.length=(Zt l d).length:=by unfold itK;rw [List.take_length,Q5]
theorem itK_at {l:List PStm}{d:Int}{i n:Nat}(h:i<l.length)(hn:n<(l[i].its d).length):(Zt l d)[itK l d i+n]? =some (l[i].its d)[n]:=by
 rw [Q5];exact Mb _ l i n h hn
def Seg {α:Type}(L:List α)(k:Nat)(m:List α):Prop:= ∀ i,i<m.length→L[k+i]? =m[i]?
theorem Seg.app {α:Type}{L m n:List α}{k:Nat}(h:Seg L k (m++n)):Seg L k m∧Seg L (k+m.length) n:=
 ⟨fun i hi=>by rw [h i (by rw [List.length_append];omega),List.getElem?_append_left hi],fun i hi=>by
  rw [Nat.add_assoc,h (m.length+i) (by rw [List.length_append];omega),List.getElem?_append_right (by omega)];congr 1;omega⟩
theorem Seg.item {L:List (Int×PStm)}{k:Nat}{l:List PStm}{d:Int}{i:Nat}(h:Seg L k (Zt l d))(hi:i<l.length):Seg L (k+itK l d i) (l[i].its d):=fun n hn=>by
 have h1:=itK_at (d:=d) hi hn
 have h2:=(List.getElem?_eq_some_iff.1 h1).1
 rw [Nat.add_assoc,h _ h2,h1,List.getElem?_eq_getElem hn]
theorem Seg.self {α:Type}(L:List α):Seg L 0 L:=fun i _=>by rw [Nat.zero_add]
def ItR (x:Int×PStm)(vs:List Value)(A:HP):Prop:= ∃ s:Stm,s.er=x.2∧vs= [.int .i64 x.1,.agg (stC s).toArray]∧A=stM s
section
variable {G:World}{q:List HP}{a:Option Addr}{c y n:Nat}{l:List Stm}{d:Int}
theorem Ny:CallF prog G 160 [] (q) (Ret fun v q'=> ∃ p m1 m2,v= .pointer (some ⟨p,0,none⟩)∧q'=pto m1 (.map (([]).map Wz).toArray 0)::pto m2 (.map (([]).map Wz).toArray 0)::pto p (.cells [.map (some m1),.map (some m2)].toArray 308 (0,0))::q):=by
 refine CallF.of func160 ntmps160 rfl (fun F cs=> ?_)
 refine xo 6 ?_;refine XO.ef (Ef.makeMap) ?_;rintro _ _ ⟨m1,rfl,rfl⟩
 refine XO.ef (Ef.makeMap) ?_;rintro _ _ ⟨m2,rfl,rfl⟩
 refine oo 1 ?_;refine Y2 fun n1=> ?_
 refine ox 2 ?_;refine Zq (pto m1 (.map (([]).map Wz).toArray 0)::pto m2 (.map (([]).map Wz).toArray 0)::pto n1 (.cells [.map (some m1),.map (some m2)].toArray 308 (0,0))::q) func160 (Zm results160 rfl) ⟨_,rfl,n1,m1,m2,rfl,rfl⟩
def Wlk (G:World)(q:List HP)(y B:Nat)(L:List (Int×PStm))(J:Nat→HP)(Jf:HP→Prop)(N:Nat):Prop:= ∀ {l:List Stm} {a:Option Addr} {c:Nat} {d:Int} {k:Nat},Zg l≤N→Wr B l→(0≤d∧d+N≤2000000)→(Kn q fun M=>BlkAt M a c l)→Seg L k (Zt (Zj l) d)→
 CallF prog G 163 [.slice a l.length c,.int .i64 d,.func (.yield y) #[] #[]] (J k::q) (Ret fun v q'=>(v= .bool true∧q'=J (k+(Zt (Zj l) d).length)::q)∨(v= .bool false∧ ∃ B,Jf B∧q'=B::q))
set_option maxHeartbeats 4000000 in
theorem Iz {B N k:Nat}{L:List (Int×PStm)}{J:Nat→HP}{Jf:HP→Prop}(hy:(∀ i (h:i<L.length) vs A,ItR L[i] vs A→CallV prog G (.func (.yield y) #[] #[]) vs (J i::A::q) (Ret fun v q'=>(v= .bool true∧q'=J (i+1)::q)∨(v= .bool false∧ ∃ B,Jf B∧q'=B::q))))(IH: ∀ n,n<N→Wlk G q y B L J Jf n)(hB:B≤1000000)(hN:N≤1000000)(hs:Zg l≤N)(hb:Wr B l)(hd:0≤d∧d+N≤2000000)(hK:Kn q fun M=>BlkAt M a c l)(hL:Seg L k (Zt (Zj l) d)):CallF prog G 163 [.slice a l.length c,.int .i64 d,.func (.yield y) #[] #[]] (J k::q) (Ret fun v q'=>(v= .bool true∧q'=J (k+(Zt (Zj l) d).length)::q)∨(v= .bool false∧ ∃ B,Jf B∧q'=B::q)):=by
 refine CallF.of func163 ntmps163 rfl (fun F cs=> ?_)
 have hS:=Kn.sees (hK.imp fun M h=>h.1.2.2);have hl:l.length≤N:=Nat.le_trans (Jg l) hs;have hlen:=Zv Z3 l;have hel:=Zf l
 refine xx 12 ?_;refine X.at (X.loop (fun (s:Nat)=>s≤l.length) (fun s=> [(0,.slice a l.length c),(1,.int .i64 d),(2,.func (.yield y) #[] #[]),(9,.int .i64 (l.length:Int)),(10,.int .i64 (s:Int))]) (fun s=>J (k+itK (Zj l) d s)::(q++F)) (fun s=>l.length - s) (fun s hi_ ih=> ?_) 0 (Nat.zero_le _)) Zu leA
 try dsimp only at hi_ ih⊢
 obtain hi:=hi_
 refine xx 5 ?_;refine X.part 11 rfl (fun h0=> ?_) (fun h0=> ?_)
 · replace h0:=sp h0;have hlt:s<l.length:=(by omega)
   have hse:s<(Zj l).length:=(by omega)
   have hxe:(Zj l)[s]=l[s].er:=by simp only [Yg,List.getElem_map]
   have hsg:=hL.item (i:=s) hse;rw [hxe] at hsg;have hst:=itK_step (d:=d) hse;rw [hxe] at hst
   obtain ⟨x,hx⟩: ∃ x,x=l[s]:=⟨_,rfl⟩;have hxs:x.sz≤Zg l:=hx ▸ Uq (List.getElem_mem hlt);have hxb:x.lm B:=hx ▸ Jb hb (List.getElem_mem hlt);rw [←hx] at hsg hst
   refine Yb (hS.le leA) (by rw [hlen];omega) (fun ab ao e_=> ?_);subst e_
   have hKx:Kn q fun M=>StAt M ⟨ab,ao+(s:Int).toNat*25,none⟩ x:=hK.imp fun M h=>by
    obtain ⟨b',o',e1,e2⟩:=SeesZ.row Z3 (by decide) h.1.2.2 hlt
    cases e1
    exact ⟨by rw [hx];exact e2,by rw [hx];exact Vk.1 h.2 _ (List.getElem_mem hlt)⟩
   refine xx 11 ?_;refine drw ?_;refine dd [0,1,3,4,5] ?_;refine Ww 2 call160 (Le.refl _) (Ny) ?_;rintro _ _ ⟨pc,m1,m2,rfl,rfl⟩
   refine ⟨trivial,?_⟩
   refine Ww 6 call187 (Le.pick Zk Zk) ((E7 (m1:=m1) (m2:=m2) hB N hN).1 (s:=x) (es:= []) (by omega) hxb (CellsAt.of Qh) ((hKx.le leA).imp fun M h=>⟨h,fun _ h=>by cases h⟩)) ?_
   rintro _ _ ⟨s2,j1,j2,hs2,rfl,rfl⟩
   refine ⟨trivial,?_⟩
   have hhd:L[k+itK (Zj l) d s]? =some (d,x.er):=by
    obtain ⟨r_,e1,_⟩:=Jc x.er d
    have:=hsg 0 (by rw [e1];exact Nat.succ_pos _)
    rw [e1] at this;exact this
   have hy2:=hy (k+itK (Zj l) d s) (List.getElem?_eq_some_iff.1 hhd).1 [.int .i64 d,.agg (stC s2).toArray] (stM s2) ⟨s2,by rw [(List.getElem?_eq_some_iff.1 hhd).2];exact hs2,by rw [(List.getElem?_eq_some_iff.1 hhd).2],rfl⟩
   refine XD.cV 7 hy2 ?_ (hq:=(Le.pick Zk (Le.pick Zk leA)))
   rintro _ _ (⟨rfl,rfl⟩|⟨rfl,B2,hB2,rfl⟩) _ e_1<;>simp only [ca,na] at e_1<;>subst e_1
   · refine ⟨trivial,?_⟩
     refine XD.pu 8 rfl (Pu.not rfl) ?_;refine XD.nil ?_;refine Wp 21 ?_;obtain ⟨kk,ln,cl,nm,wt,⟨ek,en,enm,esl,elo,eop,el,ea,ec⟩,⟨xk,xn,xnm,xsl,xlo,xop,xl,xa,xc⟩,bd,es2,ba,bc,ea2,ec2,id,sl,ot,lo⟩:=x
     obtain ⟨hb1,hb2,hb3,hb4⟩:=hxb;have hCs:=Kn.stC hKx;have hz:Zg bd+Zg es2+1≤N:=(by simp only [Stm.sz] at hxs;omega)
     have hi1:PStm.its (Stm.er (.mk kk ln cl nm wt (Ex.mk ek en enm esl elo eop el ea ec) (Ex.mk xk xn xnm xsl xlo xop xl xa xc) bd es2 ba bc ea2 ec2 id sl ot lo)) d=(d,Stm.er (.mk kk ln cl nm wt (Ex.mk ek en enm esl elo eop el ea ec) (Ex.mk xk xn xnm xsl xlo xop xl xa xc) bd es2 ba bc ea2 ec2 id sl ot lo))::(Zt (Zj bd) (d+1)++Zt (Zj es2) (d+1)):=by simp only [Stm.er,PStm.its]
     rw [hi1] at hsg hst;rw [List.length_cons,List.length_append] at hst;have hsg2:=(Seg.app (m:= [_]) hsg).2;rw [List.length_singleton] at hsg2;obtain ⟨hsb,hse2⟩:=hsg2.app
     refine xo 8 ?_;refine ld ?_ (hc:=((hCs.le leA) 19 _ rfl))
     refine oo 3 ?_;refine Vd call163 (IH (Zg bd) (by omega) (k:=(k+itK (Zj l) d s+1)) (Nat.le_refl _) hb3 (by omega) (hKx.imp fun M h=>h.2.2.2.1) hsb) ?_
     rintro _ _ (⟨rfl,rfl⟩|⟨rfl,B2,hB2,rfl⟩) _ e_1<;>simp only [ca,na] at e_1<;>subst e_1
     · refine oo 6 ?_;refine ld ?_ (hc:=((hCs.le leA) 20 _ rfl))
       refine oo 3 ?_;refine Vd call163 (IH (Zg es2) (by omega) (k:=(k+itK (Zj l) d s+1+(Zt (Zj bd) (d+1)).length)) (Nat.le_refl _) hb4 (by omega) (hKx.imp fun M h=>⟨h.2.2.2.2.1,h.2.2.2.2.2⟩) hse2) ?_
       rintro _ _ (⟨rfl,rfl⟩|⟨rfl,B2,hB2,rfl⟩) _ e_1<;>simp only [ca,na] at e_1<;>subst e_1
       · refine ox 10 ?_
         rw [show k+itK (Zj l) d s+1+(Zt (Zj bd) (d+1)).length+(Zt (Zj es2) (d+1)).length=k+itK (Zj l) d (s+1) by omega]
         refine X.at (ih (s+1) (by omega) (by omega)) Zu leA
       refine ox 8 ?_;refine Zq (B2::q) func163 (Zm results163 rfl) ⟨_,rfl,.inr ⟨rfl,B2,hB2,rfl⟩⟩
     refine ox 19 ?_;refine Zq (B2::q) func163 (Zm results163 rfl) ⟨_,rfl,.inr ⟨rfl,B2,hB2,rfl⟩⟩
   refine ⟨trivial,?_⟩
   refine XD.pu 8 rfl (Pu.not rfl) ?_;refine XD.nil ?_;refine X.kt 21 ?_;refine xx 5 ?_;refine Zq (B2::q) func163 (Zm results163 rfl) ⟨_,rfl,.inr ⟨rfl,B2,hB2,rfl⟩⟩
 replace h0:=sp h0;obtain rfl:s=l.length:=(by omega)
 rw [show itK (Zj l) d l.length=(Zt (Zj l) d).length by rw [←hel];exact itK_all _ _]
 refine xx 6 ?_;refine Zq (J (k+(Zt (Zj l) d).length)::q) func163 (Zm results163 rfl) ⟨_,rfl,.inl ⟨rfl,rfl⟩⟩
theorem walk_all {B:Nat}{L:List (Int×PStm)}{J:Nat→HP}{Jf:HP→Prop}(hy:(∀ i (h:i<L.length) vs A,ItR L[i] vs A→CallV prog G (.func (.yield y) #[] #[]) vs (J i::A::q) (Ret fun v q'=>(v= .bool true∧q'=J (i+1)::q)∨(v= .bool false∧ ∃ B,Jf B∧q'=B::q))))(hB:B≤1000000)(N:Nat)(hN:N≤1000000):Wlk G q y B L J Jf N:=by
 induction N using Nat.strongRecOn with
 |ind N IH=>exact fun hs hb hd hK hL=>Iz hy (fun n hn=>IH n hn (by omega)) hB hN hs hb hd hK hL
theorem If {B nb:Nat}{J:Nat→HP}{Jf:HP→Prop}(hB:B≤1000000)(hs:Zg l≤1000000)(hb:Wr B l)(hK:Kn q fun M=>BlkAt M a c l)(hc:CellsAt q nb 0 [.slice a l.length c])
 (hy: ∀ i (h:i<(Zt (Zj l) 1).length) vs A,ItR (Zt (Zj l) 1)[i] vs A→CallV prog G (.func (.yield y) #[] #[]) vs (J i::A::q) (Ret fun v q'=>(v= .bool true∧q'=J (i+1)::q)∨(v= .bool false∧ ∃ B,Jf B∧q'=B::q))):
 CallF prog G 162 [.func (.yield y) #[] #[],.pointer (some ⟨nb,0,none⟩)] (J 0::q) (Ret fun _ q'=>q'=J (Zt (Zj l) 1).length::q∨ ∃ A,Jf A∧q'=A::q):=by
 refine CallF.of func162 ntmps162 rfl (fun F cs=> ?_)
 refine xo 1 ?_;refine ld ?_ (hc:=((hc.le leA) 0 _ rfl))
 refine oo 1 ?_;refine Vd call163 (walk_all hy hB (Zg l) hs (k:=0) (Nat.le_refl _) hb (by omega) hK (Seg.self _)) ?_
 rintro _ _ h_ _ e_1;subst e_1
 rw [Nat.zero_add] at h_;rcases h_ with ⟨rfl,rfl⟩|⟨rfl,B2,hB2,rfl⟩
 · simp only [ca,na]
   refine ox 1 ?_;refine Z7 (J (Zt (Zj l) 1).length::q) func162 (Vx results162) ⟨_,rfl,.inl rfl⟩
 simp only [ca,na]
 refine ox 1 ?_;refine Z7 (B2::q) func162 (Vx results162) ⟨_,rfl,.inr ⟨B2,hB2,rfl⟩⟩
theorem Aq {B nb:Nat}(hB:B≤1000000)(hs:Zg l≤1000000)(hb:Wr B l)(hK:Kn q fun M=>BlkAt M a c l)(hc:CellsAt q nb 0 [.slice a l.length c]):IterR prog G (.func (.func 162) [].toArray [.pointer (some ⟨nb,0,none⟩)].toArray) ItR (Zt (Zj l) 1) q:=
 fun y J Jf hy=>CallV.c11 call162 (If (G:=G) (J:=J) (Jf:=Jf) hB hs hb hK hc hy)
set_option maxHeartbeats 1000000 in
theorem Stmts_ok {x0 x1 x2 x4:Int}{x3:ByteArray}{B:Nat}(hB:B≤1000000)(hs:Zg l≤1000000)(hb:Wr B l)(hK:Kn q fun M=>BlkAt M a c l):CallF prog G 124 [.agg [.int .i64 x0,.int .i64 x1,.int .i64 x2,.string x3,.int .i64 x4,.slice a l.length c].toArray] (q) (Ret fun v q'=> ∃ (l':List Stm) (a':Option Addr) (c' nb:Nat),Zj l'=Zj l∧v= .func (.func 162) [].toArray [.pointer (some ⟨nb,0,none⟩)].toArray∧q'=pto nb (.cells [.slice a' l'.length c'].toArray 53 (0,0))::blM a' c' l'::q):=by
 refine CallF.of func124 ntmps124 rfl (fun F cs=> ?_)
 refine xo 2 ?_;refine Y2 fun n1=> ?_
 refine ox 3 ?_;refine drw ?_;refine dl [1] 2 ?_;refine Y3 (fl:= [⟨4,3,fun g=> .pointer (some ⟨g,0,none⟩),fun g=>pto g (.cells [.slice none 0 0].toArray 53 (0,0))⟩]) ?_
 refine G8 0 ⟨⟨_,rfl,rfl,rfl,rfl,rfl,rfl,fun q=>Ef.alloc zeroValue53⟩,trivial⟩ call160 (Le.refl _) (Ny) ?_
 rintro _ _ ⟨pc,m1,m2,rfl,rfl⟩
 refine ⟨hlA,?_⟩
 refine G8 3 ⟨⟨_,rfl,rfl,rfl,rfl,rfl,rfl,fun q=>Ef.alloc zeroValue53⟩,trivial⟩ call161 (Le.pick Zk Zk) ((E7 (m1:=m1) (m2:=m2) hB 1000000 (Nat.le_refl _)).2 (l:=l) (es:= []) hs hb (CellsAt.of Qh) ((hK.le leA).imp fun M h=>⟨h,fun _ h=>by cases h⟩)) ?_
 rintro _ _ ⟨l2,a2,c2,j1,j2,hl2,rfl,rfl⟩
 refine ⟨trivial,?_⟩
 refine Vw (e0:=⟨4,3,fun g=> .pointer (some ⟨g,0,none⟩),fun g=>pto g (.cells [.slice none 0 0].toArray 53 (0,0))⟩) (hnd:=by simp) 4 ⟨⟨_,rfl,rfl,rfl,rfl,rfl,rfl,fun q=>Ef.alloc zeroValue53⟩,trivial⟩ (fun nb=> ?_)
 change XF _ _ _ _ _ _ _ [] _ _ _ ((3,.pointer (some ⟨nb,0,none⟩))::_) _ _ (pto nb (.cells [.slice none 0 0].toArray 53 (0,0))::_)
 refine XF.back ?_;refine stD 5 ?_;refine XD.nil ?_;refine xx 5 ?_;refine Zq (pto nb (.cells [.slice a2 l2.length c2].toArray 53 (0,0))::blM a2 c2 l2::q) func124 (Zm results124 rfl) ⟨_,rfl,l2,a2,c2,nb,hl2,rfl,rfl⟩
end
theorem Me:(prog.info? 55).map (fun i=>(i.zero,i.size,i.bytes))=some (some (.agg #[.string ⟨#[]⟩,.int .i64 0,.slice none 0 0]),3,48):=by kernel_rfl
theorem T8:(prog.info? 9).map (fun i=>(i.zero,i.size,i.bytes))=some (some (.string ⟨#[]⟩),1,16):=by kernel_rfl
abbrev zEx:Ex:= .mk 0 0 ⟨#[]⟩ 0 false 0 [] none 0
abbrev zSm:Stm:= .mk 0 0 0 ⟨#[]⟩ ⟨#[]⟩ zEx zEx [] [] none 0 none 0 0 0 0 false
mutual
theorem Dx: ∀ {x y:Ex},x.er=y.er→x.sz=y.sz
 | .mk ..,.mk ..,h=>by
  simp only [Ex.er,PEx.mk.injEq] at h
  simp only [Ex.sz,Ev h.2.2.2.2.2.2]
theorem Ev: ∀ {l m:List Ex},Z2 l=Z2 m→Qn l=Qn m
 | [], [],_=>rfl
 | [],_::_,h=>by simp [Z2] at h
 |_::_, [],h=>by simp [Z2] at h
 |x::l,y::m,h=>by
  simp only [Z2,List.cons.injEq] at h
  simp only [Qn,Dx h.1,Ev h.2]
end
mutual
theorem Oh {B:Nat}: ∀ {x y:Stm},x.er=y.er→y.lm B→x.lm B
 | .mk ..,.mk ..,h,⟨h1,h2,h3,h4⟩=>by
  simp only [Stm.er,PStm.mk.injEq] at h
  obtain ⟨_,_,_,_,_,e1,e2,e3,e4,_⟩:=h
  exact ⟨Dx e1 ▸ h1,Dx e2 ▸ h2,Kc e3 h3,Kc e4 h4⟩
theorem Kc {B:Nat}: ∀ {l m:List Stm},Zj l=Zj m→Wr B m→Wr B l
 | [],_,_,_=>trivial
 |_::_, [],h,_=>by simp [Zj] at h
 |x::l,y::m,h,⟨h1,h2⟩=>by
  simp only [Zj,List.cons.injEq] at h
  exact ⟨Oh h.1 h1,Kc h.2 h2⟩
end
def cbI (B:List PStm)(k nb:Nat):HP:=ex fun x:List Stm×Option Addr×Nat=>stars [pure (Zj x.1=H5 ((Zt B 1).take k)),pto nb (.cells [.slice x.2.1 x.1.length x.2.2].toArray 53 (0,0)),rsH stC 25 126 x.2.1 x.2.2 x.1,stsM x.1]
theorem Pw {B:List PStm}{k nb:Nat}{q r:List HP}(x:List Stm×Option Addr×Nat)(h:Zj x.1=H5 ((Zt B 1).take k))(hle:Le q (pto nb (.cells [.slice x.2.1 x.1.length x.2.2].toArray 53 (0,0))::rsH stC 25 126 x.2.1 x.2.2 x.1::stsM x.1::r)):Le q (cbI B k nb::r):=
 Dj x (hle.trans ((Qy h _).trans (by exact Z5 [_,_,_,_] r)))
theorem X.cbI {P:Program}{G:World}{f:Fc}{Q:Yd}{todo:List Item}{p:PE}{ds:List Deferred}{cs:List Frame}{B:List PStm}{k nb:Nat}{q:List HP}
 (x: ∀ (l:List Stm) (a:Option Addr) (c:Nat),Zj l=H5 ((Zt B 1).take k)→X P G f Q todo p ds cs (pto nb (.cells [.slice a l.length c].toArray 53 (0,0))::rsH stC 25 126 a c l::stsM l::q)):X P G f Q todo p ds cs (Go.Proofs.YtflkjkhijcdbaaaGreat.cbI B k nb::q):=
 X.ex (fun s=>X.le (Z0 _ _) (X.pure (fun h=>x s.1 s.2.1 s.2.2 h)))
theorem ones_len (l:List (Int×PStm)):(H5 l).length≤l.length:=by unfold H5;rw [List.length_map];exact List.length_filter_le _ _
mutual
theorem Cv: ∀ (s:Stm) (d:Int),(s.er.its d).length=s.sz
 | .mk _ _ _ _ _ _ _ body els _ _ _ _ _ _ _ _,d=>by simp only [Stm.er,PStm.its,List.length_cons,List.length_append,Stm.sz,Vl body,Vl els]
theorem Vl: ∀ (l:List Stm) (d:Int),(Zt (Zj l) d).length=Zg l
 | [],_=>rfl
 |s::r,d=>by simp only [Zj,Zt,List.length_append,Zg,Cv s,Vl r]
end
theorem Ph (a b:List Stm):Zj (a++b)=Zj a++Zj b:=by rw [Yg,Yg,Yg,List.map_append]
section
variable {G:World}{q:List HP}{a:Option Addr}{c:Nat}{l:List Stm}
set_option maxHeartbeats 4000000 in
theorem G0 {B:Nat}(hB:B≤1000000)(hs:Zg l≤1000000)(hb:Wr B l)(hK:Kn q fun M=>BlkAt M a c l):CallF prog G 82 [.slice a l.length c] (q) (Ret fun v q'=> ∃ (l':List Stm) (a':Option Addr) (c':Nat),Zj l'=Zj l∧v= .slice a' l'.length c'∧q'=blM a' c' l'::q):=by
 refine CallF.of func82 ntmps82 rfl (fun F cs=> ?_)
 refine xo 6 ?_;refine XO.al zeroValue53 fun n1=> ?_
 refine oo 6 ?_;refine Zb call124 (Le.refl _) (Stmts_ok (l:=l) hB hs hb (hK.le leA)) ?_
 rintro _ _ ⟨l2,a2,c2,nb,hl2,rfl,rfl⟩
 refine ox 2 ?_
 have hsz2:Zg l2=Zg l:=by rw [←Vl l2 0,←Vl l 0,hl2]
 refine X.le (q':=pto nb (.cells [.slice a2 l2.length c2].toArray 53 (0,0))::_) leA (X.freeze ?_)
 have hb2:=Kc hl2 hb
 refine X.rangeR (xs:=Zt (Zj l2) 1) [im nb (.cells [.slice a2 l2.length c2].toArray 53 (0,0)),blM a2 c2 l2] (fun k:Nat=> [cbI (Zj l2) k n1]) (fun _ _=>False) (F:=q++F) (Aq (B:=B) (by omega) (by omega) hb2 (Kn.blM.there) (CellsAt.of (Has.im _ _ _))) rfl ?_ (by rintro _ _ _ ⟨_,_,rfl,_⟩;rfl) rfl (by rw [func82];rfl) rfl (fun i hi vs A hA l9 rec F0 cs0=> ?_) (fun r=> ?_) (fun _ _ _ hJ=>hJ.elim)
 · simp only [ca,na]
   refine Pw ([],none,0) (by simp [Zj,H5]) ?_
   exact Le.trans leA (Le.trans (Zi stC 25 126 _) (Le.trans Kt leA))
 · obtain ⟨s2,hs2,rfl,rfl⟩:=hA;obtain ⟨x,hx⟩: ∃ x,x=(Zt (Zj l2) 1)[i]:=⟨_,rfl⟩;rw [←hx] at hs2⊢;have h1s:=I3 hi;rw [←hx] at h1s
   refine X.sub (p':= [(10,_),(9,_),(8,_),(3,_),(2,_)]) ⟨rfl,rfl,rfl,rfl,rfl,trivial⟩ ?_
   simp only [ca,na]
   refine X.le (q':=cbI (Zj l2) i n1::_) Zk (X.cbI (fun l1 a1 c1 h1=> ?_))
   have hl1:l1.length≤1000000:=by have e1:=congrArg List.length h1;rw [Zf] at e1;have e2:=ones_len ((Zt (Zj l2) 1).take i);rw [List.length_take,Vl] at e2;omega
   obtain ⟨kk,ln,cl,nm,wt,⟨ek,en,enm,esl,elo,eop,el,ea,ec⟩,⟨xk,xn,xnm,xsl,xlo,xop,xl,xa,xc⟩,bd,es2,ba,bc,ea2,ec2,id,sl,ot,lo⟩:=s2
   refine xo 5 ?_;refine XO.al zeroValue126 fun n2=> ?_
   refine stA ?_;refine ox 1 ?_;refine X.beginRound rfl leA ?_;refine xx 6 ?_;refine X.part 12 rfl (fun h0=> ?_) (fun h0=> ?_)
   · replace h0:=sp h0
     refine xx 1 ?_;refine drw ?_;refine ldD 0 ?_;refine Jd 1 ?_;refine dd [2] ?_;refine XD.ef 3 rfl (Z9 (u:=zSm) stC underlying53 Ve rfl rfl Z3 rfl) ?_
     rintro _ _ ⟨g,rfl,rfl⟩
     refine ⟨hlA,?_⟩
     refine XD.ef 4 rfl (Z8 (f:=stC) (l:=l1) (m:= [zSm]) underlying53 Ve rfl rfl Z3 rfl rfl Zk ((Sees.rsH _).le Zk) Hr (by simp;omega) (by simp;omega)) ?_
     rintro _ _ ⟨a3,c3,rfl,rfl⟩
     refine ⟨trivial,?_⟩
     refine G9 (l:=l1++ [zSm]) (by simp) (fun g3 e3=> ?_);subst e3
     refine XD.pu 5 rfl (Pu.indexAddr rfl rfl underlying53 sizeOf126 (by omega) (by simp;omega)) ?_
     refine Y3 (fl:= []) (XF.two 6 7 trivial (Ba 6 (fun E=>Oa (fl:=stC) (l:=l1++ [zSm]) (u:=(Stm.mk kk ln cl nm wt (Ex.mk ek en enm esl elo eop el ea ec) (Ex.mk xk xn xnm xsl xlo xop xl xa xc) bd es2 ba bc ea2 ec2 id sl ot lo)) (n:=l1.length) (j:=(l1.length:Int)) (g:=g3) (c:=c3) (et:=126) rfl rfl sizeOf126 Z3 rfl (by simp) (Hr _) Zk E) ?_) (Ba 7 (fun E=>Ef.stE (b:=n1) (o:=0) (l:= [.slice a1 l1.length c1]) (v:= .slice (some ⟨g3,0,none⟩) (l1++ [zSm]).length c3) (t':=53) sizeOf53 rfl rfl rfl rfl Zk rfl E) ?_))
     focus
      rintro _ _ ⟨rfl,rfl⟩
      refine ⟨trivial,XF.back ?_⟩
      refine stD 7 ?_
     rotate_left
     focus
      rintro _ _ ⟨rfl,rfl⟩
      refine ⟨trivial,XF.back ?_⟩
      refine XD.ef0 6 rfl (C1 (a:=none) (fl:=stC) (l:=l1++ [zSm]) (u:=(Stm.mk kk ln cl nm wt (Ex.mk ek en enm esl elo eop el ea ec) (Ex.mk xk xn xnm xsl xlo xop xl xa xc) bd es2 ba bc ea2 ec2 id sl ot lo)) (n:=l1.length) rfl rfl sizeOf126 Z3 rfl (by simp) (Hr _) Zk) ?_
      rintro _ _ ⟨rfl,rfl⟩
      refine ⟨trivial,?_⟩
     all_goals
      refine XD.nil ?_;refine xx 1 ?_
      rw [show (l1++ [zSm]).set l1.length (Stm.mk kk ln cl nm wt (Ex.mk ek en enm esl elo eop el ea ec) (Ex.mk xk xn xnm xsl xlo xop xl xa xc) bd es2 ba bc ea2 ec2 id sl ot lo)=l1++ [(Stm.mk kk ln cl nm wt (Ex.mk ek en enm esl elo eop el ea ec) (Ex.mk xk xn xnm xsl xlo xop xl xa xc) bd es2 ba bc ea2 ec2 id sl ot lo)] by simp]
      refine X.le (q':=stsM (l1++ [(Stm.mk kk ln cl nm wt (Ex.mk ek en enm esl elo eop el ea ec) (Ex.mk xk xn xnm xsl xlo xop xl xa xc) bd es2 ba bc ea2 ec2 id sl ot lo)])::_) (Le.trans (Le.pick Zk Zk) Hn) ?_
      refine X.fall ⟨rfl,rfl,?_⟩
      simp only [ca,na]
      refine Le.pick Zk (Pw (l1++ [(Stm.mk kk ln cl nm wt (Ex.mk ek en enm esl elo eop el ea ec) (Ex.mk xk xn xnm xsl xlo xop xl xa xc) bd es2 ba bc ea2 ec2 id sl ot lo)],some ⟨g3,0,none⟩,c3) (by rw [Ph,h1,h1s,if_pos h0,←hs2];rfl) ?_)
      rw [show (l1++ [zSm]).length=(l1++ [(Stm.mk kk ln cl nm wt (Ex.mk ek en enm esl elo eop el ea ec) (Ex.mk xk xn xnm xsl xlo xop xl xa xc) bd es2 ba bc ea2 ec2 id sl ot lo)]).length by simp];exact leA
   replace h0:=sp h0
   refine xx 3 ?_;refine X.fall ⟨rfl,rfl,?_⟩
   simp only [ca,na]
   refine Le.pick Zk (Pw (l1,a1,c1) (by rw [h1,h1s,if_neg h0,List.append_nil]) leA)
 simp only [ca,na]
 refine X.le (q':=cbI (Zj l2) (Zt (Zj l2) 1).length n1::_) Zk (X.cbI (fun l1 a1 c1 h1=> ?_))
 rw [List.take_length,Gj,hl2] at h1
 refine X.le (q':=rsH stC 25 126 a1 c1 l1::stsM l1::_) (Le.pick Zk Zk) ?_
 refine X.frzR (Kn.blk Kn.stsM) (mn:=BlkAt.mono) ?_ (hq:=Le.refl _)
 refine xj 3 ?_;refine ox 2 ?_;exact X.ret ⟨rfl,Dz (q':=blM a1 c1 l1::(q++F)) (Lv.ret (q':=blM a1 c1 l1::q) func82 (Zm results82 rfl) ⟨_,rfl,l1,a1,c1,h1,rfl,rfl⟩ leA) (hq:=Le.pick Zk leA)⟩
theorem Qd (x:Th):(thC x).length=3:=rfl
theorem L1 (x:Th):(thC x).all (·.oneCell')=true:=rfl
theorem Kq {l:List ByteArray}(hs:Sees q a (l.map Value.string))(hL:l.length≤1000000000):CallF prog G 83 [.slice a l.length c] (q) (Ret fun v q'=> ∃ a' c',v= .slice a' l.length c'∧q'=lsH Value.string 9 a' c' l::q):=by
 refine CallF.of func83 ntmps83 rfl (fun F cs=> ?_)
 rcases Nat.eq_zero_or_pos l.length with hl0|hl0
 · obtain rfl:=List.eq_nil_of_length_eq_zero hl0
   refine xx 10 ?_;refine X.part 4 rfl (fun h1=> ?_) (fun h1=> ?_)
   · refine xx 5 ?_;refine Zq (lsH Value.string 9 none 0 []::q) func83 (Zm results83 rfl) ⟨_,rfl,none,0,rfl,rfl⟩ ((leA).trans (Za _ _ _))
   refine xo 4 ?_;refine XO.ef (Jp Value.string underlying25 T8) ?_;rintro _ _ ⟨g,rfl,rfl⟩
   refine oo 1 ?_;refine XO.ef (Yw (f:=Value.string) (l:= []) (m:= []) underlying25 T8 rfl rfl rfl Zk (hs.le leA) (fun _=>rfl) (by simp;try omega) (by simp;try omega)) ?_
   rintro _ _ ⟨a2,c2,rfl,rfl⟩
   refine ox 2 ?_;refine Zq (lsH Value.string 9 a2 c2 []::q) func83 (Zm results83 rfl) ⟨_,rfl,a2,c2,by simp,rfl⟩
 refine Yb hs (by simp;omega) (fun b1 o1 e_=> ?_);subst e_
 refine xx 10 ?_;refine Wp 4 ?_;refine xo 4 ?_;refine XO.ef (Jp Value.string underlying25 T8) ?_;rintro _ _ ⟨g,rfl,rfl⟩
 refine oo 1 ?_;refine XO.ef (Yw (f:=Value.string) (l:= []) (m:=l) underlying25 T8 rfl rfl rfl Zk (hs.le leA) (fun _=>rfl) (by simp;try omega) (by simp;try omega)) ?_
 rintro _ _ ⟨a2,c2,rfl,rfl⟩
 refine ox 2 ?_;refine Zq (lsH Value.string 9 a2 c2 l::q) func83 (Zm results83 rfl) ⟨_,rfl,a2,c2,by simp,rfl⟩
theorem Oe {l:List Th}(hs:Sees q a (l.flatMap thC))(hL:l.length≤1000000000):CallF prog G 81 [.slice a l.length c] (q) (Ret fun v q'=> ∃ a' c',v= .slice a' l.length c'∧q'=rsH thC 3 55 a' c' l::q):=by
 refine CallF.of func81 ntmps81 rfl (fun F cs=> ?_)
 rcases Nat.eq_zero_or_pos l.length with hl0|hl0
 · obtain rfl:=List.eq_nil_of_length_eq_zero hl0
   refine xx 10 ?_;refine X.part 4 rfl (fun h1=> ?_) (fun h1=> ?_)
   · refine xx 5 ?_;refine Zq (rsH thC 3 55 none 0 []::q) func81 (Zm results81 rfl) ⟨_,rfl,none,0,rfl,rfl⟩ ((leA).trans (Zi _ _ _ _))
   refine xo 4 ?_;refine XO.ef (Qf thC underlying24 Me) ?_;rintro _ _ ⟨g,rfl,rfl⟩
   refine oo 1 ?_;refine XO.ef (Z8 (f:=thC) (l:= []) (m:= []) underlying24 Me rfl rfl Qd rfl rfl Zk (hs.le leA) L1 (by simp;try omega) (by simp;try omega)) ?_
   rintro _ _ ⟨a2,c2,rfl,rfl⟩
   refine ox 2 ?_;refine Zq (rsH thC 3 55 a2 c2 []::q) func81 (Zm results81 rfl) ⟨_,rfl,a2,c2,by simp,rfl⟩
 refine Yb hs (by rw [Zv Qd];omega) (fun b1 o1 e_=> ?_);subst e_
 refine xx 10 ?_;refine Wp 4 ?_;refine xo 4 ?_;refine XO.ef (Qf thC underlying24 Me) ?_;rintro _ _ ⟨g,rfl,rfl⟩
 refine oo 1 ?_;refine XO.ef (Z8 (f:=thC) (l:= []) (m:=l) underlying24 Me rfl rfl Qd rfl rfl Zk (hs.le leA) L1 (by simp;try omega) (by simp;try omega)) ?_
 rintro _ _ ⟨a2,c2,rfl,rfl⟩
 refine ox 2 ?_;refine Zq (rsH thC 3 55 a2 c2 l::q) func81 (Zm results81 rfl) ⟨_,rfl,a2,c2,by simp,rfl⟩
end
end Go.Proofs.YtflkjkhijcdbaaaGreat
