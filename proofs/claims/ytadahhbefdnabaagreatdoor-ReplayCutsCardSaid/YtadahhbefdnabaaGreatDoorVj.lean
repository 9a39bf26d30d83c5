/- Contracts. -/
import Derived.Test.YtadahhbefdnabaaGreatDoorVi
set_option maxHeartbeats 16000000
set_option maxRecDepth 100000
set_option linter.all false
namespace Go.Proofs.YtadahhbefdnabaaGreatDoor
open Go Go.RowKit Wx Go.Proofs.Tryz
attribute [local irreducible] lsH rsH stars
variable {K:PStm->Prop}{L:List PStm}{B k n N who N' f sb so:Nat}{C l lw:List Int}{s:MS}{p c lo T d co v kd:Int}{t:MTh}{i:Ins}{y:Sy}{x:PStm}{m m':Mdl}{q r:List HP}{E:Nat->Nat->Int}{ev:PEv}{o:POut}{g:FC}{F:Fnd}{P:Program}{G:World}{vs:List Value}
def N6 (L:List Ins)(y:Int):Prop:= ∀ i,L[y.toNat]? =some i->i.c≠26/\i.c≠31
def Mk (L:List Ins)(y:Int):Prop:= ∃ i,L[y.toNat]? =some i/\i.c=23
def AtI (L:List Ins)(p:Int)(i:Ins):Prop:=L[p.toNat]? =some i
def Ld (K:PStm->Prop)(L:List Ins)(p:Int)(i:Ins):Prop:=
 (i.c=23/\ ∃ x,K x/\i.a=x.idn/\ ∀ j,L[(p+1).toNat]? =some j->j.c=31->x.kd=13)\/(i.c≠23/\ ∀ y∈nxt i p,(p<y\/Mk L y)/\N6 L y)
def Per (R:Int->Ins->Prop)(s:Int)(C:List Ins):Prop:= ∀ k (h:k<C.length),R (s+k) C[k]
section
variable {R:Int->Ins->Prop}{L A B C:List Ins}{s t:Int}
def Per.app:Per R s (A++B)↔Per R s A/\Per R (s+A.length) B:=by
 constructor
 . intro h;refine ⟨fun k a=> ?_,fun k a=> ?_⟩
   . have:=h k (by rw [aA];omega);rwa [kJ a] at this
   have:=h (A.length+k) (by rw [aA];omega);simp [iK] at this;rwa [show s+(A.length:Int)+(k:Int)=s+((A.length+k:Nat):Int) by omega]
 rintro ⟨c,b⟩ k a;by_cases h:k<A.length
 . rw [kJ h];exact c k h
 have:=b (k - A.length) (by rw [aA] at a;omega);rw [fI Zq];rwa [show s+(A.length:Int)+((k - A.length:Nat):Int)=s+k by omega] at this
abbrev eI:=@Per.app
def Per.one:Per R s [i]↔R s i:=by
 constructor
 . intro h;have:=h 0 Zf;simpa using this
 intro h k a;obtain rfl:k=0:=by simpa using a
 simpa using h
abbrev fK:=@Per.one
def Per.at (h:Per R s C)(e:s=t):Per R t C:=e ▸ h
def N6.at' (h:N6 L s)(e:s=t):N6 L t:=e ▸ h
def Ld.on (hc:i.c≠23/\i.c≠19/\i.c≠20/\i.c≠21)(hn:N6 L (p+1)):Ld K L p i:= .inr ⟨hc.1,fun y a=>by
 unfold nxt at a;split at a
 . cases a
 rw [if_neg Zq,if_neg Zq,bE] at a;rw [a];exact ⟨.inl Zq,hn⟩⟩
def Ld.jmp (hc:i.c=19)(h:p<i.a\/Mk L i.a)(hn:N6 L i.a):Ld K L p i:= .inr ⟨Zq,fun y b=>by
 unfold nxt at b;rw [if_neg Zq,if_pos hc,bE] at b;rw [b];exact ⟨h,hn⟩⟩
def Ld.jif (hc:i.c=20\/i.c=21)(h:p<i.a)(hn:N6 L i.a)(hn2:N6 L (p+1)):Ld K L p i:= .inr ⟨Zq,fun y b=>by
 unfold nxt at b;rw [if_neg Zq,if_neg Zq,if_pos hc] at b;have d:y=i.a\/y=p+1:=by split at b<;>simp at b<;>omega
 rcases d with rfl|rfl
 . exact ⟨.inl h,hn⟩
 exact ⟨.inl Zq,hn2⟩⟩
def N6.one (h:AtI L p i)(hc:i.c≠26/\i.c≠31):N6 L p:=fun j a=>by rw [h] at a;cases a;exact hc
def cPl (i:Ins):Prop:=i.c≠23/\i.c≠26/\i.c≠31
def N6.run (hA:Per (AtI L) s C)(h: ∀ i∈C,cPl i){y}(h1:s<=y)(h2:y<s+C.length):N6 L y:=by
 have:=hA (y - s).toNat Zq;exact .one (by rwa [show s+((y - s).toNat:Int)=y by omega] at this) (h _ (aC _)).2
end
def PEx.ld: ∀ (N:Nat) (e:PEx),e.sz<=N->e.fit-> ∀ (s:Int),(∀ i∈e.code s,cPl i)/\ ∀ K L,(∀ y,s<y->y<=s+(e.code s).length->N6 L y)->Per (Ld K L) s (e.code s)
 |0,e,hN,_,_=>by have:=e.sz_pos;omega
 |N+1,.mk k n nm slot loc op args,hN,hfit,s=>by
  have ⟨hk,b,u,q,r⟩:=hfit
  have m: ∀ x∈args,∀ s:Int,(∀ i∈x.code s,cPl i)/\ ∀ K L,(∀ y,s<y->y<=s+(x.code s).length->N6 L y)->Per (Ld K L) s (x.code s):=fun x m=>by
   obtain ⟨i,p,rfl⟩:=eH m;have:=Du p;simp [PEx.sz] at hN;exact PEx.ld N _ Zq (Ua r m)
  have g: ∀ {i:Ins},(i.c≠26/\i.c≠31/\i.c≠23/\i.c≠19/\i.c≠20/\i.c≠21)->(∀ j∈ [i],cPl j)/\ ∀ K L,(∀ y,s<y->y<=s+([i]:List Ins).length->N6 L y)->Per (Ld K L) s [i]:=fun {i} h=>⟨Y8 ⟨h.2.2.1,h.1,h.2.1⟩,fun K L a=>fK.2 (.on ⟨h.2.2.1,h.2.2.2⟩ (a _ Zq Zf))⟩
  simp only [PEx.code];split
  . exact g Zf
  split
  . refine g ?_;dsimp only;split<;>decide
  split
  . exact g Zf
  rename_i d o h3;(try dsimp only);by_cases h6:k=6
  . obtain ⟨x,y,rfl⟩: ∃ x y,args= [x,y]:=by
     match args,b with
     | [x,y],_=>exact ⟨x,y,rfl⟩
     | [],b=>rw [h6] at b;cases b
     | [_],b=>rw [h6] at b;cases b
     |_::_::_::_,b=>rw [h6] at b;simp [Ra] at b
    have l:=m x Zf s;have f:=m y Zf;simp only [PEx.codes,eS,iI];subst h6;have t:=q rfl;by_cases ho:op<=2
    . simp only [ho,and_true,true_and,and_false,false_and,if_true,if_false,reduceIte];replace f:=f (s+((x.code s).length:Int)+1);obtain ⟨B,z⟩: ∃ B,y.code (s+((x.code s).length:Int)+1)=B:=⟨_,rfl⟩;rw [z] at f|-;refine ⟨Wj (Wj (Wj l.1 (Y8 ?_)) f.1) ?_,fun K L a=> ?_⟩
      . unfold cPl;dsimp only;split<;>decide
      . intro i p;simp [bS,gO,or_false] at p;rcases p with rfl|rfl|rfl<;>simp [cPl]
      simp [aA,aJ,aT] at a;refine eI.2 ⟨eI.2 ⟨eI.2 ⟨l.2 K L fun y d o=>a y d Zq,fK.2 (.jif (by dsimp only;split;exact .inl rfl;exact .inr rfl) Zy (a _ Zy Zy) (a _ Zq Zq))⟩,?_⟩,?_⟩
      . simp [aA,aJ,aT];exact (f.2 K L fun y d o=>a y Zq Zq).at Zq
      simp [aA,aJ,aT];refine (eI).2 ⟨fK.2 (.on Zf (a _ Zq Zq)),(eI).2 ⟨fK.2 (.jmp rfl (.inl (by simp [aJ,aT];omega)) (a _ Zy Zy)),fK.2 (.on Zf (a _ (by simp [aJ,aT];omega) (by simp [aJ,aT];omega)))⟩⟩
    simp (decide:=true) only [ho,and_true,true_and,and_false,false_and,if_true,if_false,reduceIte];replace f:=f (s+((x.code s).length:Int));refine ⟨Wj (Wj l.1 f.1) (Y8 (by unfold cPl;dsimp only;omega)),fun K L a=> ?_⟩;simp [aA,aJ,aT] at a;refine eI.2 ⟨eI.2 ⟨l.2 K L fun y d o=>a y d Zq,f.2 K L fun y d o=>a y Zq Zq⟩,fK.2 (.on Zy (a _ (by simp [aA];omega) (by simp [aA];omega)))⟩
  obtain ⟨x,rfl⟩: ∃ x,args= [x]:=by
   have d:args.length=1:=by rw [b];unfold Ra;rw [if_pos Zq]
   match args,d with
   | [x],_=>exact ⟨x,rfl⟩
  have l:=m x Zf s;simp [PEx.codes,eS]
  have v: ∀ {i:Ins},(i.c≠26/\i.c≠31/\i.c≠23/\i.c≠19/\i.c≠20/\i.c≠21)->(∀ j∈x.code s++ [i],cPl j)/\ ∀ K L,(∀ y,s<y->y<=s+(x.code s++ [i]).length->N6 L y)->Per (Ld K L) s (x.code s++ [i]):=fun {i} h=>by
   refine ⟨Wj l.1 (Y8 ⟨h.2.2.1,h.1,h.2.1⟩),fun K L a=> ?_⟩;simp [aA,aJ,aT] at a;exact eI.2 ⟨l.2 K L fun y d o=>a y d Zq,fK.2 (.on ⟨h.2.2.1,h.2.2.2⟩ (a _ Zq Zq))⟩
  have w:k=3\/k=4\/k=5:=Zq;rcases w with rfl|rfl|rfl<;>simp only [false_and,if_true,if_false,reduceIte]<;>exact v Zf
def pre_ld {L}{k id}{e ix}(he:k<=5\/k=11\/k=15->e.fit)(hx:k=3->ix.fit)(hK:K x)(hi:x.idn=id)(hA:Per (AtI L) p (Js k e ix id p))(h1:k<=5\/k=11\/k=15->N6 L (p+(Js k e ix id p).length))(h2: ¬ (k<=5\/k=11\/k=15)-> ∀ j,L[(p+1).toNat]? =some j->j.c=31->x.kd=13):Per (Ld K L) p (Js k e ix id p):=by
 have mk:(N6 L (p+1)\/ ∀ j,L[(p+1).toNat]? =some j->j.c=31->x.kd=13)->Per (Ld K L) p [⟨23,id,0,0⟩]:=fun h=>fK.2 (.inl ⟨rfl,x,hK,hi.symm,fun j o q=>by
  rcases h with h|h
  . exact aV q (h j o).2
  exact h j o q⟩)
 unfold Js at hA h1|-;by_cases hk:k<=5\/k=11\/k=15
 . simp only [if_pos hk] at hA h1|-;have r:=PEx.ld _ e (aS _) (he hk);by_cases h3:k=3
   . simp only [if_pos h3] at hA h1|-;have ⟨n,f⟩:=PEx.ld _ ix (aS _) (hx h3) (p+1);obtain ⟨X,u⟩: ∃ X,ix.code (p+1)=X:=⟨_,rfl⟩;rw [u] at hA h1 n f|-;have ⟨g,a⟩:=r (p+(([⟨23,id,0,0⟩]++X:List Ins).length:Int));obtain ⟨E,b⟩: ∃ E,e.code (p+(([⟨23,id,0,0⟩]++X:List Ins).length:Int))=E:=⟨_,rfl⟩;rw [b] at hA h1 g a|-;rw [eI,eI] at hA;have ⟨⟨_,s⟩,i⟩:=hA;replace h1:=h1 hk;simp [] at s i a h1
     have d: ∀ y,p<y->y<=p+1+X.length+E.length->N6 L y:=fun y m l=>by
      by_cases c1:y<p+1+X.length
      . exact N6.run (s.at Zq) n Zq c1
      by_cases c2:y<p+1+X.length+E.length
      . exact N6.run i g Zq Zq
      exact h1.at' Zq
     refine eI.2 ⟨eI.2 ⟨mk (.inl (d _ Zq Zq)),(f K L fun y m l=>d y Zq Zq).at Zf⟩,?_⟩;exact a K L fun y m l=>d y Zq Zq
   simp only [if_neg h3] at hA h1|-;have ⟨g,a⟩:=r (p+(([⟨23,id,0,0⟩]:List Ins).length:Int));obtain ⟨E,b⟩: ∃ E,e.code (p+(([⟨23,id,0,0⟩]:List Ins).length:Int))=E:=⟨_,rfl⟩;rw [b] at hA h1 g a|-;rw [eI] at hA;have ⟨_,i⟩:=hA;replace h1:=h1 hk;simp [] at i a h1
   have d: ∀ y,p<y->y<=p+1+E.length->N6 L y:=fun y m l=>by
    by_cases c2:y<p+1+E.length
    . exact N6.run i g Zq Zq
    exact h1.at' Zq
   refine eI.2 ⟨mk (.inl (d _ Zq Zq)),?_⟩;exact a K L fun y m l=>d y Zq Zq
 simp [if_neg hk,if_neg (fun h=>hk (.inl Zq): ¬k=3)] at hA|-;exact mk (.inr (h2 hk))
def tail_ld {L}{m k slot other}{loc}(hk:1<=k/\k<=15)(h4:k≠4)(h5:k≠5)(hA:Per (AtI L) p (V7 m k slot other loc))(hE:N6 L (p+(V7 m k slot other loc).length)):Per (Ld K L) p (V7 m k slot other loc)/\(k<=5\/k=11\/k=15->N6 L p)/\(k≠13-> ∀ j,L[p.toNat]? =some j->j.c≠31):=by
 have b: ∀ s l,(intoS s l).c≠26/\(intoS s l).c≠31/\(intoS s l).c≠23/\(intoS s l).c≠19/\(intoS s l).c≠20/\(intoS s l).c≠21:=fun s l=>by unfold intoS;cases l<;>simp
 have d: ∀ {i:Ins},Per _ p [i]->N6 L _->(i.c≠23/\i.c≠19/\i.c≠20/\i.c≠21)->((k<=5\/k=11\/k=15)->i.c≠26/\i.c≠31)->(k≠13->i.c≠31)->Per (Ld K L) p [i]/\(k<=5\/k=11\/k=15->N6 L p)/\(k≠13-> ∀ j,L[p.toNat]? =some j->j.c≠31):=fun {i} a n c1 c2 c3=>⟨fK.2 (.on c1 n),fun h=> .one (fK.1 a) (c2 h),fun h j e=>by
  have:=fK.1 a;rw [this] at e;cases e;exact c3 h⟩
 have q:k=1\/k=2\/k=3\/k=6\/k=7\/k=8\/k=9\/k=10\/k=11\/k=12\/k=13\/k=14\/k=15:=Zq;obtain ⟨T,g⟩: ∃ T,V7 m k slot other loc=T:=⟨_,rfl⟩;rw [g] at hA hE|-;unfold V7 at g;have f:=b slot loc;rcases q with rfl|rfl|rfl|rfl|rfl|rfl|rfl|rfl|rfl|rfl|rfl|rfl|rfl<;>simp (decide:=true) only [if_true,if_false] at g<;>subst g<;>first|exact d hA hE f.2.2 (fun _=>⟨f.1,f.2.1⟩) (fun _=>f.2.1)|exact d hA hE Zf Zf Zf|skip
 rw [show ([⟨30,slot,0,0⟩,intoS other loc]:List Ins)= [⟨30,slot,0,0⟩]++ [intoS other loc] from rfl,eI,fK,fK] at hA|-;have o:=b other loc
 exact ⟨⟨.on Zf (.one hA.2 ⟨o.1,o.2.1⟩),.on o.2.2 (hE.at' (by simp [];omega))⟩,fun h=>by omega,fun _ j e=>by
  have:=hA.1;rw [this] at e;cases e;simp⟩
def Zq2 (m:Int): ∀ (s:PStm) (p:Int),∃ r,(s.code m p).map Prod.fst=⟨23,s.idn,0,0⟩::r
 | .mk k ln _ _ _ e ix body els id slot other loc,p=>by
  have h: ∀ p,∃ r,Js k e ix id p=⟨23,id,0,0⟩::r:=fun p=>by unfold Js;split<;>split<;>exact ⟨_,rfl⟩
  have ⟨r,a⟩:=h p;simp [PStm.code,a];split
  . split<;>simp only [aN,]<;>exact ⟨_,rfl⟩
  split<;>simp only [aN,Uh]<;>exact ⟨_,rfl⟩
def Gq {L}{m q}{l}(hA:Per (AtI L) p ((PStm.codes m l q).map Prod.fst))(h:N6 L (p+(PStm.codes m l q).length)):N6 L p:=by
 cases l with
 |nil=>simpa [PStm.codes] using h
 |cons s r=>
  have ⟨c,a⟩:=Zq2 m s q;simp [PStm.codes,a] at hA;have:=hA 0 Zf;exact .one (by simpa using this) Zf
mutual
def PStm.ld {c}{lo}(m:Int){K}{L}: ∀ {s:PStm},s.wl c lo-> ∀ (d p:Int),(∀ y∈s.its d,K y.2)->Per (AtI L) p ((s.code m p).map Prod.fst)->N6 L (p+(s.code m p).length)->Per (Ld K L) p ((s.code m p).map Prod.fst)
 | .mk k ln cl nm wt e ix body els id slot other loc,⟨h1,h2,h3,_,_,h6,h7⟩,d,p,hK,hA,hE=>by
  have hM:AtI L p ⟨23,id,0,0⟩:=by
   have ⟨r,hr⟩:=(Zq2 m (.mk k ln cl nm wt e ix body els id slot other loc) p);rw [hr] at hA;have:=hA 0 Zf;simpa [PStm.idn] using this
  simp only [PStm.its] at hK;have v: ∀ y∈Zt body (d+1),K y.2:=fun y z=>hK y (bQ _ (eZ _ z))
  simp only [PStm.code] at hA hE|-;have f:=pre_ld (K:=K) (L:=L) (k:=k) (id:=id) (p:=p) (e:=e) (ix:=ix) (fun h=>(h2 h).1) (fun h=>(h3 h).1) (hK _ (bO ..)) rfl;obtain ⟨C,hC⟩: ∃ C,Js k e ix id p=C:=⟨_,rfl⟩;rw [hC] at hA hE f|-;by_cases h4:k=4
  . subst h4;simp only [if_true] at hA hE|-;have o:=Be (K:=K) (L:=L) m h6 (d+1) (p+(C.length:Int)+1) v;obtain ⟨B,hB⟩: ∃ B,PStm.codes m body (p+(C.length:Int)+1)=B:=⟨_,rfl⟩;have n:=Gq (L:=L) (m:=m) (p:=p+(C.length:Int)+1) (q:=p+(C.length:Int)+1) (l:=body);rw [hB] at hA hE o n|-;by_cases hn:els= []
    . simp only [if_pos hn] at hA hE|-;rw [aN,Uh,eI,eI,fK] at hA|-;have ⟨⟨i,g⟩,a⟩:=hA;simp [aA,Yx,aJ,aT] at a hE|-;replace a:=a.at (t:=p+(C.length:Int)+1) Zq;have b:N6 L (p+(C.length:Int)+1+(B.length:Int)):=hE.at' Zq;exact ⟨⟨f i (fun _=> .one g Zf) (fun h=>aV (.inl Zw) h),.jif (.inl rfl) Zy b (n a b)⟩,(o a b).at Zq⟩
    simp only [if_neg hn] at hA hE|-;have io:=Be (K:=K) (L:=L) m h7 (d+1) (p+(C.length:Int)+1+(B.length:Int)+1) (fun y z=>hK y (bQ _ (gT _ z)));obtain ⟨O,hO⟩: ∃ O,PStm.codes m els (p+(C.length:Int)+1+(B.length:Int)+1)=O:=⟨_,rfl⟩;have no:=Gq (L:=L) (m:=m) (p:=p+(C.length:Int)+1+(B.length:Int)+1) (q:=p+(C.length:Int)+1+(B.length:Int)+1) (l:=els);rw [hO] at hA hE io no|-;rw [aN,aN,aN,Uh,Uh,eI,eI,eI,eI,fK,fK] at hA|-;have ⟨⟨⟨⟨i,g⟩,a⟩,x⟩,w⟩:=hA;simp [aA,Yx,aI,aJ,aT] at a x w hE|-;replace a:=a.at (t:=p+(C.length:Int)+1) Zq;replace w:=w.at (t:=p+(C.length:Int)+1+(B.length:Int)+1) Zq;have b:N6 L (p+(C.length:Int)+1+(B.length:Int)+1+(O.length:Int)):=hE.at' Zq;have u:N6 L (p+(C.length:Int)+1+(B.length:Int)):=(N6.one x Zf).at' Zq;exact ⟨⟨⟨⟨f i (fun _=> .one g Zf) (fun h=>aV (.inl Zw) h),.jif (.inl rfl) Zy (no w b) (n a u)⟩,(o a u).at Zq⟩,.jmp rfl (.inl Zy) b⟩,(io w b).at Zq⟩
  simp only [if_neg h4] at hA hE|-;by_cases h5:k=5
  . subst h5;simp only [if_true] at hA hE|-;have o:=Be (K:=K) (L:=L) m h6 (d+1) (p+(C.length:Int)+1) v;obtain ⟨B,hB⟩: ∃ B,PStm.codes m body (p+(C.length:Int)+1)=B:=⟨_,rfl⟩;have n:=Gq (L:=L) (m:=m) (p:=p+(C.length:Int)+1) (q:=p+(C.length:Int)+1) (l:=body);rw [hB] at hA hE o n|-;rw [aN,aN,Uh,Uh,eI,eI,eI,fK,fK] at hA|-;have ⟨⟨⟨i,g⟩,a⟩,x⟩:=hA;simp [aA,Yx,aI,aJ,aT] at a x hE|-;replace a:=a.at (t:=p+(C.length:Int)+1) Zq;have u:N6 L (p+(C.length:Int)+1+(B.length:Int)):=(N6.one x Zf).at' Zq;exact ⟨⟨⟨f i (fun _=> .one g Zf) (fun h=>aV (.inl Zw) h),.jif (.inl rfl) Zy (hE.at' Zy) (n a u)⟩,(o a u).at Zq⟩,.jmp rfl (.inr ⟨_,hM,rfl⟩) (.one hM Zf)⟩
  simp [if_neg h5] at hA hE|-;rw [Uh,eI] at hA|-;rw [Yx,aA] at hE;obtain ⟨t1,t2,t3⟩:=tail_ld h1 h4 h5 hA.2 (hE.at' Zq);refine ⟨f hA.1 t2 (fun h j hj hc=> ?_),t1⟩;by_cases h13:k=13
  . exact h13
  have e1:C.length=1:=by rw [<-hC];unfold Js;simp only [if_neg h,if_neg (fun q=>h (.inl Zq): ¬k=3)];rfl
  rw [e1] at t3;exact aV hc (t3 h13 j hj)
def Be {c}{lo}(m:Int){K}{L}: ∀ {l},Wv c lo l-> ∀ (d p:Int),(∀ y∈Zt l d,K y.2)->Per (AtI L) p ((PStm.codes m l p).map Prod.fst)->N6 L (p+(PStm.codes m l p).length)->Per (Ld K L) p ((PStm.codes m l p).map Prod.fst)
 | [],_,d,p,_,_,_=>fun k h=>by simp only [PStm.codes,dF,aT] at h;omega
 |s::r,⟨h1,h2⟩,d,p,hK,hA,hE=>by
  simp [PStm.codes,] at hA hE|-;rw [eI,aI] at hA|-;exact ⟨PStm.ld m h1 d p (fun y a=>hK y (eZ _ a)) hA.1 (Gq hA.2 (hE.at' Zq)),Be m h2 d _ (fun y a=>hK y (gT _ a)) hA.2 (hE.at' Zq)⟩
end
def th_ld {c}(m:Int){t}(h:Wv c lo t.body)(hK: ∀ y∈Zt t.body 0,K y.2):Per (Ld K ((Yz m t).map Prod.fst)) 0 ((Yz m t).map Prod.fst):=by
 obtain ⟨L,e⟩: ∃ L,(Yz m t).map Prod.fst=L:=⟨_,rfl⟩;have i:Per (AtI L) 0 L:=fun k g=>by unfold AtI;rw [show ((0:Int)+(k:Int)).toNat=k by omega];exact aB g
 have f:L=(PStm.codes m t.body 0).map Prod.fst++ [⟨34,0,0,0⟩]:=by rw [<-e];unfold Yz;rw [aN,Uh]
 rw [e];obtain ⟨C,b⟩: ∃ C,(PStm.codes m t.body 0).map Prod.fst++ [⟨34,0,0,0⟩]=C:=⟨_,rfl⟩;have a:=i;rw [show Per _ 0 L↔Per _ 0 C by rw [<-b,<-f],<-b,eI,fK,aI] at a;rw [show Per _ 0 L↔Per _ 0 C by rw [<-b,<-f],<-b,eI,fK];refine ⟨Be m h 0 0 hK a.1 (.one a.2 Zf),.inr ⟨Zf,fun y d=> ?_⟩⟩;unfold nxt at d;cases d
abbrev Qk (m:Mdl)(k:Nat):List Ins:=(m.threads.map (fun x:Cod=>x.ins)).getD k []
abbrev Sp (m:Mdl)(k:Nat):Int:=(m.threads.map (fun x:Cod=>x.locals)).getD k 0
def Gk (h:k<m.threads.length):Qk m k=(m.threads[k]).ins:=by
 unfold Qk;rw [aH,bZ,aB h];rfl
def Zj0 (m:Mdl)(k p:Int):Ek m k p=(Qk m k.toNat).getD p.toNat N7:=rfl
def KS (L:List PStm)(T:Int)(x:PStm):Prop:=(0<=x.idn/\x.idn<L.length)/\L.getD x.idn.toNat Hs=x/\(x.kd=13->0<=x.slt/\x.slt<T)
structure Cds (m:Mdl) (T:Int) (L:List PStm) (E:Nat->Nat->Int):Prop where
 s: ∀ k,k<m.threads.length->Snd (Qk m k) (E k)
 l: ∀ k,k<m.threads.length->Per (Ld (KS L T) (Qk m k)) 0 (Qk m k)
 g: ∀ k,k<m.threads.length-> ∀ i∈Qk m k,IG ⟨m.vars.length,m.arrays.length,m.mutexes,m.conds,m.chans.length,m.threads.length⟩ (Sp m k) (Qk m k).length i
 n: ∀ k,k<m.threads.length->(Qk m k).length<=36000/\0<=Sp m k/\Sp m k<=1000
 h: ∀ k,k<m.threads.length->((Qk m k).getD 0 N7).c=23\/((Qk m k).getD 0 N7).c=34
 a: ∀ x∈m.arrays,0<=x/\x<=256
 c:(m.vars.length:Int)+Wy m.arrays<=1000000
structure TR (m:Mdl) (E:Nat->Nat->Int) (n:Nat) (t:MTh):Prop where
 k:0<=t.code/\t.code<m.threads.length
 p:0<=t.pc/\t.pc<(Qk m t.code.toNat).length
 l:(t.loc.length:Int)=Sp m t.code.toNat
 v: ∀ v∈t.loc,val v
 d:(t.stk.length:Int)=E t.code.toNat t.pc.toNat
 w: ∀ v∈t.stk,val v
 sp:t.sp.length<n/\ ∀ i∈t.sp,0<=i/\i.toNat<n
def Uq (C:List (List Int)):Prop:= ∀ (i j a b:Nat) (t:Int),(C.getD i [])[a]? =some t->(C.getD j [])[b]? =some t->i=j/\a=b
structure MR (m:Mdl) (E:Nat->Nat->Int) (N:Nat) (s:MS):Prop where
 n:1<=s.ths.length/\s.ths.length<=8
 t: ∀ i,i<s.ths.length->TR m E s.ths.length (s.th i)
 c:(s.cells.length:Int)=m.vars.length+Wy m.arrays
 v: ∀ v∈s.cells,val v
 y:s.sy.ok N
 w: ∀ l∈s.sy.conds,∀ t∈l,t.toNat<s.ths.length/\(s.th t.toNat).st=2
 u:Uq s.sy.conds
 k:0<=s.cnt/\s.cnt<=N
def Bd (m:Mdl)(t:MTh):Prop:=(t.at m).c=23/\t.st≠4\/(t.at m).c=34/\t.st=4
section
variable {t':MTh}
def TR.in (hT:TR m E n t):t.pc.toNat<(Qk m t.code.toNat).length:=by have:=hT.p;omega
def TR.cl (hT:TR m E n t):t.code.toNat<m.threads.length:=by have:=hT.k;omega
def TR.get (hT:TR m E n t):(Qk m t.code.toNat)[t.pc.toNat]? =some (t.at m):=by
 unfold MTh.at;rw [Zj0,aH,aB hT.in];rfl
def TR.mem (hT:TR m E n t):t.at m∈Qk m t.code.toNat:=gC hT.get
def TR.mono {n'}(hT:TR m E n t)(h:n<=n'):TR m E n' t:=⟨hT.k,hT.p,hT.l,hT.v,hT.d,hT.w,by have:=hT.sp.1;omega,fun i a=>by have:=hT.sp.2 i a;omega⟩
def Cds.at (hC:Cds m T L E)(hT:TR m E n t):IG ⟨m.vars.length,m.arrays.length,m.mutexes,m.conds,m.chans.length,m.threads.length⟩ (Sp m t.code.toNat) (Qk m t.code.toNat).length (t.at m)/\(Y4 (t.at m).c).1<=t.stk.length/\(t.stk.length:Int)<=65/\(((t.at m).c=23\/(t.at m).c=34)->t.stk= [])/\Ld (KS L T) (Qk m t.code.toNat) t.pc (t.at m):=by
 have a:=(hC.s _ hT.cl).go t.pc.toNat hT.in (by rw [<-hT.d];omega);have e:(Qk m t.code.toNat).getD t.pc.toNat N7=t.at m:=rfl;rw [e,<-hT.d] at a;have b:=hC.l _ hT.cl t.pc.toNat hT.in;have f:(Qk m t.code.toNat)[t.pc.toNat]'hT.in=t.at m:=by have:=hT.get;rw [aB hT.in] at this;exact dR this
 rw [f,show (0:Int)+(t.pc.toNat:Int)=t.pc by have:=hT.p;omega] at b;have j:(Y4 (t.at m).c).1<=40:=by (unfold Y4;repeat' split)<;>decide
 have i:=Pc (t.at m).c;exact ⟨hC.g _ hT.cl _ hT.mem,Zq,Zq,fun h=>aW (by omega),b⟩
theorem TR.go (hC:Cds m T L E)(hT:TR m E n t)(h1:t'.code=t.code)(h2:t'.pc∈nxt (t.at m) t.pc)(h3:(t'.stk.length:Int)=t.stk.length - (Y4 (t.at m).c).1+(Y4 (t.at m).c).2)(h4: ∀ v∈t'.stk,val v)(h5:t'.loc.length=t.loc.length)(h6: ∀ v∈t'.loc,val v)(h7:t'.sp=t.sp):TR m E n t':=by
 have a:=(hC.s _ hT.cl).go t.pc.toNat hT.in (by rw [<-hT.d];omega);have e:(Qk m t.code.toNat).getD t.pc.toNat N7=t.at m:=rfl;rw [e,<-hT.d,show ((t.pc.toNat:Nat):Int)=t.pc by have:=hT.p;omega] at a;have ⟨g,f,b⟩:=a.2.2.2 _ h2;exact ⟨by rw [h1];exact hT.k,by rw [h1];omega,by rw [h5,h1];exact hT.l,h6,by rw [h3,h1,b],h4,by rw [h7];exact hT.sp⟩
def TR.back (hC:Cds m T L E)(hT:TR m E n t)(h1:t'.code=t.code)(hp:1<=t.pc)(h2:t'.pc=t.pc - 1)(hm:((Qk m t.code.toNat).getD (t.pc.toNat - 1) N7).c=23)(hd:E t.code.toNat (t.pc.toNat - 1)=0)(h3:t'.stk= [])(h5:t'.loc=t.loc)(h7:t'.sp=t.sp):TR m E n t':=by
 have:=hT.p;exact ⟨by rw [h1];exact hT.k,by rw [h1];omega,by rw [h5,h1];exact hT.l,by rw [h5];exact hT.v,by rw [h1,h2,h3,show (t.pc - 1).toNat=t.pc.toNat - 1 by omega,hd];rfl,(fun v a=>by rw [h3] at a;cases a),by rw [h7];exact hT.sp⟩
def Jv (hw:who<s.ths.length)(j:Nat):(⟨C,y,s.ths.set who t,o,c⟩:MS).th j=if j=who then t else s.th j:=by
 unfold MS.th;rw [aH,aH];by_cases h:j=who
 . rw [if_pos h,h,jA hw];rfl
 rw [if_neg h,List.getElem?_set_ne (Ne.symm h)]
def on_th (hw:who<s.ths.length):(s.on who).th who= { s.th who with pc:=(s.th who).pc+1 } :=by
 unfold MS.on MS.put;rw [Jv hw,if_pos rfl]
def on_put (X:MTh):(s.on who).put who X=⟨s.cells,s.sy,s.ths.set who X,s.out,s.cnt+1⟩:=by unfold MS.on MS.put;simp
def on_len:(s.on who).ths.length=s.ths.length:=by unfold MS.on MS.put;simp
def MR.set (hM:MR m E N s)(hw:who<s.ths.length)(h1:(s.th who).st=1)(hT:TR m E s.ths.length t)(hc:C.length=s.cells.length)(hv: ∀ v∈C,val v)(hy:y.ok N')(hN:N+1<=N')(hq: ∀ l∈y.conds,∀ x∈l,(∃ l∈s.sy.conds,x∈l)\/(x.toNat=who/\t.st=2))(hu:Uq y.conds):MR m E N' ⟨C,y,s.ths.set who t,s.out,s.cnt+1⟩:=by
 have d:(s.ths.set who t).length=s.ths.length:=aR;refine ⟨by rw [d];exact hM.n,fun j e=> ?_,by rw [hc];exact hM.c,hv,hy,fun l a x o=> ?_,hu,by dsimp only;have:=hM.k;omega⟩
 . rw [d] at e|-;rw [Jv hw];split
   . exact hT
   exact hM.t j e
 rw [d,Jv hw];rcases hq l a x o with ⟨i,g,f⟩|⟨g,f⟩
 . have b:=hM.w i g x f;refine ⟨b.1,?_⟩;rw [if_neg (fun h=>by rw [h,h1] at b;exact aV b.2 Zw)];exact b.2
 rw [if_pos g];exact ⟨Zq,f⟩
def Zj3 {α:Type}{C:List (List α)}{i}{l}:(C.set k l).getD i []=if i=k/\k<C.length then l else C.getD i []:=by
 rw [aH,aH,kO];by_cases h:k=i
 . subst h;by_cases h2:k<C.length
   . simp [h2]
   simp [h2]
 rw [if_neg h,if_neg (fun q=>h q.1.symm)]
def Rz {α:Type}{C:List (List α)}{i}{x}(h:x∈C.getD i []): ∃ l∈C,x∈l:=by
 by_cases hi:i<C.length
 . rw [gD hi] at h;exact ⟨_,aC hi,h⟩
 rw [aH,eK Zq] at h;cases h
theorem Uq.add {C}{t}(h:Uq C)(hk:k<C.length)(hn: ¬∃ l∈C,t∈l):Uq (C.set k (C.getD k []++ [t])):=by
 have d: ∀ i a u,((C.set k (C.getD k []++ [t])).getD i [])[a]? =some u->(C.getD i [])[a]? =some u\/(u=t/\i=k/\a=(C.getD k []).length):=fun i a u c=>by
  rw [Zj3] at c;split at c
  . rename_i e;rw [List.getElem?_append] at c;split at c
    . rw [e.1];exact .inl c
    have:a - (C.getD k []).length=0:=by
     rcases cQ _ with n|n
     . exact n
     rw [eK (by rw [cI];omega)] at c;cases c
    rw [this] at c;simp at c;exact .inr ⟨c.symm,e.1,Zq⟩
  exact .inl c
 have m: ∀ i a,(C.getD i [])[a]? ≠some t:=fun i a e=>hn (Rz (gC e))
 intro i j a b u p o;rcases d i a u p with g|⟨g,w,v⟩<;>rcases d j b u o with f|⟨f,s,r⟩
 . exact h i j a b u g f
 . subst f;exact aV g (m i a)
 . subst g;exact aV f (m j b)
 exact ⟨Zq,Zq⟩
theorem Uq.cut {C}{d}(h:Uq C)(hk:k<C.length):Uq (C.set k ((C.getD k []).drop d))/\ ∀ l∈C.set k ((C.getD k []).drop d),∀ x∈l,(∃ l∈C,x∈l)/\x∉(C.getD k []).take d:=by
 have c: ∀ i a u,((C.set k _).getD i [])[a]? =some u->(C.getD i [])[if i=k then d+a else a]? =some u:=fun i a u f=>by
  rw [Zj3] at f;split at f
  . rename_i e;rw [lP] at f;rw [if_pos e.1,e.1];exact f
  rename_i e;rw [if_neg (fun q=>e ⟨q,hk⟩)];exact f
 constructor
 . intro i j a b u m w;have ⟨o,n⟩:=h i j _ _ u (c i a u m) (c j b u w);subst o;refine ⟨rfl,?_⟩;split at n<;>omega
 intro l s x p;obtain ⟨i,t,rfl⟩:=eH s;have ⟨a,v⟩:=lA p;have m:=c i a x (by rw [gD t];exact v);refine ⟨Rz (gC m),fun r=> ?_⟩;have ⟨b,g⟩:=lA r;rw [kB] at g;split at g
 . have ⟨o,n⟩:=h i k _ _ x m g;rw [if_pos o] at n;omega
 cases g
def Zzi (co:Int): ∀ (l:List Int) (s:MS) (ev:PEv),(∀ x∈l,0<=x/\x.toNat<s.ths.length)-> ∃ ths,(Yd co l s ev).1= { s with ths:=ths } /\ths.length=s.ths.length/\ ∀ j,(Yd co l s ev).1.th j=if (j:Int)∈l then { s.th j with st:=3 } else s.th j
 | [],s,ev,_=>⟨s.ths,rfl,rfl,fun j=>by simp [Yd]⟩
 |y::r,s,ev,h=>by
  have a:=h y (bO ..)
  have ⟨ths,f,e,d⟩:=Zzi co r (Hw s co y ev).1 (Hw s co y ev).2 (fun x b=>by
   have:=h x (bQ _ b);unfold Hw;rw [Vh];exact this)
  unfold Yd;refine ⟨ths,by rw [f];rfl,by rw [e];unfold Hw;rw [Vh],fun j=> ?_⟩;rw [d];have c:(Hw s co y ev).1.th j=if j=y.toNat then { s.th y.toNat with st:=3 } else s.th j:=Jv a.2 j
  rw [c];by_cases h1:j=y.toNat
  . have:(j:Int)=y:=Zq;subst h1;rw [if_pos rfl,if_pos (show _∈y::r by rw [this];exact bO ..)];split<;>rfl
  have: ¬ (j:Int)=y:=Zq;rw [if_neg h1];simp [this]
def MR.wake (hM:MR m E N s)(hw:who<s.ths.length)(h1:(s.th who).st=1)(h2:t.st=1)(hT:TR m E s.ths.length t)(hy:y.ok N')(hN:N+1<=N')(hl: ∀ x∈lw,∃ l∈s.sy.conds,x∈l)(hq: ∀ l∈y.conds,∀ x∈l,(∃ l∈s.sy.conds,x∈l)/\x∉lw)(hu:Uq y.conds):MR m E N' (Yd co lw ⟨s.cells,y,s.ths.set who t,s.out,s.cnt+1⟩ ev).1/\ ∀ j,(Yd co lw ⟨s.cells,y,s.ths.set who t,s.out,s.cnt+1⟩ ev).1.th j=if (j:Int)∈lw then { s.th j with st:=3 } else if j=who then t else s.th j:=by
 have i: ∀ x∈lw,(0<=x/\x<=7)/\x.toNat<s.ths.length/\(s.th x.toNat).st=2:=fun x f=>by
  have ⟨l,a,b⟩:=hl x f;exact ⟨(hM.y.c l a).2 x b,hM.w l a x b⟩
 have g:(s.ths.set who t).length=s.ths.length:=aR;have ⟨ths,q,e2,e3⟩:=Zzi co lw ⟨s.cells,y,s.ths.set who t,s.out,s.cnt+1⟩ ev (fun x f=>⟨(i x f).1.1,by rw [g];exact (i x f).2.1⟩)
 have e4: ∀ j,(Yd co lw ⟨s.cells,y,s.ths.set who t,s.out,s.cnt+1⟩ ev).1.th j=if (j:Int)∈lw then { s.th j with st:=3 } else if j=who then t else s.th j:=fun j=>by
  rw [e3 j,Jv hw];split
  . rename_i u;rw [if_neg (fun e=>by have:=(i _ u).2.2;rw [cG,e,h1] at this;exact aV this Zw)]
  rfl
 refine ⟨?_,e4⟩;have o:(Yd co lw ⟨s.cells,y,s.ths.set who t,s.out,s.cnt+1⟩ ev).1.ths.length=s.ths.length:=by rw [q];rw [e2,g]
 refine ⟨by rw [o];exact hM.n,fun j u=> ?_,by rw [q];exact hM.c,by rw [q];exact hM.v,by rw [q];exact hy,fun l r x f=> ?_,by rw [q];exact hu,by rw [q];exact (hM.set hw h1 hT rfl hM.v hy hN (fun l hl x f=> .inl (hq l hl x f).1) hu).k⟩
 . rw [o] at u|-;rw [e4];have h:=hM.t j u;split
   . exact ⟨h.k,h.p,h.l,h.v,h.d,h.w,h.sp⟩
   split
   . exact hT
   exact h
 rw [q] at r;have ⟨⟨l',a,b⟩,c⟩:=hq l r x f;have z:=hM.w l' a x b;have h6:=(hM.y.c l' a).2 x b;rw [o,e4,if_neg (by rw [show ((x.toNat:Nat):Int)=x by omega];exact c),if_neg (fun e=>by rw [e,h1] at z;exact aV z.2 Zw)];exact z
end
def Zqy {x}(h: ¬ (x.c=19\/x.c=20\/x.c=21\/x.c=34)):p+1∈nxt x p:=by
 unfold nxt;rw [if_neg Zq,if_neg Zq,if_neg Zq];exact bE.2 rfl
def nxt_br {x}(h:x.c=20\/x.c=21):x.a∈nxt x p/\p+1∈nxt x p:=by
 unfold nxt;rw [if_neg Zq,if_neg Zq,if_pos h];split
 . rename_i e;rw [<-e];exact ⟨bE.2 rfl,bE.2 rfl⟩
 exact ⟨bO ..,bQ _ (bE.2 rfl)⟩
def valD (h: ∀ v∈l,val v)(n:Nat):val (l.getD n 0):=by
 by_cases k:n<l.length
 . rw [gD k];exact h _ (aC k)
 rw [aH,eK Zq];decide
def push_len (t:MTh)(v:Int):(t.push v).stk.length=t.stk.length+1:=by unfold MTh.push;rw [aA];rfl
def Fm (h: ∀ v∈t.stk,val v)(hv:val v): ∀ x∈(t.push v).stk,val x:=fun x a=>by
 rcases bP.1 a with a|a
 . exact h x a
 rw [bE.1 a];exact hv
def Zy2 (h: ∀ v∈t.stk,val v): ∀ v∈t.pop.stk,val v:=fun x hx=>h x (fA hx)
def X6 (h: ∀ v∈l,val v)(hv:val v): ∀ x∈l.set n v,val x:=fun x a=>by
 rcases cT a with a|rfl
 . exact h x a
 exact hv
def recv_val (h:y.ok N)(k:Int):val (Qz y k).2.1:=by
 have z:val 0:=Zw;unfold Qz;split
 . rename_i a;split
   . exact z
   exact valD (h.h _ (Uu (M4 a))).2.2.2.2 _
 exact z
def Zkb (y:Sy)(a b:Int):(Jp y a b).1.conds=y.conds:=by
 unfold Jp;repeat' split
 all_goals rfl
def Zbm (y:Sy)(a b:Int):(Vv y a b).1.conds=y.conds:=by
 unfold Vv;repeat' split
 all_goals rfl
def con_send (y:Sy)(a b:Int):(Qo y a b).1.conds=y.conds:=by
 unfold Qo;repeat' split
 all_goals rfl
def con_recv (y:Sy)(a:Int):(Qz y a).1.conds=y.conds:=by
 unfold Qz;repeat' split
 all_goals rfl
def Cm (m:Mdl)(T:Int)(E:Nat->Nat->Int)(d:Int)(t:MTh):Prop:=(t.at m).c=26\/(t.at m).c=31->1<=t.pc/\((Qk m t.code.toNat).getD (t.pc.toNat - 1) N7).c=23/\E t.code.toNat (t.pc.toNat - 1)=0/\t.stk= []/\((t.at m).c=31->0<=d/\d<T)
structure Did (m:Mdl) (E:Nat->Nat->Int) (N B who:Nat) (s:MS) (ev:PEv) (R:MS×PEv×Int):Prop where
 r:MR m E (N+1) R.1
 t:(R.1.th who).code=(s.th who).code/\((R.1.th who).st=1/\(R.1.th who).pc∈nxt ((s.th who).at m) (s.th who).pc\/((s.th who).at m).c=26/\(R.1.th who).st=2/\(R.1.th who).pc=(s.th who).pc - 1)
 o: ∀ j,j≠who->j<R.1.ths.length->Bd m (R.1.th j)
 l:s.ths.length<=R.1.ths.length
 e:R.2.1.acc.length<=ev.acc.length+1/\R.2.1.syn.length<=ev.syn.length+B+8
def Zbx (hC:Cds m T L E)(hb: ∀ d,0<=d->d<T->BegOk g m d)(hM:MR m E N s)(hw:who<s.ths.length)(hN:N+1<=B)(hB:B<=1000000000)(hla:ev.acc.length<=10000000)(hls:ev.syn.length<=3000000000000)(hcm:Cm m T E d (s.th who)):IPre g m d ((s.th who).at m) (s.on who) who ev B:=by
 have o:=hM.t who hw;have ⟨j,f,g3,g4,g5⟩:=hC.at o;have e:=on_th hw;have u:(s.on who).ths.length=s.ths.length:=on_len;have hp:=o.p;have c0:=hC.n _ o.cl;have ⟨i,hi⟩:=lV ((s.th who).at m);rw [<-hi] at j f g4 g5|-;refine ⟨by rw [u];exact hw,by rw [u];exact hM.n.2,by rw [e];exact o.w,by rw [e];dsimp only;omega,hM.y.mono Zq,hB,hla,hls,fun k hk=> ?_,fun k=> ?_,by rw [e];dsimp only;have:=o.sp.1;have:=hM.n.2;omega,by rw [e];dsimp only;omega,fun h=> ?_,fun h=> ?_,fun h=> ?_,fun h=> ?_,fun h=> ?_,hM.c,fun h _=> ?_⟩
 . rw [u];revert hk;show 0<=(Yc s.sy k).2.1->(Yc s.sy k).2.1.toNat<_
   unfold Yc;split
   . rename_i hr;split
     . intro h;exact aV (show (0:Int)<= -1 from h) Zw
     rename_i a0;intro _;have ⟨x,r,hx⟩:=gV a0;have hm:x∈s.sy.conds.getD k.toNat []:=by rw [hx];exact bO ..
     have ⟨l,a,b⟩:=Rz hm;dsimp only;rw [hx];exact (hM.w l a x b).1
   intro h;exact aV (show (0:Int)<= -1 from h) Zw
 . show (Hc s.sy k).2.1.length<=1000000000/\ ∀ y∈(Hc s.sy k).2.1,0<=y/\y.toNat<_
   rw [u];unfold Hc;split
   . rename_i hr;have h1:=hM.y.c _ (Uu (d:= []) (M4 hr));refine ⟨Zy,fun y q=> ?_⟩;have ⟨l,a,b⟩:=Rz q;exact ⟨(h1.2 y q).1,(hM.w l a y b).1⟩
   exact ⟨Zf,fun y q=>by cases q⟩
 . rw [e];dsimp only;rcases h with h|h|h|h|h|h|h|h|h|h<;>(rw [h] at f;have f:(1:Int)<=_:=f;omega)
 . rw [e];dsimp only;rcases h with h|h
   . rw [h] at f;have f:(2:Int)<=_:=f;omega
   have b0:i.c=10\/i.c=11\/i.c=12\/i.c=13\/i.c=14\/i.c=15\/i.c=16\/i.c=17\/i.c=18:=Zq;rcases b0 with h|h|h|h|h|h|h|h|h<;>(rw [h] at f;have f:(2:Int)<=_:=f;omega)
 . rw [e];exact ⟨j.z,by have:=j.l h;have:=o.l;dsimp only;omega⟩
 . refine ⟨j.z,?_⟩;show i.a<(s.cells.length:Int)
   have h1:=j.v h;have h2:=hM.c;have h3:=(H9 hC.a Zw).1;dsimp only at h1;omega
 . exact ⟨j.z,j.a h⟩
 rw [hi] at h;have:=(hcm (.inr h)).2.2.2.2 h;exact hb d this.1 this.2
def Did.one {ev'}(hC:Cds m T L E)(hM:MR m E N s)(hw:who<s.ths.length)(h1:(s.th who).st=1)(ho: ∀ j,j≠who->j<s.ths.length->Bd m (s.th j))(hT:TR m E s.ths.length t)(h2:t.code=(s.th who).code)(h3:t.st=1)(h4:t.pc∈nxt ((s.th who).at m) (s.th who).pc)(hc:C.length=s.cells.length)(hv: ∀ v∈C,val v)(hy:y.ok (N+1))(hyc:y.conds=s.sy.conds)(he:ev'.acc.length<=ev.acc.length+1/\ev'.syn.length<=ev.syn.length+B+8):Did m E N B who s ev (⟨C,y,s.ths.set who t,s.out,s.cnt+1⟩,ev',0):=by
 refine ⟨hM.set hw h1 hT hc hv hy (aS _) (fun l a x c=> .inl ⟨l,hyc ▸ a,c⟩) (hyc ▸ hM.u),?_,fun j b a=> ?_,by rw [aR];exact aS _,he⟩
 . rw [Jv hw,if_pos rfl];exact ⟨h2,.inl ⟨h3,h4⟩⟩
 rw [aR] at a;rw [Jv hw,if_neg b];exact ho j b a
def Zkh (hC:Cds m T L E)(hb:BegOk g m d)(n:Nat)(hn:0<n):TR m E n (J6 g.main m d)/\Bd m (J6 g.main m d):=by
 have ⟨_,_,j,_⟩:=hb;have a:(Vr g.main d).toNat<m.threads.length:=Zq;have f:=hC.s _ a;have l:=f.pos;have o:=(hC.n _ a).2.1;have c:=hC.h _ a
 have b: ∀ st,TR m E n ⟨d,st,Vr g.main d,0,List.replicate (Sp m (Vr g.main d).toNat).toNat 0, [], []⟩:=fun st=>
  ⟨j,⟨Zy,Zy⟩,by dsimp only;rw [dA];omega,fun v e=>by rw [List.eq_of_mem_replicate e];decide,by rw [show (0:Int).toNat=0 from rfl,f.z];rfl,(fun v e=>by cases e),⟨hn,fun i k=>by cases k⟩⟩
 unfold J6;dsimp only;split
 . rename_i h;exact ⟨b 4,.inr ⟨h,rfl⟩⟩
 rename_i h;exact ⟨b 1,.inl ⟨by rcases c with c|c;exact c;exact aV c h,by dsimp only;decide⟩⟩
def th_app {l}(b:MTh)(j:Nat):(⟨C,y,l++ [b],o,c⟩:MS).th j=if j<l.length then (⟨C,y,l,o,c⟩:MS).th j else if j=l.length then b else zMTh:=by
 unfold MS.th;rw [aH,List.getElem?_append];split
 . rw [aH]
 by_cases h2:j=l.length
 . rw [if_pos h2,h2,kI];rfl
 rw [if_neg h2,eK (by rw [cI];omega)];rfl
def spawn_ok (hC:Cds m T L E)(hb:BegOk g m d)(hM:MR m E N s)(hw:who<s.ths.length)(h1:(s.th who).st=1)(ho: ∀ j,j≠who->j<s.ths.length->Bd m (s.th j))(hc:((s.th who).at m).c=31)(h0:(T6 g.main m d (s.on who) who ev).2.2=0):Did m E N B who s ev (T6 g.main m d (s.on who) who ev):=by
 revert h0
 unfold T6;rw [on_len,on_th hw];split
 . intro h;exact aV (show (5:Int)=0 from h) Zw
 rename_i h8;intro _;dsimp only;rw [on_put];have hT:=hM.t who hw;obtain ⟨t,q⟩: ∃ t:MTh,t= { s.th who with pc:=(s.th who).pc+1,sp:=(s.th who).sp++ [(s.ths.length:Int)] } :=⟨_,rfl⟩;rw [<-q];have ⟨b1,b2⟩:=Zkh hC hb (s.ths.length+1) Zq;have ⟨b,c0⟩:=lV (J6 g.main m d);rw [<-c0] at b1 b2|-;have r:(s.ths.set who t++ [b]).length=s.ths.length+1:=Zf
 have f: ∀ j,j<s.ths.length+1->(⟨s.cells,s.sy,s.ths.set who t++ [b],s.out,s.cnt+1⟩:MS).th j=if j=s.ths.length then b else if j=who then t else s.th j:=fun j o=>by
  rw [th_app,aR];by_cases h2:j<s.ths.length
  . rw [if_pos h2,if_neg Zq,Jv hw]
  rw [if_neg h2,if_pos Zq,if_pos Zq]
 have a0:t.pc∈nxt ((s.th who).at m) (s.th who).pc:=by rw [q];exact Zqy Zq
 have a:TR m E s.ths.length { s.th who with pc:=(s.th who).pc+1 } :=hT.go hC rfl (Zqy Zq) (by dsimp only;rw [hc,show Y4 31=(0,0) by decide];omega) hT.w rfl hT.v rfl
 have d0:TR m E (s.ths.length+1) t:=by
  rw [q];refine ⟨a.k,a.p,a.l,a.v,a.d,a.w,by dsimp only;rw [aA,cI];have:=hT.sp.1;omega,fun i z=> ?_⟩;rcases bP.1 z with z|z
  . have:=hT.sp.2 i z;omega
  rw [bE.1 z];omega
 have e1:t.st=1:=by rw [q];exact h1
 refine ⟨⟨by dsimp only;rw [r];omega,fun j o=> ?_,hM.c,hM.v,hM.y.mono Zq,fun l b0 x hx=> ?_,hM.u,by dsimp only;have:=hM.k;omega⟩,?_,fun j o n=> ?_,by dsimp only;rw [r];omega,by unfold PEv.sn;dsimp only;rw [aA,cI];omega⟩
 . dsimp only at o|-;rw [r] at o|-;rw [f j o];split
   . exact b1
   split
   . exact d0
   exact (hM.t j Zq).mono Zq
 . have h5:=hM.w l b0 x hx;dsimp only;rw [f _ Zq,if_neg Zq,if_neg (fun e=>by rw [e,h1] at h5;exact aV h5.2 Zw)];exact ⟨Zq,h5.2⟩
 . dsimp only;rw [f who Zq,if_neg Zq,if_pos rfl];exact ⟨by rw [q],.inl ⟨e1,a0⟩⟩
 dsimp only at n|-;rw [r] at n;rw [f j n];split
 . exact b2
 exact ho j o Zq
def put_ex {l:List MTh}{X}:(⟨C,y,l.set n t,o,c⟩:MS).put n X=⟨C,y,l.set n X,o,c⟩:=by unfold MS.put;simp
def wait_con (y:Sy)(k t:Int):(H4 y k t).1.conds=y.conds\/(k.toNat<y.conds.length/\(¬∃ l∈y.conds,t∈l)/\(H4 y k t).1.conds=y.conds.set k.toNat (y.conds.getD k.toNat []++ [t])):=by
 unfold H4;split
 . rename_i a;split
   . split
     . exact .inl rfl
     rename_i h;exact .inr ⟨M4 a,h,rfl⟩
   exact .inl rfl
 exact .inl rfl
def Did.wake (hM:MR m E N s)(hw:who<s.ths.length)(h1:(s.th who).st=1)(ho: ∀ j,j≠who->j<s.ths.length->Bd m (s.th j))(hT:TR m E s.ths.length t)(h2:t.code=(s.th who).code)(h3:t.st=1)(h4:t.pc∈nxt ((s.th who).at m) (s.th who).pc)(hy:y.ok (N+1))(hl: ∀ x∈lw,∃ l∈s.sy.conds,x∈l)(hq: ∀ l∈y.conds,∀ x∈l,(∃ l∈s.sy.conds,x∈l)/\x∉lw)(hu:Uq y.conds)(hn:lw.length<=B):Did m E N B who s ev ((Yd co lw ⟨s.cells,y,s.ths.set who t,s.out,s.cnt+1⟩ ev).1,(Yd co lw ⟨s.cells,y,s.ths.set who t,s.out,s.cnt+1⟩ ev).2,0):=by
 obtain ⟨o,i⟩:=hM.wake (N':=N+1) hw h1 h3 hT hy (aS _) hl hq hu;have k:=P2 co lw ⟨s.cells,y,s.ths.set who t,s.out,s.cnt+1⟩ ev;have c:(Yd co lw ⟨s.cells,y,s.ths.set who t,s.out,s.cnt+1⟩ ev).1.ths.length=s.ths.length:=by rw [k.1];exact aR
 have g: ∀ (l:List Int) (s:MS) (ev:PEv),(Yd co l s ev).2.acc=ev.acc:=by
  intro l
  induction l with
  |nil=>intro s ev;rfl
  |cons x r ih=>intro s ev;unfold Yd;rw [ih];rfl
 have f:(who:Int)∉lw:=fun h=>by
  have ⟨l,a,b⟩:=hl _ h;have:=(hM.w l a _ b).2;rw [cG,h1] at this;exact aV this Zw
 refine ⟨o,?_,fun j q d=> ?_,by rw [c];exact aS _,by rw [g,k.2];omega⟩
 . rw [i,if_neg f,if_pos rfl];exact ⟨h2,.inl ⟨h3,h4⟩⟩
 rw [c] at d;rw [i];have e:=ho j q d;split
 . rename_i p;have ⟨l,a,b⟩:=hl _ p;have n:=(hM.w l a _ b).2;rw [cG] at n;rcases e with e|e
   . exact .inl ⟨e.1,by dsimp only;decide⟩
   rw [n] at e;exact aV e.2 Zw
 exact e
def EvB (B:Nat)(ev ev':PEv):Prop:=ev'.acc.length<=ev.acc.length+1/\ev'.syn.length<=ev.syn.length+B+8
abbrev Efc (c a b:Int):Prop:=Y4 c=(a,b)/\ ¬ (c=19\/c=20\/c=21\/c=34)
def did_ok (hC:Cds m T L E)(hb: ∀ d,0<=d->d<T->BegOk g m d)(hM:MR m E N s)(hw:who<s.ths.length)(h1:(s.th who).st=1)(ho: ∀ j,j≠who->j<s.ths.length->Bd m (s.th j))(hN:N+1<=B)(hB:B<=1000000000)(hcm:Cm m T E d (s.th who))(hne:((s.th who).at m).c≠34)(h0:(Hn g.main m kd d ((s.th who).at m) (s.on who) who ev).2.2=0):Did m E N B who s ev (Hn g.main m kd d ((s.th who).at m) (s.on who) who ev):=by
 have hT:=hM.t who hw;obtain ⟨g1,g2,g3,g4,g5⟩:=hC.at hT;have m1:=hC.n _ hT.cl;have hp:=hT.p;have z1:=hcm;unfold Cm at hcm;have l1:=fun hb=>spawn_ok (g:=g) (d:=d) (B:=B) (ev:=ev) (s:=s) (who:=who) (N:=N) hC hb hM hw h1 ho
 obtain ⟨n8,a2⟩:=lV s.ths.length;obtain ⟨t,ht⟩:=lV (s.th who);have r1:(s.on who).th who= { t with pc:=t.pc+1 } :=by rw [on_th hw,ht]
 have r0:=fun (t':MTh) (C:List Int) (y:Sy) (ev':PEv)=>Did.one (B:=B) (t:=t') (C:=C) (y:=y) (ev:=ev) (ev':=ev') hC hM hw h1 ho
 obtain ⟨q,q0⟩:=lV ({ t with pc:=t.pc+1 } :MTh);rw [<-q0] at r1;rw [<-ht] at hT g1 g2 g3 g4 g5 m1 hp hcm h0 hne r0 h1|-;obtain ⟨i,hi⟩:=lV (t.at m);rw [<-hi] at g1 g2 g4 g5 hcm h0 hne r0|-;have e0:q.stk=t.stk:=by rw [q0]
 have s0:q.loc=t.loc:=by rw [q0]
 have g0: ∀ v∈q.stk,val v:=by rw [e0];exact hT.w
 have a0:q.code=t.code/\q.pc=t.pc+1/\q.st=1/\q.sp=t.sp:=by rw [q0];exact ⟨rfl,rfl,h1,rfl⟩
 -- a thread that is as q but for its stack and its locals
 have d0: ∀ (t':MTh) (C:List Int) (y:Sy) (ev':PEv) (a b:Int),Y4 i.c=(a,b)->t'.code=q.code->t'.st=q.st->t'.sp=q.sp->t'.pc∈nxt i t.pc->(t'.stk.length:Int)=t.stk.length - a+b->(∀ v∈t'.stk,val v)->t'.loc.length=t.loc.length->(∀ v∈t'.loc,val v)->C.length=s.cells.length->(∀ v∈C,val v)->y.ok (N+1)->y.conds=s.sy.conds->EvB B ev ev'->Did m E N B who s ev (⟨C,y,s.ths.set who t',s.out,s.cnt+1⟩,ev',0):=fun t' C y ev' a b ef c1 c2 c3 c4 c5 c6 c7 c8 c9 x1 w1 v1 s1=>
  r0 t' C y ev' (hT.go hC (by rw [c1,a0.1]) (by rw [<-hi];exact c4) (by rw [<-hi,ef];exact c5) c6 c7 c8 (by rw [c3,a0.2.2.2])) (by rw [c1,a0.1]) (by rw [c2,a0.2.2.1]) c4 c9 x1 w1 v1 s1
 have f:=hM.y.mono (iZ N);have nx: ∀ {t':MTh},t'.pc=q.pc-> ¬ (i.c=19\/i.c=20\/i.c=21\/i.c=34)->t'.pc∈nxt i t.pc:=fun e h=>by rw [e,a0.2.1];exact Zqy h
 have b0:EvB B ev ev:=by unfold EvB;omega
 have u0: ∀ x,EvB B ev (ev.ac [x]):=fun x=>by unfold EvB PEv.ac;dsimp only;rw [aA,cI];omega
 have m0: ∀ l:List Sn,l.length<=B+8->EvB B ev (ev.sn l):=fun l h=>by unfold EvB PEv.sn;dsimp only;rw [aA];omega
 have pl:=push_len;have pp:=T8;have l0:1<=t.stk.length->val (Z4 q.stk):=fun h=>g0 _ (Up (by rw [e0];exact h))
 have o0:q.pop.stk.length=t.stk.length - 1:=by rw [pp,e0]
 have n0:=Zy2 g0;obtain ⟨R,hR⟩:=lV (Hn g.main m kd d i (s.on who) who ev);rw [<-hR] at h0|-;have j0:s.on who=⟨s.cells,s.sy,s.ths.set who q,s.out,s.cnt+1⟩:=by unfold MS.on MS.put;rw [q0,ht]
 have d1: ∀ (C:List Int) (y:Sy) (o:POut) (c:Int),(⟨C,y,s.ths.set who q,o,c⟩:MS).th who=q:=fun C y o c=>by rw [Jv hw,if_pos rfl]
 have lo: ∀ {t':MTh},t'.loc=q.loc->t'.loc.length=t.loc.length/\ ∀ v∈t'.loc,val v:=fun e=>by rw [e,s0];exact ⟨rfl,hT.v⟩
 have b1: ∀ v∈q.pop.pop.stk,val v:=Zy2 n0;have v0:q.pop.pop.stk.length=t.stk.length - 2:=by rw [pp,o0];omega
 have vl := hT.v; rw [<- s0] at vl; -- by how much the stack grows
 have w0: ∀ {c:Int} (v:Int) (ev':PEv),i.c=c->Efc c 0 1->val v->EvB B ev ev'->Did m E N B who s ev (⟨s.cells,s.sy,s.ths.set who (q.push v),s.out,s.cnt+1⟩,ev',0):=fun v ev' hc ⟨he,hn⟩ hv h=>by subst hc;exact d0 _ _ _ _ 0 1 he rfl rfl rfl (nx rfl hn) (by rw [pl,e0];omega) (Fm g0 hv) (lo rfl).1 (lo rfl).2 rfl hM.v f rfl h
 have p1: ∀ {c:Int} (v:Int) (ev':PEv),i.c=c->Efc c 1 1->val v->EvB B ev ev'->Did m E N B who s ev (⟨s.cells,s.sy,s.ths.set who (q.pop.push v),s.out,s.cnt+1⟩,ev',0):=fun v ev' hc ⟨he,hn⟩ hv h=>by subst hc;rw [he] at g2;exact d0 _ _ _ _ 1 1 he rfl rfl rfl (nx rfl hn) (by rw [pl,o0];dsimp only at g2;omega) (Fm n0 hv) (lo rfl).1 (lo rfl).2 rfl hM.v f rfl h
 have p0: ∀ {c:Int} (C:List Int) (y:Sy) (ev':PEv),i.c=c->Efc c 1 0->C.length=s.cells.length->(∀ v∈C,val v)->y.ok (N+1)->y.conds=s.sy.conds->EvB B ev ev'->Did m E N B who s ev (⟨C,y,s.ths.set who q.pop,s.out,s.cnt+1⟩,ev',0):=fun C y ev' hc ⟨he,hn⟩ h5 h6 h7 h8 h=>by subst hc;rw [he] at g2;exact d0 _ _ _ _ 1 0 he rfl rfl rfl (nx rfl hn) (by rw [o0];dsimp only at g2;omega) n0 (lo rfl).1 (lo rfl).2 h5 h6 h7 h8 h
 have i0: ∀ {c:Int} (y:Sy) (ev':PEv),i.c=c->Efc c 0 0->y.ok (N+1)->y.conds=s.sy.conds->EvB B ev ev'->Did m E N B who s ev (⟨s.cells,y,s.ths.set who q,s.out,s.cnt+1⟩,ev',0):=fun y ev' hc ⟨he,hn⟩ h7 h8 h=>by subst hc;exact d0 _ _ _ _ 0 0 he rfl rfl rfl (nx rfl hn) (by rw [e0];omega) g0 (lo rfl).1 (lo rfl).2 rfl hM.v h7 h8 h
 have hk:=g1.k;by_cases c0:i.c=26\/i.c=27\/i.c=28\/i.c=31
 . rcases c0 with c|c|c|c<;>simp (decide:=true) only [Hn,Ja,c,if_true,if_false,j0] at hR
   . have hcm:=hcm (.inl c);by_cases hwk:ev.woke=true
     . simp (decide:=true) only [Cy,hwk,Ej,if_true] at hR;split at hR<;>subst hR
       . exact i0 _ _ c Zw (Zjl f _ _) (Zkb _ _ _) (m0 _ Zf)
       simp at h0
     by_cases hz:(Vv s.sy i.b who).2=0
     . simp (decide:=true) only [Cy,if_neg hwk,Rs,hz,ne_eq,not_true_eq_false,if_false,d1,put_ex] at hR;rw [hR];obtain ⟨t2,f0⟩:=lV ({ q with st:=2,pc:=q.pc - 2 } :MTh);rw [<-f0];have e2:t2.pc=t.pc - 1:=by rw [f0];dsimp only;omega
       have q1:TR m E s.ths.length t2:=hT.back hC (by rw [f0];exact a0.1) hcm.1 e2 hcm.2.1 hcm.2.2.1 (by rw [f0];show q.stk= [];rw [e0];exact hcm.2.2.2.1) (by rw [f0];exact s0) (by rw [f0];exact a0.2.2.2);obtain ⟨y1,x0⟩:=lV (Vv s.sy i.b who).1;have yc:y1.conds=s.sy.conds:=by rw [x0];exact Zbm _ _ _
       have j1:y1.ok N:=by rw [x0];exact Te hM.y
       rw [<-x0];have z0:=wait_con y1 i.a who;rw [yc] at z0;refine ⟨hM.set hw (by rw [<-ht];exact h1) q1 rfl hM.v (waitS_ok j1 _ _) (aS _) (fun l hl x hx=> ?_) ?_,?_,fun j hj y0=> ?_,by dsimp only;rw [aR];exact aS _,m0 _ Zf⟩
       . rcases z0 with h|⟨h3,_,h⟩<;>rw [h] at hl
         . exact .inl ⟨l,hl,hx⟩
         rcases cT hl with hl|rfl
         . exact .inl ⟨l,hl,hx⟩
         rcases bP.1 hx with hx|hx
         . exact .inl (Rz hx)
         rw [bE.1 hx];exact .inr ⟨rfl,by rw [f0]⟩
       . rcases z0 with h|⟨h3,h4,h⟩<;>rw [h]
         . exact hM.u
         exact hM.u.add h3 h4
       . dsimp only;rw [Jv hw,if_pos rfl,<-ht];exact ⟨by rw [f0];exact a0.1,.inr ⟨by rw [<-hi];exact c,by rw [f0],e2⟩⟩
       dsimp only at y0|-;rw [aR] at y0;rw [Jv hw,if_neg hj];exact ho j hj y0
     simp (decide:=true) only [Cy,if_neg hwk,Rs,ne_eq,hz,not_false_eq_true,if_true] at hR;rw [hR] at h0;exact aV (show (4:Int)=0 from h0) Zw
   . have a1:TR m E s.ths.length q:=hT.go hC a0.1 (by rw [<-hi];exact nx rfl Zq) (by rw [<-hi,c,show Y4 27=(0,0) by decide,e0];omega) g0 (lo rfl).1 (lo rfl).2 a0.2.2.2;by_cases hk:inR i.a s.sy.conds.length
     . by_cases hl:s.sy.conds.getD i.a.toNat []= []
       . have e:Yc s.sy i.a=(s.sy, -1,0):=by unfold Yc;rw [if_pos hk,if_pos hl]
         rw [e] at hR;dsimp only at hR;rw [if_neg Zw] at hR;rw [hR];exact i0 _ _ c Zw f rfl b0
       obtain ⟨x,r,hx⟩:=gV hl;have e:Yc s.sy i.a=({ s.sy with conds:=s.sy.conds.set i.a.toNat ((s.sy.conds.getD i.a.toNat []).drop 1) },x,0):=by unfold Yc;rw [if_pos hk,if_neg hl];rw [hx];rfl
       have e1:x∈s.sy.conds.getD i.a.toNat []:=by rw [hx];exact bO ..
       have k1:0<=x:=((hM.y.c _ (Uu (d:= []) (M4 hk))).2 x e1).1;have k0:=Zv0 f i.a;rw [e] at hR k0;dsimp only at hR k0;rw [if_pos k1] at hR;obtain ⟨u1,u2⟩:=hM.u.cut (d:=1) (M4 hk);rw [hR];exact Did.wake (co:=i.a) (lw:= [x]) (ev:=ev) hM hw (by rw [<-ht];exact h1) ho a1 (by rw [<-ht];exact a0.1) a0.2.2.1 (by rw [<-ht,<-hi];exact nx rfl Zq) k0 (fun z hz=>by rw [bE.1 hz];exact Rz e1) (fun l hl z hz=>by have:=u2 l hl z hz;rw [hx] at this;exact this) u1 Zi
     have e:Yc s.sy i.a=(s.sy, -1,4):=by unfold Yc;rw [if_neg hk]
     rw [e] at hR;dsimp only at hR;rw [if_neg Zw] at hR;rw [hR];exact i0 _ _ c Zw f rfl b0
   . have a1:TR m E s.ths.length q:=hT.go hC a0.1 (by rw [<-hi];exact nx rfl Zq) (by rw [<-hi,c,show Y4 28=(0,0) by decide,e0];omega) g0 (lo rfl).1 (lo rfl).2 a0.2.2.2;by_cases hk:inR i.a s.sy.conds.length
     . obtain ⟨l,hl⟩:=lV (s.sy.conds.getD i.a.toNat []);have e:Hc s.sy i.a=({ s.sy with conds:=s.sy.conds.set i.a.toNat (l.drop l.length) },l,0):=by unfold Hc;rw [if_pos hk,dU,hl]
       have k0:=allS_ok f i.a;rw [e] at hR k0;dsimp only at hR k0;obtain ⟨u1,u2⟩:=hM.u.cut (d:=l.length) (M4 hk);rw [<-hl] at u1 u2;have f1:=(hM.y.c _ (Uu (d:= []) (M4 hk))).1;rw [<-hl] at f1;rw [hR];exact Did.wake (co:=i.a) (lw:=l) (ev:=ev) hM hw (by rw [<-ht];exact h1) ho a1 (by rw [<-ht];exact a0.1) a0.2.2.1 (by rw [<-ht,<-hi];exact nx rfl Zq) k0 (fun z hz=>by rw [hl] at hz;exact Rz hz) (fun l' o1 z hz=>by have:=u2 l' o1 z hz;rw [bR] at this;exact this) u1 Zq
     have e:Hc s.sy i.a=(s.sy, [],4):=by unfold Hc;rw [if_neg hk]
     rw [e] at hR;dsimp only [Yd] at hR;rw [hR];exact i0 _ _ c Zw f rfl b0
   have i1:=(hcm (.inr c)).2.2.2.2 c;rw [<-j0] at hR;subst hR;exact l1 (hb d i1.1 i1.2) (by rw [<-ht,<-hi];exact c) h0
 rcases (show i.c=1\/i.c=3\/i.c=6\/i.c=2\/i.c=5\/i.c=4\/i.c=7\/i.c=8\/i.c=9\/i.c=22\/i.c=33\/i.c=24\/i.c=25\/i.c=29\/i.c=30\/i.c=32\/i.c=23\/i.c=19\/i.c=20\/i.c=21\/i.c=10\/i.c=11\/i.c=12\/i.c=13\/i.c=14\/i.c=15\/i.c=16\/i.c=17\/i.c=18 by omega) with c|c|c|c|c|c|c|c|c|c|c|c|c|c|c|c|c|c|c|c|c|c|c|c|c|c|c|c|c<;>simp (decide:=true) only [Hn,Ja,Ej,Rs,c,if_true,if_false,j0,d1,put_ex] at hR<;>(try split at hR)<;>subst hR<;>(try simp at h0)<;>try contradiction
 . have hv:=g1.n;rw [if_pos c] at hv;exact w0 _ _ c Zw hv b0
 . exact w0 _ _ c Zw (valD vl _) b0
 . rw [c,show Y4 6=(1,0) by decide] at g2;dsimp only at g2;exact d0 _ _ _ _ 1 0 (by rw [c];decide) rfl rfl rfl (nx rfl Zq) (by show ((q.pop.stk.length:Nat):Int)=_;rw [o0];omega) n0 (by dsimp only;rw [aR,s0]) (X6 vl (l0 Zq)) rfl hM.v f rfl b0
 . exact w0 _ _ c Zw (valD hM.v _) (u0 _)
 . rw [c,show Y4 5=(1,0) by decide] at g2;dsimp only at g2;exact p0 _ _ _ c Zw (by rw [aR]) (X6 hM.v (l0 Zq)) f rfl (u0 _)
 . exact p1 _ _ c Zw (valD hM.v _) (u0 _)
 . rw [c,show Y4 7=(2,0) by decide] at g2;dsimp only at g2;exact d0 _ _ _ _ 2 0 (by rw [c];decide) rfl rfl rfl (nx rfl Zq) (by rw [v0];omega) b1 (lo rfl).1 (lo rfl).2 (by rw [aR]) (X6 hM.v (l0 Zq)) f rfl (u0 _)
 . exact p1 _ _ c Zw Vp b0
 . exact p1 _ _ c Zw (Jk _) b0
 . exact p1 _ _ c Zw (Jk _) b0
 . exact p0 _ _ _ c Zw rfl hM.v f rfl b0
 . exact i0 _ _ c Zw (Zjl f _ _) (Zkb _ _ _) (m0 _ Zf)
 . exact i0 _ _ c Zw (Te f) (Zbm _ _ _) (m0 _ Zf)
 . exact p0 _ _ _ c Zw rfl hM.v (sendS_ok hM.y _ _) (con_send _ _ _) (m0 _ Zf)
 . exact d0 _ _ _ _ 0 1 (by rw [c];decide) rfl rfl rfl (nx rfl Zq) (by rw [pl,e0];omega) (Fm g0 (recv_val hM.y _)) (lo rfl).1 (lo rfl).2 rfl hM.v (recvS_ok f _) (con_recv _ _) (m0 _ Zf)
 . exact i0 _ _ c Zw f rfl (m0 _ (by rw [aI,a0.2.2.2];have:=hT.sp.1;have:=hM.n.2;omega))
 . exact i0 _ _ c Zw f rfl b0
 . have t0:EvB B ev (Tp kd i q ev):=by unfold Tp;split<;>exact b0
   rw [show Cc i q= { q with pc:=i.a } from if_pos c];exact d0 _ _ _ _ 0 0 (by rw [c];decide) rfl rfl rfl (by dsimp only;unfold nxt;rw [if_neg Zq,if_pos c];exact bE.2 rfl) (by dsimp only;rw [e0];omega) g0 (lo rfl).1 (lo rfl).2 rfl hM.v f rfl t0
 iterate 2
  have t0:EvB B ev (Tp kd i q ev):=by unfold Tp;split<;>exact b0
  obtain ⟨n1,n2⟩:=nxt_br (p:=t.pc) (x:=i) Zq;have he:Y4 i.c=(1,0):=by rw [c];decide
  rw [he] at g2;dsimp only at g2;rw [show Cc i q=if decide (Z4 q.stk=0)=decide (i.c=20) then { q.pop with pc:=i.a } else q.pop from if_neg Zq];split
  . exact d0 _ _ _ _ 1 0 he rfl rfl rfl n1 (by show ((q.pop.stk.length:Nat):Int)=_;rw [o0];omega) n0 (lo rfl).1 (lo rfl).2 rfl hM.v f rfl t0
  exact d0 _ _ _ _ 1 0 he rfl rfl rfl (by show q.pc∈_;rw [a0.2.1];exact n2) (by rw [o0];omega) n0 (lo rfl).1 (lo rfl).2 rfl hM.v f rfl t0
 all_goals
  have he:Y4 i.c=(2,1):=by rw [c];decide
  rw [he] at g2;dsimp only at g2;exact d0 _ _ _ _ 2 1 he rfl rfl rfl (nx rfl Zq) (by rw [pl,v0];omega) (Fm b1 (Zzo _ _ _)) (lo rfl).1 (lo rfl).2 rfl hM.v f rfl b0
structure Rn (m:Mdl) (T:Int) (E:Nat->Nat->Int) (d:Int) (B who n N:Nat) (s:MS) (ev:PEv):Prop where
 r:MR m E N s
 w:who<s.ths.length
 o: ∀ j,j≠who->j<s.ths.length->Bd m (s.th j)
 b:N+n<=B/\B<=50000000
 a:ev.acc.length+n<=10000000
 y:ev.syn.length+n*(B+8)<=3000000000000
def stop_c :(false||(c !=23 && c !=34))=true↔c≠23/\c≠34:=by simp
def O7 (hC:Cds m T L E)(hb: ∀ d,0<=d->d<T->BegOk g m d): ∀ (n:Nat) (s:MS) (ev:PEv) (N:Nat),Rn m T E d B who n N s ev->Cm m T E d (s.th who)->
 (((s.th who).at m).c=23/\1<=n/\(s.th who).st≠4\/((s.th who).at m).c=34/\1<=n/\(s.th who).st=1\/(s.th who).st=1/\((Qk m (s.th who).code.toNat).length:Int) - (s.th who).pc+1<=n)->
 GoodM g m kd d who B n false s ev/\((Mj g.main m kd d who n false s ev).2.2=0-> ∃ N',N<=N'/\N'<=N+n/\MR m E N' (Mj g.main m kd d who n false s ev).1/\who<(Mj g.main m kd d who n false s ev).1.ths.length/\(∀ j,j≠who->j<(Mj g.main m kd d who n false s ev).1.ths.length->Bd m ((Mj g.main m kd d who n false s ev).1.th j))/\((((Mj g.main m kd d who n false s ev).1.th who).at m).c=23/\((Mj g.main m kd d who n false s ev).1.th who).st≠4\/(((Mj g.main m kd d who n false s ev).1.th who).at m).c=34/\((Mj g.main m kd d who n false s ev).1.th who).st=1))
 |0,s,ev,N,hR,hcm,h=>by
  have:=(hR.r.t who hR.w).p;rcases h with h|h|h<;>omega
 |n+1,s,ev,N,hR,hcm,h=>by
  have v:=hR.r.t who hR.w;have f0:=hC.n _ v.cl;have hp:=v.p
  have ha:AtOk m s who:=⟨hR.w,hR.r.n.2,v.k,by
   refine ⟨hp.1,?_⟩;rw [aH,aB v.cl];have:=hp.2;rw [Gk v.cl] at this;exact this,by omega,by have:=hR.r.k;have:=hR.b;omega⟩
  have hy:=hR.y;have c0:=hR.b;have g0:=hR.a;have f:ev.syn.length<=3000000000000:=Zq;unfold GoodM Mj;by_cases hs:((s.th who).at m).c≠23/\((s.th who).at m).c≠34
  . have q:=stop_c.2 hs
    have b0:(s.th who).st=1/\((Qk m (s.th who).code.toNat).length:Int) - (s.th who).pc+1<=((n+1:Nat):Int):=by
     rcases h with h|h|h
     . exact aV h.1 hs.1
     . exact aV h.1 hs.2
     exact h
    have ip:=Zbx (B:=B) hC hb hR.r hR.w Zq Zq Zq f hcm;rw [if_pos q];by_cases hz:(Hn g.main m kd d ((s.th who).at m) (s.on who) who ev).2.2=0
    . have dd:=did_ok (B:=B) hC hb hR.r hR.w b0.1 hR.o Zq Zq hcm hs.2 hz;have ⟨R,e0⟩:=lV (Hn g.main m kd d ((s.th who).at m) (s.on who) who ev);rw [<-e0] at dd hz|-;have e3:=dd.e
      have a0:Rn m T E d B who n (N+1) R.1 R.2.1:=⟨dd.r,by have:=dd.l;have:=hR.w;omega,dd.o,⟨Zq,c0.2⟩,Zq,by
       have:(n+1)*(B+8)=n*(B+8)+(B+8):=by rw [fT,Nat.one_mul]
       omega⟩
      have ⟨g1,g2,g3,g4,g5⟩:=hC.at v
      have u:Cm m T E d (R.1.th who)/\(((R.1.th who).at m).c=23/\1<=n/\(R.1.th who).st≠4\/((R.1.th who).at m).c=34/\1<=n/\(R.1.th who).st=1\/(R.1.th who).st=1/\((Qk m (R.1.th who).code.toNat).length:Int) - (R.1.th who).pc+1<=n):=by
       rcases dd.t with ⟨c1,⟨c2,c3⟩|⟨c2,c3,c4⟩⟩
       . rcases g5 with g5|g5
         . exact aV g5.1 hs.1
         have ⟨x,k2⟩:=g5.2 _ c3;have z:(Qk m (s.th who).code.toNat)[(R.1.th who).pc.toNat]? =some ((R.1.th who).at m):=by rw [<-c1];exact (dd.r.t who a0.w).get
         refine ⟨fun hc=> ?_,?_⟩
         . have:=k2 _ z;omega
         rcases x with x|⟨i,x,k3⟩
         . exact .inr (.inr ⟨c2,by rw [c1];omega⟩)
         rw [z] at x;cases x
         exact .inl ⟨k3,Zq,by rw [c2];decide⟩
       have hm:=(hcm (.inl c2)).2.1;have h1:=(hcm (.inl c2)).1
       have e:((R.1.th who).at m)=(Qk m (s.th who).code.toNat).getD ((s.th who).pc.toNat - 1) N7:=by
        unfold MTh.at;rw [Zj0,c1,c4,show ((s.th who).pc - 1).toNat=(s.th who).pc.toNat - 1 by omega]
       rw [<-e] at hm;refine ⟨fun hc=>by omega,.inl ⟨hm,Zq,by rw [c3];decide⟩⟩
      have ⟨r1,r2⟩:=O7 hC hb n R.1 R.2.1 (N+1) a0 u.1 u.2;refine ⟨⟨ha,fun _=>⟨ip,fun _=>r1⟩,f⟩,?_⟩;rw [if_neg (fun k=>k hz)];intro h0;have ⟨N',a1,a2,a3⟩:=r2 h0;exact ⟨N',Zq,Zq,a3⟩
    refine ⟨⟨ha,fun _=>⟨ip,fun h0=>aV h0 hz⟩,f⟩,?_⟩;rw [if_pos hz];intro h0;exact aV h0 hz
  have q: ¬ (false||(((s.th who).at m).c !=23 && ((s.th who).at m).c !=34))=true:=fun k=>hs (stop_c.1 k)
  rw [if_neg q];refine ⟨⟨ha,fun k=>aV k q,f⟩,fun _=>⟨N,Zq,Zq,hR.r,hR.w,hR.o,?_⟩⟩;dsimp only;rcases h with h|h|h
  . exact .inl ⟨h.1,h.2.2⟩
  . exact .inr ⟨h.1,h.2.2⟩
  by_cases h23:((s.th who).at m).c=23
  . exact .inl ⟨h23,by rw [h.1];decide⟩
  exact .inr ⟨Zq,h.1⟩
structure MI (m:Mdl) (E:Nat->Nat->Int) (N:Nat) (s:MS):Prop where
 r:MR m E N s
 b: ∀ j,j<s.ths.length->Bd m (s.th j)
def MR.mono (h:MR m E N s)(l:N<=N'):MR m E N' s:=⟨h.n,h.t,h.c,h.v,h.y.mono l,h.w,h.u,by have:=h.k;omega⟩
def TR.st {n}(h:TR m E n t)(x:Int):TR m E n { t with st:=x } :=⟨h.k,h.p,h.l,h.v,h.d,h.w,h.sp⟩
def put_eq (X:MTh):s.put who X=⟨s.cells,s.sy,s.ths.set who X,s.out,s.cnt⟩:=rfl
def MR.put {x}(hM:MR m E N s)(hw:who<s.ths.length)(h:(s.th who).st≠2):MR m E N (s.put who { s.th who with st:=x }):=by
 rw [put_eq];have b:(s.ths.set who { s.th who with st:=x }).length=s.ths.length:=aR;refine ⟨by rw [b];exact hM.n,fun j d=> ?_,hM.c,hM.v,hM.y,fun l a y g=> ?_,hM.u,hM.k⟩
 . rw [b] at d|-;rw [Jv hw];split
   . exact (hM.t who hw).st x
   exact hM.t j d
 have f:=hM.w l a y g;rw [b,Jv hw,if_neg (fun e=>by rw [e] at f;exact h f.2)];exact f
def MI.mark (hC:Cds m T L E)(hM:MI m E N s)(hw:who<s.ths.length)(h4:(s.th who).st≠4):((s.th who).at m).c=23/\KS L T (L.getD ((s.th who).at m).a.toNat Hs)/\((s.th who).at m).a=(L.getD ((s.th who).at m).a.toNat Hs).idn/\ ∀ j,(Qk m (s.th who).code.toNat)[((s.th who).pc+1).toNat]? =some j->j.c=31->(L.getD ((s.th who).at m).a.toNat Hs).kd=13:=by
 have d:((s.th who).at m).c=23:=by
  rcases hM.b who hw with h|h
  . exact h.1
  exact aV h.2 h4
 rcases (hC.at (hM.r.t who hw)).2.2.2.2 with ⟨_,x,g,f,i⟩|h
 . have e:L.getD ((s.th who).at m).a.toNat Hs=x:=by rw [f];exact g.2.1
   rw [e];exact ⟨d,g,f,i⟩
 exact aV d h.1
def MI.stands (hC:Cds m T L E)(hM:MI m E N s)(hw:who<s.ths.length):Stands m L s who:=by
 have a:=hM.r.t who hw;refine ⟨hw,hM.r.n.2,a.k,⟨a.p.1,?_⟩,fun d=> ?_,by have:=a.sp.1;have:=hM.r.n;omega,a.sp.2⟩
 . rw [aH,aB a.cl];have:=a.p.2;rw [Gk a.cl] at this;exact this
 have ⟨_,c,b,_⟩:=hM.mark hC hw d;rw [b];exact c.1
def Zq4 (h:s.can m L who=true):(s.th who).st≠2/\(s.th who).st≠4/\s.out.kind≠4:=by
 unfold MS.can at h;split at h
 . cases h
 omega
def MI.run (hC:Cds m T L E)(hb: ∀ d,0<=d->d<T->BegOk g m d)(hM:MI m E N s)(hw:who<s.ths.length)(h2:(s.th who).st≠2)(h4:(s.th who).st≠4)(hf:36010<=f/\f<=40000)(hN:N+(f+1)<=B)(hB:B<=50000000)(h0a:ev.acc= [])(h0s:ev.syn= []):
 GoodM g m kd (L.getD ((s.th who).at m).a.toNat Hs).slt who B (f+1) true (s.put who { s.th who with st:=1 }) ev/\ ∀ r,r=Mj g.main m kd (L.getD ((s.th who).at m).a.toNat Hs).slt who (f+1) true (s.put who { s.th who with st:=1 }) ev->r.2.2=0->MR m E (N+(f+1)) r.1/\who<r.1.ths.length/\(∀ j,j≠who->j<r.1.ths.length->Bd m (r.1.th j))/\(((r.1.th who).at m).c=23/\(r.1.th who).st≠4\/((r.1.th who).at m).c=34/\(r.1.th who).st=1):=by
 have ⟨o0,ks,ka,kn⟩:=hM.mark hC hw h4;have ⟨x,hx⟩:=lV (L.getD ((s.th who).at m).a.toNat Hs);rw [<-hx] at ks ka kn|-;have ⟨i,z⟩:=lV (s.put who { s.th who with st:=1 } );rw [<-z];have c0: ∀ j,i.th j=if j=who then { s.th who with st:=1 } else s.th j:=fun j=>by rw [z];exact Jv hw j
 have ew:i.th who= { s.th who with st:=1 } :=by rw [c0,if_pos rfl]
 have hl:i.ths.length=s.ths.length:=by rw [z,Vh]
 have u:MR m E N i:=by rw [z];exact hM.r.put hw h2
 have y:who<i.ths.length:=by rw [hl];exact hw
 have e1:(i.th who).at m=(s.th who).at m:=by rw [ew];rfl
 have e2:(i.th who).code=(s.th who).code/\(i.th who).pc=(s.th who).pc/\(i.th who).st=1:=by rw [ew];exact ⟨rfl,rfl,rfl⟩
 have ho: ∀ j,j≠who->j<i.ths.length->Bd m (i.th j):=fun j hj e0=>by rw [hl] at e0;rw [c0,if_neg hj];exact hM.b j e0
 have v:((i.th who).at m).c=23:=by rw [e1];exact o0
 have g0:Cm m T E x.slt (i.th who):=fun h=>by omega
 have q:=u.t who y;have q0:=hC.n _ q.cl;have hp:=q.p;have ⟨g1,g2,g3,g4,g5⟩:=hC.at q;have b0:=g4 (.inl v)
 have ha:AtOk m i who:=⟨y,u.n.2,q.k,by
  refine ⟨hp.1,?_⟩;rw [aH,aB q.cl];have:=hp.2;rw [Gk q.cl] at this;exact this,by omega,by have:=u.k;omega⟩
 have ip:=Zbx (B:=B) hC hb u y Zq Zq (by rw [h0a];simp) (by rw [h0s];simp) g0;unfold GoodM Mj;rw [if_pos (show (true||_)=true from rfl)];by_cases hz:(Hn g.main m kd x.slt ((i.th who).at m) (i.on who) who ev).2.2=0
 . have dd:=did_ok (B:=B) hC hb u y e2.2.2 ho Zq Zq g0 Zq hz;have ⟨R,m0⟩:=lV (Hn g.main m kd x.slt ((i.th who).at m) (i.on who) who ev);rw [<-m0] at dd hz|-;have e3:=dd.e;rw [h0a,h0s] at e3;simp [aT] at e3
   have p0:f*(B+8)+(B+8)<=3000000000000:=by
    have:f*(B+8)<=40000*50000008:=Nat.mul_le_mul hf.2 Zq;omega
   have j0:Rn m T E x.slt B who f (N+1) R.1 R.2.1:=⟨dd.r,by have:=dd.l;omega,dd.o,⟨Zq,hB⟩,Zq,Zq⟩;have i0:=dd.r.t who j0.w
   have a0:(R.1.th who).st=1/\(R.1.th who).pc=(i.th who).pc+1:=by
    rcases dd.t.2 with ⟨c2,c3⟩|⟨c2,_⟩
    . unfold nxt at c3;rw [if_neg Zq,if_neg Zq,if_neg Zq] at c3;exact ⟨c2,bE.1 c3⟩
    omega
   have c1:=dd.t.1;have hs:=(hC.s _ q.cl).go (i.th who).pc.toNat q.in (by rw [<-q.d];omega);have e:(Qk m (i.th who).code.toNat).getD (i.th who).pc.toNat N7=(i.th who).at m:=rfl;rw [e,<-q.d,b0,v,show Y4 23=(0,0) by decide] at hs;have l0:=hs.2.2.2 _ (Zqy Zq)
   have k0:(R.1.th who).stk= []:=aW (by
    have h1:=i0.d;rw [c1,a0.2,show ((i.th who).pc+1).toNat=(((i.th who).pc.toNat:Int)+1).toNat by omega,l0.2.2] at h1;simp at h1;rw [h1];rfl)
   have f0:Cm m T E x.slt _:=fun hc=>by
    rw [c1,a0.2,show ((i.th who).pc+1).toNat - 1=(i.th who).pc.toNat by omega];refine ⟨Zq,by rw [e];exact v,by rw [<-q.d,b0];rfl,k0,fun n0=> ?_⟩;have:=kn _ (by rw [<-e2.1,<-e2.2.1,<-a0.2,<-c1];exact i0.get) n0;exact ks.2.2 this
   have d0:((Qk m (R.1.th who).code.toNat).length:Int) - (R.1.th who).pc+1<=f:=by rw [c1];omega
   obtain ⟨r1,r2⟩:=O7 hC hb f R.1 R.2.1 (N+1) j0 f0 (.inr (.inr ⟨a0.1,d0⟩));refine ⟨⟨ha,fun _=>⟨ip,fun _=>r1⟩,by rw [h0s];simp⟩,?_⟩;rw [if_neg (fun k=>k hz)];intro r hr h0;subst hr;have ⟨N',a1,a2,a3,a4⟩:=r2 h0;exact ⟨a3.mono Zq,a4⟩
 refine ⟨⟨ha,fun _=>⟨ip,fun h0=>aV h0 hz⟩,by rw [h0s];simp⟩,?_⟩;rw [if_pos hz];intro r hr h0;rw [hr] at h0;exact aV h0 hz
def MI.do (hC:Cds m T L E)(hb: ∀ d,0<=d->d<T->BegOk g m d)(hM:MI m E N s)(hf:36010<=f/\f<=40000)(hN:N+(f+1)<=B)(hB:B<=50000000)(i:Int):MI m E (N+(f+1)) (s.doP g.main m L (f+1) i).1:=by
 have l:MI m E (N+(f+1)) s:=⟨hM.r.mono Zq,hM.b⟩;unfold MS.doP;split
 . exact l
 split
 . exact l
 split
 . exact l
 rename_i h1 h2 h3;dsimp only;have ⟨c1,c2,c3⟩:=Zq4 (show s.can m L i.toNat=true by simpa using h3);have ⟨x,hx⟩:=lV (L.getD ((s.th i.toNat).at m).a.toNat Hs);have e:=hM.run (kd:=x.kd) (ev:= { zEv i x.idn with woke:=decide ((s.th i.toNat).st=3) }) hC hb Zq c1 c2 hf hN hB rfl rfl;rw [<-hx] at e|-;have ⟨_,e⟩:=e;split
 . exact ⟨⟨hM.r.n,hM.r.t,hM.r.c,hM.r.v,hM.r.y.mono Zq,hM.r.w,hM.r.u,by have:=hM.r.k;dsimp only;omega⟩,hM.b⟩
 rename_i q;revert q;unfold doM;have ⟨r,hr⟩:=lV (Mj g.main m x.kd x.slt i.toNat (f+1) true (s.put i.toNat { s.th i.toNat with st:=1 }) { zEv i x.idn with woke:=decide ((s.th i.toNat).st=3) } );rw [<-hr];by_cases q:r.2.2=0
 case neg=>rw [if_pos q];intro h;exact aV q h
 rw [if_neg (fun k:r.2.2≠0=>k q)];have ⟨a1,a2,a3,o⟩:=(e r hr) q;split
 . rename_i p;intro _;have st1:(r.1.th i.toNat).st=1:=by rcases o with o|o;omega;exact o.2
   refine ⟨a1.put a2 Zq,fun j z=> ?_⟩;rw [Vh] at z;rw [put_eq,Jv a2];split
   . exact .inr ⟨p,rfl⟩
   rename_i a0;exact a3 j a0 z
 rename_i p;intro _;refine ⟨a1,fun j z=> ?_⟩;by_cases hj2:j=i.toNat
 . rw [hj2];rcases o with o|o
   . exact .inl o
   exact aV o.1 p
 exact a3 j hj2 z
mutual
def Zk7 {c}{lo}: ∀ {s:PStm} (d:Int),s.wl c lo-> ∀ y∈s.its d,y.2.wl c lo
 | .mk k ln cl nm wt e ix body els id slot other loc,d,hw,y,a=>by
  simp [PStm.its,] at a;rcases a with rfl|a|a
  . exact hw
  . exact Kj (d+1) hw.2.2.2.2.2.1 y a
  exact Kj (d+1) hw.2.2.2.2.2.2 y a
def Kj {c}{lo}: ∀ {l} (d:Int),Wv c lo l-> ∀ y∈Zt l d,y.2.wl c lo
 | [],d,_,y,a=>by cases a
 |s::r,d,⟨h1,h2⟩,y,a=>by
  simp [Zt] at a;rcases a with a|a
  . exact Zk7 d h1 y a
  exact Kj d h2 y a
end
def wl_th {c}(h:x.wl c lo)(hk:x.kd=13):0<=x.slt/\x.slt<c.th:=by
 have ⟨_,_,_,_,_,_,_,_,_,_,_,_,_⟩:=x;exact h.2.2.2.2.1.2.2.2.2.2.2.2 hk
abbrev zPTh:PTh:=⟨em,0, []⟩
def Zw6 (F:Fnd)(k p:Nat):Int:=(Vc ((V4 F).getD k zPTh).body++ [0]).getD p (-1)
def mod_th (hm:ModOf F m)(k:Nat):Qk m k=((V4 F).map fun t=>(Yz F.main t).map Prod.fst).getD k []/\Sp m k=((V4 F).map PTh.loc).getD k 0:=by
 have b:=aQ (List.map fun x:ByteArray×Int×List Ins×List Int=>x.2.2.1) hm.t;have a:=aQ (List.map fun x:ByteArray×Int×List Ins×List Int=>x.2.1) hm.t;rw [fO,fO] at b a;exact ⟨aQ (fun l:List _=>l.getD k []) b,aQ (fun l:List Int=>l.getD k 0) a⟩
def Zju (hF:PrgOk (fun b=>Za b<=7*N/\Y3 (N+1) b) F)(hm:ModOf F m):m.threads.length=F.ths.length/\(V4 F).length=F.ths.length:=by
 have h:=aQ List.length hm.t;rw [aI,aI] at h
 have a:(V4 F).length=F.ths.length:=by
  unfold V4;exact El F.main F.ths 0 hF.m.1 (by have:=hF.m.2;omega)
 omega
def mod_mem (hF:PrgOk (fun b=>Za b<=7*N/\Y3 (N+1) b) F): ∀ t∈V4 F,t∈F.ths:=fun t a=>by
 unfold V4 at a;have c:F.main.toNat<F.ths.length:=by have:=hF.m;omega
 grind [Hh]
def Pm (hF:PrgOk (fun b=>Za b<=7*N/\Y3 (N+1) b) F)(hN:N<=5000)(hm:ModOf F m)(hy:Bg F=true):Cds m F.ths.length (Vm F) (Zw6 F):=by
 have ⟨ml,dl⟩:=Zju hF hm;have ⟨k1,k2,k3,k4,⟨k5,c0⟩,k6,b0⟩:=hF.k
 have w: ∀ k,k<m.threads.length-> ∃ t,(V4 F).getD k zPTh=t/\ThW (fun b=>Za b<=7*N/\Y3 (N+1) b) F.cn t/\Qk m k=(Yz F.main t).map Prod.fst/\Sp m k=t.loc/\t∈F.ths:=fun k g=>by
  have o:k<(V4 F).length:=Zq;have j:=mod_mem hF _ (aC o);have ⟨e1,h⟩:=mod_th hm k;refine ⟨(V4 F)[k],gD o,hF.t _ j,?_,?_,j⟩
  all_goals grind
 have hK: ∀ t∈F.ths,Wv F.cn t.loc t.body-> ∀ y∈Zt t.body 0,KS (Vm F) F.ths.length y.2:=fun t j f y d=>by
  have n:y.2∈Vm F:=by grind [Vm]
  have ⟨i,u,e⟩:=eH n;have z:=X4 hy u;rw [e] at z;refine ⟨Zq,by grind,fun a0=>wl_th (Kj 0 f y d) a0⟩
 refine ⟨fun k g=> ?_,fun k g=> ?_,fun k g i u=> ?_,fun k g=> ?_,fun k g=> ?_,?_,?_⟩
 iterate 5
  focus
   have ⟨t,e1,f,h,e3,j⟩:=w k g
  rotate_left
 . intro x q;rw [hm.a] at q;have:=hF.a x q;omega
 . rw [hm.v,hm.a];have:=(H9 (k:=256) (fun x q=>by have:=hF.a x q;omega) Zw).2;omega
 . rw [h];unfold Zw6;rw [e1];exact th_snd F.main f.b
 . rw [h];exact th_ld F.main f.b (hK t j f.b)
 . have cl:(Yz F.main t).length=(PStm.codes F.main t.body 0).length+1:=by grind [Yz,Yx]
   rw [e3,h,aI,ml,hm.v,hm.a,hm.c,hm.mu,hm.co];rw [h] at u;obtain ⟨y,d,rfl⟩:=cF.1 u;unfold Yz at d;rcases bP.1 d with d|d
   . exact Q3 hF.m f.b 0 _ (bI 0) Zq y d
   exact Nc (Y8 (.bare Zq)) y d
 . have hl:=Bq F.main t;have:=f.p.1;have:=f.l;grind
 rw [h];unfold Yz
 cases hb:t.body with
 |nil=>right;rfl
 |cons s r=>
  left
  have ⟨c,hc⟩:=Zq2 F.main s 0;grind [PStm.codes]
def Pp (hg:g.er=F)(hF:PrgOk (fun b=>Za b<=7*N/\Y3 (N+1) b) F)(hm:ModOf F m): ∀ d:Int,0<=d->d<F.ths.length->BegOk g m d:=fun d j i=>by
 have ⟨f,dl⟩:=Zju hF hm;have o:g.ths.l.length=F.ths.length:=by rw [<-hg];exact (aI _).symm
 have n:g.main=F.main:=by rw [<-hg];rfl
 have a:0<=Vr g.main d/\Vr g.main d<m.threads.length:=by
  have:=hF.m;grind [Vr]
 have h:=hF.k.2.2.2.1;refine ⟨Zq,Zq,a,?_⟩;have e:=(mod_th hm (Vr g.main d).toNat).1;grind [Yz,Yx]
def MS.new (F:Fnd)(m:Mdl):MS:=⟨F.vars++List.replicate (Wy F.arrs).toNat 0,Fr F.mu.toNat F.co.toNat F.chs, [J6 F.main m F.main],⟨0,0,0,0⟩,0⟩
def MI.new (hF:PrgOk (fun b=>Za b<=7*N/\Y3 (N+1) b) F)(hN:N<=5000)(hm:ModOf F m)(hy:Bg F=true)(hg:g.er=F):MI m (Zw6 F) 0 (MS.new F m):=by
 have e:=hF.m;have e2:g.main=F.main:=by rw [<-hg];rfl
 have ⟨k1,k2,y,k4,⟨k5,w⟩,k6,u⟩:=hF.k;have ⟨o,n⟩:=Zkh (Pm hF hN hm hy) (Pp hg hF hm F.main e.1 e.2) 1 Zq;rw [e2] at o n;have q:=(H9 (k:=256) (fun x p=>by have:=hF.a x p;omega) Zw).1
 have d: ∀ i,i<1->(MS.new F m).th i=J6 F.main m F.main:=fun i h=>by
  obtain rfl:i=0:=by omega
  rfl
 have a0: ∀ l∈(MS.new F m).sy.conds,l= []:=fun l s=>List.eq_of_mem_replicate s
 refine ⟨⟨⟨aS 1,by show 1<=8;omega⟩,fun i h=>by rw [d i h];exact o,?_,fun v f=> ?_,?_,(fun l s x p=>by grind),fun i j a b t h1 h2=> ?_,⟨bI 0,bI 0⟩⟩,fun i h=>by rw [d i h];exact n⟩
 . show (((F.vars++List.replicate (Wy F.arrs).toNat 0).length:Nat):Int)=_
   rw [aA,dA,hm.v,hm.a];omega
 . rcases bP.1 f with f|f
   . have:=hF.v v f;exact this
   grind
 . exact newS_ok ⟨Zq,Zq,y,fun r z=>hF.c r z⟩
 grind [List.getElem_mem]
section
variable {K:MK}{L:List Stm}
def MI.hd (hC:Cds m T (L.map Stm.er) E)(hb: ∀ d:Int,0<=d->d<T->BegOk g m d)(hM:MI m E N s)(hE:ME q K g m)(hQ:MQ q K sb so L)(gc:GC q)(ge:GE q)(hk:Ho m=0)(hf:36010<=f/\f<=40000)(hN:N+(f+1)<=B)(hB:B<=50000000):MHd q K sb so g m L (f+1) B s:=by
 refine ⟨hE,hQ,gc,ge,hk,fun n h=>hM.stands hC h,hM.r.n,hM.r.y.mono Zq,Zq,?_,fun t k=> ?_,fun n h o=> ?_⟩
 . have:=hM.r.c;have:=hC.c;omega
 . obtain ⟨i,j,rfl⟩:=eH k;have e:s.ths[i]=s.th i:=(gD j).symm;have b:=hM.r.t i j;have:=hC.n _ b.cl;rw [e];have z:=b.l;have x:=(hC.at b).2.2.1;have w:=b.sp.1;have v:=hM.r.n;omega
 have ⟨u,p,c3⟩:=Zq4 o;exact (hM.run hC hb h u p hf hN hB rfl rfl).1
end
structure Mq (m m':Mdl):Prop where
 v:m.vars=m'.vars
 a:m.arrays=m'.arrays
 i:(m.threads.map fun x:Cod=>x.ins)=m'.threads.map fun x:Cod=>x.ins
 l:(m.threads.map fun x:Cod=>x.locals)=m'.threads.map fun x:Cod=>x.locals
section
variable {main:Int}
def Mq.at_ (h:Mq m m')(t:MTh):t.at m=t.at m':=by unfold MTh.at Ek;rw [h.i]
def Mq.beg (h:Mq m m')(d:Int):J6 main m d=J6 main m' d:=by unfold J6;simp [h.l,h.at_]
def Mq.cell (h:Mq m m')(a u:Int):Ev m a u=Ev m' a u:=by unfold Ev;rw [h.v,h.a]
def Mq.ina (h:Mq m m')(a u:Int):inA m a u↔inA m' a u:=by unfold inA;rw [h.a]
def Mq.things (h:Mq m m'):Ja main m d i s who ev=Ja main m' d i s who ev:=by unfold Ja T6;simp [h.beg]
def Mq.ins (h:Mq m m'):Hn main m kd d i s who ev=Hn main m' kd d i s who ev:=by unfold Hn;simp [h.things,h.cell,h.ina]
def Mq.run (h:Mq m m'): ∀ (n:Nat) (b:Bool) (s:MS) (ev:PEv),Mj main m kd d who n b s ev=Mj main m' kd d who n b s ev
 |0,_,_,_=>rfl
 |n+1,b,s,ev=>by unfold Mj;simp [h.at_,h.ins,h.run n]
def Mq.do1 (h:Mq m m'):doM main m kd d who n s ev=doM main m' kd d who n s ev:=by unfold doM;simp [h.run,h.at_]
def Mq.can (h:Mq m m')(n:Nat):s.can m L n=s.can m' L n:=by unfold MS.can;simp [h.at_]
def Mq.all (h:Mq m m'):s.all m L=s.all m' L:=by unfold MS.all;simp [h.can]
def Mq.outc (h:Mq m m'):s.outc m L=s.outc m' L:=by unfold MS.outc;simp [h.all]
def Mq.do (h:Mq m m')(i:Int):s.doP main m L f i=s.doP main m' L f i:=by unfold MS.doP;simp [h.all,h.can,h.at_,h.do1]
theorem Mq.step (h:Mq m m')(k:Int):s.stepP main m L f k=s.stepP main m' L f k:=by unfold MS.stepP;simp [h.all,h.do]
def Mq.mi (h:Mq m m')(hM:MI m E N s):MI m' E N s:=by
 have x: ∀ k,Qk m k=Qk m' k:=fun k=>by unfold Qk;rw [h.i]
 have q: ∀ k,Sp m k=Sp m' k:=fun k=>by unfold Sp;rw [h.l]
 have o:m.threads.length=m'.threads.length:=by have:=aQ List.length h.i;rwa [aI,aI] at this
 refine ⟨⟨hM.r.n,fun i g=> ?_,by rw [<-h.v,<-h.a];exact hM.r.c,hM.r.v,hM.r.y,hM.r.w,hM.r.u,hM.r.k⟩,fun j f=> ?_⟩
 . have e:=hM.r.t i g;exact ⟨o ▸ e.k,x _ ▸ e.p,q _ ▸ e.l,e.v,e.d,e.w,e.sp⟩
 have:=hM.b j f;unfold Bd at this|-;rw [h.at_] at this;exact this
end
def ModOf.mq (h:ModOf F m)(h':ModOf F m'):Mq m m':=by
 have e:=h.t.trans h'.t.symm;have c:=aQ (List.map fun x:ByteArray×Int×List Ins×List Int=>x.2.2.1) e;have b:=aQ (List.map fun x:ByteArray×Int×List Ins×List Int=>x.2.1) e;rw [fO,fO] at c b;exact ⟨h.v.trans h'.v.symm,h.a.trans h'.a.symm,c,b⟩
def TxF (F:Fnd):Prop:= ∃ l:Bs,U6 l=some F/\l.length<=5000
def FDo (F:Fnd)(s:MS)(i:Int):MS×PEv×Int:=s.doP F.main (Wa F) (Vm F) 36011 i
def FSt (F:Fnd)(s:MS)(k:Int):MS×PEv×Int:=s.stepP F.main (Wa F) (Vm F) 36011 k
def Kg (F:Fnd)(s:MS)(l:List Int):MS×List PEv:=Vl F.main (Wa F) (Vm F) 36011 s l
def H3 (F:Fnd)(s:MS):POut:=s.outc (Wa F) (Vm F)
abbrev FI (F:Fnd)(N:Nat)(s:MS):Prop:=MI (Wa F) (Zw6 F) N s
structure MX where
 K:MK
 sb:Nat
 so:Nat
 sa:Option Addr
 sc:Nat
 L:List Stm
 g:FC
 m:Mdl
variable {z:MX}
structure MX.ok (z:MX) (F:Fnd):Prop where
 g:z.g.er=F
 m:ModOf F z.m
 b:MdB z.m
 l:z.L.map Stm.er=Vm F
 a:z.L.length≠0->z.sa=some ⟨z.sb,z.so,none⟩
def mxL (z:MX):List HP:= [im z.K.pp (.cells (pgC z.g).toArray 29 (0,0)),im z.K.mp (.cells (J0 z.m).toArray 109 (0,0)),im z.K.mb (.map (Sg z.sb z.so z.L.length).toArray z.L.length),blM z.sa z.sc z.L,fcM z.g,mdM z.m]
def mxI (z:MX):HP:=stars (mxL z)
def mxH (p:Nat)(F:Fnd)(s:MS):HP:=ex fun z:MX=>stars [pure (z.ok F),maH p z.K s,mxI z]
def Zy8 {p}(h:z.ok F)(hq:Le q (maH p z.K s::mxI z::r)):Le q (mxH p F s::r):=
 hq.trans (Vt z ((Yu h _).trans (Zh [pure _,maH p z.K s,mxI z] r)))
def Zy9 {fn}{R}{p}(h: ∀ z:MX,z.ok F->CallF P G fn vs (maH p z.K s::mxI z::q) R):CallF P G fn vs (mxH p F s::q) R:=by
 intro b w st cs;have ⟨z,c⟩:=St.get_ex st;have a:=c.le (Zb _ _);exact h z a.get_pure b w (a.le (dS _ _)) cs
def MX.out (q:List HP)(z:MX):Le (mxI z::q) (mxL z++q):=Zb _ q
def MX.ok.me (h:z.ok F)(hl:Le q (mxI z::r)):ME q z.K z.g z.m:=by
 have l:=hl.trans (MX.out r z);have c: ∀ r,Kn (fcM z.g::r) fun M=>z.g.At M:=fun r=>fJ
 have a: ∀ r,Kn (mdM z.m::r) fun M=>MdAt M z.m:=fun r=>fJ
 exact ⟨(dK (iQ _ _ _)).le (l.trans Zj),(c _).le (l.trans Zj),(dK (iQ _ _ _)).le (l.trans Zj),(a _).le (l.trans Zj),h.b⟩
def MX.ok.mq (h:z.ok F)(hl:Le q (mxI z::r)):MQ q z.K z.sb z.so z.L:=by
 have l:=hl.trans (MX.out r z);unfold mxL at l;refine ⟨(iQ _ _ _).le (l.trans Zj),fun j d=> ?_⟩;have c: ∀ r,Kn (blM z.sa z.sc z.L::r) fun M=>BlkAt M z.sa z.sc z.L:=fun r=>fJ
 have b:Sees q z.sa _:=eP (((c _).le (l.trans Zj)).imp fun _ k=>k.1.2.2);rw [h.a Zq] at b;have:=eX b (aG _) Z7 d rfl;rwa [cG] at this
def FI.new (hg:g.er=F)(h:TxF F):FI F 0 (MS.new F (Wa F)):=by
 have ⟨l,a,b⟩:=h;exact MI.new (Qf a).1 b (Oz F) (Hy a).m hg
def MX.ok.cds (h:z.ok F)(t:TxF F):Cds z.m F.ths.length (z.L.map Stm.er) (Zw6 F)/\ ∀ d:Int,0<=d->d<F.ths.length->BegOk z.g z.m d:=by
 have ⟨l,a,b⟩:=t;rw [h.l];exact ⟨Pm (Qf a).1 b h.m (Hy a).m,Pp h.g (Qf a).1 h.m⟩
def MX.ok.mn (h:z.ok F):z.g.main=F.main:=by rw [<-h.g];rfl
def MX.ok.fi (h:z.ok F)(hM:FI F N s):MI z.m (Zw6 F) N s:=((Oz F).mq h.m).mi hM
def MX.ok.hd (h:z.ok F)(t:TxF F)(hl:Le q (mxI z::r))(gc:GC q)(ge:GE q)(hM:FI F N s)(hN:N+36011<=B)(hB:B<=50000000):MHd q z.K z.sb z.so z.g z.m z.L 36011 B s:=by
 have ⟨b,a⟩:=h.cds t;have ⟨l,d,c⟩:=t;exact (h.fi hM).hd b a (h.me hl) (h.mq hl) gc ge (Gl d c h.m) Zq hN hB
def MX.ok.do (h:z.ok F)(i:Int):s.doP z.g.main z.m (z.L.map Stm.er) 36011 i=FDo F s i:=by rw [h.mn,h.l];exact (h.m.mq (Oz F)).do i
theorem MX.ok.step (h:z.ok F)(i:Int):s.stepP z.g.main z.m (z.L.map Stm.er) 36011 i=FSt F s i:=by rw [h.mn,h.l];exact (h.m.mq (Oz F)).step i
def MX.ok.outc (h:z.ok F):s.outc z.m (z.L.map Stm.er)=H3 F s:=by rw [h.l];exact (h.m.mq (Oz F)).outc
def MX.ok.run (h:z.ok F): ∀ (l:List Int) (s:MS),Vl z.g.main z.m (z.L.map Stm.er) 36011 s l=Kg F s l
 | [],s=>rfl
 |k::r,s=>by unfold Kg Vl;simp [h.step,h.run r];rfl
def FI.mono (h:FI F N s)(l:N<=N'):FI F N' s:=⟨h.r.mono l,h.b⟩
theorem FI.go (hg:g.er=F)(t:TxF F)(hM:FI F N s)(hN:N+36011<=50000000)(i:Int):FI F (N+36011) (FDo F s i).1/\FI F (N+36011) (FSt F s i).1:=by
 have ⟨l,a,j⟩:=t;have h:=Pm (Qf a).1 j (Oz F) (Hy a).m;have d:=Pp hg (Qf a).1 (Oz F);have e:g.main=F.main:=by rw [<-hg];rfl
 have c:=hM.do h d Zq hN Zq i
 have b:MI (Wa F) (Zw6 F) (N+36011) (s.stepP g.main (Wa F) (Vm F) 36011 i).1:=by
  unfold MS.stepP;split
  . exact FI.mono hM Zq
  exact hM.do h d Zq hN Zq _
 rw [e] at c b;exact ⟨c,b⟩
section
variable {p:Nat}{i:Int}
def xDo_ok (t:TxF F)(gc:GC q)(ge:GE q)(hM:FI F N s)(hN:N+36011<=50000000):CF G 37 [pt p,I64 i] (mxH p F s::q) (Ret fun v q'=> ∃ e:EvC,e.e=(FDo F s i).2.1/\v= .tuple [.agg (evC e).toArray,I64 (FDo F s i).2.2].toArray/\q'=rsH acC 3 158 e.aa e.ac e.e.acc::rsH snC 3 161 e.na e.nc e.e.syn::mxH p F (FDo F s i).1::q):=
 Zy9 fun z h=>by
  have a:=h.hd (q:=mxI z::q) t (aG _) (gc.le leA) (ge.le leA) hM hN (aS _);apply eC (aG _) (mDo_ok a.E a.Q a.gc a.ge a.k a.S a.h8 a.y a.n9 a.C a.T a.G);rintro _ _ ⟨_,rfl,e,b,rfl,rfl⟩;rw [h.do] at b|-;exact ⟨_,⟨_,rfl,e,b,rfl,rfl⟩,cC _ (cC _ (Zy8 h (aG _)))⟩
def Xa (t:TxF F)(gc:GC q)(ge:GE q)(hM:FI F N s)(hN:N+36011<=50000000):CF G 21 [pt p] (mxH p F s::q) (Ret fun v q'=>v= .agg (ocC (H3 F s)).toArray/\q'=mxH p F s::q):=
 Zy9 fun z h=>by
  have a:=h.hd (q:=mxI z::q) t (aG _) (gc.le leA) (ge.le leA) hM hN (aS _);apply eC (aG _) (moutc_ok a.E a.Q a.S a.h8.2 a.y a.n9);rintro _ _ ⟨_,rfl,rfl,rfl⟩;rw [h.outc];exact ⟨_,⟨_,rfl,rfl,rfl⟩,Zy8 h (aG _)⟩
end
def Lz (hF:PrgOk (fun b=>Za b<=7*N/\Y3 (N+1) b) F)(h:Bg F=true):(Vm F).length<=512:=by
 by_cases k:512<(Vm F).length
 . exfalso;have d:=X4 h k;have ⟨t,f,a⟩:=List.mem_flatMap.1 (aC k);have ⟨y,a,e⟩:=cF.1 a;have c:=Kj 0 (hF.t t f).b y a;rw [e] at c;generalize (Vm F)[512]=x at d c;have ⟨_,_,_,_,_,_,_,_,_,_,_,_,_⟩:=x;have g:=c.2.2.2.1.2;simp [PStm.idn] at d;omega
 omega
def mapE_no :Instr.findNow (.int .i64) (I64 n) (Sg sb so n) 0=some none:=by
 have h: ∀ (l:List Nat) (i:Nat),n∉l->Instr.findNow (.int .i64) (I64 n) (l.map fun i:Nat=>({ key:= I64 i,val:= .pointer (some ⟨sb,so+i*25,none⟩),born:=i } :MapEntry)) i=some none:=by
  intro l
  induction l with
  |nil=>intro i _;rfl
  |cons x r ih=>
   intro i a;simp [Instr.findNow,Instr.sameNow];rw [dD.2 (fun e=>a (by rw [show n=x by omega];exact bO ..))];exact ih _ fun k=>a (bQ _ k)
 exact h _ 0 (fun k=>by simp at k)
def mapE_add :Sg sb so n++ [{ key:= I64 n,val:= .pointer (some ⟨sb,so+(n:Int).toNat*25,none⟩),born:=n }]=Sg sb so (n+1):=by unfold Sg;rw [kA,aN];rfl
def Zhs {p}{d}{ty}{pos}{af}{gd}{x y z}{t kt et}{kd}{v}{k}{b clock}{es}(ht:P.underlying t=some (.map kt et))(hk:P.underlying kt=some (.int kd))(hx:evp p x=some (.map (some b)))(hy:evp p y=some (.int kd k))(hz:evp p z=some v)(hq:Le q (pto b (.map es.toArray clock)::r))
 (hf:Instr.findNow (.int kd) (.int kd k) es 0=some none):Ef P G p q ⟨d,.mapUpdate t x y z,ty,pos,af,gd⟩ fun u q'=>u=undef/\q'=pto b (.map (es++ [({ key:= .int kd k,val:=v,born:=clock } :MapEntry)]).toArray (clock+1))::r:=
 fun g w c s=>by
  have e:=s.le hq;have f:=e.has (dV _ _ _);have a:MapKept.IsKey (.int kd) (.int kd k):=by first|trivial|exact rfl|simp
  refine ⟨undef,_,_,.inr ⟨rfl,?_⟩,e.setObjM (o:= .map (es.toArray.push { key:= .int kd k,val:=v,born:=clock }) (clock+1)),rfl,Zf⟩;simp [execOp,Zu c hx,Zu c hy,Zu c hz,Instr.mapUpdate,run_underlying ht,MapKept.run_getObj_map f,MapKept.run_checkKey hk a,MapKept.run_findKey hk hf,MapKept.run_setObj_map _ f]
def X.adr0 {f}{Q}{k}{p}{ds}{cs}{a}(hs:Sees q a vs)(x: ∀ b o,(vs≠ []->a=some ⟨b,o,none⟩)->X P G f Q k p ds cs q):X P G f Q k p ds cs q:=by
 rcases cQ vs.length with h|h
 . exact x 0 0 fun k=>aV (aW h) k
 exact Yq hs h fun b o e=>x b o fun _=>e
section
variable {l:Bs}
def Zbj (hT:U6 l=some g.er)(hl:l.length<=5000)(hK:Kn q fun M=>g.At M)(hg:GO q)(gc:GC q)(ge:GE q):CF G 18 (Av g) (q) (Ret fun v q'=> ∃ p,v= .tuple [pt p,I64 0].toArray/\q'=mxH p g.er (MS.new g.er (Wa g.er))::q):=by
 refine aE ntmps18 fun F cs=> ?_;have hF:=FC.ok hT;have q0:=FC.cp hT;have ⟨hP,a1⟩:=Qf hT;have e0:=hP.k;have g0:=hP.m;have z0:g.er.ths.length=g.ths.l.length:=aI _;have d0:=(Hy hT).m;refine Yb fun n1=> ?_
 refine Zz ?_;apply Zv (aG _) (S8 hT (hK.le leA) (hg.le leA));rintro _ _ ⟨m,rfl,rfl,x,f0⟩;have hk:=Gl hT hl x;refine Zo zeroValue109 fun n2=> ?_
 refine Zz ?_;apply Zv (aG _) (Zjk (hK.le leA) q0);rintro _ _ ⟨d,t,rfl,rfl⟩;refine Zo zeroValue29 fun w=> ?_
 refine Zz ?_;apply bU (kV);rintro _ _ ⟨mb,rfl,rfl⟩;refine Yb fun n4=> ?_
 refine Zz ?_;refine Zv (aG _) (Zgm (B:=14*65536) (knA (φ:=fun M=>d.At M)) (FC.cp (by rw [t];exact hT)) (by rw [ovL_eq,t];have:=Lz hP d0;omega)) ?_;rintro _ _ ⟨o,y,c2,o0,rfl,rfl⟩;refine Zz ?_;have a0:o.map Stm.er=Vm g.er:=(by rw [<-Yl,o0,ovL_eq,t]);have p0: ∀ i (h:i<o.length),(o[i]).er.idn=(i:Int):=(fun i h=>by have e:=X4 d0 (i:=i) (by rw [<-a0,aI];exact h);rw [<-e];congr 1;simp [<-a0,fN]);have b1:o.length<=512:=(by have:=Lz hP d0;rw [<-a0,aI] at this;exact this);have m0: ∀ r,Sees (blM y c2 o::r) y (o.flatMap stC):=fun r=>eP ((Kn.blM (q:=r)).imp fun _ k=>k.1.2.2)
 refine X.adr0 ((m0 _).le Zj) fun sb so b0=> ?_;replace b0:o.length≠0->y=some ⟨sb,so,none⟩:=fun k=>b0 (fun e=>k (by have:=aQ List.length e;rw [Zx Z7] at this;simp [aT] at this;omega))
 refine Zs (bW (fun (s:Nat)=>s<=o.length) (fun s=> [(2,.pointer none),(3,I64 0),(4,pt n2),(6,pt w),(7,pt n4),(8,.slice y o.length c2),(25,I64 o.length),(26,I64 s)]) (fun s=>pto mb (.map (Sg sb so s).toArray s)::pC n4 [pt w,pt n2,.map (some mb),.slice none 0 0,.pointer none,.slice none 0 0,I64 0,I64 0,I64 0,I64 0,I64 0] 127::pC w (pgC d) 29::pC n2 (J0 m) 109::blM y c2 o::fcM d::mdM m::(q++F)) (fun s=>o.length - s) (fun s k0 ih=> ?_) 0 (aZ _));try dsimp only at k0 ih|-
 obtain hi:=k0;refine Zp ?_ ?_<;>intro h0
 . have i0:s<o.length:=Zq;have e2:=b0 Zq;have j0:=p0 s i0;have c0:=m0;rw [e2] at c0;have hX: ∀ r,CellsAt (blM y c2 o::r) sb (so+(s:Int).toNat*25) (stC o[s]):=fun r=>eX (j:=(s:Int)) (c0 r) (by rw [e2];exact aG _) Z7 i0 rfl
   have l0: ∀ r,Cl (blM y c2 o::r) ⟨sb,so+(s:Int).toNat*25+21,none⟩ (Ad s):=fun r=>hX r 21 _ (by rw [<-j0];have ⟨z,hz⟩:=lV o[s];rw [<-hz];have ⟨kk,ln,cl,nm,wt,⟨ek,en,f1,c1,g1,e1,el,ea,ec⟩,⟨xk,xn,v0,xsl,w0,u0,xl,xa,xc⟩,bd,d1,ba,bc,i1,h1,y0,sl,ot,x0⟩:=z;rfl)
   refine rf [3008,9,0,1,2,3,4,5,6,7,8] e2 ?_;refine ldD 8 ?_ (hc:=((l0 _).le Zj));apply dd [9,10,11];apply gL 12 rfl (Zhs (es:=Sg sb so s) underlying123 underlying3 rfl rfl rfl Zj mapE_no);refine kk0 ?_;rw [mapE_add];refine Zz ?_;apply fQ 8 (Aj y o c2) rfl (by rw [<-e2]);refine Zs (ih (s+1) Zq Zq)
 obtain rfl:s=o.length:=Zq;have hb:=Pp t hP x d.main (by rw [show d.main=g.er.main by rw [<-t];rfl];exact g0.1) (by rw [show d.main=g.er.main by rw [<-t];rfl];exact g0.2);have t0:Bn d.mu d.co d.chs.l:=(by have e:d.mu=g.er.mu/\d.co=g.er.co/\d.chs.l=g.er.chs:=(by rw [<-t];exact ⟨rfl,rfl,rfl⟩);rw [e.1,e.2.1,e.2.2];exact ⟨e0.2.2.2.2.1,e0.2.2.2.2.2,e0.2.2.1,fun r hr=>hP.c r hr⟩);refine Zz ?_;apply Zv (aG _) (Zfu (gc.le leA) (ge.le leA) (Zx2 (knA (φ:=fun M=>MdAt M m)) f0) hk);rintro _ _ ⟨ca,cc,rfl,rfl⟩;refine rn [5,0,8,1051,6] ?_;refine ld ?_ (hc:=(eR (dK (dV w _ _)) Zj 2 _ rfl));apply oo 1;refine ld ?_ (hc:=(eR (dK (dV w _ _)) Zj 3 _ rfl));apply oo 1;refine ld ?_ (hc:=(eR (dK (dV w _ _)) Zj 4 _ rfl));have s0: ∀ r,Sees (fcM d::r) d.chs.a (d.chs.l.map I64):=fun r=>(by have h:=eB ((Kn.fc (q:=r) (f:=d)).imp fun M h=>h.chs);rw [Ql] at h;exact h)
 apply Zv (aG _) (New_Y (rooms:=d.chs.l) ((s0 _).le Zj) t0);rintro _ _ ⟨sp,rfl,rfl⟩;refine rn [5,0,8,1066,7] ?_;refine ld ?_ (hc:=(eR (dK (dV w _ _)) Zj 6 _ rfl));refine Zv (aG _) (Xq (p:=n4) (K:=⟨w,n2,mb⟩) (g:=d) (m:=m) (n:=d.main) ⟨eR (dK (dV w _ _)) Zj,knA (φ:=fun M=>d.At M),eR (dK (dV n2 _ _)) Zj,knA (φ:=fun M=>MdAt M m),f0⟩ (gc.le leA) (ge.le leA) clA clA hk hb.1 hb.2.1 hb.2.2.1 hb.in) ?_;rintro _ _ ⟨T,r0,rfl,rfl⟩;apply bU (Yw (u:=T) mtC underlying125 Kt rfl rfl Zr rfl);rintro _ _ ⟨gs,rfl,rfl⟩;refine Zz ?_;refine cE (q':=pC w (pgC d) 29::_) Zj (fX ?_);refine cE (q':=pC n2 (J0 m) 109::_) Zj (fX ?_);refine cE (q':=pto mb (.map (Sg sb so o.length).toArray o.length)::_) Zj (fX ?_);refine Zg ?_;exact ⟨_,⟨_,rfl,n4,rfl,rfl⟩,(Zy8 (z:=(⟨⟨w,n2,mb⟩,sb,so,y,c2,o,d,m⟩:MX)) ⟨t,x,f0,a0,b0⟩ (H6 (by unfold MC.er MS.new;rw [x.v,x.a];simp only [bG,dF,r0];rw [(x.mq (Oz g.er)).beg];rw [<-t];rfl) (aK (b:=mcP n4 ⟨w,n2,mb⟩ (⟨ca,cc,m.vars++List.replicate (Wy m.arrays).toNat 0,sp,Fr d.mu.toNat d.co.toNat d.chs.l,some ⟨gs,0,none⟩,1, [T],⟨0,0,0,0⟩,0⟩:MC)::lsH I64 2 ca cc (m.vars++List.replicate (Wy m.arrays).toNat 0)::yH sp (Fr d.mu.toNat d.co.toNat d.chs.l)::rsH mtC 7 147 (some ⟨gs,0,none⟩) 1 [T]::([mtH T]++(mxL (⟨⟨w,n2,mb⟩,sb,so,y,c2,o,d,m⟩:MX)++(q++F)))) (by unfold mxL;simp only [bN,bL];exact leA) (cC _ (cC _ (cC _ (cC _ ((Zh [mtH T] _).trans (cC _ (Zh (mxL (⟨⟨w,n2,mb⟩,sb,so,y,c2,o,d,m⟩:MX)) _))))))))))⟩
end
end Go.Proofs.YtadahhbefdnabaaGreatDoor
namespace Go.Proofs.YtadahhbefdnabaaGreatDoor
open Go Go.RowKit Wx Go.Proofs.Tryz
variable {l:List Ux}{t:Int}
def F2: ∀ {l} {p} {s},goT p s l->0<=s-> ∀ x∈l,0<=x.1/\x.1<=7/\1<=x.2/\x.2<=2147483647
 | [],_,_,_,_=>by simp
 |y::r,p,s,h,h0=>by
  have ⟨⟨f,e,d,c,_⟩,b⟩:=h;intro x a;rcases bS.1 a with rfl|a
  . omega
  exact F2 b Zq x a
def F3 {α:Type}(l:List α)(n:Nat)(d:α)(h:n<l.length):l.getD n d=l[n]:=by simp [h]
def Kh (l:List Ux)(t:Int):List Ux:=if 0<l.length/\(l.getD (l.length - 1) (0,0)).1=t then l.set (l.length - 1) (t,(l.getD (l.length - 1) (0,0)).2+1) else l++ [(t,1)]
def Ya (l:List Int):List Ux:=l.foldl Kh []
def Ur {l:List Int}{n}(h:n<l.length):Ya (l.take (n+1))=Kh (Ya (l.take n)) l[n]:=by
 unfold Ya;rw [aM h,List.foldl_append];rfl
def addT_len (l:List Ux)(t:Int):(Kh l t).length<=l.length+1/\0<(Kh l t).length:=by unfold Kh;split<;>simp;omega
def addT_last (l:List Ux)(t:Int):((Kh l t).getD ((Kh l t).length - 1) (0,0)).1=t:=by
 unfold Kh;split
 . rw [F3 _ _ _ (by rw [aR];omega)];simp
 simp
def R7 (l:List Int)(n:Nat):(Ya (l.take n)).length<=n:=by
 induction n with
 |zero=>simp [Ya]
 |succ n ih=>
  rcases dN n l.length with h|h
  . rw [Ur h];have:=(addT_len (Ya (l.take n)) l[n]).1;omega
  rw [bX Zq];rw [bX h] at ih;omega
def Zxg {m}(h: ∀ x∈l,x.2<=m)(h0:0<=m): ∀ x∈Kh l t,x.2<=m+1:=by
 intro x a;unfold Kh at a;split at a
 . rcases cT a with a|rfl
   . have:=h x a;omega
   have:l.getD (l.length - 1) (0,0)∈l:=by rw [F3 _ _ _ Zq];exact aC _
   have:=h _ this;omega
 rcases bP.1 a with a|a
 . have:=h x a;omega
 simp at a;subst a;omega
def Dl (l:List Int)(n:Nat): ∀ x∈Ya (l.take n),x.2<=n:=by
 induction n with
 |zero=>simp [Ya]
 |succ n ih=>
  rcases dN n l.length with h|h
  . rw [Ur h];have:=Zxg (t:=l[n]) ih Zq;intro x a;have:=this x a;omega
  rw [bX Zq];rw [bX h] at ih;intro x a;have:=ih x a;omega
def addT_pos (h: ∀ x∈l,1<=x.2): ∀ x∈Kh l t,1<=x.2:=by
 intro x a;unfold Kh at a;split at a
 . rcases cT a with a|rfl
   . exact h x a
   have:l.getD (l.length - 1) (0,0)∈l:=by rw [F3 _ _ _ Zq];exact aC _
   have:=h _ this;omega
 rcases bP.1 a with a|a
 . exact h x a
 simp at a;subst a;omega
def Nn (l:List Int)(n:Nat): ∀ x∈Ya (l.take n),1<=x.2:=by
 induction n with
 |zero=>simp [Ya]
 |succ n ih=>
  rcases dN n l.length with h|h
  . rw [Ur h];exact addT_pos ih
  rw [bX Zq];rw [bX h] at ih;exact ih
section
variable {G:World}{q:List HP}{a b:Option Addr}{c d p:Nat}{th:List Int}
def add_no (h: ¬ (0<=t/\t<=7)):CR G 118 [I64 t,pt p] (q) bF:=by
 refine We ntmps118 fun F cs=> ?_;apply Wn (K9 _);refine kd0 ?_;exact Vz q
def add_ok (h:0<=t/\t<=7)(hl:l.length<=60000)(hm: ∀ x∈l,x.2<=1000000/\ -1000000<=x.2):CF G 118 [I64 t,pt p] ([pC p [.slice a l.length c] 41,rsH tcs 2 49 a c l]) (Ret fun v q'=> ∃ a' c',v= .bool true/\q'= [pC p [.slice a' (Kh l t).length c'] 41,rsH tcs 2 49 a' c' (Kh l t)]):=by
 refine aE ntmps118 fun F cs=> ?_;have i: ∀ h:0<l.length,l.getD (l.length - 1) (0,0)=l[l.length - 1]:=fun h=>F3 _ _ _ Zq
 refine Zz ?_;apply Wn (K9 _);refine kd0 ?_;refine Zz<|kT 12 rfl ?_ ?_<;>intro o
 focus
  have o:=cY o;have b:0<l.length:=Zq;have i:=i b;have z:Sees (rsH tcs 2 49 a c l::F) a (l.flatMap tcs):=bJ _;refine Gw b fun g s=> ?_;subst s;refine rn [0,4,0,4]<|X.part 21 rfl ?_ ?_<;>intro d
  . have d:l[l.length - 1].1=t:=by simpa using d
    have q:=hm _ (aC (show l.length - 1<l.length by omega));refine rn [3,0,4,0,3] ?_;apply cU (Wq (f:=tcs) (l:=l) (u:=(t,l[l.length - 1].2+1)) (n:=l.length - 1) rfl rfl sizeOf3 (fun _=>rfl) Zq Zq rfl (by simp [tcs,d]) rfl rfl Zj);rintro _ _ ⟨rfl,rfl⟩;rw [show l.set (l.length - 1) (t,l[l.length - 1].2+1)=Kh l t by unfold Kh;rw [i,if_pos ⟨b,d⟩]];have r:l.length=(Kh l t).length:=by unfold Kh;rw [i,if_pos ⟨b,d⟩];simp
    refine Zz ?_;refine cE (q':=pC p [.slice (some ⟨g,0,none⟩) (Kh l t).length c] 41::rsH tcs 2 49 _ c _::_) (by rw [<-r];exact leA) ?_;refine Zg ?_;exact ⟨_,⟨_,rfl,_,_,rfl,rfl⟩,leA⟩
  have j: ¬ (0<l.length/\(l.getD (l.length - 1) (0,0)).1=t):=by rw [i];rintro ⟨_,e⟩;rw [e] at d;simp at d
  rw [show Kh l t=l++ [(t,1)] from if_neg j];refine Zz ?_
 rotate_left
 focus
  have j: ¬ (0<l.length/\(l.getD (l.length - 1) (0,0)).1=t):=by simp at o;rintro ⟨x,_⟩;simp_all
  refine Zz ?_;rw [show Kh l t=l++ [(t,1)] from if_neg j]
 all_goals
  apply bU (Yw (u:=(t,1)) tcs underlying41 Ty rfl rfl (fun _=>rfl) rfl);rintro _ _ ⟨g2,rfl,rfl⟩;apply bU (Z9 underlying41 Ty rfl rfl (fun _=>rfl) rfl rfl Zj ((bJ _).le leA) (fun _=>rfl) Zi Zi);rintro _ _ ⟨y,w,rfl,rfl⟩;refine Zg ?_;exact ⟨_,⟨_,rfl,y,w,aQ Value.bool Zi,rfl⟩,leA⟩
def Turns_no (hs:Sees q a (th.map (Value.int .i64)))(hL:th.length<=50000)(ok: ¬ (∀ x∈th,0<=x/\x<=7)):CR G 58 [.slice a th.length c] (q) (.tuple [.slice none 0 0,I64 2].toArray):=by
 refine aE ntmps58 fun F cs=> ?_;refine Zo zeroValue41 fun d=> ?_
 refine Zz ?_;refine cH (bW (fun (s:Nat×Option Addr×Nat)=>s.1<=th.length/\(∀ x∈th.take s.1,0<=x/\x<=7)) (fun s=> [(4,pt d),(5,.func _ [].toArray [pt d].toArray),(12,.slice a th.length c),(13,I64 th.length),(14,I64 (s.1:Int))]) (fun s=>pC d [.slice s.2.1 (Ya (th.take s.1)).length s.2.2] 41::rsH tcs 2 49 s.2.1 s.2.2 (Ya (th.take s.1))::(q++F)) (fun s=>th.length - s.1) (fun s e m=> ?_) (0,none,0) ⟨Zy,Zf⟩) Z5 (aK (aK leA (Zc tcs 2 49 _)) leA);try dsimp only at e m|-
 have ⟨i,z,v⟩:=s;dsimp only at*;refine Wg ?_ ?_<;>intro j
 . have j:=cY j;have g:i<th.length:=Zq;refine Yq hs Zi fun b1 o1 r=> ?_;subst r;have n:=R7 th i;refine Zz ?_;rcases bK (0<=th[i]/\th[i]<=7) with h|h
   . refine XO.cV (gA call118 (add_ok (l:=Ya (th.take i)) h Zq (fun y b=>⟨by have:=(Dl th i) y b;omega,by have:=Nn th i y b;omega⟩))) ?_;refine kd2 fun w u=> ?_
     refine Zz ?_;rw [<-Ur g];refine Zs (m (i+1,w,u) ⟨Zy,by dsimp only;rw [aM g];intro y b;rcases bP.1 b with b|b;exact e.2 y b;rw [bE.1 b];exact h⟩ Zy)
   apply XO.cV (gA call118 (add_no h));refine kd0 ?_;exact Vz q
 have j:=of_decide_eq_false j;obtain rfl:i=th.length:=Zq;rw [bR] at*;exact (ok e.2).elim
def Turns_ok (hs:Sees q a (th.map (Value.int .i64)))(hL:th.length<=50000)(ok: ∀ x∈th,0<=x/\x<=7):CF G 58 [.slice a th.length c] (q) (Ret fun v q'=> ∃ a' c',v= .tuple [.slice a' (Ya th).length c',I64 0].toArray/\q'=rsH tcs 2 49 a' c' (Ya th)::q):=by
 refine aE ntmps58 fun F cs=> ?_;refine Zo zeroValue41 fun f=> ?_
 refine Zz ?_;refine cH (bW (fun (s:Nat×Option Addr×Nat)=>s.1<=th.length/\(∀ x∈th.take s.1,0<=x/\x<=7)) (fun s=> [(4,pt f),(5,.func _ [].toArray [pt f].toArray),(12,.slice a th.length c),(13,I64 th.length),(14,I64 (s.1:Int))]) (fun s=>pC f [.slice s.2.1 (Ya (th.take s.1)).length s.2.2] 41::rsH tcs 2 49 s.2.1 s.2.2 (Ya (th.take s.1))::(q++F)) (fun s=>th.length - s.1) (fun s e m=> ?_) (0,none,0) ⟨Zy,Zf⟩) Z5 (aK (aK leA (Zc tcs 2 49 _)) leA);try dsimp only at e m|-
 have ⟨i,o,n⟩:=s;dsimp only at*;refine Wg ?_ ?_<;>intro h
 . have h:=cY h;have d:i<th.length:=Zq;refine Yq hs Zi fun b1 o1 w=> ?_;subst w;have r:=R7 th i;refine Zz ?_;rcases bK (0<=th[i]/\th[i]<=7) with g|g
   . refine XO.cV (gA call118 (add_ok (l:=Ya (th.take i)) g Zq (fun y b=>⟨by have:=(Dl th i) y b;omega,by have:=Nn th i y b;omega⟩))) ?_;refine kd2 fun a3 z=> ?_
     refine Zz ?_;rw [<-Ur d];refine Zs (m (i+1,a3,z) ⟨Zy,by rw [aM d];intro y b;rcases bP.1 b with b|b;exact e.2 y b;rw [bE.1 b];exact g⟩ Zy)
   exact (g (ok _ (aC d))).elim
 have h:=of_decide_eq_false h;obtain rfl:i=th.length:=Zq;rw [bR] at*;refine Zg ?_;exact ⟨_,⟨_,rfl,o,n,rfl,rfl⟩,leA⟩
end
end Go.Proofs.YtadahhbefdnabaaGreatDoor
namespace Go.Proofs.YtadahhbefdnabaaGreatDoor
open Go Go.RowKit Wx Go.Proofs.Tryz
attribute [local irreducible] lsH rsH stars
variable {s:MS}{e:PEv}{r q:List HP}{c i n f p ne nt N mp:Nat}{a:Option Addr}{m:Mdl}{main:Int}{L:List PStm}{k:List Item}{F D:Fnd}{g:FC}{P:Program}{G:World}{Q:Yp}{pe:PE}{ds:List Deferred}{cs:List Frame}{l:List Ux}{picks:List Int}{t:Tkn}{x:EvC}
def Ez (s:MS)(e:PEv)(r:MS×PEv×Int):Prop:=((r.2.1.th=e.th/\r.2.1.stmt=e.stmt)/\r.1.out=s.out)/\0<=r.2.2/\r.2.2<=5
def Ez.of {r}(h1:r.2.1.th=e.th)(h2:r.2.1.stmt=e.stmt)(h:decide (0<=r.2.2/\r.2.2<=5)=true)(h3:r.1.out=s.out:=by rfl):Ez s e r:=⟨⟨⟨h1,h2⟩,h3⟩,cY h⟩
def Ez.ite {c}[Decidable c]{a b}(h1:Ez s e a)(h2:Ez s e b):Ez s e (if c then a else b):=by split<;>assumption
section
variable {kd d:Int}{i:Ins}{who:Nat}{ev:PEv}
def Fy (co:Int): ∀ (l:List Int) (s:MS) (ev:PEv),((Yd co l s ev).2.th=ev.th/\(Yd co l s ev).2.stmt=ev.stmt)/\(Yd co l s ev).1.out=s.out
 | [],_,_=>⟨⟨rfl,rfl⟩,rfl⟩
 |y::r,s,ev=>by exact Fy co r _ _
def Zfc:Ez s ev (Ja main m d i s who ev):=by
 have e: ∀ a,Ez s ev (Ej s who a ev):=fun a=>by
  unfold Ej PEv.sn;split<;>exact .of rfl rfl rfl
 have c: ∀ a,Ez s ev (Rs s who a ev):=fun a=>by
  unfold Rs PEv.sn;split<;>exact .of rfl rfl rfl
 have f: ∀ a b,Ez s ev (Cy s who a b ev):=fun a b=> .ite (e _) (.ite (c _) (.of (c _).1.1.1 (c _).1.1.2 rfl (c _).1.2))
 exact .ite (e _) (.ite (c _) (.ite (f _ _) (.ite (.ite (.of rfl rfl rfl) (.of rfl rfl rfl)) (.ite (.of (Fy _ _ _ _).1.1 (Fy _ _ _ _).1.2 rfl (Fy _ _ _ _).2) (.ite (.of rfl rfl rfl) (.ite (.of rfl rfl rfl) (.ite (.ite (.of rfl rfl rfl) (.of rfl rfl rfl)) (.ite (.of rfl rfl rfl) (.of rfl rfl rfl)))))))))
def twoS_z (op a b:Int):0<=(Uf op a b).2/\(Uf op a b).2<=5:=by
 have z: ∀ n:Int,0<=((n,0):Int×Int).2/\((n,0):Int×Int).2<=5:=fun n=>⟨Zf,Zf⟩
 have h: ∀ n:Int,0<=(if val n then ((n,0):Int×Int) else (0,2)).2/\(if val n then ((n,0):Int×Int) else (0,2)).2<=5:=fun n=>by
  split
  . exact z _
  exact ⟨Zf,Zf⟩
 unfold Uf;split;exact z _;split;exact z _;split;exact z _;split;exact z _;split;exact ⟨Zf,Zf⟩;exact h _
def ins_ev:Ez s ev (Hn main m kd d i s who ev):=by
 have a: ∀ t,(Tp kd i t ev).th=ev.th/\(Tp kd i t ev).stmt=ev.stmt:=fun t=>by unfold Tp;split<;>exact ⟨rfl,rfl⟩
 refine .ite (.of rfl rfl rfl) (.ite (.of rfl rfl rfl) (.ite (.of rfl rfl rfl) (.ite (.of rfl rfl rfl) (.ite (.of rfl rfl rfl) (.ite (.ite (.of rfl rfl rfl) (.of rfl rfl rfl)) (.ite (.ite (.of rfl rfl rfl) (.of rfl rfl rfl)) (.ite (.ite (.of rfl rfl rfl) (.of rfl rfl rfl)) (.ite (.of rfl rfl rfl) (.ite (.of rfl rfl rfl) (.ite (.of (a _).1 (a _).2 rfl) (.ite (.ite (.of rfl rfl rfl) ⟨⟨⟨rfl,rfl⟩,rfl⟩,twoS_z _ _ _⟩) (.ite (.of rfl rfl rfl) Zfc))))))))))))
def Ez.on {r}(h:Ez (s.on who) e r):Ez s e r:=⟨⟨h.1.1,h.1.2.trans (rfl)⟩,h.2⟩
def run_ev: ∀ (n:Nat) (b:Bool) (s:MS) (ev:PEv),Ez s ev (Mj main m kd d who n b s ev)
 |0,_,_,_=> .of rfl rfl rfl
 |n+1,b,s,ev=>by
  unfold Mj;split
  . split
    . exact ins_ev.on
    have c:=(ins_ev (main:=main) (m:=m) (kd:=kd) (d:=d) (i:=(s.th who).at m) (s:=s.on who) (who:=who) (ev:=ev)).on.1;have a:=run_ev n false (Hn main m kd d ((s.th who).at m) (s.on who) who ev).1 (Hn main m kd d ((s.th who).at m) (s.on who) who ev).2.1;exact ⟨⟨⟨a.1.1.1.trans c.1.1,a.1.1.2.trans c.1.2⟩,a.1.2.trans c.2⟩,a.2⟩
  exact .of rfl rfl rfl
def do1_ev :Ez s ev (doM main m kd d who n s ev):=by
 have h:=run_ev (main:=main) (m:=m) (kd:=kd) (d:=d) (who:=who) n true (s.put who { s.th who with st:=1 }) { ev with woke:=decide ((s.th who).st=3) };unfold doM;dsimp only;split
 . exact h
 split
 . exact .of h.1.1.1 h.1.1.2 rfl h.1.2
 exact h
def doP_ev {i}(h:(s.doP main m L f i).2.2=0):(s.doP main m L f i).2.1.th=i/\0<=i/\i<s.ths.length:=by
 revert h
 unfold MS.doP;split
 . intro h;exact aV (show (2:Int)=0 from h) Zw
 split
 . intro h;exact aV (show (150:Int)=0 from h) Zw
 split
 . intro h;exact aV (show (151:Int)=0 from h) Zw
 dsimp only;split
 . intro _;exact ⟨rfl,Zq,Zq⟩
 intro _;exact ⟨do1_ev.1.1.1,Zq,Zq⟩
def stepP_do {k}(h:(s.stepP main m L f k).2.2=0):s.stepP main m L f k=s.doP main m L f (s.stepP main m L f k).2.1.th/\0<=(s.stepP main m L f k).2.1.th/\(s.stepP main m L f k).2.1.th<s.ths.length:=by
 revert h
 unfold MS.stepP;split
 . intro h;exact aV (show (150:Int)=0 from h) Zw
 intro h;have:=doP_ev h;rw [this.1];exact ⟨rfl,this.2⟩
def Zjv (n:Nat)(o:POut):Prop:=o.kind=4->(1<=o.trap/\o.trap<=5)/\(0<=o.th/\o.th<=7)/\0<=o.stmt/\o.stmt<n
end
def doP_err {i}(h:(s.doP main m L f i).2.2≠0):(s.doP main m L f i).1=s/\(s.doP main m L f i).2.1=zEv 0 0:=by
 revert h
 unfold MS.doP;split;exact fun _=>⟨rfl,rfl⟩
 split;exact fun _=>⟨rfl,rfl⟩
 split;exact fun _=>⟨rfl,rfl⟩
 dsimp only;split<;>exact fun h=>aV rfl h
def FDos (F:Fnd):MS->List PEv->MS->Prop
 |s, [],s'=>s'=s
 |s,e::r,s'=>FDo F s e.th=((FDo F s e.th).1,e,0)/\(0<=e.th/\e.th<s.ths.length)/\FDos F (FDo F s e.th).1 r s'
def B7 (F:Fnd): ∀ (l:List Int) (s:MS),FDos F s (Kg F s l).2 (Kg F s l).1
 | [],s=>rfl
 |k::r,s=>by
  unfold Kg Vl;split
  . rename_i h
    revert h
    unfold MS.stepP;split
    . intro _;rfl
    intro h;exact (doP_err h).1
  rename_i h;have a:(s.stepP F.main (Wa F) (Vm F) 36011 k).2.2=0:=by simpa using h
  have ⟨e,d⟩:=(stepP_do) a;have b:FDo F s (s.stepP F.main _ _ 36011 k).2.1.th=s.stepP F.main _ _ 36011 k:=e.symm;refine ⟨?_,d,?_⟩
  . rw [b,<-a]
  rw [b];exact B7 F r _
def I0 (F:Fnd): ∀ (l:List Int) (s:MS),(Kg F s l).2.length<=l.length
 | [],s=>aS _
 |k::r,s=>by
  unfold Kg Vl;split
  . exact aZ _
  have:=I0 F r (s.stepP F.main (Wa F) (Vm F) 36011 k).1;exact Nat.succ_le_succ this
def FDos.ths (hg:g.er=F)(t:TxF F): ∀ {l} {s s'} {N},FDos F s l s'->FI F N s->N+36011*l.length<=50000000->(∀ e∈l,0<=e.th/\e.th<=7)/\FI F (N+36011*l.length) s'
 | [],s,s',N,h,hM,hN=>⟨fun e f=>(by cases f),by rw [h];exact hM⟩
 |e::r,s,s',N,⟨h1,h2,h3⟩,hM,hN=>by
  rw [aJ] at hN|-;have ⟨d,c⟩:=FDos.ths hg t h3 ((FI.go hg t hM Zq e.th).1) Zq;refine ⟨fun x a=> ?_,by rw [show N+36011*(r.length+1)=N+36011+36011*r.length by omega];exact c⟩;rcases bS.1 a with rfl|a
  . have:=hM.r.n;omega
  exact d x a
def POut.o (x:POut):Zvj:=(x.kind,x.trap,x.th,x.stmt)
def Hg (F:Fnd)(l:List Int):Tkn:=⟨Hu F,Ya ((Kg F (MS.new F (Wa F)) l).2.map PEv.th),(H3 F (Kg F (MS.new F (Wa F)) l).1).o⟩
def X.mxO {f}(x: ∀ z:MX,z.ok F->X P G f Q k pe ds cs (maH p z.K s::mxI z::r))(hq:Le q (mxH p F s::r):=by exact Zj):X P G f Q k pe ds cs q:=
 .le hq (.ex fun z=> .le (Zb _ r) (.pure fun h=>x z h))
def rcI (L:List PEv)(k ne nt:Nat):HP:=ex fun x:List EvC×Option Addr×Nat×Option Addr×Nat=>stars (pure (x.1.map EvC.e=L.take k)::pC ne [.slice x.2.1 x.1.length x.2.2.1] 50::pC nt [.slice x.2.2.2.1 x.1.length x.2.2.2.2] 23::rsH evC 9 63 x.2.1 x.2.2.1 x.1::stars (x.1.map fun x=>stars (evL x))::lsH I64 3 x.2.2.2.1 x.2.2.2.2 (x.1.map fun x=>x.e.th):: [])
def rcI_in {L}{k}(x:List EvC×Option Addr×Nat×Option Addr×Nat)(h:x.1.map EvC.e=L.take k)(hle:Le q (pC ne [.slice x.2.1 x.1.length x.2.2.1] 50::pC nt [.slice x.2.2.2.1 x.1.length x.2.2.2.2] 23::rsH evC 9 63 x.2.1 x.2.2.1 x.1::stars (x.1.map fun x=>stars (evL x))::lsH I64 3 x.2.2.2.1 x.2.2.2.2 (x.1.map fun x=>x.e.th)::r)):Le q (rcI L k ne nt::r):=
 Vt x (hle.trans ((Yu h _).trans (by exact Zh [_,_,_,_,_,_] r)))
def X.rcI {f}{todo}{p}{L}{k}
 (x: ∀ (l:List EvC) (a:Option Addr) (c:Nat) (ta:Option Addr) (tc:Nat),l.map EvC.e=L.take k->X P G f Q todo p ds cs (pC ne [.slice a l.length c] 50::pC nt [.slice ta l.length tc] 23::rsH evC 9 63 a c l::stars (l.map fun x=>stars (evL x))::lsH I64 3 ta tc (l.map fun x=>x.e.th)::q)):X P G f Q todo p ds cs (Go.Proofs.YtadahhbefdnabaaGreatDoor.rcI L k ne nt::q):=
 X.ex (fun s=>cE (Zb _ _) (kP (fun h=>x s.1 s.2.1 s.2.2.1 s.2.2.2.1 s.2.2.2.2 h)))
section
variable {l:Bs}{pa:Option Addr}{pc:Nat}
abbrev Ao :=([.int .u32 0,.slice none 0 0,I64 0,I64 0,I64 0,I64 0]:List Value)
def Lh (hT:U6 l=some g.er)(hl:l.length<=5000)(hK:Kn q fun M=>g.At M)(hg:GO q)(gc:GC q)(ge:GE q)(hs:Sees q pa (picks.map I64))(hk: ∀ k∈picks, -9223372036854775808<=k/\k<=9223372036854775807)(hp:picks.length<=1000):CF G 22 [.agg (pgC g).toArray,.slice pa picks.length pc] (q) (Ret fun v q'=> ∃ (l:List EvC) (a:Option Addr) (c:Nat) (ta:Option Addr) (tc:Nat),l.map EvC.e=(Kg g.er (MS.new g.er (Wa g.er)) picks).2/\v= .tuple [(Hg g.er picks).v ta tc,.slice a l.length c,I64 0].toArray/\q'=Zw4 a c l (rsH tcs 2 49 ta tc (Hg g.er picks).turns::q)):=by
 refine aE ntmps22 fun F cs=> ?_;have h:TxF g.er:=⟨l,hT,hl⟩;have ⟨w,o⟩:=lV (MS.new g.er (Wa g.er));have c0:FI g.er 0 w:=(by rw [o];exact FI.new rfl h);unfold Hg;rw [<-o];refine Yb fun n1=> ?_
 refine Zo zeroValue47 fun n2=> ?_
 refine Zz ?_;apply Zv (aG _) (Zbj hT hl (hK.le leA) (hg.le leA) (gc.le leA) (ge.le leA));rintro _ _ ⟨p,rfl,rfl⟩;rw [<-o];refine Zz ?_;apply bD (Zfx hT hl (hK.le leA) (hg.le leA) (gc.le leA));refine Zo zeroValue50 fun n3=> ?_
 refine Zo zeroValue23 fun n4=> ?_
 refine Zz ?_;apply Zv (aG _) (steps_ok (p:=p) (pa:=pa) (pc:=pc) (picks:=picks));rintro _ _ ⟨na,y,rfl,rfl⟩;refine Zz ?_;refine cE (q':=pC na [pt p] 54::_) Zj (fX ?_);refine cE (q':=pC y (Ae pa picks pc) 23::_) Zj (fX ?_);refine X.mxO fun z hz=> ?_
 have n:=hz.run picks w;have ⟨R,hR⟩:=lV (Kg g.er w picks);rw [<-hR] at n|-;have b0:=B7 g.er picks w;have f0:=I0 g.er picks w;rw [<-hR] at b0 f0;have ⟨d0,h0⟩:=FDos.ths rfl h b0 c0 Zq;have hI:Zfw prog G (.func (.func 117) [].toArray [pt y,pt na].toArray) EvR R.2 (maH p z.K w) (maH p z.K R.1) (im y (.cells (Ae pa picks pc).toArray 23 (0,0))::im na (.cells [pt p].toArray 54 (0,0))::mxI z::pC n2 Ao 47::q):=(by rw [<-n];exact Zve (N:=49000000) (J:=fun j s=>j<=1000->FI g.er (36011*j) s) (dK (iQ _ _ _) 0 _ rfl) (eR (dK (iQ na _ _)) Zj 0 _ rfl) (fun _=>c0) (fun j s k hj g0=>by rw [hz.step];exact (FI.go rfl h (hj Zq) Zq k).2) (fun j s hj g0=>hz.hd h (bC Zj (aG _)) (gc.le leA) (ge.le leA) (hj Zq) Zq Zq) (hs.le leA) hk Zq);refine Zkt (xs:=R.2) (im y (.cells (Ae pa picks pc).toArray 23 (0,0))::im na (.cells [pt p].toArray 54 (0,0))::mxI z::pC n2 Ao 47::q) (fun k:Nat=> [rcI R.2 k n3 n4]) (F:=F) hI rfl ?_ (by rintro _ _ _ ⟨_,_,rfl,_⟩;rfl) rfl (by rw [func22];rfl) rfl (fun i hi vs A hA l9 rec F0 i0=> ?_) fun r=> ?_
 . simp [bN,bL];apply rcI_in ([],none,0,none,0) rfl;exact aK (Yy I64 3 _) (aK (Y9 _) (aK (Zc evC 9 63 _) leA))
 . obtain ⟨x,hx,rfl,rfl⟩:=hA;refine X.sub (p':= [(35,_),(34,_),(11,_),(10,_),(9,_),(7,_),(6,_),(5,_),(4,_)]) ⟨rfl,rfl,rfl,rfl,rfl,rfl,rfl,rfl,rfl,trivial⟩ ?_;simp [bN,bL];refine cE (q':=rcI R.2 i n3 n4::_) Zj (X.rcI (fun d a1 c1 ta tc t=> ?_));have a0:d.length<=1000:=(by have e1:=aQ List.length t;rw [aI,bB] at e1;omega);refine Zo zeroValue63 fun n5=> ?_
   refine Zz ?_;apply gE rfl leA;refine Zz ?_;apply bU (Yw (u:=x) evC underlying50 F5 rfl rfl Hq rfl);rintro _ _ ⟨g3,rfl,rfl⟩;apply bU (Z9 (f:=evC) (l:=d) (m:= [x]) underlying50 F5 rfl rfl Hq rfl rfl Zj ((bJ _).le leA) Zbg Zi Zi);rintro _ _ ⟨a3,c3,rfl,rfl⟩;refine rn [0,2,0,1] ?_;refine ld ?_ (hc:=(eR (dK (dV _ _ _)) Zj 0 (I64 x.e.th) rfl));apply bU (Qu I64 [x.e.th] underlying23 Ts rfl rfl rfl rfl rfl rfl (fun _=>rfl));rintro _ _ ⟨g4,rfl,rfl⟩;apply aX 40 (.slice ta (d.map fun x=>x.e.th).length tc) rfl (by rw [aI]);apply bU (Wu (f:=I64) (l:=d.map fun x=>x.e.th) (m:= [x.e.th]) underlying23 Ts rfl rfl rfl Zj ((bV _).le leA) (fun _=>rfl) Zi Zi);rintro _ _ ⟨a4,c4,rfl,rfl⟩;refine Zz ?_;refine gK ⟨rfl,rfl,?_⟩;simp [bN,bL];refine bC Zj (rcI_in (d++ [x],a3,c3,a4,c4) (by rw [aN,t,aM hi,<-hx];rfl) ?_);dsimp only;rw [show (d++ [x]).map (fun x=>x.e.th)=(d.map fun x=>x.e.th)++ [x.e.th] by rw [aN];rfl];exact aK (b:=stars (d.map fun x=>stars (evL x))::stars (evL x)::pC n3 [.slice a3 (d++ [x]).length c3] 50::pC n4 [.slice a4 (d++ [x]).length c4] 23::rsH evC 9 63 a3 c3 (d++ [x])::lsH I64 3 a4 c4 ((d.map fun x=>x.e.th)++ [x.e.th])::im y (.cells (Ae pa picks pc).toArray 23 (0,0))::im na (.cells [pt p].toArray 54 (0,0))::mxI z::pC n2 Ao 47::(q++F0)) (by simp only [aA,aI,aJ,aT];exact leA) (aK (Q4 (fun x=>stars (evL x)) d x _) leA)
 simp only [bN,bL];refine cE (q':=rcI R.2 R.2.length n3 n4::_) Zj (X.rcI (fun d a1 c1 ta tc t=> ?_));rw [bR] at t;have e0:(d.map fun x=>x.e.th)=R.2.map PEv.th:=(by rw [<-t,fO];rfl);rw [e0];have a0:d.length=R.2.length:=(by rw [<-t,aI]);refine Zz ?_;apply aX 46 (.slice ta (R.2.map PEv.th).length tc) rfl (by rw [aI,a0]);refine Zv (aG _) (Turns_ok (th:=R.2.map PEv.th) ((bV _).le leA) (by rw [aI];omega) (fun x hx=>by obtain ⟨e,he,rfl⟩:=cF.1 hx;exact d0 e he)) ?_;rintro _ _ ⟨a7,c7,rfl,rfl⟩;refine rn [12,1051,3,0,1,2,3,6] ?_;apply XD.le (q':=mxH p g.er R.1::_) (aK (b:=maH p z.K R.1::mxI z::_) (bC Zj (bC Zj (aG _))) (Zy8 hz (aG _)));apply Wk 3 Zj (Xa (F:=g.er) (s:=R.1) h (gc.le leA) (ge.le leA) h0 Zq);refine kk0<|rn [5,7,8,9,0] ?_;exact iH ⟨rfl,Kx (q':=pC n2 [.int .u32 (Hu g.er),.slice a7 (Ya (R.2.map PEv.th)).length c7,I64 (H3 g.er R.1).kind,I64 (H3 g.er R.1).trap,I64 (H3 g.er R.1).th,I64 (H3 g.er R.1).stmt] 47::rsH evC 9 63 a1 c1 d::stars (d.map fun x=>stars (evL x))::rsH tcs 2 49 a7 c7 (Ya (R.2.map PEv.th))::(q++F)) (fS (q':=Zw4 a1 c1 d (rsH tcs 2 49 a7 c7 (Ya (R.2.map PEv.th))::q)) func22 (D7 results22) ⟨_,rfl,d,a1,c1,a7,c7,t,rfl,rfl⟩ leA) (hq:=bC Zj leA)⟩
end
structure RS where
 t:Tkn
 s:MS
 pl:Nat
 ah:Nat
 dn:Nat
 df:Bool
 en:Nat
variable {R:RS}
def RS.over (F:Fnd)(r:RS):Bool:=decide (r.pl=r.t.turns.length) && decide ((H3 F r.s).o=r.t.e)
def RS.step (F:Fnd)(r:RS):RS×PEv×Int×Int:=
 if r.df=true then (r,zEv 0 0,r.en,221)
 else if r.over F=true then (r,zEv 0 0,0,222)
 else if r.pl=r.t.turns.length then ({ r with df:=true,en:=r.pl },zEv 0 0,r.pl,221)
 else if (FDo F r.s (r.t.turns.getD r.pl (0,0)).1).2.2≠0 then ({ r with s:=(FDo F r.s (r.t.turns.getD r.pl (0,0)).1).1,df:=true,en:=r.pl },zEv 0 0,r.pl,221)
 else if ((r.ah+1:Nat):Int)=(r.t.turns.getD r.pl (0,0)).2 then ({ r with s:=(FDo F r.s (r.t.turns.getD r.pl (0,0)).1).1,dn:=r.dn+1,ah:=0,pl:=r.pl+1 },(FDo F r.s (r.t.turns.getD r.pl (0,0)).1).2.1,r.pl,0)
 else ({ r with s:=(FDo F r.s (r.t.turns.getD r.pl (0,0)).1).1,dn:=r.dn+1,ah:=r.ah+1 },(FDo F r.s (r.t.turns.getD r.pl (0,0)).1).2.1,r.pl,0)
structure RI (F:Fnd) (N:Nat) (r:RS):Prop where
 m:FI F N r.s
 n:N+36011<=50000000
 a:r.pl<=r.t.turns.length/\r.t.turns.length<=65536
 d:r.dn<=N/\r.ah<=N
theorem RI.step {r}(hg:g.er=F)(t:TxF F)(h:RI F N r)(hN:N+36011+36011<=50000000):RI F (N+36011) (r.step F).1:=by
 have e:=h.m.mono (show N<=N+36011 by omega);have b:=h.a;have i:=h.d;have c:FI F _ (FDo F r.s (r.t.turns.getD r.pl (0,0)).1).1:=((FI.go hg t h.m h.n (r.t.turns.getD r.pl (0,0)).1).1);unfold RS.step;split;exact ⟨e,hN,b,Zy⟩;split;exact ⟨e,hN,b,Zy⟩;split;exact ⟨e,hN,b,Zy⟩;split;exact ⟨c,hN,b,Zy⟩;split
 . exact ⟨c,hN,Zy,Zy⟩
 exact ⟨c,hN,b,Zy⟩
def rpC (r:RS)(a:Option Addr)(c mp:Nat):List Value:= [.int .u32 r.t.hash,.slice a r.t.turns.length c,I64 r.t.e.1,I64 r.t.e.2.1,I64 r.t.e.2.2.1,I64 r.t.e.2.2.2,pt mp,I64 r.pl,I64 r.ah,I64 r.dn,.bool r.df,I64 r.en]
abbrev rpP (p:Nat)(r:RS)(a:Option Addr)(c mp:Nat):HP:=pC p (rpC r a c mp) 118
def rpH (p:Nat)(F:Fnd)(r:RS):HP:=ex fun x:Option Addr×Nat×Nat=>stars [rpP p r x.1 x.2.1 x.2.2,mxH x.2.2 F r.s,rsH tcs 2 49 x.1 x.2.1 r.t.turns]
section
variable {f:Fc}
def Zb3 (x: ∀ a c mp,X P G f Q k pe ds cs (rpP p R a c mp::mxH mp F R.s::rsH tcs 2 49 a c R.t.turns::r))(hq:Le q (rpH p F R::r):=by exact Zj):X P G f Q k pe ds cs q:=
 .le hq (.ex fun z=> .le (Zb _ r) (x z.1 z.2.1 z.2.2))
def Cg (h:Le q (rpP p R a c mp::mxH mp F R.s::rsH tcs 2 49 a c R.t.turns::r)):Le q (rpH p F R::r):=h.trans (Vt (a,c,mp) (Zh [rpP p R a c mp,mxH mp F R.s,rsH tcs 2 49 a c R.t.turns] r))
end
def Ot (h6:Cl q ⟨p,0+6,none⟩ (pt mp)):CR G 62 [pt p] (q) bT:=by
 refine We ntmps62 fun F cs=> ?_;refine ld ?_ (hc:=(h6.le leA));exact Vz q
def Lg (h7:Cl q ⟨p,0+7,none⟩ (I64 i))(h1:Cl q ⟨p,0+1,none⟩ (.slice a n c)):CR G 63 [pt p] (q) (.bool (decide (i=n))):=by
 refine We ntmps63 fun F cs=> ?_;refine ldD 4 ?_ (hc:=(h7.le leA));refine Zz ?_;refine ldD 10 ?_ (hc:=(h1.le leA));refine Zm (q) ?_;exact ⟨_,rfl,by first|rfl|(congr 1;rw [cD];simp;omega),rfl⟩
def Lj:CF G 64 [pt p] (rpP p R a c mp::q) (Ret fun v q'=>v= .tuple [.agg (evC A9).toArray,I64 R.pl,I64 221].toArray/\q'=rpP p ({ R with df:=true,en:=R.pl } :RS) a c mp::q):=by
 refine aE ntmps64 fun F cs=> ?_;have ⟨t,s,e,k,j,df,en⟩:=R;have ⟨d,b,i,h,g,f⟩:=t;skip;refine Zo zeroValue63 fun l=> ?_
 refine rn [11,0,3,0,3,0,2,0,1,2,3,4,5,6,7,8,9,0] ?_;refine Zl (rpP p ({ (⟨⟨d,b,i,h,g,f⟩,s,e,k,j,df,en⟩:RS) with df:=true,en:=e } :RS) a c mp::q) func64 (D7 results64) ⟨_,rfl,rfl,rfl⟩
def rOver_ok (t:TxF D)(gc:GC q)(ge:GE q)(hI:RI D N R):CR G 29 [pt p] (rpH p D R::q) (.bool (R.over D)):=by
 refine aE ntmps29 fun F cs=> ?_;refine Zb3 fun a c mp=> ?_
 by_cases hb:R.pl=R.t.turns.length
 iterate 2
  focus
   refine Zz ?_;apply Yf 1 (Ot clA);refine Ye ?_;apply XD.kt 5;refine Ye ?_;apply Yf 4 (Lg clA clA)
  rotate_left
 focus
  apply dW 7 bT rfl (by simp [hb]);apply dd [5,6];apply XD.kt 9;refine rn [8,9,10,11,12,14,15,16,17,18,19] ?_;apply Wk 12 Zj (Xa t (gc.le leA) (ge.le leA) hI.m hI.n);refine kk0<|Ey 19 rfl (Gg rfl rfl (by kernel_rfl) (jJ underlying45 (by kernel_rfl) (by kernel_rfl) ⟨_,_,_,_,rfl,rfl,isAgg42,(eO underlying42 _ _),⟨_,_,_,_,rfl,rfl,isAgg43,(eO underlying43 _ _),⟨_,_,_,_,rfl,rfl,isAgg3,(eO underlying3 _ _),⟨_,_,_,_,rfl,rfl,isAgg3,(eO underlying3 _ _),rfl,rfl⟩,rfl⟩,rfl⟩,rfl⟩)) ?_
 rotate_left
 focus
  apply dW 7 bF rfl (by simp [hb]);apply dd [5,6];apply XD.kf 9
 all_goals
  refine Zg ?_;exact ⟨_,⟨_,rfl,cB (by unfold RS.over;rw [cD];simp [hb,Prod.ext_iff,POut.o]),rfl⟩,(Cg leA)⟩
def rStep_ok (t:TxF D)(gc:GC q)(ge:GE q)(hI:RI D N R):CF G 27 [pt p] (rpH p D R::q) (Ret fun v q'=> ∃ e:EvC,e.e=(R.step D).2.1/\v= .tuple [.agg (evC e).toArray,I64 (R.step D).2.2.1,I64 (R.step D).2.2.2].toArray/\q'=rsH acC 3 158 e.aa e.ac e.e.acc::rsH snC 3 161 e.na e.nc e.e.syn::rpH p D (R.step D).1::q):=by
 refine aE ntmps27 fun F cs=> ?_;have ⟨Z,h⟩:=lV (R.step D);rw [<-h];unfold RS.step at h;have hd:=hI.d;have ha:=hI.a;have hn:=hI.n;refine Zb3 fun a c mp=> ?_;have ⟨df,c0⟩:=lV R.df
 refine Zo zeroValue63 fun n1=> ?_
 refine Zz ?_;apply bD (Ot (p:=p) (mp:=mp) clA);refine Wg ?_ ?_<;>intro h1
 . rw [if_pos h1] at h;refine rn [2,0,1,2,3,4,5,6,7,8,9,0] ?_;refine Zl (rsH acC 3 158 A9.aa A9.ac A9.e.acc::rsH snC 3 161 A9.na A9.nc A9.e.syn::rpH p D Z.1::q) func27 (D7 results27) ⟨_,rfl,A9,by rw [h],by rw [h];rfl,rfl⟩ (aK (b:=rpH p D Z.1::(q++F)) (by rw [h];exact Cg leA) (aK (Zc snC 3 161 _) (Zc acC 3 158 _)))
 rw [if_neg (by rw [h1];decide)] at h;refine Zz ?_;apply eN (q':=rpH p D R::pC n1 zz0 63::(q++F)) (Cg leA);apply Zv (aG _) (rOver_ok (R:=R) t (gc.le leA) (ge.le leA) hI);rintro _ _ ⟨rfl,rfl⟩;refine Wg ?_ ?_<;>intro h2
 . rw [if_pos h2] at h;refine Zg ?_;exact ⟨_,⟨_,rfl,A9,by rw [h],by rw [h];rfl,rfl⟩,(aK (by rw [h];exact leA) (aK (Zc snC 3 161 _) (Zc acC 3 158 _)))⟩
 rw [if_neg (by rw [h2];decide)] at h;clear a c mp;refine Zb3 fun a c mp=> ?_
 refine Zz ?_;apply bD (Lg clA clA);refine Wg ?_ ?_<;>intro y
 . replace y:R.pl=R.t.turns.length:=(by simpa using y);rw [if_pos y] at h;refine Zz ?_;apply Zv Zj (Lj);rintro _ _ ⟨rfl,rfl⟩;refine Zg ?_;exact ⟨_,⟨_,rfl,A9,by rw [h],by rw [h];rfl,rfl⟩,(aK (b:=rpH p D Z.1::(q++F)) (by rw [h];exact Cg leA) (aK (Zc snC 3 161 _) (Zc acC 3 158 _)))⟩
 replace y: ¬R.pl=R.t.turns.length:=(by simpa using y);rw [if_neg y] at h;have a0:R.pl<R.t.turns.length:=Zq;have ⟨x,hx⟩:=lV R.t.turns[R.pl];rw [show R.t.turns.getD R.pl (0,0)=x by rw [gD a0,hx]] at h;refine Vq (l:=R.t.turns) Zq fun o b0=> ?_;subst b0;have z: ∀ r,CellsAt (rsH tcs 2 49 (some ⟨o,0,none⟩) c R.t.turns::r) o (0+(R.pl:Int).toNat*2) (tcs x):=fun r=>by rw [hx];exact eX (f:=tcs) (bJ r) (aG _) (fun _=>rfl) a0 rfl
 refine Zz ?_;apply H2 isAgg49 sizeOf49 rfl ((z _).le Zj);refine Zo zeroValue49 fun n2=> ?_
 refine Zz ?_;refine Vd (fl:= [⟨11,7,fun g=> pt g,fun g=>pC g zz0 63⟩]) ?_;refine Bi 7 ⟨flA zeroValue63,trivial⟩ Zj (xDo_ok t (gc.le leA) (ge.le leA) hI.m hI.n) ?_;rintro _ _ ⟨e,he,rfl,rfl⟩;refine ⟨trivial,?_⟩;skip;refine Kq 8 ⟨flA zeroValue63,trivial⟩ (Pu.move rfl) ?_;refine Kq 9 ⟨flA zeroValue63,trivial⟩ (fP rfl rfl) ?_;refine Kq 10 ⟨flA zeroValue63,trivial⟩ (fP rfl rfl) ?_;refine Qs 11 ⟨flA zeroValue63,trivial⟩ fun nv=> ?_;change XF _ _ _ _ _ _ _ [] _ _ _ ((7,pt nv)::_) _ _ (pC nv zz0 63::_);refine fR ?_;refine rn [13,14,0,6] ?_;refine X.part 64 rfl ?_ ?_<;>intro w
 . replace w:(FDo D R.s x.1).2.2≠0:=sp w;rw [if_pos w] at h;refine Zz ?_;apply Zv Zj (Lj);rintro _ _ ⟨rfl,rfl⟩;refine Zg ?_;exact ⟨_,⟨_,rfl,A9,by rw [h],by rw [h];rfl,rfl⟩,(aK (by rw [h];exact Cg (aK leA (aG _))) (aK (Zc snC 3 161 _) (Zc acC 3 158 _)))⟩
 replace w:(FDo D R.s x.1).2.2=0:=(by simpa using w);rw [if_neg (fun k=>k w)] at h;refine Wg ?_ ?_<;>intro u
 . replace u:((R.ah+1:Nat):Int)=x.2:=(by simpa using u);rw [if_pos u] at h;refine Zg ?_;exact ⟨_,⟨_,rfl,e,by rw [he,h],by rw [h];rfl,rfl⟩,(aK (b:=rsH acC 3 158 e.aa e.ac e.e.acc::rsH snC 3 161 e.na e.nc e.e.syn::pC p (Ku (Ku (Ku (Ku (rpC R (some ⟨o,0,none⟩) c mp) (0+0+9) (I64 ((R.dn:Int)+1))) (0+0+8) (I64 ((R.ah:Int)+1))) (0+0+7) (I64 ((R.pl:Int)+1))) (0+0+8) (I64 0)) 118::mxH mp D (FDo D R.s x.1).1::rsH tcs 2 49 (some ⟨o,0,none⟩) c R.t.turns::(q++F)) leA (cC _ (cC _ (by rw [h];exact Cg (R:= { R with s:=(FDo D R.s x.1).1,dn:=R.dn+1,ah:=0,pl:=R.pl+1 }) (aG _)))))⟩
 replace u: ¬ ((R.ah+1:Nat):Int)=x.2:=(by simpa using u);rw [if_neg u] at h;refine Zg ?_;exact ⟨_,⟨_,rfl,e,by rw [he,h],by rw [h];rfl,rfl⟩,(aK (b:=rsH acC 3 158 e.aa e.ac e.e.acc::rsH snC 3 161 e.na e.nc e.e.syn::pC p (Ku (Ku (rpC R (some ⟨o,0,none⟩) c mp) (0+0+9) (I64 ((R.dn:Int)+1))) (0+0+8) (I64 ((R.ah:Int)+1))) 118::mxH mp D (FDo D R.s x.1).1::rsH tcs 2 49 (some ⟨o,0,none⟩) c R.t.turns::(q++F)) leA (cC _ (cC _ (by rw [h];exact Cg (R:= { R with s:=(FDo D R.s x.1).1,dn:=R.dn+1,ah:=R.ah+1 }) (aG _)))))⟩
def V3 (l:List Ux):List Int:=l.flatMap fun x=>List.replicate x.2.toNat x.1
def G6 (l m:List Ux):V3 (l++m)=V3 l++V3 m:=by simp [V3]
def Zge {t}(h: ∀ x∈l,1<=x.2):V3 (Kh l t)=V3 l++ [t]:=by
 unfold Kh;split
 . have f:=h _ (aC (show l.length - 1<l.length by omega))
   have e:l.set (l.length - 1) (t,(l[l.length - 1]'Zq).2+1)=l.take (l.length - 1)++ [(t,(l[l.length - 1]'Zq).2+1)]:=by
    rw [eW,if_pos Zq,cN Zq]
   have d:l=l.take (l.length - 1)++ [l[l.length - 1]'Zq]:=by
    rw [<-aM Zq,bX Zq]
   conv=>rhs
   have i:((l[l.length - 1]'Zq).2+1).toNat=(l[l.length - 1]'Zq).2.toNat+1:=Zq;grind [V3,List.replicate_succ']
 simp [V3]
def Tq (l:List Int):V3 (Ya l)=l:=by
 have a: ∀ n,V3 (Ya (l.take n))=l.take n:=by
  intro n
  induction n with
  |zero=>rfl
  |succ n ih=>
   rcases dN n l.length with h|h
   . rw [Ur h,Zge (Nn l n),ih,aM h]
   grind [List.take_of_length_le]
 have:=a l.length;grind
def Di (F:Fnd)(t:Tkn):RS:=⟨t,MS.new F (Wa F),0,0,0,false,0⟩
def R4 (F:Fnd)(t:Tkn):Int:=if okT t then if t.hash=Hu F then 0 else 220 else 2
def rnewS (F:Fnd)(t:Tkn)(q:List HP)(v:Value)(q':List HP):Prop:=(R4 F t≠0/\v= .tuple [.pointer none,I64 (R4 F t)].toArray/\q'=q)\/(R4 F t=0/\ ∃ p,v= .tuple [pt p,I64 0].toArray/\q'=rpH p F (Di F t)::q)
section
variable {l:Bs}
def rNew_ok (hT:U6 l=some g.er)(hl:l.length<=5000)(hK:Kn q fun M=>g.At M)(hg:GO q)(gc:GC q)(ge:GE q)(hs:Sees q a (t.turns.flatMap tcs))(hL:t.turns.length<=1000000000):CF G 26 [.agg (pgC g).toArray,t.v a c] (q) (Ret fun v q'=>rnewS g.er t q v q'):=by
 refine aE ntmps26 fun F cs=> ?_;unfold Tkn.v;refine Yb fun s=> ?_
 refine Yb fun f=> ?_
 refine Zz ?_;apply Zv (aG _) (Zbj hT hl (hK.le leA) (hg.le leA) (gc.le leA) (ge.le leA));rintro _ _ ⟨p,rfl,rfl⟩;refine rn [12,1016,5] ?_;apply H2 (us:=t.cs a c) isAgg47 sizeOf47 rfl (eR (dK (dV _ _ _)) Zj);apply bD (Zgl (t:=t) (a:=a) (c:=c) (hs.le leA));refine Wg ?_ ?_<;>intro h
 . have e: ¬okT t:=(fun k=>by rw [show chk t=0 from if_pos k] at h;simp at h);have r:chk t=2:=if_neg e;have d:R4 g.er t=2:=if_neg e;rw [r];refine Zm (q) ?_;exact ⟨_,rfl,.inl ⟨by rw [d];decide,by rw [d],rfl⟩⟩
 have e:okT t:=(by by_cases k:okT t;exact k;exfalso;rw [show chk t=2 from if_neg k] at h;simp at h);refine Zz ?_;apply bD (Zfx hT hl (hK.le leA) (hg.le leA) (gc.le leA));refine rn [12,1029,7] ?_;refine ld ?_ (hc:=(eR (dK (dV f _ _)) Zj 0 (.int .u32 t.hash) rfl));refine Wg ?_ ?_<;>intro o
 . have m: ¬t.hash=Hu g.er:=(by have:=sp o;omega);have d:R4 g.er t=220:=(by unfold R4;rw [if_pos e,if_neg m]);refine Zm (q) ?_;exact ⟨_,rfl,.inl ⟨by rw [d];decide,by rw [d],rfl⟩⟩
 have m:t.hash=Hu g.er:=(by have:Hu g.er=t.hash:=(by simpa using o);exact this.symm);have d:R4 g.er t=0:=(by unfold R4;rw [if_pos e,if_pos m]);apply xo 5;refine ld ?_ (hc:=(eR (dK (dV f _ _)) Zj 1 (.slice a t.turns.length c) rfl));apply Zv (aG _) (Zgi (l:=t.turns) (hs.le leA) hL);rintro _ _ ⟨j,i,rfl,rfl⟩;refine rn [1,0,3] ?_;apply eN (q':=pC f (t.cs j i) 47::_) (aK (b:=pC f (Ku (t.cs a c) (0+1) (.slice j t.turns.length i)) 47::_) Zj (aG _));apply H2 (us:=t.cs j i) isAgg47 sizeOf47 rfl (eR (dK (dV _ _ _)) Zj);refine Yb fun n=> ?_
 refine Zg ?_;exact ⟨_,⟨_,rfl,.inr ⟨d,n,rfl,rfl⟩⟩,(aK (b:=pto n _::mxH p g.er (MS.new g.er (Wa g.er))::rsH tcs 2 49 j i t.turns::(q++F)) leA (Cg (R:=Di g.er t) (aG _)))⟩
end
def leftT (l:List Ux):Nat:=(l.map fun x=>x.2.toNat).sum
def RS.left (r:RS):Nat:=leftT (r.t.turns.drop r.pl) - r.ah
structure RS.fit (r:RS):Prop where
 p: ∀ x∈r.t.turns,1<=x.2
 a:(r.pl=r.t.turns.length/\r.ah=0)\/(∃ h:r.pl<r.t.turns.length,(r.ah:Int)<(r.t.turns[r.pl]).2)
def E5 (h:i<l.length):leftT (l.drop i)=(l[i]).2.toNat+leftT (l.drop (i+1)):=by
 unfold leftT;rw [aP h,bG,lU]
theorem RS.go {r:RS}(h:r.fit)(h0:(r.step F).2.2.2=0):((r.step F).1.fit/\(r.step F).1.left+1=r.left)/\(r.step F).1.t=r.t:=by
 revert h0
 unfold RS.step;split;exact fun k=>aV (show (221:Int)=0 from k) Zw
 split;exact fun k=>aV (show (222:Int)=0 from k) Zw
 split;exact fun k=>aV (show (221:Int)=0 from k) Zw
 split;exact fun k=>aV (show (221:Int)=0 from k) Zw
 rename_i d _;obtain ⟨b,e⟩: ∃ h:r.pl<r.t.turns.length,(r.ah:Int)<(r.t.turns[r.pl]).2:=h.a.resolve_left fun k=>d k.1
 have c:=E5 b;have g:=h.p _ (aC b);rw [gD b];split
 . rename_i f;intro _;refine ⟨⟨⟨h.p,?_⟩,?_⟩,rfl⟩
   . dsimp only;by_cases h7:r.pl+1=r.t.turns.length
     . exact .inl ⟨h7,rfl⟩
     exact .inr ⟨Zq,by have:=h.p _ (aC (show r.pl+1<r.t.turns.length by omega));omega⟩
   unfold RS.left;dsimp only;rw [c];omega
 rename_i f;intro _;refine ⟨⟨⟨h.p,.inr ⟨b,Zy⟩⟩,?_⟩,rfl⟩;unfold RS.left;dsimp only;rw [c];omega
def RS.play (F:Fnd):Nat->RS->List PEv×POut×Int×Int
 |0,_=>([],Zzt,0,0)
 |n+1,r=>if (r.step F).2.2.2=0 then (if (RS.play F n (r.step F).1).2.2.2=0 then ((r.step F).2.1::(RS.play F n (r.step F).1).1,(RS.play F n (r.step F).1).2) else RS.play F n (r.step F).1) else if (r.step F).2.2.2=222 then ([],H3 F r.s,0,0) else ([],Zzt,(r.step F).2.2.1,(r.step F).2.2.2)
def Mi (F:Fnd)(t:Tkn):List PEv×POut×Int×Int:=(Di F t).play F (leftT t.turns+1)
def rplS (F:Fnd)(t:Tkn)(q:List HP)(v:Value)(q':List HP):Prop:=(R4 F t≠0/\v= .tuple [.slice none 0 0,.agg (ocC Zzt).toArray,I64 0,I64 (R4 F t)].toArray/\q'=q)\/(R4 F t=0/\ ∃ (l:List EvC) (a:Option Addr) (c:Nat),l.map EvC.e=(Mi F t).1/\v= .tuple [.slice a l.length c,.agg (ocC (Mi F t).2.1).toArray,I64 (Mi F t).2.2.1,I64 (Mi F t).2.2.2].toArray/\q'=Zw4 a c l q)
section
variable {l:Bs}
def Lm (hT:U6 l=some g.er)(hl:l.length<=5000)(hK:Kn q fun M=>g.At M)(hg:GO q)(gc:GC q)(ge:GE q)(hs:Sees q a (t.turns.flatMap tcs))(hL:t.turns.length<=1000000000)(hB:okT t->leftT t.turns<=1300):CF G 16 [.agg (pgC g).toArray,t.v a c] (q) (Ret fun v q'=>rplS g.er t q v q'):=by
 refine aE ntmps16 fun F cs=> ?_;unfold Tkn.v;have i:TxF g.er:=⟨l,hT,hl⟩;obtain ⟨R,hR⟩:=lV (Mi g.er t);unfold rplS;rw [<-hR];refine Yb fun n1=> ?_
 refine Yb fun n2=> ?_
 refine Zo zeroValue45 fun n3=> ?_
 refine rn [6,0] ?_;apply H2 (us:=t.cs a c) isAgg47 sizeOf47 rfl (eR (dK (dV _ _ _)) Zj);apply Zv (aG _) (rNew_ok (g:=g) (t:=t) (a:=a) (c:=c) hT hl (hK.le leA) (hg.le leA) (gc.le leA) (ge.le leA) (hs.le leA) hL);rintro _ _ (⟨b0,rfl,rfl⟩|⟨h0,p,rfl,rfl⟩)
 . refine Zz ?_;refine iJ 21 ?_ rfl (by simp [b0]);refine Zm (q) ?_;exact ⟨_,rfl,.inl ⟨b0,rfl,rfl⟩⟩
 refine Zz ?_;have y:okT t:=(by by_cases k:okT t;exact k;exfalso;rw [show R4 g.er t=2 from if_neg k] at h0;exact aV h0 Zw);have l0:=hB y;have a0: ∀ x∈t.turns,1<=x.2:=fun x hx=>(F2 y.2.2 (bI 0) x hx).2.2.1
 have z:(Di g.er t).left=leftT t.turns:=rfl;refine cH (bW (fun (s:RS×List EvC×Option Addr×Nat)=>s.1.fit/\s.1.t=t/\s.1.left<=leftT t.turns/\RI g.er (36011*(leftT t.turns - s.1.left)) s.1/\s.2.1.length+s.1.left=leftT t.turns/\R=if (s.1.play g.er (s.1.left+1)).2.2.2=0 then (s.2.1.map EvC.e++(s.1.play g.er (s.1.left+1)).1,(s.1.play g.er (s.1.left+1)).2) else (s.1.play g.er (s.1.left+1))) (fun s=> [(2,pt n1),(3,pt n2),(4,.slice none 0 0),(5,pt n3),(6,I64 0),(7,I64 0),(8,pt p),(10,.slice s.2.2.1 s.2.1.length s.2.2.2)]) (fun s=>rpH p g.er s.1::pC n3 zz1 45::rsH evC 9 63 s.2.2.1 s.2.2.2 s.2.1::stars (s.2.1.map fun x=>stars (evL x))::(q++F)) (fun s=>s.1.left) (fun s c0 ih=> ?_) (Di g.er t, [],none,0) ⟨⟨a0,by by_cases k:t.turns.length=0;exact .inl ⟨k.symm,rfl⟩;exact .inr ⟨iW k,by have:=a0 _ (aC (iW k));exact lR (show ((0:Nat):Int)<1 by decide) this⟩⟩,rfl,aS _,⟨by rw [z,kI];exact FI.new rfl i,by rw [z];omega,⟨aZ _,y.1⟩,aZ _,aZ _⟩,by rw [z];simp,by rw [hR];show Mi g.er t=if (Mi g.er t).2.2.2=0 then ([]++(Mi g.er t).1,(Mi g.er t).2) else _;split<;>rfl⟩) Z5 (aK (Zc evC 9 63 _) (aK (Y9 _) leA));try dsimp only at c0 ih|-
 obtain ⟨hf,ht,k0,hI,j0,d⟩:=c0;obtain ⟨r,w,ea,ec⟩:=s;dsimp only at*;obtain ⟨Z,hZ⟩:=lV (r.step g.er);have d0:=fun h=>RS.go (F:=g.er) (r:=r) hf h;have e0:=hI.step rfl i Zq;rw [<-hZ] at d0 e0;rw [RS.play,<-hZ] at d
 refine Zz ?_;apply Zv Zj (rStep_ok (R:=r) i (gc.le leA) (ge.le leA) hI);rintro _ _ ⟨e,he,rfl,rfl⟩;rw [<-hZ] at he|-;refine Zo zeroValue63 fun n4=> ?_
 refine Wg ?_ ?_<;>intro o
 . replace o:Z.2.2.2=0:=sp o;obtain ⟨⟨k1,k2⟩,k3⟩:=d0 o;rw [if_pos o] at d;refine Zz ?_;apply bU (Yw (u:=e) evC underlying50 F5 rfl rfl Hq rfl);rintro _ _ ⟨g3,rfl,rfl⟩;apply bU (Z9 (f:=evC) (l:=w) (m:= [e]) underlying50 F5 rfl rfl Hq rfl rfl Zj ((bJ _).le leA) Zbg Zi Zi);rintro _ _ ⟨a3,c3,rfl,rfl⟩;refine Zz ?_;apply cE (q':=stars ((w++ [e]).map fun x=>stars (evL x))::_) (aK (b:=stars (w.map fun x=>stars (evL x))::rsH acC 3 158 e.aa e.ac e.e.acc::rsH snC 3 161 e.na e.nc e.e.syn::_) (bC Zj (bC Zj Zj)) (aK (cC _ (Zh (evL e) _)) (Q4 (fun x=>stars (evL x)) w e _)));refine Zs (ih (Z.1,w++ [e],a3,c3) ⟨k1,k3.trans ht,Zy,by dsimp only;rw [show leftT t.turns - Z.1.left=leftT t.turns - r.left+1 by omega,Nat.mul_add,jR];exact e0,by dsimp only;rw [aA];simp;omega,by dsimp only;rw [k2,aN,bG,dF,he,aO];rw [d];split<;>rename_i k9<;>simp only [k9,if_true,if_false,bN,bL]⟩ Zy)
 replace o:Z.2.2.2≠0:=(by simpa using o);rw [if_neg o] at d;refine Wg ?_ ?_<;>intro j
 . replace j:Z.2.2.2=222:=sp j;rw [if_pos j] at d;simp only [if_true,cA] at d;have f0:Z.1=r:=(by rw [hZ] at j|-;revert j;unfold RS.step;split;exact fun _=>rfl;split;exact fun _=>rfl;split;exact fun k=>aV (show (221:Int)=222 from k) Zw;split;exact fun k=>aV (show (221:Int)=222 from k) Zw;split<;>exact fun k=>aV (show (0:Int)=222 from k) Zw);rw [f0];refine Zb3 fun a c mp=> ?_
   refine Zz ?_;apply Zv Zj (Xa (p:=mp) (s:=r.s) i (gc.le leA) (ge.le leA) hI.m hI.n);rintro _ _ ⟨rfl,rfl⟩;refine Zm (Zw4 ea ec w q) ?_;exact ⟨_,rfl,.inr ⟨h0,w,ea,ec,by rw [d],by rw [d];rfl,rfl⟩⟩
 replace j:Z.2.2.2≠222:=(by simpa using j);rw [if_neg j] at d;rw [if_neg o] at d;refine Zg ?_;exact ⟨_,⟨_,rfl,.inr ⟨h0, [],none,0,by rw [d];rfl,by rw [d];rfl,rfl⟩⟩,(aK (b:=(q++F)) leA (aK (Y9 _) (Zc evC 9 63 _)))⟩
end
def T4 (l:List Ux):Int:=(l.map Prod.snd).foldr (· + ·) 0
theorem R8 (l m:List Ux):T4 (l++m)=T4 l+T4 m:=by
 induction l<;>grind [T4,List.cons_append,List.map_cons,List.foldr_cons]
def Xk (p:Option Int)(l:List Ux):Option Int:=(l.getLast?.map Prod.fst).or p
theorem F1: ∀ {l} {p} {s} {x},goT p s (l++ [x])↔goT p s l/\(0<=x.1/\x.1<=7/\1<=x.2/\s+T4 l+x.2<=2147483647/\Xk p l≠some x.1)
 | [],p,s,x=>by simp [goT,T4,Xk]
 |y::r,p,s,x=>by
  have c:Xk p (y::r)=Xk (some y.1) r:=by
   unfold Xk
   cases r with
   |nil=>rfl
   |cons z r=>rw [List.getLast?_cons_cons];cases h:(z::r).getLast? with
    |none=>simp at h
    |some w=>rfl
  have b:T4 (y::r)=y.2+T4 r:=rfl;simp only [bN,goT];rw [F1 (l:=r) (p:=some y.1) (s:=s+y.2) (x:=x),c,b,show s+y.2+T4 r=s+(y.2+T4 r) by omega];exact and_assoc.symm
def addT_go {t}(h:goT none 0 l)(h1: ∀ x∈l,1<=x.2)(ht:0<=t/\t<=7)(hs:T4 l+1<=2147483647):goT none 0 (Kh l t)/\T4 (Kh l t)=T4 l+1:=by
 rcases List.eq_nil_or_concat l with rfl|⟨m,x,rfl⟩
 . have e:Kh [] t= [(t,1)]:=rfl;rw [e];exact ⟨⟨⟨ht.1,ht.2,Zf,Zf,Zf⟩,trivial⟩,rfl⟩
 rw [List.concat_eq_append] at h h1 hs|-;have b:(m++ [x]).length - 1=m.length:=Zf;have c:(m++ [x]).getD m.length (0,0)=x:=by simp [List.getD]
 have i:=F1.1 h;have g:=h1 x Zf;unfold Kh;rw [b,c];rw [R8] at hs|-;have ex:T4 [x]=x.2:=by simp [T4]
 rw [ex] at hs|-;split
 . rename_i a;rw [List.set_append_right _ _ (aS _),kI];have f: [x].set 0 (t,x.2+1)= [(t,x.2+1)]:=rfl;rw [f,R8];grind [T4,F1]
 rename_i a;rw [R8,R8,ex];have d:T4 [((t,1):Ux)]=1:=by simp [T4]
 rw [d];refine ⟨F1.2 ⟨h,ht.1,ht.2,Zf,by grind [R8],?_⟩,Zq⟩;grind [Xk]
def P4 {l:List Int}(h: ∀ x∈l,0<=x/\x<=7)(hb:l.length<=1000000): ∀ n,n<=l.length->goT none 0 (Ya (l.take n))/\T4 (Ya (l.take n))=n
 |0,_=>by rw [fY];exact ⟨trivial,rfl⟩
 |n+1,hn=>by
  obtain ⟨b,d⟩:=P4 h hb n Zq;rw [Ur Zq];obtain ⟨a,c⟩:=addT_go b (Nn l n) (h _ (aC (show n<l.length by omega))) Zq;exact ⟨a,Zq⟩
def FDo_out (t:TxF F)(hM:FI F N s)(h:Zjv 512 s.out)(i:Int):Zjv 512 (FDo F s i).1.out:=by
 obtain ⟨l,b,j⟩:=t;have v:=Lz (Qf b).1 (Hy b).m;unfold FDo MS.doP;split;exact h;split;exact h;split;exact h;rename_i q _ p;have f:s.can (Wa F) (Vm F) i.toNat=true:=by grind
 obtain ⟨y,k,x⟩:=Zq4 f;have o:=(hM.mark (Pm (Qf b).1 j (Oz F) (Hy b).m) Zq k).2.1.1;have w:=hM.r.n;have c:=do1_ev (main:=F.main) (m:=Wa F) (kd:=((Vm F).getD ((s.th i.toNat).at (Wa F)).a.toNat Hs).kd) (d:=((Vm F).getD ((s.th i.toNat).at (Wa F)).a.toNat Hs).slt) (s:=s) (who:=i.toNat) (n:=36011) (ev:=zEv i ((Vm F).getD ((s.th i.toNat).at (Wa F)).a.toNat Hs).idn);dsimp only;split
 . rename_i u;intro _;dsimp only;have:=c.2;omega
 dsimp only;rw [c.1.2];exact h
def FDos.out (hg:g.er=F)(t:TxF F): ∀ {l} {s s'} {N},FDos F s l s'->FI F N s->N+36011*l.length<=50000000->Zjv 512 s.out->Zjv 512 s'.out
 | [],s,s',N,h,hM,hN,ho=>by rw [show s'=s from h];exact ho
 |e::r,s,s',N,⟨h1,h2,h3⟩,hM,hN,ho=>by
  rw [aJ] at hN;exact FDos.out hg t h3 (FI.go hg t hM Zq e.th).1 Zq (FDo_out t hM ho e.th)
def FOut_ok (h:Zjv 512 s.out):okE (H3 F s).o:=by
 unfold H3 MS.outc;split
 . rename_i a;have:=h a;exact .inr ⟨a,by grind [POut.o]⟩
 split
 . exact .inl Zw
 split<;>exact .inl Zw
def Zyd (hg:g.er=F)(t:TxF F)(hp:picks.length<=1000):okT (Hg F picks)/\(∀ x∈(Kg F (MS.new F (Wa F)) picks).2,0<=x.th/\x.th<=7)/\(Kg F (MS.new F (Wa F)) picks).2.length<=picks.length:=by
 have d:=B7 F picks (MS.new F (Wa F));have h:=I0 F picks (MS.new F (Wa F));have e:=FI.new (F:=F) hg t;obtain ⟨i,m⟩:=FDos.ths hg t d e Zq
 have a: ∀ x∈(Kg F (MS.new F (Wa F)) picks).2.map PEv.th,0<=x/\x<=7:=fun x l=>by
  grind
 obtain ⟨c,j⟩:=P4 a (by grind) _ (aS _);have b:=R7 ((Kg F (MS.new F (Wa F)) picks).2.map PEv.th) ((Kg F (MS.new F (Wa F)) picks).2.map PEv.th).length;rw [bR] at c b;rw [aI] at b;exact ⟨⟨by show (Ya _).length<=65536;omega,FOut_ok (FDos.out hg t d e Zq (fun k=>aV (show (0:Int)=4 from k) Zw)),c⟩,i,h⟩
theorem Zwa (h:i<l.length):V3 (l.drop i)=List.replicate (l[i]).2.toNat (l[i]).1++V3 (l.drop (i+1)):=by
 unfold V3;rw [aP h,cM]
def RS.rest (r:RS):List Int:=(V3 (r.t.turns.drop r.pl)).drop r.ah
theorem Zk1 {r:RS}(h:r.fit)(e:r.rest= []):r.pl=r.t.turns.length/\r.ah=0:=by
 rcases h.a with k|⟨b,c⟩
 all_goals grind [RS.rest,Zwa,List.length_append]
def Zzw {r:RS}{i}{l}(h:r.fit)(e:r.rest=i::l): ∃ hlt:r.pl<r.t.turns.length,(r.t.turns[r.pl]).1=i/\(r.ah:Int)<(r.t.turns[r.pl]).2/\(if ((r.ah+1:Nat):Int)=(r.t.turns[r.pl]).2 then V3 (r.t.turns.drop (r.pl+1)) else (V3 (r.t.turns.drop r.pl)).drop (r.ah+1))=l:=by
 rcases h.a with ⟨d,c⟩|⟨hlt,b⟩
 . grind [RS.rest,V3]
 grind [RS.rest,V3,List.drop_eq_getElem_cons]
def RS.next {r:RS}{s1}{l}(h:r.fit)(hf:r.df=false)(hr:r.rest=e.th::l)(hd:FDo F r.s e.th=(s1,e,0)):(r.step F).2=(e,(r.pl:Int),0)/\(r.step F).1.s=s1/\(r.step F).1.rest=l/\(r.step F).1.df=false/\(r.step F).1.dn=r.dn+1/\r.over F=false:=by
 obtain ⟨a,d,b,c⟩:=Zzw h hr;grind [RS.over,RS.step,RS.rest]
def RS.end {r:RS}(h:r.fit)(hf:r.df=false)(hr:r.rest= []):(r.step F).2.2=if (H3 F r.s).o=r.t.e then (0,222) else ((r.t.turns.length:Int),221):=by
 grind [Zk1,RS.step,RS.over]
def Zjz {F}: ∀ {evs} {s'} {r:RS} {n},FDos F r.s evs s'->r.df=false->r.fit->r.rest=evs.map PEv.th->evs.length<n->r.play F n=if (H3 F s').o=r.t.e then (evs,H3 F s',0,0) else ([],Zzt,(r.t.turns.length:Int),221)
 | [],s',r,0,_,_,_,_,hn=>aV hn (iV _)
 |_::_,_,_,0,_,_,_,_,hn=>aV hn (iV _)
 | [],s',r,n+1,hd,hf,h,hr,_=>by
  have j:=RS.end (F:=F) h hf hr;have l:s'=r.s:=hd;grind [RS.play]
 |e::evs,s',r,n+1,⟨hd1,_,hd2⟩,hf,h,hr,hn=>by
  obtain ⟨d,c,b,a,_,_⟩:=RS.next (F:=F) h hf hr hd1
  obtain ⟨⟨g,_⟩,k⟩:=RS.go h (by rw [d]);have i:=Zjz (evs:=evs) (s':=s') (r:=(r.step F).1) (n:=n) (by rw [c];exact hd2) a g b (by grind);grind [RS.play]
def newR_fit (h:okT t):(Di F t).fit:=by
 have a: ∀ x∈t.turns,1<=x.2:=fun x b=>(F2 h.2.2 (bI 0) x b).2.2.1
 refine ⟨a,?_⟩;by_cases k:t.turns.length=0
 . exact .inl ⟨k.symm,rfl⟩
 exact .inr ⟨iW k,by have:=a _ (aC (iW k));exact lR (show ((0:Nat):Int)<1 by decide) this⟩
theorem E4 (l:List Ux):leftT l=(V3 l).length:=by
 simp_all [leftT,V3]
def Oe {evs}{s'}(h:okT t)(hd:FDos F (MS.new F (Wa F)) evs s')(hr:V3 t.turns=evs.map PEv.th):Mi F t=if (H3 F s').o=t.e then (evs,H3 F s',0,0) else ([],Zzt,(t.turns.length:Int),221):=by
 unfold Mi;exact Zjz (r:=Di F t) hd rfl (newR_fit h) hr (by grind [E4])
def newE_rec (h:okT (Hg F picks)):R4 F (Hg F picks)=0:=by grind [R4,Hg]
def G4 (F:Fnd)(picks:List Int):leftT (Hg F picks).turns=(Kg F (MS.new F (Wa F)) picks).2.length:=by
 rw [E4];show (V3 (Ya _)).length=_;rw [Tq,aI]
def Zf9 (h:okT (Hg F picks)):Mi F (Hg F picks)=((Kg F (MS.new F (Wa F)) picks).2,H3 F (Kg F (MS.new F (Wa F)) picks).1,0,0):=by
 rw [Oe h (B7 F picks _) (Tq _),if_pos (show (H3 F (Kg F (MS.new F (Wa F)) picks).1).o=(Hg F picks).e from rfl)]
section
variable {y:EvC}
def lsame_ok (hx:x.e=y.e)(ha:Sees q x.aa (x.e.acc.flatMap acC))(hb:Sees q y.aa (y.e.acc.flatMap acC))(hc:Sees q x.na (x.e.syn.flatMap snC))(hd:Sees q y.na (y.e.syn.flatMap snC))(hl:x.e.acc.length<=9223372036854775807/\x.e.syn.length<=9223372036854775807):CR G 31 [.agg (evC x).toArray,.agg (evC y).toArray] (q) bT:=by
 refine aE ntmps31 fun F cs=> ?_;obtain ⟨ye,c0,b0,a0,z⟩:=y;obtain ⟨a,g0,f0,e0,d0⟩:=x;dsimp only at hx ha hb hc hd hl;subst hx;have o:=Zx Gv a.acc;have m:=Zx Fb a.syn;refine Yb fun n1=> ?_
 refine Yb fun n2=> ?_
 refine Zs (bW (fun (s:Nat)=>s<=a.acc.length) (fun s=> [(2,pt n1),(3,pt n2),(5,I64 s)]) (fun s=>pC n1 (evC ⟨a,g0,f0,e0,d0⟩) 63::pC n2 (evC ⟨a,c0,b0,a0,z⟩) 63::(q++F)) (fun s=>a.acc.length - s) (fun s c p=> ?_) 0 (aZ _));try dsimp only at c p|-
 obtain hi:=c;refine Zp ?_ ?_<;>intro h0
 . have b:s<a.acc.length:=Zq;refine Yq (ha.le leA) (by rw [o];omega) fun ab ao h=> ?_;have f:=ha;rw [h] at f;refine Yq (hb.le leA) (by rw [o];omega) fun bb bo g=> ?_;have d:=hb;rw [g] at d;obtain ⟨⟨l,j,i⟩,hz⟩:=lV a.acc[s];have v: ∀ (Q:List HP),Le Q q-> ∀ (k:Nat) (u:Value),(acC (l,j,i))[k]? =some u->Cl Q ⟨ab,ao+(s:Int).toNat*3+k,none⟩ u:=fun Q w k u r=>cX (n:=s) f w Gv b rfl k u (by rw [<-hz];exact r)
   have t: ∀ (Q:List HP),Le Q q-> ∀ (k:Nat) (u:Value),(acC (l,j,i))[k]? =some u->Cl Q ⟨bb,bo+(s:Int).toNat*3+k,none⟩ u:=fun Q w k u r=>cX (n:=s) d w Gv b rfl k u (by rw [<-hz];exact r)
   refine rf [5,0,1,2,3,3080,4] h ?_;apply iP 4 (us:=acC (l,j,i)) rfl rfl isAgg158 sizeOf158 rfl (v _ leA);refine rf [6,7,8,3085,9] g ?_;apply iP 9 (us:=acC (l,j,i)) rfl rfl isAgg158 sizeOf158 rfl (t _ leA);refine Ey 10 rfl (Zb9 rfl rfl (by kernel_rfl) (jJ underlying158 (by kernel_rfl) (by kernel_rfl) ⟨_,_,_,_,rfl,rfl,isAgg3,(eO underlying3 _ _),⟨_,_,_,_,rfl,rfl,isAgg4,(EqV.bool underlying4 _ _),⟨_,_,_,_,rfl,rfl,isAgg2,(eO underlying2 _ _),rfl,rfl⟩,rfl⟩,rfl⟩))<|Zs (p (s+1) Zq Zq)
 clear p;refine Zs (bW (fun (s:Nat)=>s<=a.syn.length) (fun s=> [(2,pt n1),(3,pt n2),(6,I64 s)]) (fun s=>pC n1 (evC ⟨a,g0,f0,e0,d0⟩) 63::pC n2 (evC ⟨a,c0,b0,a0,z⟩) 63::(q++F)) (fun s=>a.syn.length - s) (fun s c p=> ?_) 0 (aZ _));try dsimp only at c p|-
 obtain hi:=c;refine Zp ?_ ?_<;>intro h0
 . have b:s<a.syn.length:=Zq;refine Yq (hc.le leA) (by rw [m];omega) fun ab ao h=> ?_;have f:=hc;rw [h] at f;refine Yq (hd.le leA) (by rw [m];omega) fun bb bo g=> ?_;have d:=hd;rw [g] at d;obtain ⟨⟨l,j,i⟩,hz⟩:=lV a.syn[s];have v: ∀ (Q:List HP),Le Q q-> ∀ (k:Nat) (u:Value),(snC (l,j,i))[k]? =some u->Cl Q ⟨ab,ao+(s:Int).toNat*3+k,none⟩ u:=fun Q w k u r=>cX (n:=s) f w Fb b rfl k u (by rw [<-hz];exact r)
   have t: ∀ (Q:List HP),Le Q q-> ∀ (k:Nat) (u:Value),(snC (l,j,i))[k]? =some u->Cl Q ⟨bb,bo+(s:Int).toNat*3+k,none⟩ u:=fun Q w k u r=>cX (n:=s) d w Fb b rfl k u (by rw [<-hz];exact r)
   refine rf [5,0,1,2,3,3098,4] h ?_;apply iP 4 (us:=snC (l,j,i)) rfl rfl isAgg161 sizeOf161 rfl (v _ leA);refine rf [6,7,8,3103,9] g ?_;apply iP 9 (us:=snC (l,j,i)) rfl rfl isAgg161 sizeOf161 rfl (t _ leA);refine Ey 10 rfl (Zb9 rfl rfl (by kernel_rfl) (jJ underlying161 (by kernel_rfl) (by kernel_rfl) ⟨_,_,_,_,rfl,rfl,isAgg159,(eO underlying159 _ _),⟨_,_,_,_,rfl,rfl,isAgg3,(eO underlying3 _ _),⟨_,_,_,_,rfl,rfl,isAgg3,(eO underlying3 _ _),rfl,rfl⟩,rfl⟩,rfl⟩))<|Zs (p (s+1) Zq Zq)
 clear p;exact Vz q
theorem Sees.evA :Sees (stars (evL x)::q) x.aa (x.e.acc.flatMap acC):=Sees.le (bJ _) (Zb (evL x) q)
def Sees.evB :Sees (stars (evL x)::q) x.na (x.e.syn.flatMap snC):=Sees.le (Sees.there (bJ _)) (Zb (evL x) q)
structure EvS (q:List HP) (a:Option Addr) (x:List EvC):Prop where
 s:Sees q a (x.flatMap evC)
 a: ∀ i (h:i<x.length),Sees q x[i].aa (x[i].e.acc.flatMap acC)
 n: ∀ i (h:i<x.length),Sees q x[i].na (x[i].e.syn.flatMap snC)
 l: ∀ i (h:i<x.length),x[i].e.acc.length<=9223372036854775807/\x[i].e.syn.length<=9223372036854775807
def EvS.le {q0}{x}(h:EvS q0 a x)(k:Le q q0):EvS q a x:=⟨h.s.le k,fun i hi=>(h.a i hi).le k,fun i hi=>(h.n i hi).le k,h.l⟩
def Zbf {w}{L:List EvC}(s:St G w (stars (L.map fun x=>stars (evL x))::r))(i:Nat)(h:i<L.length):L[i].e.acc.length<=9223372036854775807/\L[i].e.syn.length<=9223372036854775807:=by
 have a:=(s.le (kG (fun x=>stars (evL x)) h _)).le (Zb (evL L[i]) _);have c:=St.rsLen a;have b:=St.rsLen (a.le (dS _ _));omega
def EvS.of {L}(hl: ∀ i (h:i<L.length),L[i].e.acc.length<=9223372036854775807/\L[i].e.syn.length<=9223372036854775807)(k:Le q (Zw4 a c L r)):EvS q a L:=
 (EvS.mk (bJ (f:=evC) (sz:=9) (ty:=63) (a:=a) (c:=c) (l:=L) _) (fun i hh=>(Sees.star (h:=fun x=>stars (evL x)) hh (fun _=>Sees.evA) r).there) (fun i hh=>(Sees.star (h:=fun x=>stars (evL x)) hh (fun _=>Sees.evB) r).there) hl).le k
variable {b:Option Addr}{d:Nat}{x y:List EvC}
def lall_ok (hm:x.map EvC.e=y.map EvC.e)(h1:EvS q a x)(h2:EvS q b y)(hl:x.length<=100000):CR G 20 [.slice a x.length c,.slice b y.length d] (q) bT:=by
 refine aE ntmps20 fun F cs=> ?_;have t:x.length=y.length:=(by have:=aQ List.length hm;simpa using this);apply xx 13;refine Wc 10 ?_ rfl (by rw [t];exact bne_self_eq_false _);refine Zs (bW (fun (s:Nat)=>s<=x.length) (fun s=> [(0,.slice a x.length c),(1,.slice b y.length d),(5,I64 s)]) (fun s=>q++F) (fun s=>x.length - s) (fun s o ih=> ?_) 0 (aZ _));try dsimp only at o ih|-
 obtain hi:=o;refine Wg ?_ ?_<;>intro h0
 . replace h0:=sp h0;have g:s<x.length:=Zq;have f:s<y.length:=Zq;have he:x[s].e=y[s].e:=(by have:=aQ (fun l=>l[s]?) hm;simpa [bZ,aB g,aB f] using this);have hA:=h1.a s g;have hN:=h1.n s g;have hB:=h2.a s f;have hO:=h2.n s f;have hL:=h1.l s g;have i:=h1.s;have h:=h2.s;refine Yq (i.le leA) (by rw [Zx Hq x];omega) fun ab ao r=> ?_;rw [r] at i;refine Yq (h.le leA) (by rw [Zx Hq y];omega) fun bb bo p=> ?_;rw [p] at h;obtain ⟨X1,hX⟩:=lV x[s];obtain ⟨Y1,hY⟩:=lV y[s];rw [<-hX] at he hA hN hL;rw [<-hY] at he hB hO;have z: ∀ (Q:List HP),Le Q q-> ∀ (k:Nat) (u:Value),(evC X1)[k]? =some u->Cl Q ⟨ab,ao+(s:Int).toNat*9+k,none⟩ u:=fun Q hQ k u v=>cX (n:=s) i hQ Hq g rfl k u (by rw [<-hX];exact v)
   have w: ∀ (Q:List HP),Le Q q-> ∀ (k:Nat) (u:Value),(evC Y1)[k]? =some u->Cl Q ⟨bb,bo+(s:Int).toNat*9+k,none⟩ u:=fun Q hQ k u v=>cX (n:=s) h hQ Hq f rfl k u (by rw [<-hY];exact v)
   refine rf [5,0,1,2,3017,3] r ?_;apply iP 3 (us:=evC X1) rfl rfl isAgg63 sizeOf63 rfl (z _ leA);refine rf [5,6,3021,7] p ?_;apply iP 7 (us:=evC Y1) rfl rfl isAgg63 sizeOf63 rfl (w _ leA);apply Yf 8 (lsame_ok (x:=X1) (y:=Y1) he (hA.le leA) (hB.le leA) (hN.le leA) (hO.le leA) hL);refine Zs (ih (s+1) Zq Zq)
 exact Vz q
end
def D8 (s:ByteArray):Option Fnd:=if 5000<s.size then none else U6 (bs s)
def Ln {s}(h:D8 s=some F):U6 (bs s)=some F/\(bs s).length<=5000:=by
 unfold D8 at h;split at h
 . cases h
 rename_i k;have e:(bs s).length=s.size:=by show s.data.toList.length=s.data.size;exact lK
 exact ⟨h,Zq⟩
inductive PrIs (s:ByteArray) (g:FC):Bool->Prop
 |no (h:D8 s=none):PrIs s g false
 |yes (h:D8 s=some g.er):PrIs s g true
abbrev knB:ByteArray:=⟨#[116,104,114,101,97,100,32,109,97,105,110,32,123,32,112,114,105,110,116,32,55,59,32,125]⟩
def knE (F:Fnd):Bool:=
 let r:=Kg F (MS.new F (Wa F)) [0]
 r.2.map (fun e=>(e.th,e.outv))== [(0,7)] && (H3 F r.1).kind==2
def knS:Bool:=match D8 knB with|none=>false|some F=>knE F
set_option maxRecDepth 1000000 in
def knS_ok:knS=true:=by decide+kernel
def knS_at: ∃ F,D8 knB=some F/\knE F=true:=by
 have h:=knS_ok;unfold knS at h;split at h
 . cases h
 rename_i F a;exact ⟨F,a,h⟩
def knE_at (h:knE F=true):(∃ e,(Kg F (MS.new F (Wa F)) [0]).2= [e]/\e.th=0/\e.outv=7)/\(H3 F (Kg F (MS.new F (Wa F)) [0]).1).kind=2:=by
 unfold knE at h;dsimp only at h;generalize Kg F (MS.new F (Wa F)) [0]=r at h|-;obtain ⟨s,L⟩:=r;simp only [bA,fH] at h;refine ⟨?_,h.2⟩;have b:=h.1;obtain ⟨a,rfl⟩:=kR.1 (show L.length=1 by have:=aQ List.length b;rwa [aI] at this);simp only [bG,dF,jY,and_true,iM] at b;exact ⟨a,rfl,b⟩
def play_bad (h:t.turns= [(1,1)]):Mi F t=([],Zzt,0,221):=by
 have f:(FDo F (MS.new F (Wa F)) 1).2.2≠0:=by
  unfold FDo MS.doP;rw [if_pos (.inr (show ((MS.new F (Wa F)).ths.length:Int)<=1 from bI 1))];exact show (2:Int)≠0 by decide
 have e:leftT t.turns=1:=by rw [h];rfl
 have c:((Di F t).step F).2.2=(0,221):=by
  unfold RS.step;rw [if_neg (show ¬ (Di F t).df=true by exact Bool.false_ne_true)];have a: ¬ (Di F t).pl=(Di F t).t.turns.length:=by show ¬0=t.turns.length;rw [h];decide
  have d:(Di F t).over F=false:=by unfold RS.over;rw [bM a];rfl
  have b:((Di F t).t.turns.getD (Di F t).pl (0,0)).1=1:=by show (t.turns.getD 0 (0,0)).1=1;rw [h];rfl
  rw [d,if_neg Bool.false_ne_true,if_neg a,b,if_pos (show (FDo F (Di F t).s 1).2.2≠0 from f)];rfl
 unfold Mi;rw [e];unfold RS.play;rw [c,if_neg (show ¬ (221:Int)=0 by decide),if_neg (show ¬ (221:Int)=222 by decide)]
section
variable {s:ByteArray}
def Zy1:CF G 11 [.string s] (q) (Ret fun v q'=> ∃ (g:FC) (bb:Bool),v= .tuple [.agg (pgC g).toArray,.bool bb].toArray/\q'=fcM g::q/\PrIs s g bb):=by
 refine aE ntmps11 fun F cs=> ?_;refine Zo zeroValue29 fun f=> ?_
 refine Zp ?_ ?_<;>intro h
 . have b:D8 s=none:=(by unfold D8;rw [if_pos Zq]);refine Zz ?_;apply cE (q':=fcM FC.z::_) (dP (fun _ _ _=>Gr _));refine Zm (fcM FC.z::q) ?_;exact ⟨_,rfl,FC.z,false,rfl,rfl,.no b⟩
 have b:D8 s=U6 (bs s):=(by unfold D8;rw [if_neg Zq]);refine Zz ?_;apply Zv (aG _) (text_ok (s:=s));rintro _ _ ⟨g,y,z,e,rfl,rfl,a⟩;refine Zo zeroValue29 fun d=> ?_
 refine Zo zeroValue104 fun c=> ?_
 refine Zm (fcM g::q) ?_;exact ⟨_,rfl,g,decide (e=0),rfl,rfl,by cases hx:U6 (bs s) with|none=>(rw [hx] at a;rw [bM a];exact .no (b.trans hx))|some F=>(rw [hx] at a;rw [dB a.1];exact .yes (by rw [a.2];exact b.trans hx))⟩
def P1 (hg:GO q)(gc:GC q)(ge:GE q):CR G 12 [] (q) bT:=by
 refine aE ntmps12 fun F cs=> ?_;obtain ⟨F0,hF,hE⟩:=knS_at;obtain ⟨⟨e0,m,k0,j0⟩,b⟩:=knE_at hE;refine Zz ?_;apply Zv (aG _) (Zy1 (s:=knB));rintro _ _ ⟨g,bb,rfl,rfl,hP⟩;obtain ⟨rfl,g0⟩:bb=true/\g.er=F0:=(by cases hP with|no h=>(rw [hF] at h;cases h)|yes h=>(rw [hF] at h;exact ⟨rfl,(dR h).symm⟩));obtain ⟨y,hl⟩:=Ln hF;rw [<-g0] at y m b;obtain ⟨i, -, -⟩:=Zyd rfl ⟨_,y,hl⟩ (picks:= [0]) Zw;have z:=newE_rec i;have d:=Zf9 i;have f0:=G4 g.er [0];rw [m] at d f0;have b0:(Hg g.er [0]).turns= [(0,1)]:=(by show Ya ((Kg g.er _ [0]).2.map PEv.th)=_;rw [m,bG,dF,k0];rfl);obtain ⟨v,d0⟩:=lV (Hg g.er [0]).e;have o:Hg g.er [0]=⟨Hu g.er, [(0,1)],v⟩:=(by rw [d0,<-b0];rfl);rw [o] at d z i;have l0:R4 g.er ⟨Hu g.er, [(1,1)],v⟩=0:=(by unfold R4;rw [if_pos ⟨show ([(1,1)]:List Ux).length<=65536 by decide,i.2.1,show goT none 0 [(1,1)] by decide⟩,if_pos rfl]);refine Zo zeroValue29 fun n1=> ?_
 refine Zz ?_;apply bU (Qu I64 [0] underlying23 Ts rfl rfl rfl rfl rfl rfl (fun _=>rfl));rintro _ _ ⟨g3,rfl,rfl⟩;refine Zv (aG _) (Lh (picks:= [0]) y hl (knA (φ:=fun M=>g.At M)) (hg.le leA) (gc.le leA) (ge.le leA) ((bV _).le Zj) (fun k hk=>by rw [bE.1 hk];decide) Zw) ?_;rintro _ _ ⟨L,a1,c1,ta,tc,hL,rfl,rfl⟩;rw [m] at hL;obtain ⟨x0,rfl⟩:=kR.1 (show L.length=1 by have:=aQ List.length hL;rwa [aI] at this);rw [o];refine Zo zeroValue47 fun n2=> ?_
 refine Zz ?_;refine Zv (aG _) (Lm (t:=(⟨Hu g.er, [(0,1)],v⟩:Tkn)) (a:=ta) (c:=tc) y hl (knA (φ:=fun M=>g.At M)) (hg.le leA) (gc.le leA) (ge.le leA) ((bJ _).le Zj) (show ([(0,1)]:List Ux).length<=1000000000 by decide) (fun _=>show leftT [(0,1)]<=1300 by decide)) ?_;rintro _ _ (⟨p,rfl,rfl⟩|⟨h0,L2,a2,c2,r,rfl,rfl⟩)
 . exact aV z p
 rw [d] at r;obtain ⟨w,rfl⟩:=kR.1 (show L2.length=1 by have:=aQ List.length r;rwa [aI] at this);have a0:w.e=e0:=(by simpa using r);rw [d];refine Gw (l:= [w]) (jP 0) fun gb e_=> ?_;subst e_;refine Zo zeroValue45 fun n3=> ?_
 refine Zz ?_;apply Wn (L0 _);refine kd0 ?_;refine Zz ?_;apply Wn (L0 _);refine kd0 ?_;refine Ye ?_;refine Ew 45 ?_ rfl (by first|rfl|simp [b]);refine Ye ?_;refine Ew 50 ?_ rfl (by first|rfl|simp [b]);refine Ye ?_;refine Ew 55 ?_ rfl (by first|rfl|simp [b]);refine Ye ?_;refine ld ?_ (hc:=(cX (n:=0) (f:=evC) (sz:=9) (l:= [w]) (bJ (f:=evC) (sz:=9) (ty:=63) (a:=some ⟨gb,0,none⟩) (c:=c2) (l:= [w]) _) Zj Hq (jP 0) rfl 6 (I64 7) (by show some (Value.int .i64 w.e.outv)=_;rw [a0,j0])));apply oo 3;refine Ew 62 ?_ rfl (by first|rfl|simp [b]);refine rn [1,0,3] ?_;refine Ew 67 ?_ rfl (by first|rfl|simp [b]);refine rn [1,0,4,1072,5,0] ?_;refine Gw (l:= [((0,1):Ux)]) (jP 0) fun gt m0=> ?_;subst m0;refine Zz ?_;apply cU (Wq (g:=gt) (f:=tcs) (l:= [((0,1):Ux)]) (u:=((1,1):Ux)) (n:=0) (k:=0) (j:=0) rfl rfl sizeOf3 (fun _=>rfl) rfl (jP 0) rfl rfl rfl rfl Zj);rintro _ _ ⟨rfl,rfl⟩;refine Zz ?_;rw [show ([((0,1):Ux)].set 0 (1,1))= [(1,1)] from rfl];refine Zv (aG _) (Lm (t:=(⟨Hu g.er, [(1,1)],v⟩:Tkn)) (a:=some ⟨gt,0,none⟩) (c:=tc) y hl (knA (φ:=fun M=>g.At M)) (hg.le leA) (gc.le leA) (ge.le leA) ((bJ _).le Zj) (show ([(1,1)]:List Ux).length<=1000000000 by decide) (fun _=>show leftT [(1,1)]<=1300 by decide)) ?_;rintro _ _ (⟨p,rfl,rfl⟩|⟨h0,L3,a3,c3,n0,rfl,rfl⟩)
 . exact aV l0 p
 rw [play_bad (F:=g.er) (t:=⟨Hu g.er, [(1,1)],v⟩) rfl];refine Zo zeroValue45 fun n4=> ?_
 refine Zz ?_;refine XO.kt 87 ?_ rfl (by first|rfl|simp [b]);refine Zz ?_;apply Wn (L0 _);refine kd0 ?_;exact Vz q
end
end Go.Proofs.YtadahhbefdnabaaGreatDoor
