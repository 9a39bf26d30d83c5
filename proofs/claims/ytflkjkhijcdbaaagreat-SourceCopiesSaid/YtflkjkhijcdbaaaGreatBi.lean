/- Contracts of functions, proved by walking their code. -/
import Derived.Test.YtflkjkhijcdbaaaGreatBh
import Derived.KernelRfl
set_option maxRecDepth 100000
set_option linter.unusedVariables false
set_option linter.unusedSimpArgs false
namespace Go.Proofs.YtflkjkhijcdbaaaGreat
open Go Go.RowKit Wx Go.Proofs.Tryz
theorem Mp {α β:Type}(f:α→List β): ∀ (l:List α) (i n:Nat) (hi:i<l.length) (hn:n<(f l[i]).length),(l.flatMap f)[((l.take i).flatMap f).length+n]? =some (f l[i])[n]
 | [],_,_,hi,_=>by simp at hi
 |x::r,0,n,_,hn=>by
  simp only [List.getElem_cons_zero] at hn
  simp [List.getElem?_append_left,hn]
 |x::r,i+1,n,hi,hn=>by
  have:=Mp f r i n (by simpa using hi) (by simpa using hn)
  simp only [List.take_succ_cons,List.flatMap_cons,List.length_append,List.getElem_cons_succ]
  rw [List.getElem?_append_right (by omega),←this]
  congr 1;omega
theorem Nd {α β:Type}(f:α→List β){l:List α}{i:Nat}(hi:i<l.length):((l.take (i+1)).flatMap f).length=((l.take i).flatMap f).length+(f l[i]).length:=by
 rw [List.take_succ_eq_append_getElem hi,List.flatMap_append,List.length_append];simp
def wl (σ:SyC):List Int:=σ.conds.flatMap (·.l)
def wK (σ:SyC)(i:Nat):Nat:=((σ.conds.take i).flatMap (·.l)).length
theorem wK_get {σ:SyC}{i n:Nat}(hi:i<σ.conds.length)(hn:n<σ.conds[i].l.length):wK σ i+n<(wl σ).length∧(wl σ)[wK σ i+n]? =some σ.conds[i].l[n]:=by
 have:=Mp (fun x:SlV Int=>x.l) σ.conds i n hi hn
 exact ⟨(List.getElem?_eq_some_iff.1 this).1,this⟩
theorem wK_step {σ:SyC}{i:Nat}(hi:i<σ.conds.length):wK σ (i+1)=wK σ i+σ.conds[i].l.length:=Nd _ hi
def w1 (x:Int):List Value:= [I64 x]
section
variable {G:World}{q:List HP}{a b:Option Addr}{c d g p b0 i n:Nat}{σ:SyC}{s:Sy}{k t v m at_ number:Int}
theorem F6 {y:Nat}{J:Nat→HP}{Jf:HP→Prop}(hC:σ.conds.length≤1000)(hL: ∀ x∈σ.conds,x.l.length≤100000)
 (hy: ∀ i (h:i<((wl σ).map w1).length),CallV prog G (.func (.yield y) #[] #[]) ((wl σ).map w1)[i] (J i:: [pto b0 (.cells [.pointer (some ⟨p,0,none⟩)].toArray 95 (0,0)),pto p (.cells [.bool true,.slice σ.ao σ.owners.length σ.co,.slice σ.ac σ.conds.length σ.cc,.slice σ.ah σ.chans.length σ.ch].toArray 176 (0,0)),lsH I64 3 σ.ao σ.co σ.owners,rsH cqs 1 191 σ.ac σ.cc σ.conds,stars (σ.conds.map (lsV 3)),rsH chs 3 180 σ.ah σ.ch σ.chans,stars (σ.chans.map fun x=>lsV 2 x.q)]) (Ret fun v q=>(v= .bool true∧q=J (i+1):: [pto b0 (.cells [.pointer (some ⟨p,0,none⟩)].toArray 95 (0,0)),pto p (.cells [.bool true,.slice σ.ao σ.owners.length σ.co,.slice σ.ac σ.conds.length σ.cc,.slice σ.ah σ.chans.length σ.ch].toArray 176 (0,0)),lsH I64 3 σ.ao σ.co σ.owners,rsH cqs 1 191 σ.ac σ.cc σ.conds,stars (σ.conds.map (lsV 3)),rsH chs 3 180 σ.ah σ.ch σ.chans,stars (σ.chans.map fun x=>lsV 2 x.q)])∨(v= .bool false∧ ∃ A,Jf A∧q=A:: [pto b0 (.cells [.pointer (some ⟨p,0,none⟩)].toArray 95 (0,0)),pto p (.cells [.bool true,.slice σ.ao σ.owners.length σ.co,.slice σ.ac σ.conds.length σ.cc,.slice σ.ah σ.chans.length σ.ch].toArray 176 (0,0)),lsH I64 3 σ.ao σ.co σ.owners,rsH cqs 1 191 σ.ac σ.cc σ.conds,stars (σ.conds.map (lsV 3)),rsH chs 3 180 σ.ah σ.ch σ.chans,stars (σ.chans.map fun x=>lsV 2 x.q)]))):
 CallF prog G 205 [.func (.yield y) #[] #[],.pointer (some ⟨b0,0,none⟩)] (J 0:: [pto b0 (.cells [.pointer (some ⟨p,0,none⟩)].toArray 95 (0,0)),pto p (.cells [.bool true,.slice σ.ao σ.owners.length σ.co,.slice σ.ac σ.conds.length σ.cc,.slice σ.ah σ.chans.length σ.ch].toArray 176 (0,0)),lsH I64 3 σ.ao σ.co σ.owners,rsH cqs 1 191 σ.ac σ.cc σ.conds,stars (σ.conds.map (lsV 3)),rsH chs 3 180 σ.ah σ.ch σ.chans,stars (σ.chans.map fun x=>lsV 2 x.q)]) (Ret fun _ q=>q=J (wl σ).length:: [pto b0 (.cells [.pointer (some ⟨p,0,none⟩)].toArray 95 (0,0)),pto p (.cells [.bool true,.slice σ.ao σ.owners.length σ.co,.slice σ.ac σ.conds.length σ.cc,.slice σ.ah σ.chans.length σ.ch].toArray 176 (0,0)),lsH I64 3 σ.ao σ.co σ.owners,rsH cqs 1 191 σ.ac σ.cc σ.conds,stars (σ.conds.map (lsV 3)),rsH chs 3 180 σ.ah σ.ch σ.chans,stars (σ.chans.map fun x=>lsV 2 x.q)]∨ ∃ A,Jf A∧q=A:: [pto b0 (.cells [.pointer (some ⟨p,0,none⟩)].toArray 95 (0,0)),pto p (.cells [.bool true,.slice σ.ao σ.owners.length σ.co,.slice σ.ac σ.conds.length σ.cc,.slice σ.ah σ.chans.length σ.ch].toArray 176 (0,0)),lsH I64 3 σ.ao σ.co σ.owners,rsH cqs 1 191 σ.ac σ.cc σ.conds,stars (σ.conds.map (lsV 3)),rsH chs 3 180 σ.ah σ.ch σ.chans,stars (σ.chans.map fun x=>lsV 2 x.q)]):=by
 refine CallF.of func205 ntmps205 rfl (fun F cs=> ?_)
 change X _ _ _ _ _ _ _ _ (J 0::pto b0 (.cells [.pointer (some ⟨p,0,none⟩)].toArray 95 (0,0))::pto p (.cells [.bool true,.slice σ.ao σ.owners.length σ.co,.slice σ.ac σ.conds.length σ.cc,.slice σ.ah σ.chans.length σ.ch].toArray 176 (0,0))::lsH I64 3 σ.ao σ.co σ.owners::rsH cqs 1 191 σ.ac σ.cc σ.conds::stars (σ.conds.map (lsV 3))::rsH chs 3 180 σ.ah σ.ch σ.chans::stars (σ.chans.map fun x=>lsV 2 x.q)::F)
 have hlen:=Zv (f:=cqs) (sz:=1) (fun _=>rfl) σ.conds
 have hsc:Sees (pto b0 (.cells [.pointer (some ⟨p,0,none⟩)].toArray 95 (0,0))::pto p (.cells [.bool true,.slice σ.ao σ.owners.length σ.co,.slice σ.ac σ.conds.length σ.cc,.slice σ.ah σ.chans.length σ.ch].toArray 176 (0,0))::lsH I64 3 σ.ao σ.co σ.owners::rsH cqs 1 191 σ.ac σ.cc σ.conds::stars (σ.conds.map (lsV 3))::rsH chs 3 180 σ.ah σ.ch σ.chans::stars (σ.chans.map fun x=>lsV 2 x.q)::F) σ.ac (σ.conds.flatMap cqs):=(Sees.rsH _).le leA
 have hsl: ∀ i (h:i<σ.conds.length),Sees (pto b0 (.cells [.pointer (some ⟨p,0,none⟩)].toArray 95 (0,0))::pto p (.cells [.bool true,.slice σ.ao σ.owners.length σ.co,.slice σ.ac σ.conds.length σ.cc,.slice σ.ah σ.chans.length σ.ch].toArray 176 (0,0))::lsH I64 3 σ.ao σ.co σ.owners::rsH cqs 1 191 σ.ac σ.cc σ.conds::stars (σ.conds.map (lsV 3))::rsH chs 3 180 σ.ah σ.ch σ.chans::stars (σ.chans.map fun x=>lsV 2 x.q)::F) σ.conds[i].a (σ.conds[i].l.map I64):=fun i h=>((Sees.lsH _).le (H6 (ty:=3) h))
 refine xj 2 ?_;refine ol 2 ?_;refine ox 4 ?_;refine X.at (X.loop (fun (s:Nat)=>s≤σ.conds.length) (fun s=> [(0,.func (.yield y) #[] #[]),(10,.slice σ.ac σ.conds.length σ.cc),(11,.int .i64 (σ.conds.length:Int)),(12,.int .i64 (s:Int))]) (fun s=>J (wK σ s)::pto b0 (.cells [.pointer (some ⟨p,0,none⟩)].toArray 95 (0,0))::pto p (.cells [.bool true,.slice σ.ao σ.owners.length σ.co,.slice σ.ac σ.conds.length σ.cc,.slice σ.ah σ.chans.length σ.ch].toArray 176 (0,0))::lsH I64 3 σ.ao σ.co σ.owners::rsH cqs 1 191 σ.ac σ.cc σ.conds::stars (σ.conds.map (lsV 3))::rsH chs 3 180 σ.ah σ.ch σ.chans::stars (σ.chans.map fun x=>lsV 2 x.q)::F) (fun s=>σ.conds.length - s) (fun s hi_ ih=> ?_) 0 (by omega)) Zd leA
 try dsimp only at hi_ ih⊢
 obtain hi:=hi_
 refine xx 5 ?_;refine X.part 13 rfl (fun h0=> ?_) (fun h0=> ?_)
 · have h0:=of_decide_eq_true h0;have hi0:s<σ.conds.length:=(by omega);have hx2:=hL _ (List.getElem_mem hi0)
   refine Yx (hsc.le (leA)) (by rw [hlen];omega) (fun b1 o1 e_=> ?_)
   rw [e_] at hsc;rw [e_]
   refine xo 7 ?_;refine Q8 (n:=s) isAgg191 sizeOf191 hsc hi0 ?_
   refine XO.al zeroValue191 fun n1=> ?_
   refine stA ?_;refine ol 5 ?_;refine ox 4 ?_;refine X.at (X.loop (fun (n:Nat)=>n≤σ.conds[s].l.length) (fun n=> [(0,.func (.yield y) #[] #[]),(10,.slice (some ⟨b1,o1,none⟩) σ.conds.length σ.cc),(11,.int .i64 (σ.conds.length:Int)),(12,.int .i64 (s:Int)),(18,.slice σ.conds[s].a σ.conds[s].l.length σ.conds[s].c),(19,.int .i64 (σ.conds[s].l.length:Int)),(20,.int .i64 (n:Int))]) (fun n=>J (wK σ s+n)::pto b0 (.cells [.pointer (some ⟨p,0,none⟩)].toArray 95 (0,0))::pto p (.cells [.bool true,.slice σ.ao σ.owners.length σ.co,.slice (some ⟨b1,o1,none⟩) σ.conds.length σ.cc,.slice σ.ah σ.chans.length σ.ch].toArray 176 (0,0))::lsH I64 3 σ.ao σ.co σ.owners::rsH cqs 1 191 (some ⟨b1,o1,none⟩) σ.cc σ.conds::stars (σ.conds.map (lsV 3))::rsH chs 3 180 σ.ah σ.ch σ.chans::stars (σ.chans.map fun x=>lsV 2 x.q)::F) (fun n=>σ.conds[s].l.length - n) (fun n hi_ ih2=> ?_) 0 (by omega)) Zd leA
   try dsimp only at hi_ ih2⊢
   obtain hn1:=hi_
   refine xx 5 ?_;refine X.part 21 rfl (fun h1=> ?_) (fun h1=> ?_)
   · have h1:=of_decide_eq_true h1;have hn2:n<σ.conds[s].l.length:=(by omega)
     obtain ⟨hk,hg⟩:=wK_get hi0 hn2
     have hy2:=hy (wK σ s+n) (by simpa using hk)
     rw [show ((wl σ).map w1)[wK σ s+n]'(by simpa using hk)=w1 σ.conds[s].l[n] by rw [List.getElem_map];congr 1;exact Option.some.inj ((List.getElem?_eq_getElem hk).symm.trans hg)] at hy2
     rw [e_] at hy2;have hsi:=hsl s hi0;rw [e_] at hsi
     refine Yx (hsi.le leA) (by simp;omega) (fun b2 o2 e2=> ?_);rw [e2] at hsi;rw [e2]
     refine xj 7 ?_;refine oo 6 ?_;refine XO.cV hy2 ?_;rintro _ _ (⟨rfl,rfl⟩|⟨rfl,A,hA,rfl⟩) _ e_1<;>simp only [ca,na] at e_1<;>subst e_1
     · refine Zt (Pu.not rfl) ?_;refine ox 1 ?_;refine kx 27 7 ?_
       rw [←e2]
       refine X.at (ih2 (n+1) (by omega) (by omega)) Zd leA
     refine Zt (Pu.not rfl) ?_;refine ox 1 ?_;refine X.kt 27 ?_;refine xx 1 ?_;refine Zq (A:: [pto b0 (.cells [.pointer (some ⟨p,0,none⟩)].toArray 95 (0,0)),pto p (.cells [.bool true,.slice σ.ao σ.owners.length σ.co,.slice (some ⟨b1,o1,none⟩) σ.conds.length σ.cc,.slice σ.ah σ.chans.length σ.ch].toArray 176 (0,0)),lsH I64 3 σ.ao σ.co σ.owners,rsH cqs 1 191 (some ⟨b1,o1,none⟩) σ.cc σ.conds,stars (σ.conds.map (lsV 3)),rsH chs 3 180 σ.ah σ.ch σ.chans,stars (σ.chans.map fun x=>lsV 2 x.q)]) func205 (Vg results205) ⟨_,rfl,.inr ⟨A,hA,rfl⟩⟩
   have h1:=of_decide_eq_false h1;obtain rfl:n=σ.conds[s].l.length:=by omega
   refine xx 7 ?_
   rw [←wK_step hi0,←e_]
   refine X.at (ih (s+1) (by omega) (by omega)) Zd leA
 have h0:=of_decide_eq_false h0;obtain rfl:s=σ.conds.length:=by omega
 refine xx 2 ?_
 rw [show wK σ σ.conds.length=(wl σ).length by unfold wK wl;rw [List.take_length]]
 refine Z7 (J (wl σ).length:: [pto b0 (.cells [.pointer (some ⟨p,0,none⟩)].toArray 95 (0,0)),pto p (.cells [.bool true,.slice σ.ao σ.owners.length σ.co,.slice σ.ac σ.conds.length σ.cc,.slice σ.ah σ.chans.length σ.ch].toArray 176 (0,0)),lsH I64 3 σ.ao σ.co σ.owners,rsH cqs 1 191 σ.ac σ.cc σ.conds,stars (σ.conds.map (lsV 3)),rsH chs 3 180 σ.ah σ.ch σ.chans,stars (σ.chans.map fun x=>lsV 2 x.q)]) func205 (Vg results205) ⟨_,rfl,.inl rfl⟩
theorem Ec (hC:σ.conds.length≤1000)(hL: ∀ x∈σ.conds,x.l.length≤100000):Iter prog G (.func (.func 205) [].toArray [.pointer (some ⟨b0,0,none⟩)].toArray) ((wl σ).map w1) [pto b0 (.cells [.pointer (some ⟨p,0,none⟩)].toArray 95 (0,0)),pto p (.cells [.bool true,.slice σ.ao σ.owners.length σ.co,.slice σ.ac σ.conds.length σ.cc,.slice σ.ah σ.chans.length σ.ch].toArray 176 (0,0)),lsH I64 3 σ.ao σ.co σ.owners,rsH cqs 1 191 σ.ac σ.cc σ.conds,stars (σ.conds.map (lsV 3)),rsH chs 3 180 σ.ah σ.ch σ.chans,stars (σ.chans.map fun x=>lsV 2 x.q)]:=by
 intro y J Jf hy
 have:=CallV.c11 call205 (F6 (G:=G) (b0:=b0) (p:=p) (σ:=σ) (J:=J) (Jf:=Jf) hC hL hy)
 rw [List.length_map];exact this
theorem Ah:CallF prog G 194 [.pointer (some ⟨p,0,none⟩)] (q) (Ret fun v q'=> ∃ b0,v= .func (.func 205) [].toArray [.pointer (some ⟨b0,0,none⟩)].toArray∧q'=pto b0 (.cells [.pointer (some ⟨p,0,none⟩)].toArray 95 (0,0))::q):=by
 refine CallF.of func194 ntmps194 rfl (fun F cs=> ?_)
 refine xo 2 ?_;refine Y8 fun n1=> ?_
 refine ox 7 ?_;refine Zq (pto n1 (.cells [.pointer (some ⟨p,0,none⟩)].toArray 95 (0,0))::q) func194 (Zg results194 rfl) ⟨_,rfl,n1,rfl,rfl⟩
theorem Real.wl_mem {σ:SyC}{s:Sy}(hR:Real σ s)(t:Int):t∈wl σ↔ ∃ l∈s.conds,t∈l:=by
 rw [←hR.c];unfold wl;simp only [List.mem_flatMap,List.mem_map]
 exact ⟨fun ⟨x,hx,h⟩=>⟨_,⟨x,hx,rfl⟩,h⟩,fun ⟨_,⟨x,hx,rfl⟩,h⟩=>⟨x,hx,h⟩⟩
theorem Wait_ok (hR:Real σ s){N:Nat}(hs:s.ok N)(hN:N≤1000):CallF prog G 171 [.pointer (some ⟨p,0,none⟩),.int .i64 k,.int .i64 t] ((syL p σ)) (Ret fun v q'=> ∃ σ',Real σ' (Us s k t).1∧v= .int .i64 (Us s k t).2∧q'=syL p σ'):=by
 refine CallF.of func171 ntmps171 rfl (fun F cs=> ?_)
 have ho:=hR.lo;have hc:=hR.lc;have hh:=hR.lh;have hno:=hs.no;have hnc:=hs.nc;have hnh:=hs.nh
 change X _ _ _ _ _ _ _ _ (pto p (.cells [.bool true,.slice σ.ao σ.owners.length σ.co,.slice σ.ac σ.conds.length σ.cc,.slice σ.ah σ.chans.length σ.ch].toArray 176 (0,0))::lsH I64 3 σ.ao σ.co σ.owners::rsH cqs 1 191 σ.ac σ.cc σ.conds::stars (σ.conds.map (lsV 3))::rsH chs 3 180 σ.ah σ.ch σ.chans::stars (σ.chans.map fun x=>lsV 2 x.q)::F)
 rcases Decidable.em (inR k σ.conds.length) with hr|hr
 focus
  have hr':inR k s.conds.length:=by rw [←hc];exact hr
  obtain ⟨i,rfl⟩:=Int.eq_ofNat_of_zero_le hr.1;have hi:i<σ.conds.length:=(by have:=hr.2;omega)
  rcases Decidable.em (thr t) with hg|hg
  · have hlen:=hs.lenC hR hi hN;have hcl:=hR.cl hi
    refine Yz (l:=σ.conds) (by omega) (fun g e_=> ?_);rw [e_]
    refine xo 2 ?_;refine Y8 fun n1=> ?_
    refine XO.al zeroValue34 fun n2=> ?_
    refine ox 2 ?_;refine drw ?_;refine dl [0,1,3] 4 ?_;refine Ym 2 call88 (Vt (p:=p) (a:=(some ⟨g,0,none⟩)) (n:=σ.conds.length) (c:=σ.cc) clA clA) ?_
    refine Ym 5 call87 (Oh (p:=p) clA (by omega) hi hg) ?_
    refine dd [6,7,8,9,10] ?_;refine XD.nil ?_;refine xx 6 ?_;refine Wy 20 ?_;refine xo 6 ?_;refine Vz call194 (Ah (q:= []) (p:=p)) ?_
    rintro _ _ ⟨b0,rfl,rfl⟩ _ e_;simp only [ca,na] at e_;subst e_
    refine ox 2 ?_
    have hLC: ∀ x∈σ.conds,x.l.length≤100000:=fun x hx=>by obtain ⟨j,hj,rfl⟩:=List.mem_iff_getElem.1 hx;have:=hs.lenC hR hj hN;omega
    refine X.range [pto b0 (.cells [.pointer (some ⟨p,0,none⟩)].toArray 95 (0,0)),pto p (.cells [.bool true,.slice σ.ao σ.owners.length σ.co,.slice (some ⟨g,0,none⟩) σ.conds.length σ.cc,.slice σ.ah σ.chans.length σ.ch].toArray 176 (0,0)),lsH I64 3 σ.ao σ.co σ.owners,rsH cqs 1 191 (some ⟨g,0,none⟩) σ.cc σ.conds,stars (σ.conds.map (lsV 3)),rsH chs 3 180 σ.ah σ.ch σ.chans,stars (σ.chans.map fun x=>lsV 2 x.q)] (fun k:Nat=> [Wx.pure (∀ m (h:m<(wl σ).length),m<k→(wl σ)[m]≠t),pto n1 (.cells [.int .i64 t].toArray 3 (0,0)),pto n2 (.cells [.int .i64 0].toArray 34 (0,0))]) (fun e qs=>e= .ret∧t∈wl σ∧qs= [pto n1 (.cells [.int .i64 t].toArray 3 (0,0)),pto n2 (.cells [.int .i64 141].toArray 34 (0,0))]) (F:=F) (Ec (σ:= { σ with ac:=(some ⟨g,0,none⟩) }) (by show σ.conds.length≤_;omega) hLC) rfl ?_ (by intro x hx;obtain ⟨y,_,rfl⟩:=List.mem_map.1 hx;rfl) rfl (by rw [func171];rfl) rfl (fun j hj l2 rec F0 cs0=> ?_) (fun r=> ?_) (fun r c2 qs2 hJ=> ?_)
    · simp only [ca,na];refine Le.trans ?_ (Qb (fun j h hj=>by omega) _);exact leA
    · have hjl:j<(wl σ).length:=by have h:=hj;rw [List.length_map] at h;exact h
      rw [show ((wl { σ with ac:=some ⟨g,0,none⟩ }).map w1)[j]'hj=w1 (wl σ)[j] from List.getElem_map ..]
      refine X.sub (p':= [(24,_),(23,_),(7,_),(6,_),(5,_)]) ⟨rfl,rfl,rfl,rfl,rfl,trivial⟩ ?_
      simp only [ca,na]
      refine X.le (q':=Wx.pure (∀ m (h:m<(wl σ).length),m<j→(wl σ)[m]≠t)::lp rec l2 .ready none::_) leA (X.pure (fun hP=> ?_))
      refine xx 3 ?_;refine X.beginRound rfl leA ?_;refine xj 4 ?_;refine ox 2 ?_;refine X.part 27 rfl (fun h0=> ?_) (fun h0=> ?_)
      · have h0:(wl σ)[j]=t:=by simpa using h0
        refine xo 3 ?_;refine st ?_;refine ox 1 ?_;refine X.ret ⟨rfl,rfl,_,⟨rfl,h0 ▸ List.getElem_mem hjl,rfl⟩,?_⟩
        simp only [ca,na]
        exact leA
      have h0:(wl σ)[j]≠t:=by simpa using h0
      refine xx 3 ?_;refine X.fall ⟨rfl,rfl,?_⟩
      simp only [ca,na]
      have hP2:(∀ m (h:m<(wl σ).length),m<(j+1)→(wl σ)[m]≠t):=fun k h hk=>(Nat.lt_or_ge k j).elim (hP k h) (fun h1=>by have hkj:k=j:=(by omega);subst hkj;exact h0)
      refine Le.pick Zk (Le.trans ?_ (Qb hP2 _));exact leA
    · simp only [ca,na,List.length_map]
      refine X.le (q':=Wx.pure (∀ m (h:m<(wl σ).length),m<(wl σ).length→(wl σ)[m]≠t)::_) Zk (X.pure (fun hP=> ?_))
      have hno: ¬∃ l∈s.conds,t∈l:=by rw [←hR.wl_mem];intro hm;obtain ⟨j,hj,e⟩:=List.mem_iff_getElem.1 hm;exact hP j hj hj e
      refine X.le (H6 (l:=σ.conds) hi) ?_
      refine xx 2 ?_;refine drw ?_;refine dl [0,1,2] 3 ?_;refine XD.know 30 (.pointer (some ⟨g,i*1,none⟩)) rfl (by simp) ?_
      refine Uy 4 call195 (put_ok (f:=cqs) (sz:=1) (ty:=191) (l:=σ.conds) (i:=i) (t:=t) (m:=σ.conds[i].l) (a:=σ.conds[i].a) (c:=σ.conds[i].c) (u:=fun a c=>⟨a,c,σ.conds[i].l++ [t]⟩) hi (fun _=>rfl) rfl rfl (by omega) (fun _ _=>rfl)) ?_
      rintro _ _ ⟨a2,c2,rfl⟩ _ e_;simp only [ca,na] at e_;subst e_
      refine ⟨trivial,?_⟩
      refine XD.nil ?_;refine xo 2 ?_;refine st ?_;refine ox 1 ?_;refine X.le (N7 hi (a:=a2) (c:=c2) (m:=σ.conds[i].l++ [t])) ?_
      rw [show Us s (i:Int) t=({ s with conds:=s.conds.set i (σ.conds[i].l++ [t]) },0) from (if_pos hr').trans ((if_pos hg).trans ((if_neg hno).trans (by rw [←hcl];rfl)))]
      refine X.ret ⟨rfl,Db ?_⟩
      exact Lv.ret (q':= [pto p (.cells [.bool true,.slice σ.ao σ.owners.length σ.co,.slice (some ⟨g,0,none⟩) σ.conds.length σ.cc,.slice σ.ah σ.chans.length σ.ch].toArray 176 (0,0)),lsH I64 3 σ.ao σ.co σ.owners,rsH cqs 1 191 (some ⟨g,0,none⟩) σ.cc (σ.conds.set i ⟨a2,c2,σ.conds[i].l++ [t]⟩),stars ((σ.conds.set i ⟨a2,c2,σ.conds[i].l++ [t]⟩).map (lsV 3)),rsH chs 3 180 σ.ah σ.ch σ.chans,stars (σ.chans.map fun x=>lsV 2 x.q)]) func171 (R4 results171 (ResOk.cell rfl (LV.cell isAgg34 clA) ResOk.nil)) ⟨_,rfl, { σ with ac:=(some ⟨g,0,none⟩),conds:=σ.conds.set i ⟨a2,c2,σ.conds[i].l++ [t]⟩ },hR.setC i ⟨a2,c2,σ.conds[i].l++ [t]⟩ _,rfl,by unfold syL;simp⟩ leA
    obtain ⟨rfl,hm,rfl⟩:=hJ;simp only [ca,na]
    rw [show Us s (i:Int) t=(s,141) from (if_pos hr').trans ((if_pos hg).trans (if_pos ((hR.wl_mem t).1 hm)))]
    refine X.ret ⟨rfl,Db ?_⟩
    exact Lv.ret (q':= [pto p (.cells [.bool true,.slice σ.ao σ.owners.length σ.co,.slice (some ⟨g,0,none⟩) σ.conds.length σ.cc,.slice σ.ah σ.chans.length σ.ch].toArray 176 (0,0)),lsH I64 3 σ.ao σ.co σ.owners,rsH cqs 1 191 (some ⟨g,0,none⟩) σ.cc σ.conds,stars (σ.conds.map (lsV 3)),rsH chs 3 180 σ.ah σ.ch σ.chans,stars (σ.chans.map fun x=>lsV 2 x.q)]) func171 (R4 results171 (ResOk.cell rfl (LV.cell isAgg34 clA) ResOk.nil)) ⟨_,rfl,σ,hR,rfl,by unfold syL;rw [e_]⟩ leA
  refine xo 2 ?_;refine Y8 fun n1=> ?_
  refine XO.al zeroValue34 fun n2=> ?_
  refine ox 2 ?_;refine drw ?_;refine dl [0,1,3] 4 ?_;refine Ym 2 call88 (Vt (p:=p) (a:=σ.ac) (n:=σ.conds.length) (c:=σ.cc) clA clA) ?_
  refine Ym 5 call87 (Pm (p:=p) clA (by omega) hi hg) ?_
  refine dd [6,7,8,9,10] ?_;refine XD.nil ?_;refine xx 6 ?_;refine X.kt 20 ?_;refine xo 4 ?_;refine st ?_;refine ox 1 ?_
  rw [show Us s _ t=(s,2) from (if_pos hr').trans (if_neg hg)]
 rotate_left
 focus
  have hr': ¬inR k s.conds.length:=by rw [←hc];exact hr
  refine xo 2 ?_;refine Y8 fun n1=> ?_
  refine XO.al zeroValue34 fun n2=> ?_
  refine ox 2 ?_;refine drw ?_;refine dl [0,1,3] 4 ?_;refine Ym 2 call88 (Vt (p:=p) (a:=σ.ac) (n:=σ.conds.length) (c:=σ.cc) clA clA) ?_
  refine Ym 5 call87 (Ph (p:=p) clA (by omega) hr) ?_
  refine dd [6,7,8,9,10] ?_;refine XD.nil ?_;refine xx 6 ?_;refine X.kt 20 ?_;refine xo 4 ?_;refine st ?_;refine ox 1 ?_
  rw [show Us s _ t=(s,4) from if_neg hr']
 all_goals
  refine Zq [pto p (.cells [.bool true,.slice σ.ao σ.owners.length σ.co,.slice σ.ac σ.conds.length σ.cc,.slice σ.ah σ.chans.length σ.ch].toArray 176 (0,0)),lsH I64 3 σ.ao σ.co σ.owners,rsH cqs 1 191 σ.ac σ.cc σ.conds,stars (σ.conds.map (lsV 3)),rsH chs 3 180 σ.ah σ.ch σ.chans,stars (σ.chans.map fun x=>lsV 2 x.q)] func171 (R4 results171 (ResOk.cell rfl (LV.cell isAgg34 clA) ResOk.nil)) ⟨_,rfl,σ,hR,rfl,rfl⟩
end
theorem D0 {α:Type}(h:α→HP)(l:List α)(hx: ∀ x∈l,∀ q,Le q (h x::q))(q:List HP):Le q (stars (l.map h)::q):=by
 induction l with
 |nil=>exact W5 q
 |cons x r ih=>exact (ih fun y hy=>hx y (List.mem_cons_of_mem _ hy)).trans ((hx x (List.mem_cons_self ..) _).trans (V5 _ _ q))
theorem Rb {α:Type}(f d:List α)(i:Nat)(x:α)(hf:f.length=i)(hd:0<d.length):(f++d).set i x=(f++ [x])++d.drop 1:=by
 subst hf
 cases d with
 |nil=>simp at hd
 |cons y r=>simp
structure SySee (q:List HP) (p:Nat) (σ:SyC):Prop where
 h0:Cl q ⟨p,0,none⟩ (.bool true)
 h1:Cl q ⟨p,1,none⟩ (.slice σ.ao σ.owners.length σ.co)
 h2:Cl q ⟨p,2,none⟩ (.slice σ.ac σ.conds.length σ.cc)
 h3:Cl q ⟨p,3,none⟩ (.slice σ.ah σ.chans.length σ.ch)
 so:Sees q σ.ao (σ.owners.map I64)
 sc:Sees q σ.ac (σ.conds.flatMap cqs)
 sci: ∀ i (h:i<σ.conds.length),Sees q σ.conds[i].a (σ.conds[i].l.map I64)
 sh:Sees q σ.ah (σ.chans.flatMap chs)
 shi: ∀ i (h:i<σ.chans.length),Sees q σ.chans[i].q.a (σ.chans[i].q.l.map I64)
theorem SySee.le {q q':List HP}{p:Nat}{σ:SyC}(h:SySee q' p σ)(l:Le q q'):SySee q p σ:=
 ⟨Qv h.h0 l,Qv h.h1 l,Qv h.h2 l,Qv h.h3 l,h.so.le l,h.sc.le l,fun i hi=>(h.sci i hi).le l,h.sh.le l,fun i hi=>(h.shi i hi).le l⟩
theorem SySee.of (p:Nat)(σ:SyC)(r:List HP):SySee (syL p σ++r) p σ:=by
 unfold syL;simp only [ca,na]
 exact ⟨clA,clA,clA,clA,(Sees.lsH _).le leA,(Sees.rsH _).le leA,fun i h=>(Sees.lsH _).le (H6 (ty:=3) h),(Sees.rsH _).le leA,fun i h=>(Sees.lsH _).le (N9 (ty:=2) h)⟩
section
variable {G:World}{q:List HP}{a b:Option Addr}{c d g p p2 i n:Nat}{σ σ2:SyC}{s s2:Sy}{k t v m at_ number:Int}
theorem same1_ok {l m:List Int}(hs:Sees q a (l.map I64))(ht:Sees q b (m.map I64))(hL:l.length≤1000000):CallF prog G 110 [.agg [.slice a l.length c].toArray,.agg [.slice b m.length d].toArray] (q) (Ret fun v q'=>v= .bool (decide (l=m))∧q'=q):=by
 refine CallF.of func110 ntmps110 rfl (fun F cs=> ?_)
 refine xo 2 ?_;refine Y8 fun n1=> ?_
 refine Y8 fun n2=> ?_
 refine ol 6 ?_;refine ol 2 ?_;refine XO.cR call72 (Du (hs.le leA) (ht.le leA) (by omega)) ?_
 refine ox 2 ?_;refine Zq (q) func110 (Zg results110 rfl) ⟨_,rfl,rfl,rfl⟩
theorem same2_ok {l m:List Int}{r1 r2 n1 n2:Int}(hs:Sees q a (l.map I64))(ht:Sees q b (m.map I64))(hL:l.length≤1000000):CallF prog G 112 [.agg [.slice a l.length c,.int .i64 r1,.int .i64 n1].toArray,.agg [.slice b m.length d,.int .i64 r2,.int .i64 n2].toArray] (q) (Ret fun v q'=>v= .bool (decide ((l,r1,n1)=(m,r2,n2)))∧q'=q):=by
 refine CallF.of func112 ntmps112 rfl (fun F cs=> ?_)
 refine xo 2 ?_;refine Y8 fun n3=> ?_
 refine Y8 fun n4=> ?_
 refine ol 5 ?_;refine ol 1 ?_;refine oo 2 ?_;refine Zm [10,4,3,2] ?_
 apply Zp 6 16 10 rfl
 · intro g1 M1;have h1:=sp g1
   refine ol 1 ?_;refine ol 1 ?_;refine oo 2 ?_;exact Zz M1 ⟨Wz g1,Zw⟩
 · intro g1 M1;have h1:=sp g1
   refine oo 6 ?_;exact Zz M1 ⟨Wj g1,Zw⟩
 refine oo 1 ?_;refine Zm [17,4,3,2] ?_
 apply Zp 8 25 17 rfl
 · intro g1 M1;have h1:=sp g1
   refine ol 2 ?_;refine ol 2 ?_;refine XO.cR call71 (Nz (l:=l) (m:=m) (hs.le leA) (ht.le leA) (by omega)) ?_
   refine oo 1 ?_;exact Zz M1 ⟨Wz g1,Zw⟩
 · intro g1 M1;have h1:=sp g1
   refine oo 8 ?_;exact Zz M1 ⟨Wj g1,Zw⟩
 refine ox 2 ?_;refine Zq (q) func112 (Zg results112 rfl) ⟨_,rfl,congrArg Value.bool (by rw [Bool.eq_iff_iff];simp only [Bool.and_eq_true,decide_eq_true_eq,Prod.mk.injEq] at*;constructor<;>(intro h;simp_all)),rfl⟩
theorem O9 {l m:List (SlV Int)}(hs:Sees q a (l.flatMap cqs))(ht:Sees q b (m.flatMap cqs))(hL:l.length≤1000000)(hsi: ∀ i (h:i<l.length),Sees q l[i].a (l[i].l.map I64))(hti: ∀ i (h:i<m.length),Sees q m[i].a (m[i].l.map I64))(hLi: ∀ i (h:i<l.length),l[i].l.length≤1000000):CallF prog G 109 [.slice a l.length c,.slice b m.length d,.func (.func 110) #[] #[]] (q) (Ret fun v q'=>v= .bool (decide (l.map (fun (x:SlV Int)=>x.l)=m.map (fun (x:SlV Int)=>x.l)))∧q'=q):=by
 refine CallF.of func109 ntmps109 rfl (fun F cs=> ?_)
 have hlen:=Zv (f:=cqs) (sz:=1) (fun _=>rfl) l;have hlen2:=Zv (f:=cqs) (sz:=1) (fun _=>rfl) m
 refine xx 13 ?_;refine X.part 14 rfl (fun h1=> ?_) (fun h1=> ?_)
 · refine xx 5 ?_;refine Zq (q) func109 (Zg results109 rfl) ⟨_,rfl,congrArg Value.bool (by symm;simp only [decide_eq_false_iff_not];intro e;have:=congrArg List.length e;simp at this h1;omega),rfl⟩
 have he:l.length=m.length:=by simp at h1;omega
 refine xx 10 ?_;refine X.at (X.loop (fun (s:Nat)=>s≤l.length∧(l.take s).map (fun (x:SlV Int)=>x.l)=(m.take s).map (fun (x:SlV Int)=>x.l)) (fun s=> [(1,.slice b m.length d),(2,.func (.func 110) #[] #[]),(15,.slice a l.length c),(16,.int .i64 (l.length:Int)),(17,.int .i64 (s:Int))]) (fun s=>q++F) (fun s=>l.length - s) (fun s hi_ ih=> ?_) 0 ⟨by omega,by simp⟩) Zd leA
 try dsimp only at hi_ ih⊢
 obtain ⟨hi1,hi2⟩:=hi_
 refine xx 5 ?_;refine X.part 18 rfl (fun h0=> ?_) (fun h0=> ?_)
 iterate 2
  focus
   try simp only [decide_eq_true_eq,decide_eq_false_iff_not,bne_iff_ne,beq_iff_eq,ne_eq,bne_eq_false_iff_eq,beq_eq_false_iff_ne,Bool.not_eq_true',Bool.not_eq_false',Int.not_lt,Int.not_le,Bool.not_not,Bool.and_eq_true,Bool.and_eq_false_iff,Bool.true_and,Bool.and_true,beq_self_eq_true,Bool.or_eq_true,Bool.or_eq_false_iff] at h0
  rotate_left
 · have hi0:s<l.length:=by omega
   have hi9:s<m.length:=by omega
   refine Yx hs (by rw [hlen];omega) (fun b1 o1 e_=> ?_);subst e_
   refine Yx ht (by rw [hlen2];omega) (fun b2 o2 e_=> ?_);subst e_
   refine xo 8 ?_;refine Q8 (n:=s) isAgg191 sizeOf191 hs hi0 ?_
   refine XO.al zeroValue191 fun n1=> ?_
   refine oo 1 ?_;refine stA ?_;refine oo 6 ?_;refine Q8 (n:=s) isAgg191 sizeOf191 ht hi9 ?_
   refine XO.al zeroValue191 fun n2=> ?_
   refine stA ?_;refine oo 4 ?_;refine ldA ?_;refine ldA ?_;refine XO.cV (Yd call110 (same1_ok  ((hsi s hi0).le leA) ((hti s hi9).le leA) (hLi s hi0))) ?_;rintro _ q1 ⟨rfl,h_1⟩ _ e_1;rw [h_1] at e_1;subst e_1
   refine Zt (Pu.not rfl) ?_;refine ox 1 ?_;refine X.part 30 rfl (fun h2=> ?_) (fun h2=> ?_)
   · have hx: ¬ (l[s].l=m[s].l):=by intro e;rw [Bool.not_eq_true'] at h2;exact of_decide_eq_false h2 e
     refine xx 5 ?_;refine Zq (q) func109 (Zg results109 rfl) ⟨_,rfl,congrArg Value.bool (by symm;simp only [decide_eq_false_iff_not];intro e;apply hx;have h5:=congrArg (·[s]?) e;simp only [List.getElem?_map,List.getElem?_eq_getElem hi0,List.getElem?_eq_getElem hi9,Option.map_some] at h5;exact Option.some.inj h5),rfl⟩
   have hx:l[s].l=m[s].l:=by simpa [ChC.row] using h2
   refine xx 7 ?_;refine X.at (ih (s+1) ⟨by omega,by rw [List.take_succ_eq_append_getElem hi0,List.take_succ_eq_append_getElem hi9,List.map_append,List.map_append,hi2];simp only [List.map_cons,List.map_nil,hx]⟩ (by omega)) Zd leA
 refine xx 6 ?_;refine Zq (q) func109 (Zg results109 rfl) ⟨_,rfl,congrArg Value.bool (by symm;simp only [decide_eq_true_eq];rw [List.take_of_length_le (by omega),List.take_of_length_le (by omega)] at hi2;exact hi2),rfl⟩
theorem O8 {l m:List ChC}(hs:Sees q a (l.flatMap chs))(ht:Sees q b (m.flatMap chs))(hL:l.length≤1000000)(hsi: ∀ i (h:i<l.length),Sees q l[i].q.a (l[i].q.l.map I64))(hti: ∀ i (h:i<m.length),Sees q m[i].q.a (m[i].q.l.map I64))(hLi: ∀ i (h:i<l.length),l[i].q.l.length≤1000000):CallF prog G 111 [.slice a l.length c,.slice b m.length d,.func (.func 112) #[] #[]] (q) (Ret fun v q'=>v= .bool (decide (l.map (fun (x:ChC)=>x.row)=m.map (fun (x:ChC)=>x.row)))∧q'=q):=by
 refine CallF.of func111 ntmps111 rfl (fun F cs=> ?_)
 have hlen:=Zv (f:=chs) (sz:=3) (fun _=>rfl) l;have hlen2:=Zv (f:=chs) (sz:=3) (fun _=>rfl) m
 refine xx 13 ?_;refine X.part 14 rfl (fun h1=> ?_) (fun h1=> ?_)
 · refine xx 5 ?_;refine Zq (q) func111 (Zg results111 rfl) ⟨_,rfl,congrArg Value.bool (by symm;simp only [decide_eq_false_iff_not];intro e;have:=congrArg List.length e;simp at this h1;omega),rfl⟩
 have he:l.length=m.length:=by simp at h1;omega
 refine xx 10 ?_;refine X.at (X.loop (fun (s:Nat)=>s≤l.length∧(l.take s).map (fun (x:ChC)=>x.row)=(m.take s).map (fun (x:ChC)=>x.row)) (fun s=> [(1,.slice b m.length d),(2,.func (.func 112) #[] #[]),(15,.slice a l.length c),(16,.int .i64 (l.length:Int)),(17,.int .i64 (s:Int))]) (fun s=>q++F) (fun s=>l.length - s) (fun s hi_ ih=> ?_) 0 ⟨by omega,by simp⟩) Zd leA
 try dsimp only at hi_ ih⊢
 obtain ⟨hi1,hi2⟩:=hi_
 refine xx 5 ?_;refine X.part 18 rfl (fun h0=> ?_) (fun h0=> ?_)
 iterate 2
  focus
   try simp only [decide_eq_true_eq,decide_eq_false_iff_not,bne_iff_ne,beq_iff_eq,ne_eq,bne_eq_false_iff_eq,beq_eq_false_iff_ne,Bool.not_eq_true',Bool.not_eq_false',Int.not_lt,Int.not_le,Bool.not_not,Bool.and_eq_true,Bool.and_eq_false_iff,Bool.true_and,Bool.and_true,beq_self_eq_true,Bool.or_eq_true,Bool.or_eq_false_iff] at h0
  rotate_left
 · have hi0:s<l.length:=by omega
   have hi9:s<m.length:=by omega
   refine Yx hs (by rw [hlen];omega) (fun b1 o1 e_=> ?_);subst e_
   refine Yx ht (by rw [hlen2];omega) (fun b2 o2 e_=> ?_);subst e_
   refine xo 8 ?_;refine Q8 (n:=s) isAgg180 sizeOf180 hs hi0 ?_
   refine XO.al zeroValue180 fun n1=> ?_
   refine oo 1 ?_;refine stA ?_;refine oo 6 ?_;refine Q8 (n:=s) isAgg180 sizeOf180 ht hi9 ?_
   refine XO.al zeroValue180 fun n2=> ?_
   refine stA ?_;refine oo 4 ?_;refine ldA ?_;refine ldA ?_;refine XO.cV (Yd call112 (same2_ok  ((hsi s hi0).le leA) ((hti s hi9).le leA) (hLi s hi0))) ?_;rintro _ q1 ⟨rfl,h_1⟩ _ e_1;rw [h_1] at e_1;subst e_1
   refine Zt (Pu.not rfl) ?_;refine ox 1 ?_;refine X.part 30 rfl (fun h2=> ?_) (fun h2=> ?_)
   · have hx: ¬ (l[s].row=m[s].row):=by intro e;rw [Bool.not_eq_true'] at h2;exact of_decide_eq_false h2 e
     refine xx 5 ?_;refine Zq (q) func111 (Zg results111 rfl) ⟨_,rfl,congrArg Value.bool (by symm;simp only [decide_eq_false_iff_not];intro e;apply hx;have h5:=congrArg (·[s]?) e;simp only [List.getElem?_map,List.getElem?_eq_getElem hi0,List.getElem?_eq_getElem hi9,Option.map_some] at h5;exact Option.some.inj h5),rfl⟩
   have hx:l[s].row=m[s].row:=by simpa [ChC.row] using h2
   refine xx 7 ?_;refine X.at (ih (s+1) ⟨by omega,by rw [List.take_succ_eq_append_getElem hi0,List.take_succ_eq_append_getElem hi9,List.map_append,List.map_append,hi2];simp only [List.map_cons,List.map_nil,hx]⟩ (by omega)) Zd leA
 refine xx 6 ?_;refine Zq (q) func111 (Zg results111 rfl) ⟨_,rfl,congrArg Value.bool (by symm;simp only [decide_eq_true_eq];rw [List.take_of_length_le (by omega),List.take_of_length_le (by omega)] at hi2;exact hi2),rfl⟩
def D4 (s t:Sy):Prop:=s.owners=t.owners∧s.conds=t.conds∧s.chans.map Ch.row=t.chans.map Ch.row
instance (s t:Sy):Decidable (D4 s t):=by unfold D4;exact inferInstance
theorem Real.sm {σ σ2:SyC}{s s2:Sy}(hR:Real σ s)(hR2:Real σ2 s2):D4 s s2↔σ.owners=σ2.owners∧σ.conds.map (·.l)=σ2.conds.map (·.l)∧σ.chans.map ChC.row=σ2.chans.map ChC.row:=by
 unfold D4;rw [hR.o,hR2.o,hR.c,hR2.c,hR.h,hR2.h]
theorem Same_ok (h1:SySee q p σ)(h2:SySee q p2 σ2)(hR:Real σ s)(hR2:Real σ2 s2){N:Nat}(hs:s.ok N)(hN:N≤1000):CallF prog G 75 [.pointer (some ⟨p,0,none⟩),.pointer (some ⟨p2,0,none⟩)] (q) (Ret fun v q'=>v= .bool (decide (D4 s s2))∧q'=q):=by
 refine CallF.of func75 ntmps75 rfl (fun F cs=> ?_)
 have hz1: ∀ r,Le r q→SySee r p σ:=fun r hr=>h1.le hr;have hz2: ∀ r,Le r q→SySee r p2 σ2:=fun r hr=>h2.le hr
 have ho:=hR.lo;have hc:=hR.lc;have hh:=hR.lh;have hno:=hs.no;have hnc:=hs.nc;have hnh:=hs.nh
 refine xo 8 ?_;refine XO.cR call106 (Yc (hz1 _ leA).h0) ?_;refine Zt (Pu.not rfl) ?_;refine oo 1 ?_;refine Mw 8 ?_;refine oo 1 ?_;refine XO.cR call106 (Yc (hz2 _ leA).h0) ?_;refine Zt (Pu.not rfl) ?_;refine ox 2 ?_;refine kx 12 3 ?_;refine drw ?_;refine dd [0,1,2] ?_;refine ldD 3 ?_ (hc:=(by first|exact (hz1 _ leA).h1|exact (hz1 _ leA).h2|exact (hz1 _ leA).h3|exact (hz2 _ leA).h1|exact (hz2 _ leA).h2|exact (hz2 _ leA).h3))
 refine dd [4,5,6] ?_;refine ldD 7 ?_ (hc:=(by first|exact (hz1 _ leA).h1|exact (hz1 _ leA).h2|exact (hz1 _ leA).h3|exact (hz2 _ leA).h1|exact (hz2 _ leA).h2|exact (hz2 _ leA).h3))
 refine Ym 8 call72 (Du (hz1 _ leA).so (hz2 _ leA).so (by omega)) ?_
 refine dd [9] ?_;refine XD.part 30 rfl (fun h1=> ?_) (fun h1=> ?_)
 focus
  replace h1:=sp h1
  refine dd [10,11,12] ?_;refine ldD 13 ?_ (hc:=(by first|exact (hz1 _ leA).h1|exact (hz1 _ leA).h2|exact (hz1 _ leA).h3|exact (hz2 _ leA).h1|exact (hz2 _ leA).h2|exact (hz2 _ leA).h3))
  refine dd [14,15,16] ?_;refine ldD 17 ?_ (hc:=(by first|exact (hz1 _ leA).h1|exact (hz1 _ leA).h2|exact (hz1 _ leA).h3|exact (hz2 _ leA).h1|exact (hz2 _ leA).h2|exact (hz2 _ leA).h3))
  refine Ym 18 call109 (O9 (hz1 _ leA).sc (hz2 _ leA).sc (by omega) (hz1 _ leA).sci (hz2 _ leA).sci (fun i hi=>by have:=hs.lenC hR hi hN;omega)) ?_
  refine dd [19,20] ?_;refine XD.part 41 rfl (fun h2=> ?_) (fun h2=> ?_)
  focus
   replace h2:=sp h2
   refine dd [21,22,23] ?_;refine ldD 24 ?_ (hc:=(by first|exact (hz1 _ leA).h1|exact (hz1 _ leA).h2|exact (hz1 _ leA).h3|exact (hz2 _ leA).h1|exact (hz2 _ leA).h2|exact (hz2 _ leA).h3))
   refine dd [25,26,27] ?_;refine ldD 28 ?_ (hc:=(by first|exact (hz1 _ leA).h1|exact (hz1 _ leA).h2|exact (hz1 _ leA).h3|exact (hz2 _ leA).h1|exact (hz2 _ leA).h2|exact (hz2 _ leA).h3))
   refine Ym 29 call111 (O8 (hz1 _ leA).sh (hz2 _ leA).sh (by omega) (hz1 _ leA).shi (hz2 _ leA).shi (fun i hi=>by have:=hs.lenH hR hi hN;omega)) ?_
   refine dd [30,31] ?_
  rotate_left
  focus
   replace h2:=sp h2
   refine dd [21,22,23,24,25,26,27,28,29,30,31] ?_
 rotate_left 2
 focus
  replace h1:=sp h1
  refine dd [10,11,12,13,14,15,16,17,18,19,20,21,22,23,24,25,26,27,28,29,30,31] ?_
 all_goals
  refine XD.nil ?_;refine Zq (q) func75 (Zg results75 rfl) ⟨_,rfl,congrArg Value.bool (by rw [Bool.eq_iff_iff];simp only [Bool.and_eq_true,decide_eq_true_eq,hR.sm hR2] at*;constructor<;>(intro h;simp_all)),rfl⟩
end
def Bv (m c:Nat)(rooms:List Int):Sy:=⟨List.replicate m (-1),List.replicate c [],rooms.map fun r=>⟨r, [],0⟩⟩
abbrev R1 (r:Int):Prop:=1≤r∧r≤16
def Mn (m c:Int)(rooms:List Int):Prop:=(0≤m∧m≤64)∧(0≤c∧c≤64)∧rooms.length≤64∧ ∀ r∈rooms,R1 r
instance (m c:Int) (rooms:List Int):Decidable (Mn m c rooms):=by unfold Mn;exact inferInstance
theorem newS_ok {m c:Nat}{rooms:List Int}(h:Mn m c rooms):(Bv m c rooms).ok 0:=by
 obtain ⟨⟨_,h1⟩,⟨_,h2⟩,h3,h4⟩:=h
 refine ⟨by simp [Bv];omega,by simp [Bv];omega,by simp [Bv];omega,fun o ho=> ?_,fun l hl=> ?_,fun x hx=> ?_⟩
 · have:=(List.mem_replicate.1 ho).2;omega
 · have:=(List.mem_replicate.1 hl).2;subst this;simp
 obtain ⟨r,hr,rfl⟩:=List.mem_map.1 hx
 obtain ⟨a,b⟩:=h4 r hr
 exact ⟨⟨a,b⟩,by simp,by simp,by simp [Ch.items];omega,by simp⟩
def ch1 (r:Int):ChC:=⟨⟨none,0, []⟩,r,0⟩
section
variable {G:World}{q:List HP}{a b:Option Addr}{c d g p p2 i n:Nat}{σ σ2:SyC}{s s2:Sy}{k t v m at_ number mm cc:Int}{rooms:List Int}
theorem New_no (hs:Sees q a (rooms.map I64))(ok: ¬Mn mm cc rooms):CallF prog G 46 [.int .i64 mm,.int .i64 cc,.slice a rooms.length c] (q) (Ret fun v q'=>v= .tuple [.pointer none,.int .i64 2].toArray∧q'=q):=by
 refine CallF.of func46 ntmps46 rfl (fun F cs=> ?_)
 refine xo 11 ?_;refine Zm [13,7,6,0,1,2] ?_
 apply Zb 3 16 13 rfl
 · intro g1 M1;have h1:=sp g1
   refine oo 3 ?_;exact Zz M1 ⟨orF g1,Zw⟩
 · intro g1 M1;have h1:=sp g1
   refine oo 3 ?_;exact Zz M1 ⟨orT g1,Zw⟩
 refine oo 1 ?_;refine Zm [17,7,6,0,1,2] ?_
 apply Zb 3 20 17 rfl
 · intro g1 M1;have h1:=sp g1
   refine oo 3 ?_;exact Zz M1 ⟨orF g1,Zw⟩
 · intro g1 M1;have h1:=sp g1
   refine oo 3 ?_;exact Zz M1 ⟨orT g1,Zw⟩
 refine oo 1 ?_;refine Zm [21,7,6,0,1,2] ?_
 apply Zb 3 24 21 rfl
 · intro g1 M1;have h1:=sp g1
   refine oo 3 ?_;exact Zz M1 ⟨orF g1,Zw⟩
 · intro g1 M1;have h1:=sp g1
   refine oo 3 ?_;exact Zz M1 ⟨orT g1,Zw⟩
 refine oo 1 ?_;refine Zm [25,7,6,0,1,2] ?_
 apply Zb 4 29 25 rfl
 · intro g1 M1;have h1:=sp g1
   refine oo 4 ?_;exact Zz M1 ⟨orF g1,Zw⟩
 · intro g1 M1;have h1:=sp g1
   refine oo 4 ?_;exact Zz M1 ⟨orT g1,Zw⟩
 refine ox 1 ?_
 rcases Decidable.em ((0≤mm∧mm≤64)∧(0≤cc∧cc≤64)∧rooms.length≤64) with hf|hf
 · obtain ⟨⟨hm0,hm1⟩,⟨hc0,hc1⟩,hl⟩:=hf
   refine X.know 29 (.bool false) rfl (congrArg Value.bool (by simp;omega)) ?_
   obtain ⟨M,rfl⟩:=Int.eq_ofNat_of_zero_le hm0;obtain ⟨C,rfl⟩:=Int.eq_ofNat_of_zero_le hc0
   refine xo 5 ?_;refine XO.ef (Rr (n:=C) rfl rfl underlying173 Tryz.info191 rfl rfl (by omega) (by omega)) ?_
   rintro _ _ ⟨g,rfl,rfl⟩
   refine XO.le (q':=rsH cqs 1 191 (some ⟨g,0,none⟩) C (List.replicate C ⟨none,0, []⟩)::(q++F)) (by unfold rsH;rw [show (List.replicate C (⟨none,0, []⟩:SlV Int)).flatMap cqs=(List.replicate C (Value.slice none 0 0).cells.toList).flatten by simp [List.flatMap,cqs,Value.cells],List.length_replicate];exact leA) ?_
   refine oo 1 ?_;refine Y8 fun n1=> ?_
   refine ox 9 ?_;refine X.at (X.loop (fun (s:Nat×Option Addr×Nat)=>s.1≤M) (fun s=> [(2,.slice a rooms.length c),(8,.pointer (some ⟨n1,0,none⟩)),(34,.int .i64 (M:Int)),(35,.int .i64 (s.1:Int))]) (fun s=>pto n1 (.cells [.bool true,.slice s.2.1 (List.replicate s.1 (-1:Int)).length s.2.2,.slice (some ⟨g,0,none⟩) C C,.slice none 0 0].toArray 176 (0,0))::lsH I64 3 s.2.1 s.2.2 (List.replicate s.1 (-1))::rsH cqs 1 191 (some ⟨g,0,none⟩) C (List.replicate C ⟨none,0, []⟩)::(q++F)) (fun s=>M - s.1) (fun s hi_ ih=> ?_) (0,none,0) (by dsimp only;omega)) Zd (Le.trans leA (Le.trans (Ze I64 3 _) leA))
   try dsimp only at hi_ ih⊢
   obtain hi:=hi_
   obtain ⟨i,a1,c1⟩:=s;dsimp only at*
   refine xx 5 ?_;refine X.part 36 rfl (fun h0=> ?_) (fun h0=> ?_)
   · have h0:=of_decide_eq_true h0;have hi0:i<M:=(by omega)
     refine xj 9 ?_;refine XO.ef (Qq (u:= -1) I64 underlying22 Tryz.info3 rfl rfl) ?_
     rintro _ _ ⟨g2,rfl,rfl⟩
     refine XO.ef (Yb (f:=I64) (l:=List.replicate i (-1)) (m:= [-1]) underlying22 Tryz.info3 rfl rfl rfl Zk ((Sees.lsH _).le leA) (fun _=>rfl) (by simp;omega) (by simp;omega)) ?_
     rintro _ _ ⟨a2,c2,rfl,rfl⟩
     rw [←List.replicate_succ' (n:=i)]
     refine oo 2 ?_;refine st ?_;refine ox 6 ?_;refine X.at (ih (i+1,a2,c2) (by dsimp only;omega) (by dsimp only;omega)) Zd leA
   have h0:=of_decide_eq_false h0;obtain rfl:i=M:=by omega
   clear ih
   refine xx 10 ?_;refine X.at (X.loop (fun (s:Nat×Option Addr×Nat)=>s.1≤rooms.length∧ ∀ r∈rooms.take s.1,R1 r) (fun s=> [(8,.pointer (some ⟨n1,0,none⟩)),(47,.slice a rooms.length c),(48,.int .i64 (rooms.length:Int)),(49,.int .i64 (s.1:Int))]) (fun s=>pto n1 (.cells [.bool true,.slice a1 (List.replicate i (-1:Int)).length c1,.slice (some ⟨g,0,none⟩) C C,.slice s.2.1 ((rooms.take s.1).map ch1).length s.2.2].toArray 176 (0,0))::lsH I64 3 a1 c1 (List.replicate i (-1))::rsH cqs 1 191 (some ⟨g,0,none⟩) C (List.replicate C ⟨none,0, []⟩)::rsH chs 3 180 s.2.1 s.2.2 ((rooms.take s.1).map ch1)::(q++F)) (fun s=>rooms.length - s.1) (fun s hi_ ih=> ?_) (0,none,0) ⟨by dsimp only;omega,by simp⟩) Zd (Le.trans leA (Le.trans (Zl chs 3 180 _) leA))
   try dsimp only at hi_ ih⊢
   obtain ⟨hi1,hi2⟩:=hi_
   obtain ⟨j,a3,c3⟩:=s;dsimp only at*
   refine xx 5 ?_;refine X.part 50 rfl (fun h0=> ?_) (fun h0=> ?_)
   · have h0:=of_decide_eq_true h0;have hj0:j<rooms.length:=(by omega)
     refine Yx (hs.le leA) (by simp;omega) (fun b1 o1 e_=> ?_);subst e_
     refine xj 7 ?_;refine oo 8 ?_;refine Zm [55,10,8,47,48,49] ?_
     apply Zb 3 58 55 rfl
     · intro g1 M1;have h1:=sp g1
       refine oo 3 ?_;exact Zz M1 ⟨orF g1,Zw⟩
     · intro g1 M1;have h1:=sp g1
       refine oo 3 ?_;exact Zz M1 ⟨orT g1,Zw⟩
     refine ox 1 ?_
     rcases Decidable.em (R1 rooms[j]) with hk|hk
     · refine X.know 58 (.bool false) rfl (congrArg Value.bool (by simp;omega)) ?_
       refine xj 7 ?_;refine oo 2 ?_;refine XO.ef (Yj (u:=ch1 rooms[j]) chs underlying174 Tryz.info180 rfl rfl (fun _=>rfl) rfl) ?_
       rintro _ _ ⟨g2,rfl,rfl⟩
       have hlm:((rooms.take j).map ch1).length=j:=by simp;omega
       refine XO.ef (Yq (l:=(rooms.take j).map ch1) (m:= [ch1 rooms[j]]) underlying174 Tryz.info180 rfl rfl (fun _=>rfl) rfl rfl Zk ((Sees.rsH _).le leA) (fun _=>rfl) (by simp;omega) (by simp;omega)) ?_
       rintro _ _ ⟨a4,c4,rfl,rfl⟩
       rw [show (rooms.take j).map ch1++ [ch1 rooms[j]]=(rooms.take (j+1)).map ch1 by rw [List.take_succ_eq_append_getElem hj0,List.map_append];rfl]
       refine oo 2 ?_;refine st ?_;refine ox 6 ?_;refine X.at (ih (j+1,a4,c4) ⟨by dsimp only;omega,by dsimp only;rw [List.take_succ_eq_append_getElem hj0];intro y hy;rcases List.mem_append.1 hy with hy|hy;exact hi2 y hy;rw [List.mem_singleton.1 hy];exact hk⟩ (by dsimp only;omega)) Zd leA
     refine X.know 58 (.bool true) rfl (congrArg Value.bool (by simp;omega)) ?_
     refine xx 6 ?_;refine Zq (q) func46 (Wc results46 rfl rfl) ⟨_,rfl,rfl,rfl⟩
   have h0:=of_decide_eq_false h0;obtain rfl:j=rooms.length:=by omega
   rw [List.take_length] at*
   exact absurd ⟨⟨by omega,by omega⟩,⟨by omega,by omega⟩,hl,hi2⟩ ok
 refine X.know 29 (.bool true) rfl (congrArg Value.bool (by simp;omega)) ?_
 refine xx 6 ?_;refine Zq (q) func46 (Wc results46 rfl rfl) ⟨_,rfl,rfl,rfl⟩
theorem New_ok (hs:Sees q a (rooms.map I64))(ok:Mn mm cc rooms):CallF prog G 46 [.int .i64 mm,.int .i64 cc,.slice a rooms.length c] (q) (Ret fun v q'=> ∃ p σ,Real σ (Bv mm.toNat cc.toNat rooms)∧v= .tuple [.pointer (some ⟨p,0,none⟩),.int .i64 0].toArray∧q'=syL p σ++q):=by
 refine CallF.of func46 ntmps46 rfl (fun F cs=> ?_)
 refine xo 11 ?_;refine Zm [13,7,6,0,1,2] ?_
 apply Zb 3 16 13 rfl
 · intro g1 M1;have h1:=sp g1
   refine oo 3 ?_;exact Zz M1 ⟨orF g1,Zw⟩
 · intro g1 M1;have h1:=sp g1
   refine oo 3 ?_;exact Zz M1 ⟨orT g1,Zw⟩
 refine oo 1 ?_;refine Zm [17,7,6,0,1,2] ?_
 apply Zb 3 20 17 rfl
 · intro g1 M1;have h1:=sp g1
   refine oo 3 ?_;exact Zz M1 ⟨orF g1,Zw⟩
 · intro g1 M1;have h1:=sp g1
   refine oo 3 ?_;exact Zz M1 ⟨orT g1,Zw⟩
 refine oo 1 ?_;refine Zm [21,7,6,0,1,2] ?_
 apply Zb 3 24 21 rfl
 · intro g1 M1;have h1:=sp g1
   refine oo 3 ?_;exact Zz M1 ⟨orF g1,Zw⟩
 · intro g1 M1;have h1:=sp g1
   refine oo 3 ?_;exact Zz M1 ⟨orT g1,Zw⟩
 refine oo 1 ?_;refine Zm [25,7,6,0,1,2] ?_
 apply Zb 4 29 25 rfl
 · intro g1 M1;have h1:=sp g1
   refine oo 4 ?_;exact Zz M1 ⟨orF g1,Zw⟩
 · intro g1 M1;have h1:=sp g1
   refine oo 4 ?_;exact Zz M1 ⟨orT g1,Zw⟩
 refine ox 1 ?_
 rcases Decidable.em ((0≤mm∧mm≤64)∧(0≤cc∧cc≤64)∧rooms.length≤64) with hf|hf
 · obtain ⟨⟨hm0,hm1⟩,⟨hc0,hc1⟩,hl⟩:=hf
   refine X.know 29 (.bool false) rfl (congrArg Value.bool (by simp;omega)) ?_
   obtain ⟨M,rfl⟩:=Int.eq_ofNat_of_zero_le hm0;obtain ⟨C,rfl⟩:=Int.eq_ofNat_of_zero_le hc0
   refine xo 5 ?_;refine XO.ef (Rr (n:=C) rfl rfl underlying173 Tryz.info191 rfl rfl (by omega) (by omega)) ?_
   rintro _ _ ⟨g,rfl,rfl⟩
   refine XO.le (q':=rsH cqs 1 191 (some ⟨g,0,none⟩) C (List.replicate C ⟨none,0, []⟩)::(q++F)) (by unfold rsH;rw [show (List.replicate C (⟨none,0, []⟩:SlV Int)).flatMap cqs=(List.replicate C (Value.slice none 0 0).cells.toList).flatten by simp [List.flatMap,cqs,Value.cells],List.length_replicate];exact leA) ?_
   refine oo 1 ?_;refine Y8 fun n1=> ?_
   refine ox 9 ?_;refine X.at (X.loop (fun (s:Nat×Option Addr×Nat)=>s.1≤M) (fun s=> [(2,.slice a rooms.length c),(8,.pointer (some ⟨n1,0,none⟩)),(34,.int .i64 (M:Int)),(35,.int .i64 (s.1:Int))]) (fun s=>pto n1 (.cells [.bool true,.slice s.2.1 (List.replicate s.1 (-1:Int)).length s.2.2,.slice (some ⟨g,0,none⟩) C C,.slice none 0 0].toArray 176 (0,0))::lsH I64 3 s.2.1 s.2.2 (List.replicate s.1 (-1))::rsH cqs 1 191 (some ⟨g,0,none⟩) C (List.replicate C ⟨none,0, []⟩)::(q++F)) (fun s=>M - s.1) (fun s hi_ ih=> ?_) (0,none,0) (by dsimp only;omega)) Zd (Le.trans leA (Le.trans (Ze I64 3 _) leA))
   try dsimp only at hi_ ih⊢
   obtain hi:=hi_
   obtain ⟨i,a1,c1⟩:=s;dsimp only at*
   refine xx 5 ?_;refine X.part 36 rfl (fun h0=> ?_) (fun h0=> ?_)
   · have h0:=of_decide_eq_true h0;have hi0:i<M:=(by omega)
     refine xj 9 ?_;refine XO.ef (Qq (u:= -1) I64 underlying22 Tryz.info3 rfl rfl) ?_
     rintro _ _ ⟨g2,rfl,rfl⟩
     refine XO.ef (Yb (f:=I64) (l:=List.replicate i (-1)) (m:= [-1]) underlying22 Tryz.info3 rfl rfl rfl Zk ((Sees.lsH _).le leA) (fun _=>rfl) (by simp;omega) (by simp;omega)) ?_
     rintro _ _ ⟨a2,c2,rfl,rfl⟩
     rw [←List.replicate_succ' (n:=i)]
     refine oo 2 ?_;refine st ?_;refine ox 6 ?_;refine X.at (ih (i+1,a2,c2) (by dsimp only;omega) (by dsimp only;omega)) Zd leA
   have h0:=of_decide_eq_false h0;obtain rfl:i=M:=by omega
   clear ih
   refine xx 10 ?_;refine X.at (X.loop (fun (s:Nat×Option Addr×Nat)=>s.1≤rooms.length∧ ∀ r∈rooms.take s.1,R1 r) (fun s=> [(8,.pointer (some ⟨n1,0,none⟩)),(47,.slice a rooms.length c),(48,.int .i64 (rooms.length:Int)),(49,.int .i64 (s.1:Int))]) (fun s=>pto n1 (.cells [.bool true,.slice a1 (List.replicate i (-1:Int)).length c1,.slice (some ⟨g,0,none⟩) C C,.slice s.2.1 ((rooms.take s.1).map ch1).length s.2.2].toArray 176 (0,0))::lsH I64 3 a1 c1 (List.replicate i (-1))::rsH cqs 1 191 (some ⟨g,0,none⟩) C (List.replicate C ⟨none,0, []⟩)::rsH chs 3 180 s.2.1 s.2.2 ((rooms.take s.1).map ch1)::(q++F)) (fun s=>rooms.length - s.1) (fun s hi_ ih=> ?_) (0,none,0) ⟨by dsimp only;omega,by simp⟩) Zd (Le.trans leA (Le.trans (Zl chs 3 180 _) leA))
   try dsimp only at hi_ ih⊢
   obtain ⟨hi1,hi2⟩:=hi_
   obtain ⟨j,a3,c3⟩:=s;dsimp only at*
   refine xx 5 ?_;refine X.part 50 rfl (fun h0=> ?_) (fun h0=> ?_)
   · have h0:=of_decide_eq_true h0;have hj0:j<rooms.length:=(by omega)
     refine Yx (hs.le leA) (by simp;omega) (fun b1 o1 e_=> ?_);subst e_
     refine xj 7 ?_;refine oo 8 ?_;refine Zm [55,10,8,47,48,49] ?_
     apply Zb 3 58 55 rfl
     · intro g1 M1;have h1:=sp g1
       refine oo 3 ?_;exact Zz M1 ⟨orF g1,Zw⟩
     · intro g1 M1;have h1:=sp g1
       refine oo 3 ?_;exact Zz M1 ⟨orT g1,Zw⟩
     refine ox 1 ?_
     rcases Decidable.em (R1 rooms[j]) with hk|hk
     · refine X.know 58 (.bool false) rfl (congrArg Value.bool (by simp;omega)) ?_
       refine xj 7 ?_;refine oo 2 ?_;refine XO.ef (Yj (u:=ch1 rooms[j]) chs underlying174 Tryz.info180 rfl rfl (fun _=>rfl) rfl) ?_
       rintro _ _ ⟨g2,rfl,rfl⟩
       have hlm:((rooms.take j).map ch1).length=j:=by simp;omega
       refine XO.ef (Yq (l:=(rooms.take j).map ch1) (m:= [ch1 rooms[j]]) underlying174 Tryz.info180 rfl rfl (fun _=>rfl) rfl rfl Zk ((Sees.rsH _).le leA) (fun _=>rfl) (by simp;omega) (by simp;omega)) ?_
       rintro _ _ ⟨a4,c4,rfl,rfl⟩
       rw [show (rooms.take j).map ch1++ [ch1 rooms[j]]=(rooms.take (j+1)).map ch1 by rw [List.take_succ_eq_append_getElem hj0,List.map_append];rfl]
       refine oo 2 ?_;refine st ?_;refine ox 6 ?_;refine X.at (ih (j+1,a4,c4) ⟨by dsimp only;omega,by dsimp only;rw [List.take_succ_eq_append_getElem hj0];intro y hy;rcases List.mem_append.1 hy with hy|hy;exact hi2 y hy;rw [List.mem_singleton.1 hy];exact hk⟩ (by dsimp only;omega)) Zd leA
     exact absurd (ok.2.2.2 _ (List.getElem_mem hj0)) hk
   have h0:=of_decide_eq_false h0;obtain rfl:j=rooms.length:=by omega
   rw [List.take_length] at*
   refine xx 8 ?_;refine X.le (Fo (lsV 3) ⟨none,0, []⟩ (fun q=>Ze I64 3 q) C _) ?_
   refine X.le (D0 (fun (x:ChC)=>lsV 2 x.q) (rooms.map ch1) (fun x hx q=>by obtain ⟨r,_,rfl⟩:=List.mem_map.1 hx;exact Ze I64 2 q) _) ?_
   refine Zq ([pto n1 (.cells [.bool true,.slice a1 (List.replicate i (-1:Int)).length c1,.slice (some ⟨g,0,none⟩) C C,.slice a3 (rooms.map ch1).length c3].toArray 176 (0,0)),lsH I64 3 a1 c1 (List.replicate i (-1:Int)),rsH cqs 1 191 (some ⟨g,0,none⟩) C (List.replicate C (⟨none,0, []⟩:SlV Int)),stars ((List.replicate C (⟨none,0, []⟩:SlV Int)).map (lsV 3)),rsH chs 3 180 a3 c3 (rooms.map ch1),stars ((rooms.map ch1).map fun x=>lsV 2 x.q)]++q) func46 (Wc results46 rfl rfl) ⟨_,rfl,n1,⟨a1,c1,List.replicate i (-1),some ⟨g,0,none⟩,C,List.replicate C ⟨none,0, []⟩,a3,c3,rooms.map ch1⟩,⟨rfl,by simp [Bv],by simp [Bv,ch1,ChC.row,Ch.row,Ch.items,Function.comp_def]⟩,rfl,by unfold syL;simp⟩
 exact absurd ⟨ok.1,ok.2.1,ok.2.2.1⟩ hf
set_option maxHeartbeats 1000000 in
theorem Copy_ok (hR:Real σ s){N:Nat}(hs:s.ok N)(hN:N≤1000):CallF prog G 67 [.pointer (some ⟨p,0,none⟩)] ((syL p σ)) (Ret fun v q'=> ∃ p2 σ2,Real σ2 s∧v= .pointer (some ⟨p2,0,none⟩)∧q'=syL p2 σ2++syL p σ):=by
 refine CallF.of func67 ntmps67 rfl (fun F cs=> ?_)
 have ho:=hR.lo;have hc:=hR.lc;have hh:=hR.lh;have hno:=hs.no;have hnc:=hs.nc;have hnh:=hs.nh
 change X _ _ _ _ _ _ _ _ (pto p (.cells [.bool true,.slice σ.ao σ.owners.length σ.co,.slice σ.ac σ.conds.length σ.cc,.slice σ.ah σ.chans.length σ.ch].toArray 176 (0,0))::lsH I64 3 σ.ao σ.co σ.owners::rsH cqs 1 191 σ.ac σ.cc σ.conds::stars (σ.conds.map (lsV 3))::rsH chs 3 180 σ.ah σ.ch σ.chans::stars (σ.chans.map fun x=>lsV 2 x.q)::F)
 refine xo 8 ?_;refine XO.cR call106 (Yc (p:=p) clA) ?_
 refine Zt (Pu.not rfl) ?_;refine ox 1 ?_;refine kx 8 3 ?_;refine drw ?_;refine dl [0,1,2] 3 ?_;refine dl [5,6,7] 8 ?_;refine dl [10,11,12] 13 ?_;refine Y5 4 call70 (Le.refl _) (Jw (l:=σ.owners) (a:=σ.ao) (c:=σ.co) ((Sees.lsH _).le leA) (by omega)) ?_
 rintro _ _ ⟨ao1,co1,rfl,rfl⟩
 refine ⟨hlA,?_⟩
 refine Y5 9 call107 (Le.refl _) (Xx (l:=σ.conds) (a:=σ.ac) (c:=σ.cc) ((Sees.rsH _).le leA) (by omega)) ?_
 rintro _ _ ⟨ac1,cc1,rfl,rfl⟩
 refine ⟨hlA,?_⟩
 refine Y5 14 call108 (Le.refl _) (Xw (l:=σ.chans) (a:=σ.ah) (c:=σ.ch) ((Sees.rsH _).le leA) (by omega)) ?_
 rintro _ _ ⟨ah1,ch1,rfl,rfl⟩
 refine ⟨trivial,?_⟩
 refine dd [15] ?_;refine XD.bx 16 (fun n1=> ?_)
 refine dd [17] ?_;refine XD.nil ?_;refine xj 6 ?_;refine ox 4 ?_;refine X.at (X.loop (fun (zc:List (SlV Int))=>zc.length≤σ.conds.length∧zc.map (fun (x:SlV Int)=>x.l)=(σ.conds.take zc.length).map (fun (x:SlV Int)=>x.l)) (fun zc=> [(0,.pointer (some ⟨p,0,none⟩)),(3,.pointer (some ⟨n1,0,none⟩)),(30,.int .i64 (σ.conds.length:Int)),(31,.int .i64 (zc.length:Int))]) (fun zc=>rsH cqs 1 191 ac1 cc1 (zc++σ.conds.drop zc.length)::stars (zc.map (lsV 3))::pto n1 (.cells [.bool true,.slice ao1 σ.owners.length co1,.slice ac1 σ.conds.length cc1,.slice ah1 σ.chans.length ch1].toArray 176 (0,0))::lsH I64 3 ao1 co1 σ.owners::rsH chs 3 180 ah1 ch1 σ.chans::pto p (.cells [.bool true,.slice σ.ao σ.owners.length σ.co,.slice σ.ac σ.conds.length σ.cc,.slice σ.ah σ.chans.length σ.ch].toArray 176 (0,0))::lsH I64 3 σ.ao σ.co σ.owners::rsH cqs 1 191 σ.ac σ.cc σ.conds::stars (σ.conds.map (lsV 3))::rsH chs 3 180 σ.ah σ.ch σ.chans::stars (σ.chans.map fun x=>lsV 2 x.q)::F) (fun zc=>σ.conds.length - zc.length) (fun zc hi_ ih=> ?_) [] ⟨by simp,by simp⟩) Zd (by simp only [List.nil_append,List.drop_zero,List.length_nil];exact Le.trans leA (Le.trans (W5 _) leA))
 try dsimp only at hi_ ih⊢
 obtain ⟨hi1,hzc⟩:=hi_
 have hlf:(zc++σ.conds.drop zc.length).length=σ.conds.length:=by simp;omega
 refine xx 5 ?_;refine X.part 32 rfl (fun h0=> ?_) (fun h0=> ?_)
 · have h0:=of_decide_eq_true h0;have hi0:zc.length<σ.conds.length:=(by omega)
   refine Yz (l:=zc++σ.conds.drop zc.length) (ty:=191) (fl:=cqs) (a:=ac1) (by omega) (fun g2 e2=> ?_);rw [e2]
   refine Yz (l:=σ.conds) (ty:=191) (fl:=cqs) (a:=σ.ac) (by omega) (fun g e_=> ?_);rw [e_]
   refine X.le (H6 hi0) ?_
   have hll:σ.conds[zc.length].l.length≤1000:=hs.lenC hR hi0 hN
   refine xx 9 ?_;refine drw ?_;refine dl [0,1,2] 3 ?_;refine dl [4,5,6,7] 8 ?_;refine dd [9,10,11] ?_;refine XD.know 45 (.pointer (some ⟨g,zc.length*1,none⟩)) rfl (by simp) ?_
   refine Uy 12 call89 (all_ok (f:=cqs) (sz:=1) (ty:=191) (g:=g) (l:=σ.conds) (i:=zc.length) (m:=σ.conds[zc.length].l) (a:=σ.conds[zc.length].a) (c:=σ.conds[zc.length].c) hi0 (fun _=>rfl) rfl rfl (by omega)) ?_
   rintro _ _ ⟨a5,c5,rfl,rfl⟩ _ e_;simp only [ca,na] at e_;subst e_
   refine ⟨hlA,?_⟩
   refine dd [13,14,15] ?_
   have hgi:(zc++σ.conds.drop zc.length)[zc.length]'(by omega)=σ.conds[zc.length]:=by rw [List.getElem_append_right (Nat.le_refl _)];simp
   refine XD.ef0 16 rfl (Ye (g:=g2) (f:=cqs) (sz:=1) (l:=zc++σ.conds.drop zc.length) (u:=(⟨a5,c5,σ.conds[zc.length].l⟩:SlV Int)) (n:=zc.length) (k:=0) (j:=(zc.length:Int)) (by simp [evp,lkp]) rfl sizeOf22 (fun _=>rfl) rfl (by omega) rfl (by rw [hgi];rfl) rfl rfl Zk) ?_
   rintro _ _ ⟨rfl,rfl⟩
   refine ⟨trivial,?_⟩
   refine XD.nil ?_;refine xx 5 ?_
   rw [Rb zc _ zc.length (⟨a5,c5,σ.conds[zc.length].l⟩:SlV Int) rfl (by simp;omega),List.drop_drop]
   refine X.le (N7 hi0 (a:=σ.conds[zc.length].a) (c:=σ.conds[zc.length].c) (m:=σ.conds[zc.length].l)) ?_
   rw [show σ.conds.set zc.length ⟨σ.conds[zc.length].a,σ.conds[zc.length].c,σ.conds[zc.length].l⟩=σ.conds from List.set_getElem_self hi0]
   refine X.le (q':=stars ((zc++ [(⟨a5,c5,σ.conds[zc.length].l⟩:SlV Int)]).map (lsV 3))::_) (Le.trans (show Le _ (stars (zc.map (lsV 3))::(lsV 3) (⟨a5,c5,σ.conds[zc.length].l⟩:SlV Int)::_) from Le.pick Zk Zk) (Le.stars_snoc (lsV 3) zc (⟨a5,c5,σ.conds[zc.length].l⟩:SlV Int) _)) ?_
   rw [←e2,←e_]
   rw [show zc.length+1=(zc++ [(⟨a5,c5,σ.conds[zc.length].l⟩:SlV Int)]).length by simp]
   refine X.at (ih (zc++ [(⟨a5,c5,σ.conds[zc.length].l⟩:SlV Int)]) ⟨by simp;omega,by rw [List.length_append,List.length_singleton,List.take_succ_eq_append_getElem hi0,List.map_append,List.map_append,hzc];rfl⟩ (by simp;omega)) Zd leA
 have h0:=of_decide_eq_false h0;have hlzc:zc.length=σ.conds.length:=by omega
 rw [hlzc,List.take_length] at hzc;rw [hlzc,List.drop_length,List.append_nil];clear ih hlf h0 hi1
 refine xj 8 ?_;refine ox 4 ?_;refine X.at (X.loop (fun (zh:List ChC)=>zh.length≤σ.chans.length∧zh.map (ChC.row)=(σ.chans.take zh.length).map (ChC.row)) (fun zh=> [(0,.pointer (some ⟨p,0,none⟩)),(3,.pointer (some ⟨n1,0,none⟩)),(55,.int .i64 (σ.chans.length:Int)),(56,.int .i64 (zh.length:Int))]) (fun zh=>rsH chs 3 180 ah1 ch1 (zh++σ.chans.drop zh.length)::stars (zh.map fun x=>lsV 2 x.q)::pto n1 (.cells [.bool true,.slice ao1 σ.owners.length co1,.slice ac1 σ.conds.length cc1,.slice ah1 σ.chans.length ch1].toArray 176 (0,0))::lsH I64 3 ao1 co1 σ.owners::rsH cqs 1 191 ac1 cc1 zc::stars (zc.map (lsV 3))::pto p (.cells [.bool true,.slice σ.ao σ.owners.length σ.co,.slice σ.ac σ.conds.length σ.cc,.slice σ.ah σ.chans.length σ.ch].toArray 176 (0,0))::lsH I64 3 σ.ao σ.co σ.owners::rsH cqs 1 191 σ.ac σ.cc σ.conds::stars (σ.conds.map (lsV 3))::rsH chs 3 180 σ.ah σ.ch σ.chans::stars (σ.chans.map fun x=>lsV 2 x.q)::F) (fun zh=>σ.chans.length - zh.length) (fun zh hi_ ih=> ?_) [] ⟨by simp,by simp⟩) Zd (by simp only [List.nil_append,List.drop_zero,List.length_nil];exact Le.trans leA (Le.trans (W5 _) leA))
 try dsimp only at hi_ ih⊢
 obtain ⟨hi1,hzh⟩:=hi_
 have hlf:(zh++σ.chans.drop zh.length).length=σ.chans.length:=by simp;omega
 refine xx 5 ?_;refine X.part 57 rfl (fun h0=> ?_) (fun h0=> ?_)
 · have h0:=of_decide_eq_true h0;have hi0:zh.length<σ.chans.length:=(by omega)
   refine Yz (l:=zh++σ.chans.drop zh.length) (ty:=180) (fl:=chs) (a:=ah1) (by omega) (fun g2 e2=> ?_);rw [e2]
   refine Yz (l:=σ.chans) (ty:=180) (fl:=chs) (a:=σ.ah) (by omega) (fun g e_=> ?_);rw [e_]
   refine X.le (N9 hi0) ?_
   have hll:σ.chans[zh.length].q.l.length≤1000:=hs.lenH hR hi0 hN
   refine xx 9 ?_;refine drw ?_;refine dl [0,1,2] 3 ?_;refine dl [4,5,6,7] 8 ?_;refine dd [9,10,11] ?_;refine XD.know 70 (.pointer (some ⟨g,zh.length*3,none⟩)) rfl (by simp) ?_
   refine Uy 12 call92 (Cb (f:=chs) (sz:=3) (ty:=180) (g:=g) (l:=σ.chans) (i:=zh.length) (m:=σ.chans[zh.length].q.l) (a:=σ.chans[zh.length].q.a) (c:=σ.chans[zh.length].q.c) hi0 (fun _=>rfl) rfl rfl (by omega)) ?_
   rintro _ _ ⟨a5,c5,rfl,rfl⟩ _ e_;simp only [ca,na] at e_;subst e_
   refine ⟨hlA,?_⟩
   refine dd [13,14,15] ?_
   have hgi:(zh++σ.chans.drop zh.length)[zh.length]'(by omega)=σ.chans[zh.length]:=by rw [List.getElem_append_right (Nat.le_refl _)];simp
   refine XD.ef0 16 rfl (Ye (g:=g2) (f:=chs) (sz:=3) (l:=zh++σ.chans.drop zh.length) (u:=(⟨⟨a5,c5,σ.chans[zh.length].q.l⟩,σ.chans[zh.length].room,σ.chans[zh.length].sent⟩:ChC)) (n:=zh.length) (k:=0) (j:=(zh.length:Int)) (by simp [evp,lkp]) rfl sizeOf23 (fun _=>rfl) rfl (by omega) rfl (by rw [hgi];rfl) rfl rfl Zk) ?_
   rintro _ _ ⟨rfl,rfl⟩
   refine ⟨trivial,?_⟩
   refine XD.nil ?_;refine xx 5 ?_
   rw [Rb zh _ zh.length (⟨⟨a5,c5,σ.chans[zh.length].q.l⟩,σ.chans[zh.length].room,σ.chans[zh.length].sent⟩:ChC) rfl (by simp;omega),List.drop_drop]
   refine X.le (N8 hi0 σ.chans[zh.length]) ?_
   rw [show σ.chans.set zh.length σ.chans[zh.length]=σ.chans from List.set_getElem_self hi0]
   refine X.le (q':=stars ((zh++ [(⟨⟨a5,c5,σ.chans[zh.length].q.l⟩,σ.chans[zh.length].room,σ.chans[zh.length].sent⟩:ChC)]).map (fun (x:ChC)=>lsV 2 x.q))::_) (Le.trans (show Le _ (stars (zh.map (fun (x:ChC)=>lsV 2 x.q))::(fun (x:ChC)=>lsV 2 x.q) (⟨⟨a5,c5,σ.chans[zh.length].q.l⟩,σ.chans[zh.length].room,σ.chans[zh.length].sent⟩:ChC)::_) from Le.pick Zk Zk) (Le.stars_snoc (fun (x:ChC)=>lsV 2 x.q) zh (⟨⟨a5,c5,σ.chans[zh.length].q.l⟩,σ.chans[zh.length].room,σ.chans[zh.length].sent⟩:ChC) _)) ?_
   rw [←e2,←e_]
   rw [show zh.length+1=(zh++ [(⟨⟨a5,c5,σ.chans[zh.length].q.l⟩,σ.chans[zh.length].room,σ.chans[zh.length].sent⟩:ChC)]).length by simp]
   refine X.at (ih (zh++ [(⟨⟨a5,c5,σ.chans[zh.length].q.l⟩,σ.chans[zh.length].room,σ.chans[zh.length].sent⟩:ChC)]) ⟨by simp;omega,by rw [List.length_append,List.length_singleton,List.take_succ_eq_append_getElem hi0,List.map_append,List.map_append,hzh];rfl⟩ (by simp;omega)) Zd leA
 have h0:=of_decide_eq_false h0;have hlzh:zh.length=σ.chans.length:=by omega
 rw [hlzh,List.take_length] at hzh;rw [hlzh,List.drop_length,List.append_nil];clear ih hlf h0 hi1
 refine xx 7 ?_;refine Zq ([pto n1 (.cells [.bool true,.slice ao1 σ.owners.length co1,.slice ac1 σ.conds.length cc1,.slice ah1 σ.chans.length ch1].toArray 176 (0,0)),lsH I64 3 ao1 co1 σ.owners,rsH cqs 1 191 ac1 cc1 zc,stars (zc.map (lsV 3)),rsH chs 3 180 ah1 ch1 zh,stars (zh.map fun x=>lsV 2 x.q),pto p (.cells [.bool true,.slice σ.ao σ.owners.length σ.co,.slice σ.ac σ.conds.length σ.cc,.slice σ.ah σ.chans.length σ.ch].toArray 176 (0,0)),lsH I64 3 σ.ao σ.co σ.owners,rsH cqs 1 191 σ.ac σ.cc σ.conds,stars (σ.conds.map (lsV 3)),rsH chs 3 180 σ.ah σ.ch σ.chans,stars (σ.chans.map fun x=>lsV 2 x.q)]) func67 (Zg results67 rfl) ⟨_,rfl,n1,⟨ao1,co1,σ.owners,ac1,cc1,zc,ah1,ch1,zh⟩,⟨hR.o,hzc.trans hR.c,hzh.trans hR.h⟩,rfl,by unfold syL;simp [hlzc,hlzh]⟩
end
def Qh (b:Bool):Int:=if b then 1 else 0
def Wu (op a b:Int):Int×Int:=
 if op=3 then (Qh (decide (a=b)),0) else if op=4 then (Qh (decide (a≠b)),0) else if op=5 then (Qh (decide (a<b)),0) else if op=6 then (Qh (decide (a≤b)),0)
 else if (op=10∨op=11)∧b=0 then (0,1)
 else let n:=if op=7 then a+b else if op=8 then a - b else if op=9 then a*b else if op=10 then a.tdiv b else a.tmod b
  if val n then (n,0) else (0,2)
def Wv (l:List Int):Int:=l.foldr (· + ·) 0
abbrev Ac:=Int×Bool×Int
abbrev Sn:=Int×Int×Int
structure PTr where
 decl:Int
 st:Int
 loc:List Int
 left:List PStm
 sp:List Int
structure POut where
 kind:Int
 trap:Int
 th:Int
 stmt:Int
 deriving DecidableEq
structure SS where
 cells:List Int
 sy:Sy
 ths:List PTr
 out:POut
structure PEv where
 th:Int
 stmt:Int
 woke:Bool
 trap:Int
 told:Bool
 outv:Int
 value:Int
 acc:List Ac
 syn:List Sn
structure PPr where
 vars:List Int
 arrs:List Int
 room:List Int
 mu:Int
 co:Int
 main:Int
 ths:List (Int×List PStm)
def PPr.cell (p:PPr)(a i:Int):Int:=if 0≤i∧i<p.arrs.getD a.toNat 0 then p.vars.length+Wv (p.arrs.take a.toNat)+i else -1
abbrev Mad:=Int×Int×List Ac
mutual
def PEx.made (p:PPr)(cells loc:List Int):PEx→Mad
 | .mk k n _ slot lc op args=>
  if k=1 then (n,0, [])
  else if k=2 then (if lc=true then (loc.getD slot.toNat 0,0, []) else (cells.getD slot.toNat 0,0, [(slot,false,cells.getD slot.toNat 0)]))
  else
   let a:=(Ya p cells loc args).getD 0 (0,0, [])
   if a.2.1≠0 then a
   else if k=3 then (if p.cell slot a.1<0 then (0,3,a.2.2) else (cells.getD (p.cell slot a.1).toNat 0,0,a.2.2++ [(p.cell slot a.1,false,cells.getD (p.cell slot a.1).toNat 0)]))
   else if k=4 then ((Wu 8 0 a.1).1,(Wu 8 0 a.1).2,a.2.2)
   else if k=5 then (Qh (a.1==0),0,a.2.2)
   else if (op=1∧a.1≠0)∨(op=2∧a.1=0) then (Qh (op==1),0,a.2.2)
   else
    let b:=(Ya p cells loc args).getD 1 (0,0, [])
    if b.2.1≠0 then (b.1,b.2.1,a.2.2++b.2.2)
    else if op≤2 then (Qh (b.1 !=0),0,a.2.2++b.2.2)
    else ((Wu op a.1 b.1).1,(Wu op a.1 b.1).2,a.2.2++b.2.2)
def Ya (p:PPr)(cells loc:List Int):List PEx→List Mad
 | []=> []
 |e::r=>e.made p cells loc::Ya p cells loc r
end
abbrev zStm:PStm:= .mk 0 0 0 em em (.mk 0 0 em 0 false 0 []) (.mk 0 0 em 0 false 0 []) [] [] 0 0 0 false
abbrev zTr:PTr:=⟨0,0, [], [], []⟩
def SS.th (s:SS)(n:Nat):PTr:=s.ths.getD n zTr
def PTr.next (t:PTr):PStm:=t.left.headD zStm
def SS.can (p:PPr)(s:SS)(n:Nat):Bool:=
 let t:=s.th n
 if s.out.kind=4∨t.st=2∨t.st=4 then false
 else match t.next with
 | .mk k _ _ _ _ _ _ _ _ _ slot other _=>
  if t.st=3 then s.sy.owners.getD other.toNat 0== -1
  else if k=6 then s.sy.owners.getD slot.toNat 0== -1||s.sy.owners.getD slot.toNat 0==n
  else if k=11 then decide (((s.sy.chans.getD slot.toNat ch0).items.length:Int)<p.room.getD slot.toNat 0)
  else if k=12 then decide (0<(s.sy.chans.getD slot.toNat ch0).items.length)
  else if k=14 then t.sp.all fun i=>(s.th i.toNat).st==4
  else true
def SS.all (p:PPr)(s:SS):List Int:=((List.range s.ths.length).filter fun n=>s.can p n).map fun (n:Nat)=>(n:Int)
def SS.stands (p:PPr)(s:SS):SS:=
 let z:= { s with out:=⟨1,0,0,0⟩ }
 if 0<(z.all p).length then z
 else { s with out:=⟨if s.ths.all fun t=>t.st==4 then 2 else 3,0,0,0⟩ }
def SS.put (s:SS)(n:Nat)(t:PTr):SS:= { s with ths:=s.ths.set n t }
def Vf (p:PPr)(d:Int):PTr:=
 let b:=p.ths.getD d.toNat (0, [])
 ⟨d,if b.2= [] then 4 else 1,List.replicate b.1.toNat 0,b.2, []⟩
def SS.into (s:SS)(n:Nat)(slot:Int)(loc:Bool)(v:Int):SS×List Ac:=
 if loc=true then (s.put n { s.th n with loc:=(s.th n).loc.set slot.toNat v }, [])
 else ({ s with cells:=s.cells.set slot.toNat v }, [(slot,true,v)])
def SS.data (p:PPr)(s:SS)(n:Nat)(x:PStm)(ev:PEv):SS×PEv×Int:=
 match x with
 | .mk k _ _ _ _ e ix body els _ slot _ loc=>
  let t:=s.th n
  let i:Mad:=if k=3 then ix.made p s.cells t.loc else (0,0, [])
  if i.2.1≠0 then (s, { ev with acc:=i.2.2 },i.2.1)
  else
   let v:=e.made p s.cells t.loc
   let ev:= { ev with acc:=i.2.2++v.2.2 }
   if v.2.1≠0 then (s,ev,v.2.1)
   else if k=1∨k=2 then ((s.into n slot loc v.1).1, { ev with acc:=ev.acc++(s.into n slot loc v.1).2 },0)
   else if k=3 then
    if p.cell slot i.1<0 then (s,ev,3)
    else ({ s with cells:=s.cells.set (p.cell slot i.1).toNat v.1 }, { ev with acc:=ev.acc++ [(p.cell slot i.1,true,v.1)] },0)
   else if k=4 then (s.put n { t with left:=(if v.1=0 then els else body)++t.left }, { ev with value:=v.1 },0)
   else if k=5 then (s.put n { t with left:=(if v.1=0 then [] else body++ [x])++t.left }, { ev with value:=v.1 },0)
   else if k=11 then ({ s with sy:=(Vx s.sy slot v.1).1 }, { ev with syn:=ev.syn++ [(4,slot,((s.sy.chans.getD slot.toNat ch0).all.length:Int))] },0)
   else (s, { ev with told:=true,outv:=v.1 },0)
def SS.wake (s:SS):List Int→SS
 | []=>s
 |i::r=>SS.wake (s.put i.toNat { s.th i.toNat with st:=3 }) r
def SS.others (p:PPr)(s:SS)(n:Nat)(x:PStm)(ev:PEv):SS×PEv×Int:=
 match x with
 | .mk k _ _ _ _ _ _ _ _ _ slot other loc=>
  let t:=s.th n
  if k=6 then
   if s.sy.owners.getD slot.toNat 0≠ -1 then (s,ev,4)
   else ({ s with sy:=(Ws s.sy slot n).1 }, { ev with syn:=ev.syn++ [(1,slot,0)] },0)
  else if k=7 then
   if s.sy.owners.getD slot.toNat 0≠n then (s,ev,4)
   else ({ s with sy:=(Z6 s.sy slot n).1 }, { ev with syn:=ev.syn++ [(2,slot,0)] },0)
  else if k=8 then
   if s.sy.owners.getD other.toNat 0≠n then (s,ev,4)
   else
    let z:=({ s with sy:=(Us (Z6 s.sy other n).1 slot n).1 } :SS).put n { t with st:=2,left:=x::t.left }
    (z, { ev with syn:=ev.syn++ [(2,other,0)] },0)
  else if k=9∨k=10 then
   let l:=s.sy.conds.getD slot.toNat []
   let many:=if k=10 then l.length else min 1 l.length
   let z:=s.wake (l.take many)
   ({ z with sy:=if k=10 then (J6 s.sy slot).1 else (Yo s.sy slot).1 }, { ev with syn:=ev.syn++(l.take many).map fun i=>(3,slot,i) },0)
  else if k=12 then
   let l:=(s.sy.chans.getD slot.toNat ch0).items
   let z:SS:= { s with sy:=(W9 s.sy slot).1 }
   ((z.into n other loc (l.headD 0)).1, { ev with syn:=ev.syn++ [(5,slot,((s.sy.chans.getD slot.toNat ch0).taken:Int))],acc:=ev.acc++(z.into n other loc (l.headD 0)).2 },0)
  else if k=13 then
   if 8≤s.ths.length then (s,ev,5)
   else
    let z:=s.put n { t with sp:=t.sp++ [(s.ths.length:Int)] }
    ({ z with ths:=z.ths++ [Vf p slot] }, { ev with syn:=ev.syn++ [(6,0,(s.ths.length:Int))] },0)
  else (s, { ev with syn:=ev.syn++t.sp.map fun i=>(7,0,i) },0)
def zEv (n id:Int):PEv:=⟨n,id,false,0,false,0,0, [], []⟩
def PStm.idn:PStm→Int
 | .mk _ _ _ _ _ _ _ _ _ id _ _ _=>id
def PStm.kd:PStm→Int
 | .mk k _ _ _ _ _ _ _ _ _ _ _ _=>k
def PStm.oth:PStm→Int
 | .mk _ _ _ _ _ _ _ _ _ _ _ other _=>other
def SS.did (p:PPr)(s:SS)(n:Nat):SS×PEv×Int:=
 let t:=s.th n
 let x:=t.next
 let ev:=zEv n x.idn
 let o:=s.put n { t with left:=t.left.drop 1 }
 if t.st=3 then
  let z:=s.put n { t with st:=1,left:=t.left.drop 1 }
  ({ z with sy:=(Ws s.sy x.oth n).1 }, { ev with woke:=true,syn:= [(1,x.oth,0)] },0)
 else if x.kd≤5∨x.kd=11∨x.kd=15 then o.data p n x ev else o.others p n x ev
def SS.step (p:PPr)(s:SS)(n:Nat):SS×PEv:=
 let r:=s.did p n
 let x:=(s.th n).next
 if r.2.2≠0 then ({ s with out:=⟨4,r.2.2,n,x.idn⟩ }, { zEv n x.idn with trap:=r.2.2,acc:=r.2.1.acc })
 else
  let t:=r.1.th n
  if t.left= [] then ((r.1.put n { t with st:=4 }).stands p, { r.2.1 with syn:=r.2.1.syn++ [(8,0,0)] })
  else (r.1.stands p,r.2.1)
end Go.Proofs.YtflkjkhijcdbaaaGreat
namespace Go.Proofs.YtflkjkhijcdbaaaGreat
open Go Go.RowKit Wx Go.Proofs.Tryz
attribute [local irreducible] Wx.lsH Wx.rsH Wx.stars
theorem L6 {a b:Int}(ha:val a)(hb:val b): -4611686018427387904≤a*b∧a*b≤4611686018427387904:=by
 unfold val at ha hb
 have h1:a*b≤a.natAbs*b.natAbs:=by rw [←Int.natCast_mul,←Int.natAbs_mul];omega
 have h2: -(a.natAbs*b.natAbs:Int)≤a*b:=by rw [←Int.natCast_mul,←Int.natAbs_mul];omega
 have h3:(a.natAbs:Int)*b.natAbs≤2147483648*2147483648:=by
  rw [←Int.natCast_mul]
  have:a.natAbs*b.natAbs≤2147483648*2147483648:=Nat.mul_le_mul (by omega) (by omega)
  omega
 omega
theorem L8 {a b:Int}(ha:val a): -2147483648≤a.tdiv b∧a.tdiv b≤2147483648:=by
 unfold val at ha
 have h:=Int.natAbs_tdiv_le_natAbs a b
 omega
theorem L7 {a b:Int}(ha:val a): -2147483648≤a.tmod b∧a.tmod b≤2147483648:=by
 unfold val at ha
 have h:(a.tmod b).natAbs≤a.natAbs:=by rw [Int.natAbs_tmod];exact Nat.mod_le _ _
 omega
def Vp (k:Int):PanicEntry:= { v:= .iface 199 (.agg [.int .i64 k].toArray),recovered:=false }
def Wo (op a b:Int):Int×Int:=if op≤2 then (Qh (b !=0),0) else Wu op a b
section
variable {G:World}{q:List HP}{n c op u z:Int}{bb:Bool}
theorem Jm:CallF prog G 79 [.int .i64 n,.int .i64 c] (q) (Ret fun v q'=>v= .bool (decide (0≤n∧n<c))∧q'=q):=by
 refine CallF.of func79 ntmps79 rfl (fun F cs=> ?_)
 refine xo 9 ?_;refine Zm [7,4,0,1] ?_
 apply Zp 4 11 7 rfl
 · intro g1 M1;have h1:=sp g1
   refine oo 4 ?_;exact Zz M1 ⟨Wz g1,Zw⟩
 · intro g1 M1;have h1:=sp g1
   refine oo 4 ?_;exact Zz M1 ⟨Wj g1,Zw⟩
 refine ox 2 ?_;refine Zq (q) func79 (Zg results79 rfl) ⟨_,rfl,congrArg Value.bool (by rw [Bool.eq_iff_iff];simp),rfl⟩
theorem Uo:CallF prog G 190 [.bool bb] (q) (Ret fun v q'=>v= .int .i64 (Qh bb)∧q'=q):=by
 refine CallF.of func190 ntmps190 rfl (fun F cs=> ?_)
 refine xx 9 ?_;refine X.part 3 rfl (fun h0=> ?_) (fun h0=> ?_)
 · refine xx 5 ?_;refine Zq (q) func190 (Zg results190 rfl) ⟨_,rfl,by rw [show bb=true by simpa using h0];rfl,rfl⟩
 refine xx 6 ?_;refine Zq (q) func190 (Zg results190 rfl) ⟨_,rfl,by rw [show bb=false by simpa using h0];rfl,rfl⟩
theorem Kj:CallF prog G 144 [.bool bb] (q) (Ret fun v q'=>v= .int .i64 (Qh bb)∧q'=q):=by
 refine CallF.of func144 ntmps144 rfl (fun F cs=> ?_)
 refine xx 9 ?_;refine X.part 3 rfl (fun h0=> ?_) (fun h0=> ?_)
 · refine xx 5 ?_;refine Zq (q) func144 (Zg results144 rfl) ⟨_,rfl,by rw [show bb=true by simpa using h0];rfl,rfl⟩
 refine xx 6 ?_;refine Zq (q) func144 (Zg results144 rfl) ⟨_,rfl,by rw [show bb=false by simpa using h0];rfl,rfl⟩
set_option maxHeartbeats 4000000 in
theorem two05_ok (ho:3≤op∧op≤11)(hu:val u)(hz:val z):CallF prog G 143 [.int .i64 op,.int .i64 u,.int .i64 z] (q) (Ret fun v q'=>v= .tuple [.int .i64 (Wu op u z).1,.int .i64 (Wu op u z).2].toArray∧q'=q):=by
 refine CallF.of func143 ntmps143 rfl (fun F cs=> ?_)
 have hu2:=hu;have hz2:=hz;unfold val at hu2 hz2
 have hcase:op=3∨op=4∨op=5∨op=6∨op=7∨op=8∨op=9∨op=10∨op=11:=by omega
 rcases hcase with rfl|rfl|rfl|rfl|rfl|rfl|rfl|rfl|rfl
 · refine xx 20 ?_;refine X.kt 10 ?_;refine xo 6 ?_;refine XO.cR call144 (Kj) ?_;refine ox 3 ?_;refine Zq (q) func143 (Wc results143 rfl rfl) ⟨_,rfl,by simp [Wu]<;>first|rfl|(congr 1;rw [Bool.eq_iff_iff];simp),rfl⟩
 · refine xx 20 ?_;refine kx 10 6 ?_;refine X.kt 16 ?_;refine xo 6 ?_;refine XO.cR call144 (Kj) ?_;refine ox 3 ?_;refine Zq (q) func143 (Wc results143 rfl rfl) ⟨_,rfl,by simp [Wu]<;>first|rfl|(congr 1;rw [Bool.eq_iff_iff];simp),rfl⟩
 iterate 4
  focus
   refine xx 20 ?_;refine kx 10 6 ?_;refine kx 16 6 ?_
  rotate_left
 focus
  have hm:=L6 hu hz
  refine xx 20 ?_;refine kx 10 6 ?_;refine kx 16 6 ?_;refine kx 22 6 ?_;refine kx 28 6 ?_;refine kx 34 6 ?_;refine kx 39 6 ?_;refine X.kt 44 ?_;refine xo 4 ?_;refine Zt (Pu.mul rfl rfl (by omega) (by omega)) ?_
  refine oo 9 ?_;refine Zm [65,8,7,6] ?_
  apply Zb 3 68 65 rfl
  · intro g1 M1;have h1:=sp g1
    refine oo 3 ?_;exact Zz M1 ⟨orF g1,Zw⟩
  · intro g1 M1;have h1:=sp g1
    refine oo 3 ?_;exact Zz M1 ⟨orT g1,Zw⟩
  refine ox 1 ?_;refine X.part 68 rfl (fun h1=> ?_) (fun h1=> ?_)
  focus
   replace h1:=sp h1
   refine xx 6 ?_
  rotate_left
  focus
   replace h1:=sp h1
   refine xx 8 ?_
 rotate_left 2
 · have hm:=L8 (b:=z) hu
   refine xx 20 ?_;refine kx 10 6 ?_;refine kx 16 6 ?_;refine kx 22 6 ?_;refine kx 28 6 ?_;refine kx 34 6 ?_;refine kx 39 6 ?_;refine kx 44 6 ?_;refine X.kt 49 ?_;refine xx 7 ?_;refine X.part 52 rfl (fun h1=> ?_) (fun h1=> ?_)
   · replace h1:=sp h1
     refine xx 6 ?_;refine Zq (q) func143 (Wc results143 rfl rfl) ⟨_,rfl,by first|(simp [Wu,h1];done)|(unfold Wu val;simp [h1];omega)|(unfold Wu val;simp only [h1];simp;grind),rfl⟩
   replace h1:=sp h1
   refine xo 5 ?_;refine Zt (Fr rfl rfl (by omega)) ?_
   refine XO.know 55 (.int .i64 (u.tdiv z)) rfl (congrArg (Value.int .i64) (show IntKind.i64.wrap (u.tdiv z)=u.tdiv z from Uk (by omega) (by omega))) ?_
   refine oo 9 ?_;refine Zm [65,8,7,6] ?_
   apply Zb 3 68 65 rfl
   · intro g2 M2;have h2:=sp g2
     refine oo 3 ?_;exact Zz M2 ⟨orF g2,Zw⟩
   · intro g2 M2;have h2:=sp g2
     refine oo 3 ?_;exact Zz M2 ⟨orT g2,Zw⟩
   refine ox 1 ?_;refine X.part 68 rfl (fun h2=> ?_) (fun h2=> ?_)
   focus
    replace h2:=sp h2
    refine xx 6 ?_
   rotate_left
   focus
    replace h2:=sp h2
    refine xx 8 ?_
   all_goals
    refine Zq (q) func143 (Wc results143 rfl rfl) ⟨_,rfl,by first|(simp [Wu,h1,h2];done)|(unfold Wu val;simp [h1,h2];omega)|(unfold Wu val;simp only [h1,h2];simp;grind),rfl⟩
 · have hm:=L7 (b:=z) hu
   refine xx 20 ?_;refine kx 10 6 ?_;refine kx 16 6 ?_;refine kx 22 6 ?_;refine kx 28 6 ?_;refine kx 34 6 ?_;refine kx 39 6 ?_;refine kx 44 6 ?_;refine kx 49 6 ?_;refine X.kt 56 ?_;refine xx 7 ?_;refine X.part 59 rfl (fun h1=> ?_) (fun h1=> ?_)
   · replace h1:=sp h1
     refine xx 6 ?_;refine Zq (q) func143 (Wc results143 rfl rfl) ⟨_,rfl,by first|(simp [Wu,h1];done)|(unfold Wu val;simp [h1];omega)|(unfold Wu val;simp only [h1];simp;grind),rfl⟩
   replace h1:=sp h1
   refine xo 5 ?_;refine Zt (Pu.rem rfl rfl (by omega)) ?_
   refine oo 9 ?_;refine Zm [65,8,7,6] ?_
   apply Zb 3 68 65 rfl
   · intro g2 M2;have h2:=sp g2
     refine oo 3 ?_;exact Zz M2 ⟨orF g2,Zw⟩
   · intro g2 M2;have h2:=sp g2
     refine oo 3 ?_;exact Zz M2 ⟨orT g2,Zw⟩
   refine ox 1 ?_;refine X.part 68 rfl (fun h2=> ?_) (fun h2=> ?_)
   focus
    replace h2:=sp h2
    refine xx 6 ?_
   rotate_left
   focus
    replace h2:=sp h2
    refine xx 8 ?_
   all_goals
    refine Zq (q) func143 (Wc results143 rfl rfl) ⟨_,rfl,by first|(simp [Wu,h1,h2];done)|(unfold Wu val;simp [h1,h2];omega)|(unfold Wu val;simp only [h1,h2];simp;grind),rfl⟩
 · refine X.kt 22 ?_;refine xo 6 ?_;refine XO.cR call144 (Kj) ?_;refine ox 3 ?_;refine Zq (q) func143 (Wc results143 rfl rfl) ⟨_,rfl,by simp [Wu]<;>first|rfl|(congr 1;rw [Bool.eq_iff_iff];simp),rfl⟩
 · refine kx 22 6 ?_;refine X.kt 28 ?_;refine xo 6 ?_;refine XO.cR call144 (Kj) ?_;refine ox 3 ?_;refine Zq (q) func143 (Wc results143 rfl rfl) ⟨_,rfl,by simp [Wu]<;>first|rfl|(congr 1;rw [Bool.eq_iff_iff];simp),rfl⟩
 focus
  refine kx 22 6 ?_;refine kx 28 6 ?_;refine X.kt 34 ?_;refine xo 14 ?_;refine Zm [65,8,7,6] ?_
  apply Zb 3 68 65 rfl
  · intro g1 M1;have h1:=sp g1
    refine oo 3 ?_;exact Zz M1 ⟨orF g1,Zw⟩
  · intro g1 M1;have h1:=sp g1
    refine oo 3 ?_;exact Zz M1 ⟨orT g1,Zw⟩
  refine ox 1 ?_;refine X.part 68 rfl (fun h1=> ?_) (fun h1=> ?_)
  focus
   replace h1:=sp h1
   refine xx 6 ?_
  rotate_left
  focus
   replace h1:=sp h1
   refine xx 8 ?_
 rotate_left 2
 focus
  refine kx 22 6 ?_;refine kx 28 6 ?_;refine kx 34 6 ?_;refine X.kt 39 ?_;refine xo 14 ?_;refine Zm [65,8,7,6] ?_
  apply Zb 3 68 65 rfl
  · intro g1 M1;have h1:=sp g1
    refine oo 3 ?_;exact Zz M1 ⟨orF g1,Zw⟩
  · intro g1 M1;have h1:=sp g1
    refine oo 3 ?_;exact Zz M1 ⟨orT g1,Zw⟩
  refine ox 1 ?_;refine X.part 68 rfl (fun h1=> ?_) (fun h1=> ?_)
  focus
   replace h1:=sp h1
   refine xx 6 ?_
  rotate_left
  focus
   replace h1:=sp h1
   refine xx 8 ?_
 all_goals
  refine Zq (q) func143 (Wc results143 rfl rfl) ⟨_,rfl,by first|(simp [Wu,h1];done)|(unfold Wu val;simp [h1];omega)|(unfold Wu val;simp only [h1];simp;grind),rfl⟩
theorem Kf:CallF prog G 169 [.int .i64 z] (q) (RP (fun _ _=>False) (fun ch q'=>ch= [Vp z]∧q'=q)):=by
 refine CallF.of func169 ntmps169 rfl (fun F cs=> ?_)
 refine xo 4 ?_;exact XO.pn (Pn.panic rfl) (FQ.panic func169 (RP.thr ⟨rfl,rfl⟩))
theorem J0:CallF prog G 189 [.int .i64 z] (q) (RP (fun v q'=>(val z∧v= .int .i64 z)∧q'=q) (fun ch q'=>(¬val z∧ch= [Vp 2])∧q'=q)):=by
 refine CallF.of func189 ntmps189 rfl (fun F cs=> ?_)
 refine xo 10 ?_;refine Zm [5,2,0] ?_
 apply Zb 3 8 5 rfl
 · intro g1 M1;have h1:=sp g1
   refine oo 3 ?_;exact Zz M1 ⟨orF g1,Zw⟩
 · intro g1 M1;have h1:=sp g1
   refine oo 3 ?_;exact Zz M1 ⟨orT g1,Zw⟩
 refine ox 1 ?_;refine X.part 8 rfl (fun h1=> ?_) (fun h1=> ?_)
 · replace h1:=sp h1
   refine xo 2 ?_;refine Vh call169 (Le.refl _) (Kf) ?_ ?_
   · rintro _ _ ⟨rfl,rfl⟩
     exact FQ.panic func189 (RP.thr ⟨⟨(by unfold val;omega),rfl⟩,rfl⟩)
   rintro _ _ ⟨⟩
 replace h1:=sp h1
 refine xx 7 ?_;refine Zq (q) func189 (Zg results189 rfl) (RP.ret ⟨⟨(by unfold val;omega),rfl⟩,rfl⟩)
set_option maxHeartbeats 4000000 in
theorem both_ok (ho:1≤op∧op≤11)(hu:val u)(hz:val z):CallF prog G 191 [.int .i64 op,.int .i64 u,.int .i64 z] (q) (RP (fun v q'=>((Wo op u z).2=0∧v= .int .i64 (Wo op u z).1)∧q'=q) (fun ch q'=>((Wo op u z).2≠0∧ch= [Vp (Wo op u z).2])∧q'=q)):=by
 refine CallF.of func191 ntmps191 rfl (fun F cs=> ?_)
 have hu2:=hu;have hz2:=hz;unfold val at hu2 hz2
 have hcase:op=1∨op=2∨op=3∨op=4∨op=5∨op=6∨op=7∨op=8∨op=9∨op=10∨op=11:=by omega
 rcases hcase with rfl|rfl|rfl|rfl|rfl|rfl|rfl|rfl|rfl|rfl|rfl
 · refine xx 16 ?_;refine X.kt 8 ?_;refine xo 7 ?_;refine XO.cR call190 (Uo) ?_;refine ox 2 ?_;refine Zq (q) func191 (Zg results191 rfl) (RP.ret ⟨⟨by simp [Wo,Wu],by simp [Wo,Wu]<;>first|rfl|(congr 1;rw [Bool.eq_iff_iff];simp)⟩,rfl⟩)
 · refine xx 16 ?_;refine kx 8 5 ?_;refine X.kt 8 ?_;refine xo 5 ?_;refine XO.cR call190 (Uo) ?_;refine ox 2 ?_;refine Zq (q) func191 (Zg results191 rfl) (RP.ret ⟨⟨by simp [Wo,Wu],by simp [Wo,Wu]<;>first|rfl|(congr 1;rw [Bool.eq_iff_iff];simp)⟩,rfl⟩)
 · refine xx 16 ?_;refine kx 8 5 ?_;refine kx 8 6 ?_;refine X.kt 14 ?_;refine xo 6 ?_;refine XO.cR call190 (Uo) ?_;refine ox 2 ?_;refine Zq (q) func191 (Zg results191 rfl) (RP.ret ⟨⟨by simp [Wo,Wu],by simp [Wo,Wu]<;>first|rfl|(congr 1;rw [Bool.eq_iff_iff];simp)⟩,rfl⟩)
 iterate 5
  focus
   refine xx 16 ?_;refine kx 8 5 ?_;refine kx 8 6 ?_;refine kx 14 6 ?_
  rotate_left
 focus
  have hm:=L6 hu hz
  refine xx 16 ?_;refine kx 8 5 ?_;refine kx 8 6 ?_;refine kx 14 6 ?_;refine kx 20 6 ?_;refine kx 26 6 ?_;refine kx 32 6 ?_;refine kx 38 6 ?_;refine kx 44 6 ?_;refine X.kt 50 ?_;refine xo 5 ?_;refine Zt (Pu.mul rfl rfl (by omega) (by omega)) ?_
  have e0:Wo 9 u z=if val (u*z) then ((u*z),0) else (0,2):=by rfl
  refine Vh call189 (Le.refl _) (J0 (z:=(u*z)) (q:=q++F)) ?_ ?_
  · rintro _ _ ⟨⟨hn,rfl⟩,rfl⟩
    exact FQ.panic func191 (RP.thr ⟨⟨by rw [e0,if_neg hn];decide,by rw [e0,if_neg hn]⟩,rfl⟩)
 rotate_left
 focus
  have hm:=L8 (b:=z) hu
  refine xx 16 ?_;refine kx 8 5 ?_;refine kx 8 6 ?_;refine kx 14 6 ?_;refine kx 20 6 ?_;refine kx 26 6 ?_;refine kx 32 6 ?_;refine kx 38 6 ?_;refine kx 44 6 ?_;refine kx 50 9 ?_;refine X.part 57 rfl (fun h1=> ?_) (fun h1=> ?_)
  · replace h1:=sp h1
    refine xo 2 ?_;refine Vh call169 (Le.refl _) (Kf) ?_ ?_
    · rintro _ _ ⟨rfl,rfl⟩
      exact FQ.panic func191 (RP.thr ⟨⟨by simp [Wo,Wu,h1],by simp [Wo,Wu,h1]⟩,rfl⟩)
    rintro _ _ ⟨⟩
  replace h1:=sp h1
  refine xx 8 ?_;refine X.kt 60 ?_;refine xo 5 ?_;refine Zt (Fr rfl rfl (by omega)) ?_
  refine XO.know 63 (.int .i64 (u.tdiv z)) rfl (congrArg (Value.int .i64) (show IntKind.i64.wrap (u.tdiv z)=u.tdiv z from Uk (by omega) (by omega))) ?_
  have e0:Wo 10 u z=if val (u.tdiv z) then ((u.tdiv z),0) else (0,2):=by unfold Wo Wu;rw [if_neg (by decide),if_neg (by decide),if_neg (by decide),if_neg (by decide),if_neg (by decide),if_neg (fun h=>h1 h.2)];rfl
  refine Vh call189 (Le.refl _) (J0 (z:=(u.tdiv z)) (q:=q++F)) ?_ ?_
  · rintro _ _ ⟨⟨hn,rfl⟩,rfl⟩
    exact FQ.panic func191 (RP.thr ⟨⟨by rw [e0,if_neg hn];decide,by rw [e0,if_neg hn]⟩,rfl⟩)
 rotate_left
 focus
  have hm:=L7 (b:=z) hu
  refine xx 16 ?_;refine kx 8 5 ?_;refine kx 8 6 ?_;refine kx 14 6 ?_;refine kx 20 6 ?_;refine kx 26 6 ?_;refine kx 32 6 ?_;refine kx 38 6 ?_;refine kx 44 6 ?_;refine kx 50 9 ?_;refine X.part 57 rfl (fun h1=> ?_) (fun h1=> ?_)
  · replace h1:=sp h1
    refine xo 2 ?_;refine Vh call169 (Le.refl _) (Kf) ?_ ?_
    · rintro _ _ ⟨rfl,rfl⟩
      exact FQ.panic func191 (RP.thr ⟨⟨by simp [Wo,Wu,h1],by simp [Wo,Wu,h1]⟩,rfl⟩)
    rintro _ _ ⟨⟩
  replace h1:=sp h1
  refine xx 8 ?_;refine Wy 60 ?_;refine xo 6 ?_;refine Zt (Pu.rem rfl rfl (by omega)) ?_
  have e0:Wo 11 u z=if val (u.tmod z) then ((u.tmod z),0) else (0,2):=by unfold Wo Wu;rw [if_neg (by decide),if_neg (by decide),if_neg (by decide),if_neg (by decide),if_neg (by decide),if_neg (fun h=>h1 h.2)];rfl
  refine Vh call189 (Le.refl _) (J0 (z:=(u.tmod z)) (q:=q++F)) ?_ ?_
  · rintro _ _ ⟨⟨hn,rfl⟩,rfl⟩
    exact FQ.panic func191 (RP.thr ⟨⟨by rw [e0,if_neg hn];decide,by rw [e0,if_neg hn]⟩,rfl⟩)
 rotate_left
 · refine X.kt 20 ?_;refine xo 6 ?_;refine XO.cR call190 (Uo) ?_;refine ox 2 ?_;refine Zq (q) func191 (Zg results191 rfl) (RP.ret ⟨⟨by simp [Wo,Wu],by simp [Wo,Wu]<;>first|rfl|(congr 1;rw [Bool.eq_iff_iff];simp)⟩,rfl⟩)
 · refine kx 20 6 ?_;refine X.kt 26 ?_;refine xo 6 ?_;refine XO.cR call190 (Uo) ?_;refine ox 2 ?_;refine Zq (q) func191 (Zg results191 rfl) (RP.ret ⟨⟨by simp [Wo,Wu],by simp [Wo,Wu]<;>first|rfl|(congr 1;rw [Bool.eq_iff_iff];simp)⟩,rfl⟩)
 · refine kx 20 6 ?_;refine kx 26 6 ?_;refine X.kt 32 ?_;refine xo 6 ?_;refine XO.cR call190 (Uo) ?_;refine ox 2 ?_;refine Zq (q) func191 (Zg results191 rfl) (RP.ret ⟨⟨by simp [Wo,Wu],by simp [Wo,Wu]<;>first|rfl|(congr 1;rw [Bool.eq_iff_iff];simp)⟩,rfl⟩)
 focus
  refine kx 20 6 ?_;refine kx 26 6 ?_;refine kx 32 6 ?_;refine X.kt 38 ?_;refine xo 6 ?_
  have e0:Wo 7 u z=if val (u+z) then ((u+z),0) else (0,2):=by rfl
  refine Vh call189 (Le.refl _) (J0 (z:=(u+z)) (q:=q++F)) ?_ ?_
  · rintro _ _ ⟨⟨hn,rfl⟩,rfl⟩
    exact FQ.panic func191 (RP.thr ⟨⟨by rw [e0,if_neg hn];decide,by rw [e0,if_neg hn]⟩,rfl⟩)
 rotate_left
 focus
  refine kx 20 6 ?_;refine kx 26 6 ?_;refine kx 32 6 ?_;refine kx 38 6 ?_;refine X.kt 44 ?_;refine xo 6 ?_
  have e0:Wo 8 u z=if val (u - z) then ((u - z),0) else (0,2):=by rfl
  refine Vh call189 (Le.refl _) (J0 (z:=(u - z)) (q:=q++F)) ?_ ?_
  · rintro _ _ ⟨⟨hn,rfl⟩,rfl⟩
    exact FQ.panic func191 (RP.thr ⟨⟨by rw [e0,if_neg hn];decide,by rw [e0,if_neg hn]⟩,rfl⟩)
 all_goals
  rintro _ _ ⟨⟨hv,rfl⟩,rfl⟩
  refine ox 2 ?_;refine Zq (q) func191 (Zg results191 rfl) (RP.ret ⟨⟨by rw [e0,if_pos hv],by rw [e0,if_pos hv]⟩,rfl⟩)
end
section
variable {G:World}{q:List HP}{n c lo:Int}{bb:Bool}{pa pp:Nat}{x1:Value}{g:FC}
theorem Ru (ha:CellsAt q pa 0 [.pointer (some ⟨pp,0,none⟩),x1,.int .i64 lo])(hp:CellsAt q pp 0 (pgC g)):CallF prog G 159 [.pointer (some ⟨pa,0,none⟩),.int .i64 n,.bool bb] (q) (Ret fun v q'=>v= .bool (decide (0≤n∧n<if bb=true then lo else (g.vars.l.length:Int)))∧q'=q):=by
 refine CallF.of func159 ntmps159 rfl (fun F cs=> ?_)
 refine xx 9 ?_;refine X.part 7 rfl (fun h1=> ?_) (fun h1=> ?_)
 · replace h1:=sp h1
   refine xo 7 ?_;refine ld ?_ (hc:=((ha.le leA) 2 _ rfl))
   refine XO.cR call79 (Jm) ?_;refine ox 2 ?_;refine Zq (q) func159 (Zg results159 rfl) ⟨_,rfl,by rw [if_pos h1],rfl⟩
 replace h1:=sp h1
 refine xo 8 ?_;refine ld ?_ (hc:=((ha.le leA) 0 _ rfl))
 refine oo 2 ?_;refine ld ?_ (hc:=((hp.le leA) 0 _ rfl))
 refine XO.know 21 (.slice g.vars.a g.vars.l.length g.vars.c) rfl (rfl) ?_;refine oo 1 ?_;refine XO.cR call79 (Jm) ?_;refine ox 2 ?_;refine Zq (q) func159 (Zg results159 rfl) ⟨_,rfl,by rw [if_neg (by rw [h1];decide)],rfl⟩
end
def ExAt (M:Hp)(a:Addr)(e:Ex):Prop:=SeesZ M (some a) (exC e)∧e.At M
def StAt (M:Hp)(a:Addr)(s:Stm):Prop:=SeesZ M (some a) (stC s)∧s.At M
theorem J8 {M:Hp}{a:Option Addr}{vs ws:List Value}(h:SeesZ M a vs)(k:SeesZ M a ws)(e:vs.length=ws.length):vs=ws:=by
 apply List.ext_getElem? 
 intro i
 by_cases hi:i<vs.length
 · obtain ⟨b,o,cur,ty,e1,e2,e3⟩:=h i vs[i] (List.getElem?_eq_getElem hi)
   obtain ⟨b',o',cur',ty',f1,f2,f3⟩:=k i (ws[i]'(e ▸ hi)) (List.getElem?_eq_getElem _)
   rw [e1] at f1;cases f1
   rw [e2] at f2;cases f2
   rw [e3] at f3
   rw [List.getElem?_eq_getElem hi,List.getElem?_eq_getElem (e ▸ hi)];exact f3
 rw [List.getElem?_eq_none (by omega),List.getElem?_eq_none (by omega)]
theorem Ti {α:Type}{f:α→List Value}{sz:Nat}(hf: ∀ x,(f x).length=sz){l:List α}{i k:Nat}(hi:i<l.length)(hk:k<sz):(l.flatMap f)[i*sz+k]? =(f l[i])[k]? :=by
 have h:(l.flatMap f)[i*sz+k]? =_:=congrArg (fun z:List Value=>z[i*sz+k]?) (List.take_append_drop (i*sz) (l.flatMap f)).symm
 rw [Kb hf,List.getElem?_append_right (by rw [Zv hf,List.length_take];rw [Nat.min_eq_left (by omega)];omega)] at h
 rw [h,Zv hf,List.length_take,Nat.min_eq_left (by omega),show i*sz+k - i*sz=k by omega,List.getElem?_drop]
 have e2:l.flatMap f=(l.take i).flatMap f++(f l[i]++(l.drop (i+1)).flatMap f):=by
  conv=>lhs;rw [←List.take_append_drop i l,List.flatMap_append,List.drop_eq_getElem_cons hi,List.flatMap_cons]
 rw [e2,List.getElem?_append_right (by rw [Zv hf,List.length_take,Nat.min_eq_left (by omega)];omega),Zv hf,List.length_take,Nat.min_eq_left (by omega),show i*sz+k - i*sz=k by omega,
  List.getElem?_append_left (by rw [hf];exact hk)]
theorem SeesZ.row {α:Type}{M:Hp}{f:α→List Value}{sz:Nat}{a:Option Addr}(hf: ∀ x,(f x).length=sz)(h0:0<sz){l:List α}{i:Nat}(h:SeesZ M a (l.flatMap f))(hi:i<l.length): ∃ b o,a=some ⟨b,o,none⟩∧SeesZ M (some ⟨b,o+i*sz,none⟩) (f l[i]):=by
 have hl:=hf l[i]
 obtain ⟨b,o,cur,ty,e1,e2,e3⟩:=h (i*sz+0) ((f l[i])[0]'(by omega)) (by rw [Ti hf hi h0];exact List.getElem?_eq_getElem (by omega))
 refine ⟨b,o,e1,fun k u hk=> ?_⟩
 have hk2:k<sz:=by rw [←hl];exact (List.getElem?_eq_some_iff.1 hk).1
 obtain ⟨b',o',cur',ty',f1,f2,f3⟩:=h (i*sz+k) u (by rw [Ti hf hi hk2];exact hk)
 rw [e1] at f1;cases f1
 exact ⟨b,o+i*sz,cur',ty',rfl,f2,by rw [Nat.add_assoc];exact f3⟩
theorem SeesZ.sub {M:Hp}{b o:Nat}{vs ws pre post:List Value}(h:SeesZ M (some ⟨b,o,none⟩) vs)(e:vs=pre++(ws++post)):SeesZ M (some ⟨b,o+pre.length,none⟩) ws:=fun i u hu=>by
 obtain ⟨b',o',cur,ty,e1,e2,e3⟩:=h (pre.length+i) u (by rw [e,List.getElem?_append_right (by omega),show pre.length+i - pre.length=i by omega,List.getElem?_append_left (List.getElem?_eq_some_iff.1 hu).1];exact hu)
 cases e1
 exact ⟨b,o+pre.length,cur,ty,rfl,e2,by rw [Nat.add_assoc];exact e3⟩
mutual
theorem Ex.uniq {M:Hp}: ∀ {x y:Ex},exC x=exC y→x.At M→y.At M→x=y
 | .mk k n nm sl lo op args aa ac,.mk k' n' nm' sl' lo' op' args' aa' ac',h,⟨h1,h2⟩,⟨g1,g2⟩=>by
  simp only [exC,List.cons.injEq,Value.int.injEq,Value.string.injEq,Value.bool.injEq,Value.slice.injEq,true_and,and_true] at h
  obtain ⟨rfl,rfl,rfl,rfl,rfl,rfl,rfl,hl,rfl⟩:=h
  have e:=J8 h1.2.2 g1.2.2 (by rw [Zv Z4,Zv Z4,hl])
  rw [Exs.uniq e hl h2 g2]
theorem Exs.uniq {M:Hp}: ∀ {l m:List Ex},l.flatMap exC=m.flatMap exC→l.length=m.length→Ex.Ats M l→Ex.Ats M m→l=m
 | [], [],_,_,_,_=>rfl
 | [],_::_,_,h,_,_=>by simp at h
 |_::_, [],_,h,_,_=>by simp at h
 |x::l,y::m,h,hl,⟨h1,h2⟩,⟨g1,g2⟩=>by
  rw [List.flatMap_cons,List.flatMap_cons] at h
  obtain ⟨e1,e2⟩:=List.append_inj h (by rw [Z4,Z4])
  rw [Ex.uniq e1 h1 g1,Exs.uniq e2 (by simpa using hl) h2 g2]
end
mutual
theorem Stm.uniq {M:Hp}: ∀ {x y:Stm},stC x=stC y→x.At M→y.At M→x=y
 | .mk k ln cl nm wt e ix body els ba bc ea ec id sl ot lo,.mk k' ln' cl' nm' wt' e' ix' body' els' ba' bc' ea' ec' id' sl' ot' lo',h,⟨h1,h2,⟨h3,h4⟩,h5,h6⟩,⟨g1,g2,⟨g3,g4⟩,g5,g6⟩=>by
  simp only [stC] at h
  obtain ⟨a1,a2⟩:=List.append_inj h rfl
  obtain ⟨b1,b2⟩:=List.append_inj a2 (by rw [Z4,Z4])
  obtain ⟨c1,c2⟩:=List.append_inj b2 (by rw [Z4,Z4])
  simp only [List.cons.injEq,Value.int.injEq,Value.string.injEq,Value.bool.injEq,Value.slice.injEq,true_and,and_true] at a1 c2
  obtain ⟨rfl,rfl,rfl,rfl,rfl⟩:=a1
  obtain ⟨⟨rfl,hl,rfl⟩,⟨rfl,hm,rfl⟩,rfl,rfl,rfl,rfl⟩:=c2
  have e1:=J8 h3.2.2 g3.2.2 (by rw [Zv Z9,Zv Z9,hl])
  have e2:=J8 h5.2.2 g5.2.2 (by rw [Zv Z9,Zv Z9,hm])
  rw [Ex.uniq b1 h1 g1,Ex.uniq c1 h2 g2,Stms.uniq e1 hl h4 g4,Stms.uniq e2 hm h6 g6]
theorem Stms.uniq {M:Hp}: ∀ {l m:List Stm},l.flatMap stC=m.flatMap stC→l.length=m.length→Stm.Ats M l→Stm.Ats M m→l=m
 | [], [],_,_,_,_=>rfl
 | [],_::_,_,h,_,_=>by simp at h
 |_::_, [],_,h,_,_=>by simp at h
 |x::l,y::m,h,hl,⟨h1,h2⟩,⟨g1,g2⟩=>by
  rw [List.flatMap_cons,List.flatMap_cons] at h
  obtain ⟨e1,e2⟩:=List.append_inj h (by rw [Z9,Z9])
  rw [Stm.uniq e1 h1 g1,Stms.uniq e2 (by simpa using hl) h2 g2]
end
theorem ExAt.uniq {M:Hp}{a:Addr}{x y:Ex}(h:ExAt M a x)(k:ExAt M a y):x=y:=Ex.uniq (J8 h.1 k.1 (by rw [Z4,Z4])) h.2 k.2
theorem StAt.uniq {M:Hp}{a:Addr}{x y:Stm}(h:StAt M a x)(k:StAt M a y):x=y:=Stm.uniq (J8 h.1 k.1 (by rw [Z9,Z9])) h.2 k.2
theorem SeesZ.brn {M:Hp}{a:Addr}{v:Value}{vs:List Value}{w:World}(h:SeesZ M (some a) (v::vs))(l:Hle M (wh w)):Brn w a:=by
 obtain ⟨b,o,cur,ty,e1,e2,_⟩:=h 0 v rfl
 cases e1
 exact ⟨cur,ty,l _ _ e2⟩
theorem ExAt.brn {M:Hp}{a:Addr}{x:Ex}{w:World}(h:ExAt M a x)(l:Hle M (wh w)):Brn w a:=by cases x;exact SeesZ.brn h.1 l
theorem StAt.brn {M:Hp}{a:Addr}{x:Stm}{w:World}(h:StAt M a x)(l:Hle M (wh w)):Brn w a:=by cases x;exact SeesZ.brn h.1 l
abbrev K8:=List (Addr×Value×Nat)
def ExKs (M:Hp)(n:Nat)(es:K8):Prop:= ∀ e∈es,∃ x,ExAt M e.1 x∧n<x.sz
def StKs (M:Hp)(n:Nat)(es:K8):Prop:= ∀ e∈es,∃ x,StAt M e.1 x∧n<x.sz
theorem KeysAt.ex {q:List HP}{a:Addr}{es:K8}{x:Ex}(h:Kn q fun M=>ExAt M a x∧ExKs M x.sz es):KeysAt q a es:=by
 rintro G w ⟨_,M,k,l,_,_,_,_,p⟩
 obtain ⟨h1,h2⟩:=h M k p
 refine ⟨h1.brn l,fun e he=> ?_⟩
 obtain ⟨y,h3,h4⟩:=h2 e he
 exact ⟨fun ha=>by have:=(ha ▸ h1).uniq h3;subst this;exact Nat.lt_irrefl _ h4,h3.brn l⟩
theorem KeysAt.st {q:List HP}{a:Addr}{es:K8}{x:Stm}(h:Kn q fun M=>StAt M a x∧StKs M x.sz es):KeysAt q a es:=by
 rintro G w ⟨_,M,k,l,_,_,_,_,p⟩
 obtain ⟨h1,h2⟩:=h M k p
 refine ⟨h1.brn l,fun e he=> ?_⟩
 obtain ⟨y,h3,h4⟩:=h2 e he
 exact ⟨fun ha=>by have:=(ha ▸ h1).uniq h3;subst this;exact Nat.lt_irrefl _ h4,h3.brn l⟩
theorem Nq: ∀ l:List Ex,l.length≤Qn l
 | []=>Nat.zero_le _
 |e::r=>by
  have h:=Nq r
  have h1:1≤e.sz:=by cases e;simp only [Ex.sz];omega
  simp only [Qn,List.length_cons];omega
theorem Jp: ∀ l:List Stm,l.length≤Zh l
 | []=>Nat.zero_le _
 |e::r=>by
  have h:=Jp r
  have h1:1≤e.sz:=by cases e;simp only [Stm.sz];omega
  simp only [Zh,List.length_cons];omega
section
variable {q:List HP}{a:Option Addr}{c b o i:Nat}{l:List Ex}{m:List Stm}
theorem Kn.exn {k n:Int}{nm:ByteArray}{slot:Int}{loc:Bool}{op:Int}(h:Kn q fun M=>Ex.Ats M l):Kn (lst (fun M=>SlAt M a c l.length (l.flatMap exC)) SlAt.mono::q) fun M=>(Ex.mk k n nm slot loc op l a c).At M:=
 (Kn.here.and h.there).imp fun M h=>⟨h.1,h.2⟩
theorem Kn.blM {m:List Stm}:Kn (blM a c m::q) fun M=>BlkAt M a c m:=Kn.here
theorem Kn.exsM:Kn (exsM l::q) fun M=>Ex.Ats M l:=Kn.here
theorem Lf:Le q (exsM []::q):=Kn.add (fun _ _ _=>trivial)
theorem C6 {e:Ex}:Le (exsM l::exM e::q) (exsM (l++ [e])::q):=by
 have h:Kn (exsM l::exM e::q) fun M=>Ex.Ats M (l++ [e]):=(Kn.exsM.and Kn.exM.there).imp fun M h=>Y4.2 fun x hx=>by
  rcases List.mem_append.1 hx with hx|hx
  · exact Y4.1 h.1 x hx
  rw [List.mem_singleton.1 hx];exact h.2
 exact Le.trans (Kn.add (mn:=fun l h=>Ex.Ats.mono l h) h) (Le.cons _ ((Le.drop _ _).trans (Le.drop _ _)))
theorem Aj {m:List Ex}{s:Nat}(h:s<m.length):Z3 (m.take (s+1))=Z3 (m.take s)++ [m[s].er]:=by
 rw [Yg,Yg,List.take_succ_eq_append_getElem h,List.map_append];rfl
theorem Kn.exC {e:Ex}(h:Kn q fun M=>ExAt M ⟨b,o,none⟩ e):CellsAt q b o (exC e):=fun k v hk=>(Kn.sees (h.imp fun M h=>h.1)).cl hk
theorem Kn.stC {e:Stm}(h:Kn q fun M=>StAt M ⟨b,o,none⟩ e):CellsAt q b o (stC e):=fun k v hk=>(Kn.sees (h.imp fun M h=>h.1)).cl hk
theorem ExKs.down {M:Hp}{n k:Nat}{es:K8}(h:ExKs M n es)(hk:k≤n):ExKs M k es:=fun e he=>let ⟨x,h1,h2⟩:=h e he;⟨x,h1,by omega⟩
theorem StKs.down {M:Hp}{n k:Nat}{es:K8}(h:StKs M n es)(hk:k≤n):StKs M k es:=fun e he=>let ⟨x,h1,h2⟩:=h e he;⟨x,h1,by omega⟩
theorem ExKs.more {M:Hp}{n:Nat}{es:K8}{a:Addr}{v:Value}{k:Nat}{x:Ex}(h:ExKs M n es)(hx:ExAt M a x)(hn:n<x.sz):ExKs M n (es++ [(a,v,k)]):=fun e he=>by
 rcases List.mem_append.1 he with he|he
 · exact h e he
 rw [List.mem_singleton.1 he];exact ⟨x,hx,hn⟩
theorem StKs.more {M:Hp}{n:Nat}{es:K8}{a:Addr}{v:Value}{k:Nat}{x:Stm}(h:StKs M n es)(hx:StAt M a x)(hn:n<x.sz):StKs M n (es++ [(a,v,k)]):=fun e he=>by
 rcases List.mem_append.1 he with he|he
 · exact h e he
 rw [List.mem_singleton.1 he];exact ⟨x,hx,hn⟩
end
section
variable {G:World}{q:List HP}{pc m1 m2 b o k k1 k2:Nat}{a:Option Addr}{c:Nat}{es:K8}
set_option maxHeartbeats 2000000 in
theorem Cv: ∀ (N:Nat) {e:Ex} {b o:Nat} {es:K8} {k:Nat} {q:List HP},e.sz≤N→N≤1000000→CellsAt q pc 0 [.map (some m1),.map (some m2)]→(Kn q fun M=>ExAt M ⟨b,o,none⟩ e∧ExKs M e.sz es)→CallF prog G 204 [.pointer (some ⟨pc,0,none⟩),.pointer (some ⟨b,o,none⟩)] (pto m2 (.map ((es).map Wf).toArray k)::q) (Ret fun v q'=> ∃ (e':Ex) (k':Nat),e'.er=e.er∧v= .agg (exC e').toArray∧q'=exM e'::pto m2 (.map ((es).map Wf).toArray k')::q):=fun N=>by
 induction N with
 |zero=>intro e b o es k q hs;exact absurd hs (by cases e;simp only [Ex.sz];omega)
 |succ N IH=> 
 intro e b o es k q hs hN hc hK
 obtain ⟨kd,n,nm,sl,lo,op,l,aa,ac⟩:=e
 refine CallF.of func204 ntmps204 rfl (fun F cs=> ?_)
 have hCe:=Kn.exC (hK.imp fun M h=>h.1)
 have hA:Kn q fun M=>SlAt M aa ac l.length (l.flatMap exC)∧Ex.Ats M l:=hK.imp fun M h=>h.1.2;have hS:=Kn.sees (hA.imp fun M h=>h.1.2.2)
 have hl:l.length+1≤N+1:=by have:=Nq l;simp only [Ex.sz] at hs;omega
 have hlen:=Zv Z4 l
 obtain ⟨J_,hJ,_,hJ2,_⟩:=info_parts Um;have hJz:J_.size≠0:=by rw [hJ2];decide
 refine xo 2 ?_;refine XO.al zeroValue124 fun n1=> ?_
 refine oo 6 ?_;refine ld ?_ (hc:=((hc.le leA) 1 _ rfl))
 refine oo 2 ?_;refine XO.ef0 (Ed underlying306 underlying274 hJ hJz rfl rfl rfl ((KeysAt.ex hK).le leA) Zk) ?_;rintro _ _ ⟨rfl,rfl⟩
 refine oo 6 ?_;refine ld ?_ (hc:=((hc.le leA) 1 _ rfl))
 refine oo 1 ?_;refine XO.dfDel (fun cst=> ?_)
 refine oo 5 ?_;refine XO.ldC (us:=exC (.mk kd n nm sl lo op l aa ac)) isAgg124 sizeOf124 rfl (hCe.le leA) ?_
 refine XO.al zeroValue124 fun n2=> ?_
 refine stA ?_;refine oo 4 ?_;refine st ?_;refine oo 7 ?_;refine ld ?_ (hc:=((hCe.le leA) 6 _ rfl))
 refine ox 4 ?_;refine X.at (X.loop (fun (s:(Nat×Nat)×Option Addr×Nat×List Ex)=>s.1.1≤l.length∧Z3 s.2.2.2=Z3 (l.take s.1.1)∧s.2.2.2.length=s.1.1) (fun s=> [(0,.pointer (some ⟨pc,0,none⟩)),(1,.pointer (some ⟨b,o,none⟩)),(4,.pointer (some ⟨n1,0,none⟩)),(5,.pointer (some ⟨n2,0,none⟩)),(28,.int .i64 (l.length:Int)),(29,.int .i64 (s.1.1:Int))]) (fun s=>pto n2 (.cells [.int .i64 kd,.int .i64 n,.string nm,.int .i64 sl,.bool lo,.int .i64 op,.slice s.2.1 (s.2.2.2).length s.2.2.1].toArray 124 (0,0))::pto n1 (.cells [.int .i64 0,.int .i64 0,.string ⟨#[]⟩,.int .i64 0,.bool false,.int .i64 0,.slice none 0 0].toArray 124 (0,0))::rsH exC 7 124 s.2.1 s.2.2.1 s.2.2.2::exsM s.2.2.2::pto m2 (.map (((es++ [((⟨b,o,none⟩:Addr),(.agg [].toArray:Value),k)]:K8)).map Wf).toArray s.1.2)::(q++F)) (fun s=>l.length - s.1.1) (fun s hi_ ih=> ?_) ((0,k+1),none,0, []) ⟨Nat.zero_le _,by simp [Z3],rfl⟩) Zd (Le.trans leA (Le.trans (Le.trans (Zl exC 7 124 _) Lf) leA))
 try dsimp only at hi_ ih⊢
 obtain ⟨hi1,hi2,hi3⟩:=hi_
 obtain ⟨⟨i,kk⟩,a1,c1,l1⟩:=s;dsimp only at*
 refine xx 5 ?_;refine X.part 30 rfl (fun h0=> ?_) (fun h0=> ?_)
 · replace h0:=sp h0;have hlt:i<l.length:=(by omega)
   obtain ⟨x,hx⟩: ∃ x,x=l[i]:=⟨_,rfl⟩;have hxs:x.sz<Ex.sz (.mk kd n nm sl lo op l aa ac):=by rw [hx];simp only [Ex.sz];have:=Vk (List.getElem_mem hlt);omega
   refine Yx (hS.le leA) (by rw [hlen];omega) (fun ab ao e_=> ?_);subst e_
   have hKx:Kn q fun M=>ExAt M ⟨ab,ao+(i:Int).toNat*7,none⟩ x∧ExKs M x.sz (es++ [(⟨b,o,none⟩,.agg [].toArray,k)]):=hK.imp fun M h=>by
    obtain ⟨b',o',e1,e2⟩:=SeesZ.row Z4 (by decide) h.1.2.1.2.2 hlt
    cases e1
    refine ⟨⟨by rw [hx];exact e2,by rw [hx];exact Y4.1 h.1.2.2 _ (List.getElem_mem hlt)⟩,(h.2.down (Nat.le_of_lt hxs)).more h.1 hxs⟩
   refine xx 10 ?_;refine drw ?_;refine dd [0,1,2] ?_;refine ldD 3 ?_ (hc:=((hc.le leA) 1 _ rfl))
   refine dd [4,5,6] ?_;refine ldD 7 ?_ (hc:=((hCe.le leA) 6 _ rfl))
   refine dd [8,9] ?_;refine Y3 (fl:= [⟨14,7,fun g=> .pointer (some ⟨g,0,none⟩),fun g=>pto g (.cells [].toArray 309 (0,0))⟩]) ?_
   refine XF.ef 10 ⟨⟨_,rfl,rfl,rfl,rfl,rfl,rfl,fun q=>Ef.alloc zeroValue309⟩,trivial⟩ (Rd.efE (Dj underlying306 underlying274 hJ hJz rfl rfl ((KeysAt.ex hKx).le leA) Zk zeroValue309)) ?_ (hL:=(hlA (h:=by repeat first|exact trivial|refine ⟨clA,?_⟩|refine ⟨(hc.le leA) 1 _ rfl,?_⟩|refine ⟨(hCe.le leA) 6 _ rfl,?_⟩)))
   rintro _ _ ⟨rfl,rfl⟩
   refine ⟨(hlA (h:=by repeat first|exact trivial|refine ⟨clA,?_⟩|refine ⟨(hc.le leA) 1 _ rfl,?_⟩|refine ⟨(hCe.le leA) 6 _ rfl,?_⟩)),?_⟩
   refine Qu 11 ⟨⟨_,rfl,rfl,rfl,rfl,rfl,rfl,fun q=>Ef.alloc zeroValue309⟩,trivial⟩ (Pu.move rfl) ?_ (hL:=(hlA (h:=by repeat first|exact trivial|refine ⟨clA,?_⟩|refine ⟨(hc.le leA) 1 _ rfl,?_⟩|refine ⟨(hCe.le leA) 6 _ rfl,?_⟩)))
   refine Qu 12 ⟨⟨_,rfl,rfl,rfl,rfl,rfl,rfl,fun q=>Ef.alloc zeroValue309⟩,trivial⟩ (Pu.extract rfl rfl) ?_ (hL:=(hlA (h:=by repeat first|exact trivial|refine ⟨clA,?_⟩|refine ⟨(hc.le leA) 1 _ rfl,?_⟩|refine ⟨(hCe.le leA) 6 _ rfl,?_⟩)))
   refine Qu 13 ⟨⟨_,rfl,rfl,rfl,rfl,rfl,rfl,fun q=>Ef.alloc zeroValue309⟩,trivial⟩ (Pu.extract rfl rfl) ?_ (hL:=(hlA (h:=by repeat first|exact trivial|refine ⟨clA,?_⟩|refine ⟨(hc.le leA) 1 _ rfl,?_⟩|refine ⟨(hCe.le leA) 6 _ rfl,?_⟩)))
   refine Vj (e0:=⟨14,7,fun g=> .pointer (some ⟨g,0,none⟩),fun g=>pto g (.cells [].toArray 309 (0,0))⟩) (hnd:=by simp) 14 ⟨⟨_,rfl,rfl,rfl,rfl,rfl,rfl,fun q=>Ef.alloc zeroValue309⟩,trivial⟩ (fun ne=> ?_) (hL:=(hlA (h:=by repeat first|exact trivial|refine ⟨clA,?_⟩|refine ⟨(hc.le leA) 1 _ rfl,?_⟩|refine ⟨(hCe.le leA) 6 _ rfl,?_⟩)))
   change XF _ _ _ _ _ _ _ [] _ _ _ ((7,.pointer (some ⟨ne,0,none⟩))::_) _ _ (pto ne (.cells [].toArray 309 (0,0))::_)
   refine XF.back ?_ (hL:=(hlA (h:=by repeat first|exact trivial|refine ⟨clA,?_⟩|refine ⟨(hc.le leA) 1 _ rfl,?_⟩|refine ⟨(hCe.le leA) 6 _ rfl,?_⟩)))
   refine V1 15 ?_;refine dd [16] ?_;refine XD.nil ?_;refine xo 3 ?_;refine Zt (Pu.not rfl) ?_;refine ox 1 ?_;refine X.kt 47 ?_;refine xx 1 ?_;refine drw ?_;refine dl [0] 1 ?_;refine dd [2,3,4,5] ?_;refine ldD 6 ?_ (hc:=((hCe.le leA) 6 _ rfl))
   refine dd [7,8] ?_;refine Y5 9 call204 Zk (IH (by omega) (by omega) (hc.le leA) (hKx.le leA)) ?_
   rintro _ _ ⟨e2,k2,he2,rfl,rfl⟩
   refine ⟨(hlA (h:=by repeat first|exact trivial|refine ⟨clA,?_⟩|refine ⟨(hc.le leA) 1 _ rfl,?_⟩|refine ⟨(hCe.le leA) 6 _ rfl,?_⟩)),?_⟩
   refine XD.ef 10 rfl (Yj exC underlying122 Um rfl rfl Z4 rfl) ?_;rintro _ _ ⟨g,rfl,rfl⟩
   refine ⟨(hlA (h:=by repeat first|exact trivial|refine ⟨clA,?_⟩|refine ⟨(hc.le leA) 1 _ rfl,?_⟩|refine ⟨(hCe.le leA) 6 _ rfl,?_⟩)),?_⟩
   refine XD.ef 11 rfl (Yq (f:=exC) (l:=l1) (m:= [e2]) underlying122 Um rfl rfl Z4 rfl rfl Zk ((Sees.rsH _).le Zk) Fv (by simp;omega) (by simp;omega)) ?_
   rintro _ _ ⟨a3,c3,rfl,rfl⟩
   refine ⟨(hlA (h:=by repeat first|exact trivial|refine ⟨clA,?_⟩|refine ⟨(hc.le leA) 1 _ rfl,?_⟩|refine ⟨(hCe.le leA) 6 _ rfl,?_⟩)),?_⟩
   refine dd [12] ?_;refine stD 13 ?_;refine XD.nil ?_;refine xx 5 ?_;refine X.le (q':=exsM (l1++ [e2])::_) (Le.trans (Le.pick Zk Zk) C6) ?_
   refine X.at (ih ((i+1,k2),a3,c3,l1++ [e2]) ⟨by dsimp only;omega,by dsimp only;rw [Aj hlt,←hi2,←hx,←he2,Yg,Yg,List.map_append];rfl,by dsimp only;rw [List.length_append];simp [hi3]⟩ (by dsimp only;omega)) Zd leA
 replace h0:=sp h0;obtain rfl:i=l.length:=(by omega);rw [List.take_length] at hi2;clear ih
 refine X.le (q':=rsH exC 7 124 a1 c1 l1::exsM l1::_) (Le.pick Zk Zk) ?_
 refine X.frzR (Kn.exn (k:=kd) (n:=n) (nm:=nm) (slot:=sl) (loc:=lo) (op:=op) Kn.exsM) (mn:=fun l h=>Ex.At.mono l h) ?_ (hq:=Le.refl _)
 refine xo 4 ?_;refine ldA ?_;refine stA ?_;refine ox 1 ?_;exact X.ret ⟨rfl,Lv.del (mt:=306) rfl underlying306 underlying274 hJ hJz ((KeysAt.ex hK).le leA) Zk (Lv.ret (q':=(exM (Ex.mk kd n nm sl lo op l1 a1 c1)::pto m2 (.map ((es).map Wf).toArray kk)::q)) func204 (rA_ results204) ⟨_,rfl,(Ex.mk kd n nm sl lo op l1 a1 c1),kk,by simp only [Ex.er,hi2],rfl,rfl⟩ leA)⟩
end
mutual
/-- Expressions that are not great. -/
def Stm.lm (B:Nat):Stm→Prop
 | .mk _ _ _ _ _ e ix body els _ _ _ _ _ _ _ _=>e.sz≤B∧ix.sz≤B∧Wa B body∧Wa B els
def Wa (B:Nat):List Stm→Prop
 | []=>True
 |s::r=>s.lm B∧Wa B r
end
theorem Jn {B:Nat}{x:Stm}: ∀ {l:List Stm},Wa B l→x∈l→x.lm B
 |y::r,⟨h1,h2⟩,h=>by
  rcases List.mem_cons.1 h with rfl|h
  · exact h1
  exact Jn h2 h
theorem P1 {m:List Stm}{s:Nat}(h:s<m.length):Zj (m.take (s+1))=Zj (m.take s)++ [m[s].er]:=by
 rw [Yn,Yn,List.take_succ_eq_append_getElem h,List.map_append];rfl
theorem Yk {M:Hp}{b o:Nat}{pre post:List Value}{e:Ex}{vs:List Value}(h:SeesZ M (some ⟨b,o,none⟩) vs)(hv:vs=pre++(exC e++post))(he:e.At M){n:Nat}(hn:n=o+pre.length):ExAt M ⟨b,n,none⟩ e:=hn ▸ ⟨SeesZ.sub h hv,he⟩
def CSt (G:World)(pc m1 m2 B N:Nat):Prop:= ∀ {s:Stm} {b o:Nat} {es:K8} {k1 k2:Nat} {q:List HP},s.sz≤N→s.lm B→CellsAt q pc 0 [.map (some m1),.map (some m2)]→(Kn q fun M=>StAt M ⟨b,o,none⟩ s∧StKs M s.sz es)→
 CallF prog G 187 [.pointer (some ⟨pc,0,none⟩),.pointer (some ⟨b,o,none⟩)] (pto m1 (.map ((es).map Wf).toArray k1)::pto m2 (.map (([]).map Wf).toArray k2)::q) (Ret fun v q'=> ∃ (s':Stm) (k1' k2':Nat),s'.er=s.er∧v= .agg (stC s').toArray∧q'=stM s'::pto m1 (.map ((es).map Wf).toArray k1')::pto m2 (.map (([]).map Wf).toArray k2')::q)
def CSts (G:World)(pc m1 m2 B N:Nat):Prop:= ∀ {l:List Stm} {a:Option Addr} {c:Nat} {es:K8} {k1 k2:Nat} {q:List HP},Zh l≤N→Wa B l→CellsAt q pc 0 [.map (some m1),.map (some m2)]→(Kn q fun M=>BlkAt M a c l∧StKs M (Zh l) es)→
 CallF prog G 161 [.pointer (some ⟨pc,0,none⟩),.slice a l.length c] (pto m1 (.map ((es).map Wf).toArray k1)::pto m2 (.map (([]).map Wf).toArray k2)::q) (Ret fun v q'=> ∃ (l':List Stm) (a':Option Addr) (c':Nat) (k1' k2':Nat),Zj l'=Zj l∧v= .slice a' l'.length c'∧q'=blM a' c' l'::pto m1 (.map ((es).map Wf).toArray k1')::pto m2 (.map (([]).map Wf).toArray k2')::q)
section
variable {G:World}{q:List HP}{pc m1 m2 b o k k1 k2 B N:Nat}{a:Option Addr}{c:Nat}{es:K8}
set_option maxHeartbeats 4000000 in
theorem cst_step {s:Stm}(IH:CSts G pc m1 m2 B N)(hB:B≤1000000)(hs:s.sz≤N+1)(hb:s.lm B)(hc:CellsAt q pc 0 [.map (some m1),.map (some m2)])(hK:Kn q fun M=>StAt M ⟨b,o,none⟩ s∧StKs M s.sz es):CallF prog G 187 [.pointer (some ⟨pc,0,none⟩),.pointer (some ⟨b,o,none⟩)] (pto m1 (.map ((es).map Wf).toArray k1)::pto m2 (.map (([]).map Wf).toArray k2)::q) (Ret fun v q'=> ∃ (s':Stm) (k1' k2':Nat),s'.er=s.er∧v= .agg (stC s').toArray∧q'=stM s'::pto m1 (.map ((es).map Wf).toArray k1')::pto m2 (.map (([]).map Wf).toArray k2')::q):=by
 refine CallF.of func187 ntmps187 rfl (fun F cs=> ?_)
 obtain ⟨k,ln,cl,nm,wt,⟨ek,en,enm,esl,elo,eop,el,ea,ec⟩,⟨xk,xn,xnm,xsl,xlo,xop,xl,xa,xc⟩,bd,es2,ba,bc,ea2,ec2,id,sl,ot,lo⟩:=s
 obtain ⟨hb1,hb2,hb3,hb4⟩:=hb
 have hCs:=Kn.stC (hK.imp fun M h=>h.1)
 have hKe:Kn q fun M=>ExAt M ⟨b,o+5,none⟩ (Ex.mk ek en enm esl elo eop el ea ec)∧ExKs M (Ex.sz (Ex.mk ek en enm esl elo eop el ea ec)) []:=hK.imp fun M h=>⟨Yk (pre:= [.int .i64 k,.int .i64 ln,.int .i64 cl,.string nm,.string wt]) h.1.1 rfl h.1.2.1 rfl,fun _ h=>by cases h⟩
 have hKx:Kn q fun M=>ExAt M ⟨b,o+12,none⟩ (Ex.mk xk xn xnm xsl xlo xop xl xa xc)∧ExKs M (Ex.sz (Ex.mk xk xn xnm xsl xlo xop xl xa xc)) []:=hK.imp fun M h=>⟨Yk (pre:= [.int .i64 k,.int .i64 ln,.int .i64 cl,.string nm,.string wt]++exC (Ex.mk ek en enm esl elo eop el ea ec)) h.1.1 rfl h.1.2.2.1 rfl,fun _ h=>by cases h⟩
 have hsz:Zh bd≤N∧Zh es2≤N:=by simp only [Stm.sz] at hs;omega
 have hKb:Kn q fun M=>BlkAt M ba bc bd∧StKs M (Zh bd) (es++ [((⟨b,o,none⟩:Addr),(.agg [].toArray:Value),k1)]:K8):=hK.imp fun M h=>⟨h.1.2.2.2.1,(h.2.down (by simp only [Stm.sz];omega)).more h.1 (by simp only [Stm.sz];omega)⟩
 have hKl:Kn q fun M=>BlkAt M ea2 ec2 es2∧StKs M (Zh es2) (es++ [((⟨b,o,none⟩:Addr),(.agg [].toArray:Value),k1)]:K8):=hK.imp fun M h=>⟨⟨h.1.2.2.2.2.1,h.1.2.2.2.2.2⟩,(h.2.down (by simp only [Stm.sz];omega)).more h.1 (by simp only [Stm.sz];omega)⟩
 obtain ⟨J_,hJ,_,hJ2,_⟩:=info_parts V0;have hJz:J_.size≠0:=by rw [hJ2];decide
 refine xo 2 ?_;refine XO.al zeroValue126 fun n1=> ?_
 refine oo 6 ?_;refine ld ?_ (hc:=((hc.le leA) 0 _ rfl))
 refine oo 2 ?_;refine XO.ef0 (Ed underlying305 underlying146 hJ hJz rfl rfl rfl ((KeysAt.st hK).le leA) Zk) ?_;rintro _ _ ⟨rfl,rfl⟩
 refine oo 6 ?_;refine ld ?_ (hc:=((hc.le leA) 0 _ rfl))
 refine oo 1 ?_;refine XO.dfDel (fun cst=> ?_)
 refine oo 5 ?_;refine XO.ldC (us:=stC (.mk k ln cl nm wt (Ex.mk ek en enm esl elo eop el ea ec) (Ex.mk xk xn xnm xsl xlo xop xl xa xc) bd es2 ba bc ea2 ec2 id sl ot lo)) isAgg126 sizeOf126 rfl (hCs.le leA) ?_
 refine XO.al zeroValue126 fun n2=> ?_
 refine stA ?_;refine ox 2 ?_;refine drw ?_;refine dd [0,1,2,3,5,6,7,8] ?_;refine Y5 4 call204 Zk (Cv B (e:=(Ex.mk ek en enm esl elo eop el ea ec)) hb1 hB (hc.le leA) (hKe.le leA)) ?_
 rintro _ _ ⟨⟨fk,fn,fnm,fsl,flo,fop,fl,fa,fc⟩,kkf,hrf,rfl,rfl⟩
 refine ⟨trivial,?_⟩
 refine dd [10] ?_;refine Y5 9 call204 Zk (Cv B (e:=(Ex.mk xk xn xnm xsl xlo xop xl xa xc)) hb2 hB (hc.le leA) (hKx.le leA)) ?_
 rintro _ _ ⟨⟨yk,yn,ynm,ysl,ylo,yop,yl,ya,yc⟩,kky,hry,rfl,rfl⟩
 refine ⟨trivial,?_⟩
 refine V1 11 ?_;refine dd [12] ?_;refine V1 13 ?_;refine XD.nil ?_;refine xx 1 ?_;refine drw ?_;refine dd [0,1,2,3] ?_;refine ldD 4 ?_ (hc:=((hCs.le leA) 19 _ rfl))
 refine dd [6,7,8,9] ?_;refine ldD 10 ?_ (hc:=((hCs.le leA) 20 _ rfl))
 refine Y5 5 call161 (Le.pick Zk Zk) (IH (l:=bd) (es:=(es++ [((⟨b,o,none⟩:Addr),(.agg [].toArray:Value),k1)]:K8)) hsz.1 hb3 (hc.le leA) (hKb.le leA)) ?_
 rintro _ _ ⟨l1,a1,c1,p1,r1,hl1,rfl,rfl⟩
 refine ⟨(hlA (h:=by repeat first|exact trivial|refine ⟨clA,?_⟩|refine ⟨(hCs.le leA) 19 _ rfl,?_⟩|refine ⟨(hCs.le leA) 20 _ rfl,?_⟩)),?_⟩
 refine dd [12] ?_;refine Y5 11 call161 (Le.pick Zk Zk) (IH (l:=es2) (es:=(es++ [((⟨b,o,none⟩:Addr),(.agg [].toArray:Value),k1)]:K8)) hsz.2 hb4 (hc.le leA) (hKl.le leA)) ?_
 rintro _ _ ⟨l2,a2,c2,p2,r2,hl2,rfl,rfl⟩
 refine ⟨trivial,?_⟩
 refine stD 13 ?_;refine dd [14] ?_;refine stD 15 ?_;refine XD.nil ?_;refine xo 2 ?_;refine ldA ?_;refine stA ?_;refine ox 1 ?_;refine X.le (q':=exM (Ex.mk fk fn fnm fsl flo fop fl fa fc)::exM (Ex.mk yk yn ynm ysl ylo yop yl ya yc)::blM a1 c1 l1::blM a2 c2 l2::_) (Le.pick Zk (Le.pick Zk (Le.pick Zk Zk))) ?_
 refine X.le (q':=stM (Stm.mk k ln cl nm wt (Ex.mk fk fn fnm fsl flo fop fl fa fc) (Ex.mk yk yn ynm ysl ylo yop yl ya yc) l1 l2 a1 c1 a2 c2 id sl ot lo)::_) (Le.trans (Kn.add (φ:=fun M=>Stm.At M (Stm.mk k ln cl nm wt (Ex.mk fk fn fnm fsl flo fop fl fa fc) (Ex.mk yk yn ynm ysl ylo yop yl ya yc) l1 l2 a1 c1 a2 c2 id sl ot lo)) (mn:=fun l h=>Stm.At.mono l h) ((Kn.exM.and (Kn.exM.there.and (Kn.blM.there.there.and Kn.blM.there.there.there))).imp fun M h=>⟨h.1,h.2.1,h.2.2.1,h.2.2.2.1,h.2.2.2.2⟩)) (Le.cons _ ((Le.drop _ _).trans ((Le.drop _ _).trans ((Le.drop _ _).trans (Le.drop _ _)))))) ?_
 exact X.ret ⟨rfl,Lv.del (mt:=305) rfl underlying305 underlying146 hJ hJz ((KeysAt.st hK).le leA) Zk (Lv.ret (q':=(stM (Stm.mk k ln cl nm wt (Ex.mk fk fn fnm fsl flo fop fl fa fc) (Ex.mk yk yn ynm ysl ylo yop yl ya yc) l1 l2 a1 c1 a2 c2 id sl ot lo)::pto m1 (.map ((es).map Wf).toArray p2)::pto m2 (.map (([]).map Wf).toArray r2)::q)) func187 (rA_ results187) ⟨_,rfl,(Stm.mk k ln cl nm wt (Ex.mk fk fn fnm fsl flo fop fl fa fc) (Ex.mk yk yn ynm ysl ylo yop yl ya yc) l1 l2 a1 c1 a2 c2 id sl ot lo),p2,r2,by simp only [Stm.er,hl1,hl2,hrf,hry],rfl,rfl⟩ leA)⟩
set_option maxHeartbeats 4000000 in
theorem Ev {l:List Stm}(IH:CSt G pc m1 m2 B N)(hN:N≤1000000)(hs:Zh l≤N)(hb:Wa B l)(hc:CellsAt q pc 0 [.map (some m1),.map (some m2)])(hK:Kn q fun M=>BlkAt M a c l∧StKs M (Zh l) es):CallF prog G 161 [.pointer (some ⟨pc,0,none⟩),.slice a l.length c] (pto m1 (.map ((es).map Wf).toArray k1)::pto m2 (.map (([]).map Wf).toArray k2)::q) (Ret fun v q'=> ∃ (l':List Stm) (a':Option Addr) (c':Nat) (k1' k2':Nat),Zj l'=Zj l∧v= .slice a' l'.length c'∧q'=blM a' c' l'::pto m1 (.map ((es).map Wf).toArray k1')::pto m2 (.map (([]).map Wf).toArray k2')::q):=by
 refine CallF.of func161 ntmps161 rfl (fun F cs=> ?_)
 have hS:=Kn.sees (hK.imp fun M h=>h.1.1.2.2);have hl:l.length≤N:=Nat.le_trans (Jp l) hs;have hlen:=Zv Z9 l
 obtain ⟨J_,hJ,_,hJ2,_⟩:=info_parts V0;have hJz:J_.size≠0:=by rw [hJ2];decide
 refine xx 16 ?_;refine X.at (X.loop (fun (s:(Nat×Nat×Nat)×Option Addr×Nat×List Stm)=>s.1.1≤l.length∧Zj s.2.2.2=Zj (l.take s.1.1)∧s.2.2.2.length=s.1.1) (fun s=> [(0,.pointer (some ⟨pc,0,none⟩)),(1,.slice a l.length c),(5,.slice s.2.1 s.2.2.2.length s.2.2.1),(10,.int .i64 (l.length:Int)),(11,.int .i64 (s.1.1:Int))]) (fun s=>rsH stC 25 126 s.2.1 s.2.2.1 s.2.2.2::stsM s.2.2.2::pto m1 (.map ((es).map Wf).toArray s.1.2.1)::pto m2 (.map (([]).map Wf).toArray s.1.2.2)::(q++F)) (fun s=>l.length - s.1.1) (fun s hi_ ih=> ?_) ((0,k1,k2),none,0, []) ⟨Nat.zero_le _,by simp [Zj],rfl⟩) Zd (Le.trans leA (Le.trans (Le.trans (Zl stC 25 126 _) Ki) leA))
 try dsimp only at hi_ ih⊢
 obtain ⟨hi1,hi2,hi3⟩:=hi_
 obtain ⟨⟨i,j1,j2⟩,a1,c1,l1⟩:=s;dsimp only at*
 refine xx 5 ?_;refine X.part 12 rfl (fun h0=> ?_) (fun h0=> ?_)
 · replace h0:=sp h0;have hlt:i<l.length:=(by omega)
   obtain ⟨x,hx⟩: ∃ x,x=l[i]:=⟨_,rfl⟩;have hxs:x.sz≤Zh l:=hx ▸ Uz (List.getElem_mem hlt);have hxb:x.lm B:=hx ▸ Jn hb (List.getElem_mem hlt)
   refine Yx (hS.le leA) (by rw [hlen];omega) (fun ab ao e_=> ?_);subst e_
   have hKx:Kn q fun M=>StAt M ⟨ab,ao+(i:Int).toNat*25,none⟩ x∧StKs M x.sz es:=hK.imp fun M h=>by
    obtain ⟨b',o',e1,e2⟩:=SeesZ.row Z9 (by decide) h.1.1.2.2 hlt
    cases e1
    exact ⟨⟨by rw [hx];exact e2,by rw [hx];exact Vb.1 h.1.2 _ (List.getElem_mem hlt)⟩,h.2.down hxs⟩
   refine xx 10 ?_;refine drw ?_;refine dd [0,1,2] ?_;refine ldD 3 ?_ (hc:=((hc.le leA) 0 _ rfl))
   refine dd [4,5,6] ?_;refine Y3 (fl:= [⟨11,7,fun g=> .pointer (some ⟨g,0,none⟩),fun g=>pto g (.cells [].toArray 309 (0,0))⟩]) ?_
   refine XF.ef 7 ⟨⟨_,rfl,rfl,rfl,rfl,rfl,rfl,fun q=>Ef.alloc zeroValue309⟩,trivial⟩ (Rd.efE (Dj underlying305 underlying146 hJ hJz rfl rfl ((KeysAt.st hKx).le leA) Zk zeroValue309)) ?_ (hL:=(hlA (h:=by repeat first|exact trivial|refine ⟨clA,?_⟩|refine ⟨(hc.le leA) 0 _ rfl,?_⟩)))
   rintro _ _ ⟨rfl,rfl⟩
   refine ⟨trivial,?_⟩
   refine Qu 8 ⟨⟨_,rfl,rfl,rfl,rfl,rfl,rfl,fun q=>Ef.alloc zeroValue309⟩,trivial⟩ (Pu.move rfl) ?_
   refine Qu 9 ⟨⟨_,rfl,rfl,rfl,rfl,rfl,rfl,fun q=>Ef.alloc zeroValue309⟩,trivial⟩ (Pu.extract rfl rfl) ?_
   refine Qu 10 ⟨⟨_,rfl,rfl,rfl,rfl,rfl,rfl,fun q=>Ef.alloc zeroValue309⟩,trivial⟩ (Pu.extract rfl rfl) ?_
   refine Vj (e0:=⟨11,7,fun g=> .pointer (some ⟨g,0,none⟩),fun g=>pto g (.cells [].toArray 309 (0,0))⟩) (hnd:=by simp) 11 ⟨⟨_,rfl,rfl,rfl,rfl,rfl,rfl,fun q=>Ef.alloc zeroValue309⟩,trivial⟩ (fun ne=> ?_)
   change XF _ _ _ _ _ _ _ [] _ _ _ ((7,.pointer (some ⟨ne,0,none⟩))::_) _ _ (pto ne (.cells [].toArray 309 (0,0))::_)
   refine XF.back ?_;refine V1 12 ?_;refine dd [13] ?_;refine XD.nil ?_;refine xo 3 ?_;refine Zt (Pu.not rfl) ?_;refine ox 1 ?_;refine X.kt 26 ?_;refine xo 7 ?_;refine Zf call187 (Le.pick Zk Zk) (IH (s:=x) (es:=es) (by omega) hxb (hc.le leA) (hKx.le leA)) ?_
   rintro _ _ ⟨s2,p2,r2,hs2,rfl,rfl⟩
   refine XO.ef (Yj stC underlying53 V0 rfl rfl Z9 rfl) ?_;rintro _ _ ⟨g,rfl,rfl⟩
   refine XO.ef (Yq (f:=stC) (l:=l1) (m:= [s2]) underlying53 V0 rfl rfl Z9 rfl rfl Zk ((Sees.rsH _).le Zk) Hl (by simp;omega) (by simp;omega)) ?_
   rintro _ _ ⟨a3,c3,rfl,rfl⟩
   refine ox 7 ?_;refine X.le (q':=stsM (l1++ [s2])::_) (Le.trans (Le.pick Zk Zk) Hc) ?_
   refine X.at (ih ((i+1,p2,r2),a3,c3,l1++ [s2]) ⟨by dsimp only;omega,by dsimp only;rw [P1 hlt,←hi2,←hx,←hs2,Yn,Yn,List.map_append];rfl,by dsimp only;rw [List.length_append];simp [hi3]⟩ (by dsimp only;omega)) Zd leA
 replace h0:=sp h0;obtain rfl:i=l.length:=(by omega);rw [List.take_length] at hi2;clear ih
 refine X.le (q':=rsH stC 25 126 a1 c1 l1::stsM l1::_) (Le.pick Zk Zk) ?_
 refine X.frzR (Kn.blk Kn.stsM) (mn:=BlkAt.mono) ?_ (hq:=Le.refl _)
 refine xx 7 ?_;refine Zq (blM a1 c1 l1::pto m1 (.map ((es).map Wf).toArray j1)::pto m2 (.map (([]).map Wf).toArray j2)::q) func161 (Zg results161 rfl) ⟨_,rfl,l1,a1,c1,j1,j2,hi2,rfl,rfl⟩
theorem Fx (hB:B≤1000000): ∀ N,N≤1000000→CSt G pc m1 m2 B N∧CSts G pc m1 m2 B N
 |0,_=>by
  have h0:CSt G pc m1 m2 B 0:=fun {s} _ _ _ _ _ _ hs=>absurd hs (by cases s;simp only [Stm.sz];omega)
  exact ⟨h0,fun hs hb hc hK=>Ev h0 (by omega) hs hb hc hK⟩
 |N+1,hN=>by
  have h:CSts G pc m1 m2 B N:=(Fx hB N (by omega)).2
  have h1:CSt G pc m1 m2 B (N+1):=fun hs hb hc hK=>cst_step h hB hs hb hc hK
  exact ⟨h1,fun hs hb hc hK=>Ev h1 hN hs hb hc hK⟩
end
end Go.Proofs.YtflkjkhijcdbaaaGreat
