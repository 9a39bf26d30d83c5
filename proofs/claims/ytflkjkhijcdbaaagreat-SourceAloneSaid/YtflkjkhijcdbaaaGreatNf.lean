/- Contracts. -/
import Derived.Test.YtflkjkhijcdbaaaGreatNe
set_option maxHeartbeats 16000000
set_option maxRecDepth 100000
set_option linter.all false
namespace Go.Proofs.YtflkjkhijcdbaaaGreat
open Go Go.RowKit Wx Go.Proofs.Tryz
variable {i n c d g p N p2:Nat}{U σ2:SyC}{G:World}{q:List HP}{a b:Option Addr}{s s2:Sy}{k t v m at_ number:Int}{rooms:List Int}
theorem Nz {α β:Type}(f:α->List β): ∀ (l:List α) (i n:Nat) (hi:i<l.length) (hn:n<(f l[i]).length),(l.flatMap f)[((l.take i).flatMap f).length+n]? =some (f l[i])[n]
 | [],_,_,hi,_=>by simp at hi
 |x::r,0,n,_,hn=>by
  simp only [List.getElem_cons_zero] at hn;simp [dV,hn]
 |x::r,i+1,n,hi,hn=>by
  have:=Nz f r i n (by simpa using hi) (by simpa using hn);simp only [kF,cH,aG,List.getElem_cons_succ];rw [cY (by omega),<-this];congr 1;omega
theorem N8 {α β:Type}(f:α->List β){l:List α}(hi:i<l.length):((l.take (i+1)).flatMap f).length=((l.take i).flatMap f).length+(f l[i]).length:=by
 rw [aH hi,iI,aG];simp
def wl (U:SyC):List Int:=U.conds.flatMap (·.l)
def wK (U:SyC)(i:Nat):Nat:=((U.conds.take i).flatMap (·.l)).length
theorem wK_get (hi:i<U.conds.length)(hn:n<U.conds[i].l.length):wK U i+n<(wl U).length/\(wl U)[wK U i+n]? =some U.conds[i].l[n]:=by
 have:=Nz (fun x:SlV Int=>x.l) U.conds i n hi hn;exact ⟨(cI.1 this).1,this⟩
theorem wK_step (hi:i<U.conds.length):wK U (i+1)=wK U i+U.conds[i].l.length:=N8 _ hi
def w1 (x:Int):List Value:= [I64 x]
section
variable {b0:Nat}
theorem Cx {y:Nat}{J:Nat->HP}{Jf:HP->Prop}(hC:U.conds.length<=1000)(hL: ∀ x∈U.conds,x.l.length<=100000)
 (hy: ∀ i (h:i<((wl U).map w1).length),CallV prog G (.func (.yield y) #[] #[]) ((wl U).map w1)[i] (J i:: [pto b0 (.cells [.pointer (some ⟨p,0,none⟩)].toArray 95 (0,0)),pto p (.cells [.bool true,.slice U.ao U.owners.length U.co,.slice U.ac U.conds.length U.cc,.slice U.ah U.chans.length U.ch].toArray 176 (0,0)),lsH I64 3 U.ao U.co U.owners,rsH cqs 1 191 U.ac U.cc U.conds,stars (U.conds.map (lsV 3)),rsH chs 3 180 U.ah U.ch U.chans,stars (U.chans.map fun x=>lsV 2 x.q)]) (Ret fun v q=>(v= .bool true/\q=J (i+1):: [pto b0 (.cells [.pointer (some ⟨p,0,none⟩)].toArray 95 (0,0)),pto p (.cells [.bool true,.slice U.ao U.owners.length U.co,.slice U.ac U.conds.length U.cc,.slice U.ah U.chans.length U.ch].toArray 176 (0,0)),lsH I64 3 U.ao U.co U.owners,rsH cqs 1 191 U.ac U.cc U.conds,stars (U.conds.map (lsV 3)),rsH chs 3 180 U.ah U.ch U.chans,stars (U.chans.map fun x=>lsV 2 x.q)])\/(v= .bool false/\ ∃ A,Jf A/\q=A:: [pto b0 (.cells [.pointer (some ⟨p,0,none⟩)].toArray 95 (0,0)),pto p (.cells [.bool true,.slice U.ao U.owners.length U.co,.slice U.ac U.conds.length U.cc,.slice U.ah U.chans.length U.ch].toArray 176 (0,0)),lsH I64 3 U.ao U.co U.owners,rsH cqs 1 191 U.ac U.cc U.conds,stars (U.conds.map (lsV 3)),rsH chs 3 180 U.ah U.ch U.chans,stars (U.chans.map fun x=>lsV 2 x.q)]))):
 CallF prog G 205 [.func (.yield y) #[] #[],.pointer (some ⟨b0,0,none⟩)] (J 0:: [pto b0 (.cells [.pointer (some ⟨p,0,none⟩)].toArray 95 (0,0)),pto p (.cells [.bool true,.slice U.ao U.owners.length U.co,.slice U.ac U.conds.length U.cc,.slice U.ah U.chans.length U.ch].toArray 176 (0,0)),lsH I64 3 U.ao U.co U.owners,rsH cqs 1 191 U.ac U.cc U.conds,stars (U.conds.map (lsV 3)),rsH chs 3 180 U.ah U.ch U.chans,stars (U.chans.map fun x=>lsV 2 x.q)]) (Ret fun _ q=>q=J (wl U).length:: [pto b0 (.cells [.pointer (some ⟨p,0,none⟩)].toArray 95 (0,0)),pto p (.cells [.bool true,.slice U.ao U.owners.length U.co,.slice U.ac U.conds.length U.cc,.slice U.ah U.chans.length U.ch].toArray 176 (0,0)),lsH I64 3 U.ao U.co U.owners,rsH cqs 1 191 U.ac U.cc U.conds,stars (U.conds.map (lsV 3)),rsH chs 3 180 U.ah U.ch U.chans,stars (U.chans.map fun x=>lsV 2 x.q)]\/ ∃ A,Jf A/\q=A:: [pto b0 (.cells [.pointer (some ⟨p,0,none⟩)].toArray 95 (0,0)),pto p (.cells [.bool true,.slice U.ao U.owners.length U.co,.slice U.ac U.conds.length U.cc,.slice U.ah U.chans.length U.ch].toArray 176 (0,0)),lsH I64 3 U.ao U.co U.owners,rsH cqs 1 191 U.ac U.cc U.conds,stars (U.conds.map (lsV 3)),rsH chs 3 180 U.ah U.ch U.chans,stars (U.chans.map fun x=>lsV 2 x.q)]):=by
 refine aC func205 ntmps205 rfl fun F cs=> ?_;change X _ _ _ _ _ _ _ _ (J 0::pto b0 (.cells [.pointer (some ⟨p,0,none⟩)].toArray 95 (0,0))::pto p (.cells [.bool true,.slice U.ao U.owners.length U.co,.slice U.ac U.conds.length U.cc,.slice U.ah U.chans.length U.ch].toArray 176 (0,0))::lsH I64 3 U.ao U.co U.owners::rsH cqs 1 191 U.ac U.cc U.conds::stars (U.conds.map (lsV 3))::rsH chs 3 180 U.ah U.ch U.chans::stars (U.chans.map fun x=>lsV 2 x.q)::F);have o:=Zx (f:=cqs) (sz:=1) (fun _=>rfl) U.conds;have j:Sees (pto b0 (.cells [.pointer (some ⟨p,0,none⟩)].toArray 95 (0,0))::pto p (.cells [.bool true,.slice U.ao U.owners.length U.co,.slice U.ac U.conds.length U.cc,.slice U.ah U.chans.length U.ch].toArray 176 (0,0))::lsH I64 3 U.ao U.co U.owners::rsH cqs 1 191 U.ac U.cc U.conds::stars (U.conds.map (lsV 3))::rsH chs 3 180 U.ah U.ch U.chans::stars (U.chans.map fun x=>lsV 2 x.q)::F) U.ac (U.conds.flatMap cqs):=(bE _).le leA;have a0: ∀ i (h:i<U.conds.length),Sees (pto b0 (.cells [.pointer (some ⟨p,0,none⟩)].toArray 95 (0,0))::pto p (.cells [.bool true,.slice U.ao U.owners.length U.co,.slice U.ac U.conds.length U.cc,.slice U.ah U.chans.length U.ch].toArray 176 (0,0))::lsH I64 3 U.ao U.co U.owners::rsH cqs 1 191 U.ac U.cc U.conds::stars (U.conds.map (lsV 3))::rsH chs 3 180 U.ah U.ch U.chans::stars (U.chans.map fun x=>lsV 2 x.q)::F) U.conds[i].a (U.conds[i].l.map I64):=fun i h=>((bR _).le (Tu (ty:=3) h))
 refine rn [2,0,2,0,4] ?_;refine aY (cG (fun (s:Nat)=>s<=U.conds.length) (fun s=> [(0,.func (.yield y) #[] #[]),(10,.slice U.ac U.conds.length U.cc),(11,I64 U.conds.length),(12,I64 s)]) (fun s=>J (wK U s)::pto b0 (.cells [.pointer (some ⟨p,0,none⟩)].toArray 95 (0,0))::pto p (.cells [.bool true,.slice U.ao U.owners.length U.co,.slice U.ac U.conds.length U.cc,.slice U.ah U.chans.length U.ch].toArray 176 (0,0))::lsH I64 3 U.ao U.co U.owners::rsH cqs 1 191 U.ac U.cc U.conds::stars (U.conds.map (lsV 3))::rsH chs 3 180 U.ah U.ch U.chans::stars (U.chans.map fun x=>lsV 2 x.q)::F) (fun s=>U.conds.length - s) (fun s b ih=> ?_) 0 (by omega)) Zu leA;try dsimp only at b ih|-
 obtain hi:=b;refine xx 5 ?_;refine dR 13 rfl ?_ ?_<;>intro z
 . have z:=cW z;have d:s<U.conds.length:=(by omega);have d0:=hL _ (aB d);refine Yd (j.le (leA)) (by rw [o];omega) fun u k t=> ?_;rw [t] at j;rw [t];refine xo 7 ?_;refine Nw (n:=s) isAgg191 sizeOf191 j d ?_;refine bW zeroValue191 fun n1=> ?_
   refine rn [0,5,0,4] ?_;refine aY (cG (fun (n:Nat)=>n<=U.conds[s].l.length) (fun n=> [(0,.func (.yield y) #[] #[]),(10,.slice (some ⟨u,k,none⟩) U.conds.length U.cc),(11,I64 U.conds.length),(12,I64 s),(18,.slice U.conds[s].a U.conds[s].l.length U.conds[s].c),(19,I64 (U.conds[s].l.length:Int)),(20,I64 n)]) (fun n=>J (wK U s+n)::pto b0 (.cells [.pointer (some ⟨p,0,none⟩)].toArray 95 (0,0))::pto p (.cells [.bool true,.slice U.ao U.owners.length U.co,.slice (some ⟨u,k,none⟩) U.conds.length U.cc,.slice U.ah U.chans.length U.ch].toArray 176 (0,0))::lsH I64 3 U.ao U.co U.owners::rsH cqs 1 191 (some ⟨u,k,none⟩) U.cc U.conds::stars (U.conds.map (lsV 3))::rsH chs 3 180 U.ah U.ch U.chans::stars (U.chans.map fun x=>lsV 2 x.q)::F) (fun n=>U.conds[s].l.length - n) (fun n b m=> ?_) 0 (by omega)) Zu leA;try dsimp only at b m|-
   obtain e0:=b;refine xx 5 ?_;refine dR 21 rfl ?_ ?_<;>intro w
   . have w:=cW w;have c0:n<U.conds[s].l.length:=(by omega);obtain ⟨hk,hg⟩:=wK_get d c0;have e:=hy (wK U s+n) (by simpa using hk);rw [show ((wl U).map w1)[wK U s+n]'(by simpa using hk)=w1 U.conds[s].l[n] by rw [eY];congr 1;exact gN ((aD hk).symm.trans hg)] at e;rw [t] at e;have g:=a0 s d;rw [t] at g;refine Yd (g.le leA) (by simp;omega) fun b2 o2 e2=> ?_;rw [e2] at g;rw [e2];refine rn [7,0,6] ?_;refine XO.cV e ?_;rintro _ _ (⟨rfl,rfl⟩|⟨rfl,A,hA,rfl⟩) _ r<;>simp only [ca,na] at r<;>subst r
     . refine Zt (bV rfl) ?_;refine rn [1,1027,7] ?_;rw [<-e2];refine aY (m (n+1) (by omega) (by omega)) Zu leA
     refine Zt (bV rfl) ?_;refine rn [1,2027,1] ?_;refine Zq (A:: [pto b0 (.cells [.pointer (some ⟨p,0,none⟩)].toArray 95 (0,0)),pto p (.cells [.bool true,.slice U.ao U.owners.length U.co,.slice (some ⟨u,k,none⟩) U.conds.length U.cc,.slice U.ah U.chans.length U.ch].toArray 176 (0,0)),lsH I64 3 U.ao U.co U.owners,rsH cqs 1 191 (some ⟨u,k,none⟩) U.cc U.conds,stars (U.conds.map (lsV 3)),rsH chs 3 180 U.ah U.ch U.chans,stars (U.chans.map fun x=>lsV 2 x.q)]) func205 (Vm results205) ⟨_,rfl,.inr ⟨A,hA,rfl⟩⟩
   have w:=of_decide_eq_false w;obtain rfl:n=U.conds[s].l.length:=by omega
   refine xx 7 ?_;rw [<-wK_step d,<-t];refine aY (ih (s+1) (by omega) (by omega)) Zu leA
 have z:=of_decide_eq_false z;obtain rfl:s=U.conds.length:=by omega
 refine xx 2 ?_;rw [show wK U U.conds.length=(wl U).length by unfold wK wl;rw [cD]];refine Z7 (J (wl U).length:: [pto b0 (.cells [.pointer (some ⟨p,0,none⟩)].toArray 95 (0,0)),pto p (.cells [.bool true,.slice U.ao U.owners.length U.co,.slice U.ac U.conds.length U.cc,.slice U.ah U.chans.length U.ch].toArray 176 (0,0)),lsH I64 3 U.ao U.co U.owners,rsH cqs 1 191 U.ac U.cc U.conds,stars (U.conds.map (lsV 3)),rsH chs 3 180 U.ah U.ch U.chans,stars (U.chans.map fun x=>lsV 2 x.q)]) func205 (Vm results205) ⟨_,rfl,.inl rfl⟩
abbrev Az (v0:Nat):=((.cells [.pointer (some ⟨v0,0,none⟩)].toArray 95 (0,0)):Obj)
theorem F4 (hC:U.conds.length<=1000)(hL: ∀ x∈U.conds,x.l.length<=100000):Iter prog G (.func (.func 205) [].toArray (AM b0).toArray) ((wl U).map w1) [pto b0 (Az p),pto p (.cells [.bool true,.slice U.ao U.owners.length U.co,.slice U.ac U.conds.length U.cc,.slice U.ah U.chans.length U.ch].toArray 176 (0,0)),lsH I64 3 U.ao U.co U.owners,rsH cqs 1 191 U.ac U.cc U.conds,stars (AP U),rsH chs 3 180 U.ah U.ch U.chans,stars (AN U)]:=by
 intro y J Jf a;have:=CallV.c11 call205 (Cx (G:=G) (b0:=b0) (p:=p) (U:=U) (J:=J) (Jf:=Jf) hC hL a);rw [aU];exact this
theorem L5:CallF prog G 194 (AM p) (q) (Ret fun v q'=> ∃ b0,v= .func (.func 205) [].toArray (AM b0).toArray/\q'=pto b0 (Az p)::q):=by
 refine aC func194 ntmps194 rfl fun F b=> ?_;refine xo 2 ?_;refine Ww fun a=> ?_
 refine ox 7 ?_;refine Zq (pto a (Az p)::q) func194 (Zn results194 rfl) ⟨_,rfl,a,rfl,rfl⟩
theorem Real.wl_mem (hR:Real U s)(t:Int):t∈wl U↔ ∃ l∈s.conds,t∈l:=by
 rw [<-hR.c];unfold wl;simp only [List.mem_flatMap,bU];exact ⟨fun ⟨x,a,h⟩=>⟨_,⟨x,a,rfl⟩,h⟩,fun ⟨_,⟨x,a,rfl⟩,h⟩=>⟨x,a,h⟩⟩
theorem Wait_ok (hR:Real U s)(hs:s.ok N)(hN:N<=1000):CallF prog G 171 (Ae p k t) ((syL p U)) (Ret fun v q'=> ∃ U',Real U' (U7 s k t).1/\v= I64 (U7 s k t).2/\q'=syL p U'):=by
 refine aC func171 ntmps171 rfl fun F cs=> ?_;have ho:=hR.lo;have hc:=hR.lc;have hh:=hR.lh;have a0:=hs.no;have l0:=hs.nc;have k0:=hs.nh;change X _ _ _ _ _ _ _ _ (A4 p U.ao U U.ac U.ah F);rcases aX (inR k U.conds.length) with w|w
 focus
  have b:inR k s.conds.length:=by rw [<-hc];exact w
  obtain ⟨i,rfl⟩:=aV w.1;have o:i<U.conds.length:=(by have:=w.2;omega);rcases aX (thr t) with z|z
  . have i0:=hs.lenC hR o hN;have e0:=hR.cl o;refine Yw (l:=U.conds) (by omega) fun g e_=> ?_;rw [e_];refine xo 2 ?_;refine Ww fun n1=> ?_
    refine bW zeroValue34 fun n2=> ?_
    refine rn [2,0,1,2,4,5] ?_;refine Y2 2 call88 (Vl (p:=p) (a:=(some ⟨g,0,none⟩)) (n:=U.conds.length) (c:=U.cc) clA clA) ?_;refine Y2 5 call87 (Zzz (p:=p) clA (by omega) o z) ?_;refine rn [7,8,9,10,11,0,6,1020,6] ?_;refine W3 call194 (L5 (q:= []) (p:=p)) ?_;refine kd1 fun b0=> ?_
    refine ox 2 ?_;have g0: ∀ x∈U.conds,x.l.length<=100000:=fun x hx=>by obtain ⟨j,d,rfl⟩:=gY.1 hx;have:=hs.lenC hR d hN;omega
    refine X.range [pto b0 (Az p),pto p (Ad U.ao U g U.ah),lsH I64 3 U.ao U.co U.owners,rsH cqs 1 191 (some ⟨g,0,none⟩) U.cc U.conds,stars (AP U),rsH chs 3 180 U.ah U.ch U.chans,stars (AN U)] (fun k:Nat=> [Wx.pure (∀ m (h:m<(wl U).length),m<k->(wl U)[m]≠t),pto n1 (.cells [I64 t].toArray 3 (0,0)),pto n2 (.cells [I64 0].toArray 34 (0,0))]) (fun e qs=>e= .ret/\t∈wl U/\qs= [pto n1 (.cells [I64 t].toArray 3 (0,0)),pto n2 (.cells [I64 141].toArray 34 (0,0))]) (F:=F) (F4 (U:= { U with ac:=(some ⟨g,0,none⟩) }) (by show U.conds.length<=_;omega) g0) rfl ?_ (by intro x hx;obtain ⟨y,_,rfl⟩:=bU.1 hx;rfl) rfl (by rw [func171];rfl) rfl (fun j d l2 rec F0 m0=> ?_) (fun r=> ?_) fun r c2 j0 hJ=> ?_
    . simp only [ca,na];refine aS ?_ (Ql (fun j h d=>by omega) _);exact leA
    . have d0:j<(wl U).length:=by have h:=d;rw [aU] at h;exact h
      rw [show ((wl { U with ac:=some ⟨g,0,none⟩ }).map w1)[j]'d=w1 (wl U)[j] from eY ..];refine X.sub (p':= [(24,_),(23,_),(7,_),(6,_),(5,_)]) ⟨rfl,rfl,rfl,rfl,rfl,trivial⟩ ?_;simp only [ca,na];refine bY (q':=Wx.pure (∀ m (h:m<(wl U).length),m<j->(wl U)[m]≠t)::lp rec l2 .ready none::_) leA (X.pure (fun hP=> ?_));refine xx 3 ?_;refine X.beginRound rfl leA ?_;refine rn [4,0,2] ?_;refine dR 27 rfl ?_ ?_<;>intro h0
      . have h0:(wl U)[j]=t:=by simpa using h0
        refine rn [3,0,1] ?_;refine X.ret ⟨rfl,rfl,_,⟨rfl,h0 ▸ aB d0,rfl⟩,?_⟩;simp only [ca,na];exact leA
      have h0:(wl U)[j]≠t:=by simpa using h0
      refine xx 3 ?_;refine X.fall ⟨rfl,rfl,?_⟩;simp only [ca,na];have f0:(∀ m (h:m<(wl U).length),m<(j+1)->(wl U)[m]≠t):=fun k h hk=>(dQ k j).elim (hP k h) (fun h1=>by have c0:k=j:=(by omega);subst c0;exact h0)
      refine bM Zk (aS ?_ (Ql f0 _));exact leA
    . simp only [ca,na,aU];refine bY (q':=Wx.pure (∀ m (h:m<(wl U).length),m<(wl U).length->(wl U)[m]≠t)::_) Zk (X.pure (fun hP=> ?_));have a0: ¬∃ l∈s.conds,t∈l:=by rw [<-hR.wl_mem];intro hm;obtain ⟨j,d,e⟩:=gY.1 hm;exact hP j d d e
      refine bY (Tu (l:=U.conds) o) ?_;refine rn [2,0,1,2,3,4] ?_;refine dS 30 (.pointer (some ⟨g,i*1,none⟩)) rfl (by simp) ?_;refine Ua 4 call195 (put_ok (f:=cqs) (sz:=1) (ty:=191) (l:=U.conds) (i:=i) (t:=t) (m:=U.conds[i].l) (a:=U.conds[i].a) (c:=U.conds[i].c) (u:=fun a c=>⟨a,c,U.conds[i].l++ [t]⟩) o (fun _=>rfl) rfl rfl (by omega) (fun _ _=>rfl)) ?_;rintro _ _ ⟨a2,c2,rfl⟩ _ e_;simp only [ca,na] at e_;subst e_;refine ⟨trivial,?_⟩;refine rn [0,2,0,1] ?_;refine bY (Tn o (a:=a2) (c:=c2) (m:=U.conds[i].l++ [t])) ?_;rw [show U7 s (i:Int) t=({ s with conds:=s.conds.set i (U.conds[i].l++ [t]) },0) from (if_pos b).trans ((if_pos z).trans ((if_neg a0).trans (by rw [<-e0];rfl)))];refine X.ret ⟨rfl,Eh ?_⟩;exact jG (q':= [pto p (Ad U.ao U g U.ah),lsH I64 3 U.ao U.co U.owners,rsH cqs 1 191 (some ⟨g,0,none⟩) U.cc (U.conds.set i ⟨a2,c2,U.conds[i].l++ [t]⟩),stars ((U.conds.set i ⟨a2,c2,U.conds[i].l++ [t]⟩).map (lsV 3)),rsH chs 3 180 U.ah U.ch U.chans,stars (AN U)]) func171 (Bi results171 (eE rfl (LV.cell isAgg34 clA) eI)) ⟨_,rfl, { U with ac:=(some ⟨g,0,none⟩),conds:=U.conds.set i ⟨a2,c2,U.conds[i].l++ [t]⟩ },hR.setC i ⟨a2,c2,U.conds[i].l++ [t]⟩ _,rfl,by unfold syL;simp⟩ leA
    obtain ⟨rfl,hm,rfl⟩:=hJ;simp only [ca,na];rw [show U7 s (i:Int) t=(s,141) from (if_pos b).trans ((if_pos z).trans (if_pos ((hR.wl_mem t).1 hm)))];refine X.ret ⟨rfl,Eh ?_⟩;exact jG (q':= [pto p (Ad U.ao U g U.ah),lsH I64 3 U.ao U.co U.owners,rsH cqs 1 191 (some ⟨g,0,none⟩) U.cc U.conds,stars (AP U),rsH chs 3 180 U.ah U.ch U.chans,stars (AN U)]) func171 (Bi results171 (eE rfl (LV.cell isAgg34 clA) eI)) ⟨_,rfl,U,hR,rfl,by unfold syL;rw [e_]⟩ leA
  refine xo 2 ?_;refine Ww fun n1=> ?_
  refine bW zeroValue34 fun n2=> ?_
  refine rn [2,0,1,2,4,5] ?_;refine Y2 2 call88 (Vl (p:=p) (a:=U.ac) (n:=U.conds.length) (c:=U.cc) clA clA) ?_;refine Y2 5 call87 (S7 (p:=p) clA (by omega) o z) ?_;refine rn [7,8,9,10,11,0,6,2020,4,0,1] ?_;rw [show U7 s _ t=(s,2) from (if_pos b).trans (if_neg z)]
 rotate_left
 focus
  have b: ¬inR k s.conds.length:=by rw [<-hc];exact w
  refine xo 2 ?_;refine Ww fun n1=> ?_
  refine bW zeroValue34 fun n2=> ?_
  refine rn [2,0,1,2,4,5] ?_;refine Y2 2 call88 (Vl (p:=p) (a:=U.ac) (n:=U.conds.length) (c:=U.cc) clA clA) ?_;refine Y2 5 call87 (S6 (p:=p) clA (by omega) w) ?_;refine rn [7,8,9,10,11,0,6,2020,4,0,1] ?_;rw [show U7 s _ t=(s,4) from if_neg b]
 all_goals
  refine Zq (A5 p U.ao U U.ac U.ah) func171 (Bi results171 (eE rfl (LV.cell isAgg34 clA) eI)) ⟨_,rfl,U,hR,rfl,rfl⟩
end
theorem E7 {α:Type}(h:α->HP)(l:List α)(hx: ∀ x∈l,∀ q,Le q (h x::q))(q:List HP):Le q (stars (l.map h)::q):=by
 induction l with
 |nil=>exact W6 q
 |cons x r ih=>exact (ih fun y a=>hx y (bZ _ a)).trans ((hx x (bI ..) _).trans (Uz _ _ q))
theorem Ro {α:Type}(f d:List α)(i:Nat)(x:α)(hf:f.length=i)(hd:0<d.length):(f++d).set i x=(f++ [x])++d.drop 1:=by
 subst hf
 cases d with
 |nil=>simp at hd
 |cons y r=>simp
def sameS (s t:Sy):Prop:=s.owners=t.owners/\s.conds=t.conds/\s.chans.map Ch.row=t.chans.map Ch.row
instance (s t:Sy):Decidable (sameS s t):=by unfold sameS;exact inferInstance
def Dy (m c:Nat)(rooms:List Int):Sy:=⟨List.replicate m (-1),List.replicate c [],rooms.map fun r=>⟨r, [],0⟩⟩
abbrev Bu (r:Int):Prop:=1<=r/\r<=16
def Nq (m c:Int)(rooms:List Int):Prop:=(0<=m/\m<=64)/\(0<=c/\c<=64)/\rooms.length<=64/\ ∀ r∈rooms,Bu r
instance (m c:Int) (rooms:List Int):Decidable (Nq m c rooms):=by unfold Nq;exact inferInstance
theorem newS_ok {m:Nat}(h:Nq m c rooms):(Dy m c rooms).ok 0:=by
 obtain ⟨⟨_,n⟩,⟨_,k⟩,j,i⟩:=h;refine ⟨by simp [Dy];omega,by simp [Dy];omega,by simp [Dy];omega,fun o f=> ?_,fun l g=> ?_,fun x d=> ?_⟩
 . have:=(gO.1 f).2;omega
 . have:=(gO.1 g).2;subst this;simp
 obtain ⟨r,e,rfl⟩:=bU.1 d;obtain ⟨a,b⟩:=i r e;exact ⟨⟨a,b⟩,by simp,by simp,by simp [Ch.items];omega,by simp⟩
def ch1 (r:Int):ChC:=⟨⟨none,0, []⟩,r,0⟩
section
variable {mm cc:Int}
theorem New_no (hs:Sees q a (rooms.map I64))(ok: ¬Nq mm cc rooms):CallF prog G 46 [I64 mm,I64 cc,.slice a rooms.length c] (q) (Ret fun v q'=>v= .tuple [.pointer none,I64 2].toArray/\q'=q):=by
 refine aC func46 ntmps46 rfl fun F cs=> ?_;refine xo 11 ?_;refine Zf [13,7,6,0,1,2] ?_;apply Zy 3 16 13 rfl
 . intro b d;have h:=sp b;refine oo 3 ?_;exact Zz d ⟨orF b,Zv⟩
 . intro b d;have h:=sp b;refine oo 3 ?_;exact Zz d ⟨orT b,Zv⟩
 refine oo 1 ?_;refine Zf [17,7,6,0,1,2] ?_;apply Zy 3 20 17 rfl
 . intro b d;have h:=sp b;refine oo 3 ?_;exact Zz d ⟨orF b,Zv⟩
 . intro b d;have h:=sp b;refine oo 3 ?_;exact Zz d ⟨orT b,Zv⟩
 refine oo 1 ?_;refine Zf [21,7,6,0,1,2] ?_;apply Zy 3 24 21 rfl
 . intro b d;have h:=sp b;refine oo 3 ?_;exact Zz d ⟨orF b,Zv⟩
 . intro b d;have h:=sp b;refine oo 3 ?_;exact Zz d ⟨orT b,Zv⟩
 refine oo 1 ?_;refine Zf [25,7,6,0,1,2] ?_;apply Zy 4 29 25 rfl
 . intro b d;have h:=sp b;refine oo 4 ?_;exact Zz d ⟨orF b,Zv⟩
 . intro b d;have h:=sp b;refine oo 4 ?_;exact Zz d ⟨orT b,Zv⟩
 refine ox 1 ?_;rcases aX ((0<=mm/\mm<=64)/\(0<=cc/\cc<=64)/\rooms.length<=64) with hf|hf
 . obtain ⟨⟨z,b0⟩,⟨a0,f0⟩,hl⟩:=hf;refine Jc 29 ?_;obtain ⟨M,rfl⟩:=aV z;obtain ⟨C,rfl⟩:=aV a0;refine xo 5 ?_;refine bQ (Bk (n:=C) rfl rfl underlying173 gW rfl rfl (by omega) (by omega)) ?_;rintro _ _ ⟨g,rfl,rfl⟩;refine eU (q':=rsH cqs 1 191 (some ⟨g,0,none⟩) C (List.replicate C ⟨none,0, []⟩)::(q++F)) (by unfold rsH;rw [show (List.replicate C (⟨none,0, []⟩:SlV Int)).flatMap cqs=(List.replicate C (Value.slice none 0 0).cells.toList).flatten by simp [List.flatMap,cqs,Value.cells],cU];exact leA) ?_;refine oo 1 ?_;refine Ww fun x=> ?_
   refine ox 9 ?_;refine aY (cG (fun (s:Nat×Option Addr×Nat)=>s.1<=M) (fun s=> [(2,.slice a rooms.length c),(8,pt x),(34,I64 M),(35,I64 (s.1:Int))]) (fun s=>pto x (.cells [.bool true,.slice s.2.1 (List.replicate s.1 (-1:Int)).length s.2.2,.slice (some ⟨g,0,none⟩) C C,.slice none 0 0].toArray 176 (0,0))::lsH I64 3 s.2.1 s.2.2 (List.replicate s.1 (-1))::rsH cqs 1 191 (some ⟨g,0,none⟩) C (List.replicate C ⟨none,0, []⟩)::(q++F)) (fun s=>M - s.1) (fun s e o=> ?_) (0,none,0) (by dsimp only;omega)) Zu (aS leA (aS (Za I64 3 _) leA));try dsimp only at e o|-
   obtain hi:=e;obtain ⟨i,a1,c1⟩:=s;dsimp only at*;refine xx 5 ?_;refine dR 36 rfl ?_ ?_<;>intro k
   . have k:=cW k;have e0:i<M:=(by omega);refine rn [9,0] ?_;refine bQ (U3 (u:= -1) I64 underlying22 fN rfl rfl) ?_;rintro _ _ ⟨g2,rfl,rfl⟩;refine bQ (Yx (f:=I64) (l:=List.replicate i (-1)) (m:= [-1]) underlying22 fN rfl rfl rfl Zk ((bR _).le leA) (fun _=>rfl) (by simp;omega) (by simp;omega)) ?_;rintro _ _ ⟨a2,c2,rfl,rfl⟩;rw [<-List.replicate_succ' (n:=i)];refine rn [2,0,6] ?_;refine aY (o (i+1,a2,c2) (by dsimp only;omega) (by dsimp only;omega)) Zu leA
   have k:=of_decide_eq_false k;obtain rfl:i=M:=by omega
   clear o;refine xx 10 ?_;refine aY (cG (fun (s:Nat×Option Addr×Nat)=>s.1<=rooms.length/\ ∀ r∈rooms.take s.1,Bu r) (fun s=> [(8,pt x),(47,.slice a rooms.length c),(48,I64 rooms.length),(49,I64 (s.1:Int))]) (fun s=>pto x (.cells [.bool true,.slice a1 (List.replicate i (-1:Int)).length c1,.slice (some ⟨g,0,none⟩) C C,.slice s.2.1 ((rooms.take s.1).map ch1).length s.2.2].toArray 176 (0,0))::lsH I64 3 a1 c1 (List.replicate i (-1))::rsH cqs 1 191 (some ⟨g,0,none⟩) C (List.replicate C ⟨none,0, []⟩)::rsH chs 3 180 s.2.1 s.2.2 ((rooms.take s.1).map ch1)::(q++F)) (fun s=>rooms.length - s.1) (fun s e o=> ?_) (0,none,0) ⟨by dsimp only;omega,by simp⟩) Zu (aS leA (aS (Zi chs 3 180 _) leA));try dsimp only at e o|-
   obtain ⟨d0,w⟩:=e;obtain ⟨j,a3,c3⟩:=s;dsimp only at*;refine xx 5 ?_;refine dR 50 rfl ?_ ?_<;>intro k
   . have k:=cW k;have t:j<rooms.length:=(by omega);refine Yd (hs.le leA) (by simp;omega) fun b1 o1 e_=> ?_;subst e_;refine rn [7,0,8] ?_;refine Zf [55,10,8,47,48,49] ?_;apply Zy 3 58 55 rfl
     . intro b d;have h:=sp b;refine oo 3 ?_;exact Zz d ⟨orF b,Zv⟩
     . intro b d;have h:=sp b;refine oo 3 ?_;exact Zz d ⟨orT b,Zv⟩
     refine ox 1 ?_;rcases aX (Bu rooms[j]) with hk|hk
     . refine rn [1058,7,0,2] ?_;refine bQ (Yz (u:=ch1 rooms[j]) chs underlying174 fQ rfl rfl (fun _=>rfl) rfl) ?_;rintro _ _ ⟨g2,rfl,rfl⟩;have c0:((rooms.take j).map ch1).length=j:=by simp;omega
       refine bQ (Z9 (l:=(rooms.take j).map ch1) (m:= [ch1 rooms[j]]) underlying174 fQ rfl rfl (fun _=>rfl) rfl rfl Zk ((bE _).le leA) (fun _=>rfl) (by simp;omega) (by simp;omega)) ?_;rintro _ _ ⟨a4,c4,rfl,rfl⟩;rw [show (rooms.take j).map ch1++ [ch1 rooms[j]]=(rooms.take (j+1)).map ch1 by rw [aH t,aM];rfl];refine rn [2,0,6] ?_;refine aY (o (j+1,a4,c4) ⟨by dsimp only;omega,by dsimp only;rw [aH t];intro y p;rcases aQ.1 p with p|p;exact w y p;rw [aZ.1 p];exact hk⟩ (by dsimp only;omega)) Zu leA
     refine rn [2058,6] ?_;refine Zq (q) func46 (Wu results46 rfl rfl) ⟨_,rfl,rfl,rfl⟩
   have k:=of_decide_eq_false k;obtain rfl:j=rooms.length:=by omega
   rw [cD] at*;exact aR ⟨⟨by omega,by omega⟩,⟨by omega,by omega⟩,hl,w⟩ ok
 refine rn [2029,6] ?_;refine Zq (q) func46 (Wu results46 rfl rfl) ⟨_,rfl,rfl,rfl⟩
theorem New_ok (hs:Sees q a (rooms.map I64))(ok:Nq mm cc rooms):CallF prog G 46 [I64 mm,I64 cc,.slice a rooms.length c] (q) (Ret fun v q'=> ∃ p U,Real U (Dy mm.toNat cc.toNat rooms)/\v= .tuple [.pointer (some ⟨p,0,none⟩),I64 0].toArray/\q'=syL p U++q):=by
 refine aC func46 ntmps46 rfl fun F cs=> ?_;refine xo 11 ?_;refine Zf [13,7,6,0,1,2] ?_;apply Zy 3 16 13 rfl
 . intro b d;have h:=sp b;refine oo 3 ?_;exact Zz d ⟨orF b,Zv⟩
 . intro b d;have h:=sp b;refine oo 3 ?_;exact Zz d ⟨orT b,Zv⟩
 refine oo 1 ?_;refine Zf [17,7,6,0,1,2] ?_;apply Zy 3 20 17 rfl
 . intro b d;have h:=sp b;refine oo 3 ?_;exact Zz d ⟨orF b,Zv⟩
 . intro b d;have h:=sp b;refine oo 3 ?_;exact Zz d ⟨orT b,Zv⟩
 refine oo 1 ?_;refine Zf [21,7,6,0,1,2] ?_;apply Zy 3 24 21 rfl
 . intro b d;have h:=sp b;refine oo 3 ?_;exact Zz d ⟨orF b,Zv⟩
 . intro b d;have h:=sp b;refine oo 3 ?_;exact Zz d ⟨orT b,Zv⟩
 refine oo 1 ?_;refine Zf [25,7,6,0,1,2] ?_;apply Zy 4 29 25 rfl
 . intro b d;have h:=sp b;refine oo 4 ?_;exact Zz d ⟨orF b,Zv⟩
 . intro b d;have h:=sp b;refine oo 4 ?_;exact Zz d ⟨orT b,Zv⟩
 refine ox 1 ?_;rcases aX ((0<=mm/\mm<=64)/\(0<=cc/\cc<=64)/\rooms.length<=64) with hf|hf
 . obtain ⟨⟨a0,d0⟩,⟨c0,i0⟩,hl⟩:=hf;refine Jc 29 ?_;obtain ⟨M,rfl⟩:=aV a0;obtain ⟨C,rfl⟩:=aV c0;refine xo 5 ?_;refine bQ (Bk (n:=C) rfl rfl underlying173 gW rfl rfl (by omega) (by omega)) ?_;rintro _ _ ⟨g,rfl,rfl⟩;refine eU (q':=rsH cqs 1 191 (some ⟨g,0,none⟩) C (List.replicate C ⟨none,0, []⟩)::(q++F)) (by unfold rsH;rw [show (List.replicate C (⟨none,0, []⟩:SlV Int)).flatMap cqs=(List.replicate C (Value.slice none 0 0).cells.toList).flatten by simp [List.flatMap,cqs,Value.cells],cU];exact leA) ?_;refine oo 1 ?_;refine Ww fun t=> ?_
   refine ox 9 ?_;refine aY (cG (fun (s:Nat×Option Addr×Nat)=>s.1<=M) (fun s=> [(2,.slice a rooms.length c),(8,pt t),(34,I64 M),(35,I64 (s.1:Int))]) (fun s=>pto t (.cells [.bool true,.slice s.2.1 (List.replicate s.1 (-1:Int)).length s.2.2,.slice (some ⟨g,0,none⟩) C C,.slice none 0 0].toArray 176 (0,0))::lsH I64 3 s.2.1 s.2.2 (List.replicate s.1 (-1))::rsH cqs 1 191 (some ⟨g,0,none⟩) C (List.replicate C ⟨none,0, []⟩)::(q++F)) (fun s=>M - s.1) (fun s e w=> ?_) (0,none,0) (by dsimp only;omega)) Zu (aS leA (aS (Za I64 3 _) leA));try dsimp only at e w|-
   obtain hi:=e;obtain ⟨i,a1,c1⟩:=s;dsimp only at*;refine xx 5 ?_;refine dR 36 rfl ?_ ?_<;>intro k
   . have k:=cW k;have g0:i<M:=(by omega);refine rn [9,0] ?_;refine bQ (U3 (u:= -1) I64 underlying22 fN rfl rfl) ?_;rintro _ _ ⟨g2,rfl,rfl⟩;refine bQ (Yx (f:=I64) (l:=List.replicate i (-1)) (m:= [-1]) underlying22 fN rfl rfl rfl Zk ((bR _).le leA) (fun _=>rfl) (by simp;omega) (by simp;omega)) ?_;rintro _ _ ⟨a2,c2,rfl,rfl⟩;rw [<-List.replicate_succ' (n:=i)];refine rn [2,0,6] ?_;refine aY (w (i+1,a2,c2) (by dsimp only;omega) (by dsimp only;omega)) Zu leA
   have k:=of_decide_eq_false k;obtain rfl:i=M:=by omega
   clear w;refine xx 10 ?_;refine aY (cG (fun (s:Nat×Option Addr×Nat)=>s.1<=rooms.length/\ ∀ r∈rooms.take s.1,Bu r) (fun s=> [(8,pt t),(47,.slice a rooms.length c),(48,I64 rooms.length),(49,I64 (s.1:Int))]) (fun s=>pto t (.cells [.bool true,.slice a1 (List.replicate i (-1:Int)).length c1,.slice (some ⟨g,0,none⟩) C C,.slice s.2.1 ((rooms.take s.1).map ch1).length s.2.2].toArray 176 (0,0))::lsH I64 3 a1 c1 (List.replicate i (-1))::rsH cqs 1 191 (some ⟨g,0,none⟩) C (List.replicate C ⟨none,0, []⟩)::rsH chs 3 180 s.2.1 s.2.2 ((rooms.take s.1).map ch1)::(q++F)) (fun s=>rooms.length - s.1) (fun s e w=> ?_) (0,none,0) ⟨by dsimp only;omega,by simp⟩) Zu (aS leA (aS (Zi chs 3 180 _) leA));try dsimp only at e w|-
   obtain ⟨f0,b0⟩:=e;obtain ⟨j,a3,c3⟩:=s;dsimp only at*;refine xx 5 ?_;refine dR 50 rfl ?_ ?_<;>intro k
   . have k:=cW k;have o:j<rooms.length:=(by omega);refine Yd (hs.le leA) (by simp;omega) fun b1 o1 e_=> ?_;subst e_;refine rn [7,0,8] ?_;refine Zf [55,10,8,47,48,49] ?_;apply Zy 3 58 55 rfl
     . intro b d;have h:=sp b;refine oo 3 ?_;exact Zz d ⟨orF b,Zv⟩
     . intro b d;have h:=sp b;refine oo 3 ?_;exact Zz d ⟨orT b,Zv⟩
     refine ox 1 ?_;rcases aX (Bu rooms[j]) with hk|hk
     . refine rn [1058,7,0,2] ?_;refine bQ (Yz (u:=ch1 rooms[j]) chs underlying174 fQ rfl rfl (fun _=>rfl) rfl) ?_;rintro _ _ ⟨g2,rfl,rfl⟩;have e0:((rooms.take j).map ch1).length=j:=by simp;omega
       refine bQ (Z9 (l:=(rooms.take j).map ch1) (m:= [ch1 rooms[j]]) underlying174 fQ rfl rfl (fun _=>rfl) rfl rfl Zk ((bE _).le leA) (fun _=>rfl) (by simp;omega) (by simp;omega)) ?_;rintro _ _ ⟨a4,c4,rfl,rfl⟩;rw [show (rooms.take j).map ch1++ [ch1 rooms[j]]=(rooms.take (j+1)).map ch1 by rw [aH o,aM];rfl];refine rn [2,0,6] ?_;refine aY (w (j+1,a4,c4) ⟨by dsimp only;omega,by dsimp only;rw [aH o];intro y z;rcases aQ.1 z with z|z;exact b0 y z;rw [aZ.1 z];exact hk⟩ (by dsimp only;omega)) Zu leA
     exact aR (ok.2.2.2 _ (aB o)) hk
   have k:=of_decide_eq_false k;obtain rfl:j=rooms.length:=by omega
   rw [cD] at*;refine xx 8 ?_;refine bY (Cq (lsV 3) ⟨none,0, []⟩ (fun q=>Za I64 3 q) C _) ?_;refine bY (E7 (fun (x:ChC)=>lsV 2 x.q) (rooms.map ch1) (fun x hx q=>by obtain ⟨r,_,rfl⟩:=bU.1 hx;exact Za I64 2 q) _) ?_;refine Zq ([pto t (.cells [.bool true,.slice a1 (List.replicate i (-1:Int)).length c1,.slice (some ⟨g,0,none⟩) C C,.slice a3 (rooms.map ch1).length c3].toArray 176 (0,0)),lsH I64 3 a1 c1 (List.replicate i (-1:Int)),rsH cqs 1 191 (some ⟨g,0,none⟩) C (List.replicate C (⟨none,0, []⟩:SlV Int)),stars ((List.replicate C (⟨none,0, []⟩:SlV Int)).map (lsV 3)),rsH chs 3 180 a3 c3 (rooms.map ch1),stars ((rooms.map ch1).map fun x=>lsV 2 x.q)]++q) func46 (Wu results46 rfl rfl) ⟨_,rfl,t,⟨a1,c1,List.replicate i (-1),some ⟨g,0,none⟩,C,List.replicate C ⟨none,0, []⟩,a3,c3,rooms.map ch1⟩,⟨rfl,by simp [Dy],by simp [Dy,ch1,ChC.row,Ch.row,Ch.items,Function.comp_def]⟩,rfl,by unfold syL;simp⟩
 exact aR ⟨ok.1,ok.2.1,ok.2.2.1⟩ hf
theorem Copy_ok (hR:Real U s)(hs:s.ok N)(hN:N<=1000):CallF prog G 67 [.pointer (some ⟨p,0,none⟩)] ((syL p U)) (Ret fun v q'=> ∃ p2 σ2,Real σ2 s/\v= .pointer (some ⟨p2,0,none⟩)/\q'=syL p2 σ2++syL p U):=by
 refine aC func67 ntmps67 rfl fun F cs=> ?_;have ho:=hR.lo;have hc:=hR.lc;have hh:=hR.lh;have l0:=hs.no;have n0:=hs.nc;have m0:=hs.nh;change X _ _ _ _ _ _ _ _ (pto p (.cells [.bool true,.slice U.ao U.owners.length U.co,.slice U.ac U.conds.length U.cc,.slice U.ah U.chans.length U.ch].toArray 176 (0,0))::lsH I64 3 U.ao U.co U.owners::rsH cqs 1 191 U.ac U.cc U.conds::stars (U.conds.map (lsV 3))::rsH chs 3 180 U.ah U.ch U.chans::stars (U.chans.map fun x=>lsV 2 x.q)::F);refine xo 8 ?_;refine aO call106 (Yl (p:=p) clA) ?_;refine Zt (bV rfl) ?_;refine rn [1,1008,3,0,1,2,3,4,6,7,8,9,11,12,13,14] ?_;refine Wy 4 call70 (aE _) (Ku (l:=U.owners) (a:=U.ao) (c:=U.co) ((bR _).le leA) (by omega)) ?_;refine kk2 fun a0 w=> ?_
 refine Wy 9 call107 (aE _) (Zz9 (l:=U.conds) (a:=U.ac) (c:=U.cc) ((bE _).le leA) (by omega)) ?_;refine kk2 fun t y=> ?_
 refine Wy 14 call108 (aE _) (Zz8 (l:=U.chans) (a:=U.ah) (c:=U.ch) ((bE _).le leA) (by omega)) ?_;refine kk2 fun r ch1=> ?_
 refine dd [15] ?_;refine XD.bx 16 fun n1=> ?_;refine rn [18,0,6,0,4] ?_;refine aY (cG (fun (d:List (SlV Int))=>d.length<=U.conds.length/\d.map (fun (x:SlV Int)=>x.l)=(U.conds.take d.length).map (fun (x:SlV Int)=>x.l)) (fun d=> [(0,.pointer (some ⟨p,0,none⟩)),(3,pt n1),(30,I64 U.conds.length),(31,I64 d.length)]) (fun d=>rsH cqs 1 191 t y (d++U.conds.drop d.length)::stars (d.map (lsV 3))::pto n1 (.cells [.bool true,.slice a0 U.owners.length w,.slice t U.conds.length y,.slice r U.chans.length ch1].toArray 176 (0,0))::lsH I64 3 a0 w U.owners::rsH chs 3 180 r ch1 U.chans::pto p (.cells [.bool true,.slice U.ao U.owners.length U.co,.slice U.ac U.conds.length U.cc,.slice U.ah U.chans.length U.ch].toArray 176 (0,0))::lsH I64 3 U.ao U.co U.owners::rsH cqs 1 191 U.ac U.cc U.conds::stars (U.conds.map (lsV 3))::rsH chs 3 180 U.ah U.ch U.chans::stars (U.chans.map fun x=>lsV 2 x.q)::F) (fun d=>U.conds.length - d.length) (fun d d0 ih=> ?_) [] ⟨by simp,by simp⟩) Zu (by simp only [aT,gB,dN];exact aS leA (aS (W6 _) leA));try dsimp only at d0 ih|-
 obtain ⟨i0,f0⟩:=d0;have g0:(d++U.conds.drop d.length).length=U.conds.length:=by simp;omega
 refine xx 5 ?_;refine dR 32 rfl ?_ ?_<;>intro h0
 . have h0:=cW h0;have e:d.length<U.conds.length:=(by omega);refine Yw (l:=d++U.conds.drop d.length) (ty:=191) (fl:=cqs) (a:=t) (by omega) fun g2 e2=> ?_;rw [e2];refine Yw (l:=U.conds) (ty:=191) (fl:=cqs) (a:=U.ac) (by omega) fun g e_=> ?_;rw [e_];refine bY (Tu e) ?_;have k0:U.conds[d.length].l.length<=1000:=hs.lenC hR e hN;refine rn [9,0,1,2,3,4,5,6,7,8,9,10,11,12] ?_;refine dS 45 (.pointer (some ⟨g,d.length*1,none⟩)) rfl (by simp) ?_;refine Ua 12 call89 (all_ok (f:=cqs) (sz:=1) (ty:=191) (g:=g) (l:=U.conds) (i:=d.length) (m:=U.conds[d.length].l) (a:=U.conds[d.length].a) (c:=U.conds[d.length].c) e (fun _=>rfl) rfl rfl (by omega)) ?_;refine kd2 fun a5 z=> ?_
   refine ⟨hlA,?_⟩;refine dd [13,14,15] ?_;have j0:(d++U.conds.drop d.length)[d.length]'(by omega)=U.conds[d.length]:=by rw [gA (aL _)];simp
   refine iQ 16 rfl (Yr (g:=g2) (f:=cqs) (sz:=1) (l:=d++U.conds.drop d.length) (u:=(⟨a5,z,U.conds[d.length].l⟩:SlV Int)) (n:=d.length) (k:=0) (j:=(d.length:Int)) (by simp [evp,lkp]) rfl sizeOf22 (fun _=>rfl) rfl (by omega) rfl (by rw [j0];rfl) rfl rfl Zk) ?_;refine kk0 ?_;refine rn [0,5] ?_;rw [Ro d _ d.length (⟨a5,z,U.conds[d.length].l⟩:SlV Int) rfl (by simp;omega),fK];refine bY (Tn e (a:=U.conds[d.length].a) (c:=U.conds[d.length].c) (m:=U.conds[d.length].l)) ?_;rw [show U.conds.set d.length ⟨U.conds[d.length].a,U.conds[d.length].c,U.conds[d.length].l⟩=U.conds from dO e];refine bY (q':=stars ((d++ [(⟨a5,z,U.conds[d.length].l⟩:SlV Int)]).map (lsV 3))::_) (aS (show Le _ (stars (d.map (lsV 3))::(lsV 3) (⟨a5,z,U.conds[d.length].l⟩:SlV Int)::_) from bM Zk Zk) (Le.stars_snoc (lsV 3) d (⟨a5,z,U.conds[d.length].l⟩:SlV Int) _)) ?_;rw [<-e2,<-e_];rw [show d.length+1=(d++ [(⟨a5,z,U.conds[d.length].l⟩:SlV Int)]).length by simp];refine aY (ih (d++ [(⟨a5,z,U.conds[d.length].l⟩:SlV Int)]) ⟨by simp;omega,by rw [aG,bJ,aH e,aM,aM,f0];rfl⟩ (by simp;omega)) Zu leA
 have h0:=of_decide_eq_false h0;have c0:d.length=U.conds.length:=by omega
 rw [c0,cD] at f0;rw [c0,dP,cA];clear ih g0 h0 i0;refine rn [8,0,4] ?_;refine aY (cG (fun (b:List ChC)=>b.length<=U.chans.length/\b.map (ChC.row)=(U.chans.take b.length).map (ChC.row)) (fun b=> [(0,.pointer (some ⟨p,0,none⟩)),(3,pt n1),(55,I64 U.chans.length),(56,I64 b.length)]) (fun b=>rsH chs 3 180 r ch1 (b++U.chans.drop b.length)::stars (b.map fun x=>lsV 2 x.q)::pto n1 (.cells [.bool true,.slice a0 U.owners.length w,.slice t U.conds.length y,.slice r U.chans.length ch1].toArray 176 (0,0))::lsH I64 3 a0 w U.owners::rsH cqs 1 191 t y d::stars (d.map (lsV 3))::pto p (.cells [.bool true,.slice U.ao U.owners.length U.co,.slice U.ac U.conds.length U.cc,.slice U.ah U.chans.length U.ch].toArray 176 (0,0))::lsH I64 3 U.ao U.co U.owners::rsH cqs 1 191 U.ac U.cc U.conds::stars (U.conds.map (lsV 3))::rsH chs 3 180 U.ah U.ch U.chans::stars (U.chans.map fun x=>lsV 2 x.q)::F) (fun b=>U.chans.length - b.length) (fun b d0 ih=> ?_) [] ⟨by simp,by simp⟩) Zu (by simp only [aT,gB,dN];exact aS leA (aS (W6 _) leA));try dsimp only at d0 ih|-
 obtain ⟨i0,e0⟩:=d0;have g0:(b++U.chans.drop b.length).length=U.chans.length:=by simp;omega
 refine xx 5 ?_;refine dR 57 rfl ?_ ?_<;>intro h0
 . have h0:=cW h0;have e:b.length<U.chans.length:=(by omega);refine Yw (l:=b++U.chans.drop b.length) (ty:=180) (fl:=chs) (a:=r) (by omega) fun g2 e2=> ?_;rw [e2];refine Yw (l:=U.chans) (ty:=180) (fl:=chs) (a:=U.ah) (by omega) fun g e_=> ?_;rw [e_];refine bY (Bz e) ?_;have k0:U.chans[b.length].q.l.length<=1000:=hs.lenH hR e hN;refine rn [9,0,1,2,3,4,5,6,7,8,9,10,11,12] ?_;refine dS 70 (.pointer (some ⟨g,b.length*3,none⟩)) rfl (by simp) ?_;refine Ua 12 call92 (P2 (f:=chs) (sz:=3) (ty:=180) (g:=g) (l:=U.chans) (i:=b.length) (m:=U.chans[b.length].q.l) (a:=U.chans[b.length].q.a) (c:=U.chans[b.length].q.c) e (fun _=>rfl) rfl rfl (by omega)) ?_;refine kd2 fun a5 z=> ?_
   refine ⟨hlA,?_⟩;refine dd [13,14,15] ?_;have j0:(b++U.chans.drop b.length)[b.length]'(by omega)=U.chans[b.length]:=by rw [gA (aL _)];simp
   refine iQ 16 rfl (Yr (g:=g2) (f:=chs) (sz:=3) (l:=b++U.chans.drop b.length) (u:=(⟨⟨a5,z,U.chans[b.length].q.l⟩,U.chans[b.length].room,U.chans[b.length].sent⟩:ChC)) (n:=b.length) (k:=0) (j:=(b.length:Int)) (by simp [evp,lkp]) rfl sizeOf23 (fun _=>rfl) rfl (by omega) rfl (by rw [j0];rfl) rfl rfl Zk) ?_;refine kk0 ?_;refine rn [0,5] ?_;rw [Ro b _ b.length (⟨⟨a5,z,U.chans[b.length].q.l⟩,U.chans[b.length].room,U.chans[b.length].sent⟩:ChC) rfl (by simp;omega),fK];refine bY (Tp e U.chans[b.length]) ?_;rw [show U.chans.set b.length U.chans[b.length]=U.chans from dO e];refine bY (q':=stars ((b++ [(⟨⟨a5,z,U.chans[b.length].q.l⟩,U.chans[b.length].room,U.chans[b.length].sent⟩:ChC)]).map (fun (x:ChC)=>lsV 2 x.q))::_) (aS (show Le _ (stars (b.map (fun (x:ChC)=>lsV 2 x.q))::(fun (x:ChC)=>lsV 2 x.q) (⟨⟨a5,z,U.chans[b.length].q.l⟩,U.chans[b.length].room,U.chans[b.length].sent⟩:ChC)::_) from bM Zk Zk) (Le.stars_snoc (fun (x:ChC)=>lsV 2 x.q) b (⟨⟨a5,z,U.chans[b.length].q.l⟩,U.chans[b.length].room,U.chans[b.length].sent⟩:ChC) _)) ?_;rw [<-e2,<-e_];rw [show b.length+1=(b++ [(⟨⟨a5,z,U.chans[b.length].q.l⟩,U.chans[b.length].room,U.chans[b.length].sent⟩:ChC)]).length by simp];refine aY (ih (b++ [(⟨⟨a5,z,U.chans[b.length].q.l⟩,U.chans[b.length].room,U.chans[b.length].sent⟩:ChC)]) ⟨by simp;omega,by rw [aG,bJ,aH e,aM,aM,e0];rfl⟩ (by simp;omega)) Zu leA
 have h0:=of_decide_eq_false h0;have b0:b.length=U.chans.length:=by omega
 rw [b0,cD] at e0;rw [b0,dP,cA];clear ih g0 h0 i0;refine xx 7 ?_;refine Zq ([pto n1 (.cells [.bool true,.slice a0 U.owners.length w,.slice t U.conds.length y,.slice r U.chans.length ch1].toArray 176 (0,0)),lsH I64 3 a0 w U.owners,rsH cqs 1 191 t y d,stars (d.map (lsV 3)),rsH chs 3 180 r ch1 b,stars (b.map fun x=>lsV 2 x.q),pto p (.cells [.bool true,.slice U.ao U.owners.length U.co,.slice U.ac U.conds.length U.cc,.slice U.ah U.chans.length U.ch].toArray 176 (0,0)),lsH I64 3 U.ao U.co U.owners,rsH cqs 1 191 U.ac U.cc U.conds,stars (U.conds.map (lsV 3)),rsH chs 3 180 U.ah U.ch U.chans,stars (U.chans.map fun x=>lsV 2 x.q)]) func67 (Zn results67 rfl) ⟨_,rfl,n1,⟨a0,w,U.owners,t,y,d,r,ch1,b⟩,⟨hR.o,f0.trans hR.c,e0.trans hR.h⟩,rfl,by unfold syL;simp [c0,b0]⟩
end
def Ux (b:Bool):Int:=if b then 1 else 0
def Yi (op a b:Int):Int×Int:=
 if op=3 then (Ux (decide (a=b)),0) else if op=4 then (Ux (decide (a≠b)),0) else if op=5 then (Ux (decide (a<b)),0) else if op=6 then (Ux (decide (a<=b)),0)
 else if (op=10\/op=11)/\b=0 then (0,1)
 else let n:=if op=7 then a+b else if op=8 then a - b else if op=9 then a*b else if op=10 then a.tdiv b else a.tmod b
  if val n then (n,0) else (0,2)
def Y7 (l:List Int):Int:=l.foldr (· + ·) 0
abbrev Ac:=Int×Bool×Int
abbrev Sn:=Int×Int×Int
structure PTr where
 decl:Int
 st:Int
 loc:List Int
 left:List PStm
 sp:List Int
structure POut where
 kind:Int
 trap:Int
 th:Int
 stmt:Int
 deriving DecidableEq
structure SS where
 cells:List Int
 sy:Sy
 ths:List PTr
 out:POut
structure PEv where
 th:Int
 stmt:Int
 woke:Bool
 trap:Int
 told:Bool
 outv:Int
 value:Int
 acc:List Ac
 syn:List Sn
structure PPr where
 vars:List Int
 arrs:List Int
 room:List Int
 mu:Int
 co:Int
 main:Int
 ths:List (Int×List PStm)
def PPr.cell (p:PPr)(a i:Int):Int:=if 0<=i/\i<p.arrs.getD a.toNat 0 then p.vars.length+Y7 (p.arrs.take a.toNat)+i else -1
abbrev Mad:=Int×Int×List Ac
mutual
def PEx.made (p:PPr)(cells loc:List Int):PEx->Mad
 | .mk k n _ slot lc op args=>
  if k=1 then (n,0, [])
  else if k=2 then (if lc=true then (loc.getD slot.toNat 0,0, []) else (cells.getD slot.toNat 0,0, [(slot,false,cells.getD slot.toNat 0)]))
  else
   let a:=(Ym p cells loc args).getD 0 (0,0, [])
   if a.2.1≠0 then a
   else if k=3 then (if p.cell slot a.1<0 then (0,3,a.2.2) else (cells.getD (p.cell slot a.1).toNat 0,0,a.2.2++ [(p.cell slot a.1,false,cells.getD (p.cell slot a.1).toNat 0)]))
   else if k=4 then ((Yi 8 0 a.1).1,(Yi 8 0 a.1).2,a.2.2)
   else if k=5 then (Ux (a.1==0),0,a.2.2)
   else if (op=1/\a.1≠0)\/(op=2/\a.1=0) then (Ux (op==1),0,a.2.2)
   else
    let b:=(Ym p cells loc args).getD 1 (0,0, [])
    if b.2.1≠0 then (b.1,b.2.1,a.2.2++b.2.2)
    else if op<=2 then (Ux (b.1 !=0),0,a.2.2++b.2.2)
    else ((Yi op a.1 b.1).1,(Yi op a.1 b.1).2,a.2.2++b.2.2)
def Ym (p:PPr)(cells loc:List Int):List PEx->List Mad
 | []=> []
 |e::r=>e.made p cells loc::Ym p cells loc r
end
abbrev zStm:PStm:= .mk 0 0 0 em em (.mk 0 0 em 0 false 0 []) (.mk 0 0 em 0 false 0 []) [] [] 0 0 0 false
abbrev zTr:PTr:=⟨0,0, [], [], []⟩
def SS.th (s:SS)(n:Nat):PTr:=s.ths.getD n zTr
def PTr.next (t:PTr):PStm:=t.left.headD zStm
def SS.can (p:PPr)(s:SS)(n:Nat):Bool:=
 let t:=s.th n
 if s.out.kind=4\/t.st=2\/t.st=4 then false
 else match t.next with
 | .mk k _ _ _ _ _ _ _ _ _ slot other _=>
  if t.st=3 then s.sy.owners.getD other.toNat 0== -1
  else if k=6 then s.sy.owners.getD slot.toNat 0== -1||s.sy.owners.getD slot.toNat 0==n
  else if k=11 then decide (((s.sy.chans.getD slot.toNat ch0).items.length:Int)<p.room.getD slot.toNat 0)
  else if k=12 then decide (0<(s.sy.chans.getD slot.toNat ch0).items.length)
  else if k=14 then t.sp.all fun i=>(s.th i.toNat).st==4
  else true
def SS.all (p:PPr)(s:SS):List Int:=((List.range s.ths.length).filter fun n=>s.can p n).map fun (n:Nat)=>(n:Int)
def SS.stands (p:PPr)(s:SS):SS:=
 let z:= { s with out:=⟨1,0,0,0⟩ }
 if 0<(z.all p).length then z
 else { s with out:=⟨if s.ths.all fun t=>t.st==4 then 2 else 3,0,0,0⟩ }
def SS.put (s:SS)(n:Nat)(t:PTr):SS:= { s with ths:=s.ths.set n t }
def Wc (p:PPr)(d:Int):PTr:=
 let b:=p.ths.getD d.toNat (0, [])
 ⟨d,if b.2= [] then 4 else 1,List.replicate b.1.toNat 0,b.2, []⟩
def SS.into (s:SS)(n:Nat)(slot:Int)(loc:Bool)(v:Int):SS×List Ac:=
 if loc=true then (s.put n { s.th n with loc:=(s.th n).loc.set slot.toNat v }, [])
 else ({ s with cells:=s.cells.set slot.toNat v }, [(slot,true,v)])
def SS.data (p:PPr)(s:SS)(n:Nat)(x:PStm)(ev:PEv):SS×PEv×Int:=
 match x with
 | .mk k _ _ _ _ e ix body els _ slot _ loc=>
  let t:=s.th n
  let i:Mad:=if k=3 then ix.made p s.cells t.loc else (0,0, [])
  if i.2.1≠0 then (s, { ev with acc:=i.2.2 },i.2.1)
  else
   let v:=e.made p s.cells t.loc
   let ev:= { ev with acc:=i.2.2++v.2.2 }
   if v.2.1≠0 then (s,ev,v.2.1)
   else if k=1\/k=2 then ((s.into n slot loc v.1).1, { ev with acc:=ev.acc++(s.into n slot loc v.1).2 },0)
   else if k=3 then
    if p.cell slot i.1<0 then (s,ev,3)
    else ({ s with cells:=s.cells.set (p.cell slot i.1).toNat v.1 }, { ev with acc:=ev.acc++ [(p.cell slot i.1,true,v.1)] },0)
   else if k=4 then (s.put n { t with left:=(if v.1=0 then els else body)++t.left }, { ev with value:=v.1 },0)
   else if k=5 then (s.put n { t with left:=(if v.1=0 then [] else body++ [x])++t.left }, { ev with value:=v.1 },0)
   else if k=11 then ({ s with sy:=(Vf s.sy slot v.1).1 }, { ev with syn:=ev.syn++ [(4,slot,((s.sy.chans.getD slot.toNat ch0).all.length:Int))] },0)
   else (s, { ev with told:=true,outv:=v.1 },0)
def SS.wake (s:SS):List Int->SS
 | []=>s
 |i::r=>SS.wake (s.put i.toNat { s.th i.toNat with st:=3 }) r
def SS.others (p:PPr)(s:SS)(n:Nat)(x:PStm)(ev:PEv):SS×PEv×Int:=
 match x with
 | .mk k _ _ _ _ _ _ _ _ _ slot other loc=>
  let t:=s.th n
  if k=6 then
   if s.sy.owners.getD slot.toNat 0≠ -1 then (s,ev,4)
   else ({ s with sy:=(Ws s.sy slot n).1 }, { ev with syn:=ev.syn++ [(1,slot,0)] },0)
  else if k=7 then
   if s.sy.owners.getD slot.toNat 0≠n then (s,ev,4)
   else ({ s with sy:=(Z6 s.sy slot n).1 }, { ev with syn:=ev.syn++ [(2,slot,0)] },0)
  else if k=8 then
   if s.sy.owners.getD other.toNat 0≠n then (s,ev,4)
   else
    let z:=({ s with sy:=(U7 (Z6 s.sy other n).1 slot n).1 } :SS).put n { t with st:=2,left:=x::t.left }
    (z, { ev with syn:=ev.syn++ [(2,other,0)] },0)
  else if k=9\/k=10 then
   let l:=s.sy.conds.getD slot.toNat []
   let many:=if k=10 then l.length else min 1 l.length
   let z:=s.wake (l.take many)
   ({ z with sy:=if k=10 then (Kb s.sy slot).1 else (Yt s.sy slot).1 }, { ev with syn:=ev.syn++(l.take many).map fun i=>(3,slot,i) },0)
  else if k=12 then
   let l:=(s.sy.chans.getD slot.toNat ch0).items
   let z:SS:= { s with sy:=(Vq s.sy slot).1 }
   ((z.into n other loc (l.headD 0)).1, { ev with syn:=ev.syn++ [(5,slot,((s.sy.chans.getD slot.toNat ch0).taken:Int))],acc:=ev.acc++(z.into n other loc (l.headD 0)).2 },0)
  else if k=13 then
   if 8<=s.ths.length then (s,ev,5)
   else
    let z:=s.put n { t with sp:=t.sp++ [(s.ths.length:Int)] }
    ({ z with ths:=z.ths++ [Wc p slot] }, { ev with syn:=ev.syn++ [(6,0,(s.ths.length:Int))] },0)
  else (s, { ev with syn:=ev.syn++t.sp.map fun i=>(7,0,i) },0)
def zEv (n id:Int):PEv:=⟨n,id,false,0,false,0,0, [], []⟩
def PStm.idn:PStm->Int
 | .mk _ _ _ _ _ _ _ _ _ id _ _ _=>id
def PStm.kd:PStm->Int
 | .mk k _ _ _ _ _ _ _ _ _ _ _ _=>k
def PStm.oth:PStm->Int
 | .mk _ _ _ _ _ _ _ _ _ _ _ other _=>other
def SS.did (p:PPr)(s:SS)(n:Nat):SS×PEv×Int:=
 let t:=s.th n
 let x:=t.next
 let ev:=zEv n x.idn
 let o:=s.put n { t with left:=t.left.drop 1 }
 if t.st=3 then
  let z:=s.put n { t with st:=1,left:=t.left.drop 1 }
  ({ z with sy:=(Ws s.sy x.oth n).1 }, { ev with woke:=true,syn:= [(1,x.oth,0)] },0)
 else if x.kd<=5\/x.kd=11\/x.kd=15 then o.data p n x ev else o.others p n x ev
def SS.step (p:PPr)(s:SS)(n:Nat):SS×PEv:=
 let r:=s.did p n
 let x:=(s.th n).next
 if r.2.2≠0 then ({ s with out:=⟨4,r.2.2,n,x.idn⟩ }, { zEv n x.idn with trap:=r.2.2,acc:=r.2.1.acc })
 else
  let t:=r.1.th n
  if t.left= [] then ((r.1.put n { t with st:=4 }).stands p, { r.2.1 with syn:=r.2.1.syn++ [(8,0,0)] })
  else (r.1.stands p,r.2.1)
end Go.Proofs.YtflkjkhijcdbaaaGreat
namespace Go.Proofs.YtflkjkhijcdbaaaGreat
open Go Go.RowKit Wx Go.Proofs.Tryz
attribute [local irreducible] lsH rsH stars
variable {a:Option Addr}{b n c sz i k o s pc m1 m2 k1 k2 B N nb:Nat}{G w:World}{q:List HP}{op d:Int}{bb:Bool}{v:Value}{g:FC}{M:Hp}{vs ws pre post:List Value}{x:Stm}{l:List PStm}{m:List Stm}{e:Ex}{L:List (Int×PStm)}{J:Nat->HP}{Jf:HP->Prop}
theorem Oi {a b:Int}(ha:val a)(hb:val b): -4611686018427387904<=a*b/\a*b<=4611686018427387904:=by
 unfold val at ha hb;have e:a*b<=a.natAbs*b.natAbs:=by rw [<-Int.natCast_mul,<-Int.natAbs_mul];omega
 have d: -(a.natAbs*b.natAbs:Int)<=a*b:=by rw [<-Int.natCast_mul,<-Int.natAbs_mul];omega
 have c:(a.natAbs:Int)*b.natAbs<=2147483648*2147483648:=by
  rw [<-Int.natCast_mul];have:a.natAbs*b.natAbs<=2147483648*2147483648:=Nat.mul_le_mul (by omega) (by omega);omega
 omega
theorem Oa {a b:Int}(ha:val a): -2147483648<=a.tdiv b/\a.tdiv b<=2147483648:=by
 unfold val at ha;have h:=Int.natAbs_tdiv_le_natAbs a b;omega
theorem Ol {a b:Int}(ha:val a): -2147483648<=a.tmod b/\a.tmod b<=2147483648:=by
 unfold val at ha;have h:(a.tmod b).natAbs<=a.natAbs:=by rw [Int.natAbs_tmod];exact Nat.mod_le _ _
 omega
def Vd (k:Int):PanicEntry:= { v:= .iface 199 (.agg [I64 k].toArray),recovered:=false }
def Wo (op a b:Int):Int×Int:=if op<=2 then (Ux (b !=0),0) else Yi op a b
section
variable {n c u z:Int}
theorem Ja:CallF prog G 79 (B3 n c) (q) (Ret fun v q'=>v= .bool (decide (0<=n/\n<c))/\q'=q):=by
 refine aC func79 ntmps79 rfl fun F e=> ?_;refine xo 9 ?_;refine Zf [7,4,0,1] ?_;apply Zp 4 11 7 rfl
 . intro a b;have d:=sp a;refine oo 4 ?_;exact Zz b ⟨Wq a,Zv⟩
 . intro a b;have d:=sp a;refine oo 4 ?_;exact Zz b ⟨Wz a,Zv⟩
 refine ox 2 ?_;refine Zq (q) func79 (Zn results79 rfl) ⟨_,rfl,cB (by rw [cJ];simp),rfl⟩
theorem U9:CallF prog G 190 [.bool bb] (q) (Ret fun v q'=>v= I64 (Ux bb)/\q'=q):=by
 refine aC func190 ntmps190 rfl fun F b=> ?_;refine xx 9 ?_;refine dR 3 rfl ?_ ?_<;>intro a
 . refine xx 5 ?_;refine Zq (q) func190 (Zn results190 rfl) ⟨_,rfl,by rw [show bb=true by simpa using a];rfl,rfl⟩
 refine xx 6 ?_;refine Zq (q) func190 (Zn results190 rfl) ⟨_,rfl,by rw [show bb=false by simpa using a];rfl,rfl⟩
theorem Kc:CallF prog G 144 [.bool bb] (q) (Ret fun v q'=>v= I64 (Ux bb)/\q'=q):=by
 refine aC func144 ntmps144 rfl fun F b=> ?_;refine xx 9 ?_;refine dR 3 rfl ?_ ?_<;>intro a
 . refine xx 5 ?_;refine Zq (q) func144 (Zn results144 rfl) ⟨_,rfl,by rw [show bb=true by simpa using a];rfl,rfl⟩
 refine xx 6 ?_;refine Zq (q) func144 (Zn results144 rfl) ⟨_,rfl,by rw [show bb=false by simpa using a];rfl,rfl⟩
theorem two05_ok (ho:3<=op/\op<=11)(hu:val u)(hz:val z):CallF prog G 143 [I64 op,I64 u,I64 z] (q) (Ret fun v q'=>v= .tuple [I64 (Yi op u z).1,I64 (Yi op u z).2].toArray/\q'=q):=by
 refine aC func143 ntmps143 rfl fun F l=> ?_;have j:=hu;have i:=hz;unfold val at j i;have g:op=3\/op=4\/op=5\/op=6\/op=7\/op=8\/op=9\/op=10\/op=11:=by omega
 rcases g with rfl|rfl|rfl|rfl|rfl|rfl|rfl|rfl|rfl
 . refine rn [20,2010,6] ?_;refine aO call144 (Kc) ?_;refine ox 3 ?_;refine Zq (q) func143 (Wu results143 rfl rfl) ⟨_,rfl,by simp [Yi]<;>first|rfl|(congr 1;rw [cJ];simp),rfl⟩
 . refine rn [20,1010,6,2016,6] ?_;refine aO call144 (Kc) ?_;refine ox 3 ?_;refine Zq (q) func143 (Wu results143 rfl rfl) ⟨_,rfl,by simp [Yi]<;>first|rfl|(congr 1;rw [cJ];simp),rfl⟩
 iterate 4
  focus
   refine rn [20,1010,6,1016,6] ?_
  rotate_left
 focus
  have k:=Oi hu hz;refine rn [20,1010,6,1016,6,1022,6,1028,6,1034,6,1039,6,2044,4] ?_;refine Zt (Pu.mul rfl rfl (by omega) (by omega)) ?_;refine oo 9 ?_;refine Zf [65,8,7,6] ?_;apply Zy 3 68 65 rfl
  . intro c f;have a:=sp c;refine oo 3 ?_;exact Zz f ⟨orF c,Zv⟩
  . intro c f;have a:=sp c;refine oo 3 ?_;exact Zz f ⟨orT c,Zv⟩
  refine ox 1 ?_;refine xp 68 ?_ ?_<;>intro a
  focus
   refine xx 6 ?_
  rotate_left
  focus
   refine xx 8 ?_
 rotate_left 2
 . have k:=Oa (b:=z) hu;refine rn [20,1010,6,1016,6,1022,6,1028,6,1034,6,1039,6,1044,6,2049,7] ?_;refine xp 52 ?_ ?_<;>intro a
   . refine xx 6 ?_;refine Zq (q) func143 (Wu results143 rfl rfl) ⟨_,rfl,by first|(simp [Yi,a];done)|(unfold Yi val;simp [a];omega)|(unfold Yi val;simp only [a];simp;grind),rfl⟩
   refine xo 5 ?_;refine Zt (G6 rfl rfl (by omega)) ?_;refine bA 55 (I64 (u.tdiv z)) rfl (bK (Value.int .i64) (show IntKind.i64.wrap (u.tdiv z)=u.tdiv z from Uf (by omega) (by omega))) ?_;refine oo 9 ?_;refine Zf [65,8,7,6] ?_;apply Zy 3 68 65 rfl
   . intro e h;have d:=sp e;refine oo 3 ?_;exact Zz h ⟨orF e,Zv⟩
   . intro e h;have d:=sp e;refine oo 3 ?_;exact Zz h ⟨orT e,Zv⟩
   refine ox 1 ?_;refine xp 68 ?_ ?_<;>intro d
   focus
    refine xx 6 ?_
   rotate_left
   focus
    refine xx 8 ?_
   all_goals
    refine Zq (q) func143 (Wu results143 rfl rfl) ⟨_,rfl,by first|(simp [Yi,a,d];done)|(unfold Yi val;simp [a,d];omega)|(unfold Yi val;simp only [a,d];simp;grind),rfl⟩
 . have k:=Ol (b:=z) hu;refine rn [20,1010,6,1016,6,1022,6,1028,6,1034,6,1039,6,1044,6,1049,6,2056,7] ?_;refine xp 59 ?_ ?_<;>intro a
   . refine xx 6 ?_;refine Zq (q) func143 (Wu results143 rfl rfl) ⟨_,rfl,by first|(simp [Yi,a];done)|(unfold Yi val;simp [a];omega)|(unfold Yi val;simp only [a];simp;grind),rfl⟩
   refine xo 5 ?_;refine Zt (Pu.rem rfl rfl (by omega)) ?_;refine oo 9 ?_;refine Zf [65,8,7,6] ?_;apply Zy 3 68 65 rfl
   . intro e h;have d:=sp e;refine oo 3 ?_;exact Zz h ⟨orF e,Zv⟩
   . intro e h;have d:=sp e;refine oo 3 ?_;exact Zz h ⟨orT e,Zv⟩
   refine ox 1 ?_;refine xp 68 ?_ ?_<;>intro d
   focus
    refine xx 6 ?_
   rotate_left
   focus
    refine xx 8 ?_
   all_goals
    refine Zq (q) func143 (Wu results143 rfl rfl) ⟨_,rfl,by first|(simp [Yi,a,d];done)|(unfold Yi val;simp [a,d];omega)|(unfold Yi val;simp only [a,d];simp;grind),rfl⟩
 . refine rn [2022,6] ?_;refine aO call144 (Kc) ?_;refine ox 3 ?_;refine Zq (q) func143 (Wu results143 rfl rfl) ⟨_,rfl,by simp [Yi]<;>first|rfl|(congr 1;rw [cJ];simp),rfl⟩
 . refine rn [1022,6,2028,6] ?_;refine aO call144 (Kc) ?_;refine ox 3 ?_;refine Zq (q) func143 (Wu results143 rfl rfl) ⟨_,rfl,by simp [Yi]<;>first|rfl|(congr 1;rw [cJ];simp),rfl⟩
 focus
  refine rn [1022,6,1028,6,2034,14] ?_;refine Zf [65,8,7,6] ?_;apply Zy 3 68 65 rfl
  . intro c f;have a:=sp c;refine oo 3 ?_;exact Zz f ⟨orF c,Zv⟩
  . intro c f;have a:=sp c;refine oo 3 ?_;exact Zz f ⟨orT c,Zv⟩
  refine ox 1 ?_;refine xp 68 ?_ ?_<;>intro a
  focus
   refine xx 6 ?_
  rotate_left
  focus
   refine xx 8 ?_
 rotate_left 2
 focus
  refine rn [1022,6,1028,6,1034,6,2039,14] ?_;refine Zf [65,8,7,6] ?_;apply Zy 3 68 65 rfl
  . intro c f;have a:=sp c;refine oo 3 ?_;exact Zz f ⟨orF c,Zv⟩
  . intro c f;have a:=sp c;refine oo 3 ?_;exact Zz f ⟨orT c,Zv⟩
  refine ox 1 ?_;refine xp 68 ?_ ?_<;>intro a
  focus
   refine xx 6 ?_
  rotate_left
  focus
   refine xx 8 ?_
 all_goals
  refine Zq (q) func143 (Wu results143 rfl rfl) ⟨_,rfl,by first|(simp [Yi,a];done)|(unfold Yi val;simp [a];omega)|(unfold Yi val;simp only [a];simp;grind),rfl⟩
theorem Ks:CallF prog G 169 [I64 z] (q) (RP (fun _ _=>False) (fun ch q'=>ch= [Vd z]/\q'=q)):=by
 refine aC func169 ntmps169 rfl fun F a=> ?_;refine xo 4 ?_;exact XO.pn (Pn.panic rfl) (dA func169 (dX ⟨rfl,rfl⟩))
theorem Kz:CallF prog G 189 [I64 z] (q) (RP (fun v q'=>(val z/\v= I64 z)/\q'=q) (fun ch q'=>(¬val z/\ch= [Vd 2])/\q'=q)):=by
 refine aC func189 ntmps189 rfl fun F d=> ?_;refine xo 10 ?_;refine Zf [5,2,0] ?_;apply Zy 3 8 5 rfl
 . intro a b;have c:=sp a;refine oo 3 ?_;exact Zz b ⟨orF a,Zv⟩
 . intro a b;have c:=sp a;refine oo 3 ?_;exact Zz b ⟨orT a,Zv⟩
 refine ox 1 ?_;refine xp 8 ?_ ?_<;>intro c
 . refine xo 2 ?_;refine Vn call169 (aE _) (Ks) ?_ ?_
   . rintro _ _ ⟨rfl,rfl⟩;exact dA func189 (dX ⟨⟨(by unfold val;omega),rfl⟩,rfl⟩)
   rintro _ _ ⟨⟩
 refine xx 7 ?_;refine Zq (q) func189 (Zn results189 rfl) (dG ⟨⟨(by unfold val;omega),rfl⟩,rfl⟩)
theorem both_ok (ho:1<=op/\op<=11)(hu:val u)(hz:val z):CallF prog G 191 [I64 op,I64 u,I64 z] (q) (RP (fun v q'=>((Wo op u z).2=0/\v= I64 (Wo op u z).1)/\q'=q) (fun ch q'=>((Wo op u z).2≠0/\ch= [Vd (Wo op u z).2])/\q'=q)):=by
 refine aC func191 ntmps191 rfl fun F k=> ?_;have g:=hu;have f:=hz;unfold val at g f;have d:op=1\/op=2\/op=3\/op=4\/op=5\/op=6\/op=7\/op=8\/op=9\/op=10\/op=11:=by omega
 rcases d with rfl|rfl|rfl|rfl|rfl|rfl|rfl|rfl|rfl|rfl|rfl
 . refine rn [16,2008,7] ?_;refine aO call190 (U9) ?_;refine ox 2 ?_;refine Zq (q) func191 (Zn results191 rfl) (dG ⟨⟨by simp [Wo,Yi],by simp [Wo,Yi]<;>first|rfl|(congr 1;rw [cJ];simp)⟩,rfl⟩)
 . refine rn [16,1008,5,2008,5] ?_;refine aO call190 (U9) ?_;refine ox 2 ?_;refine Zq (q) func191 (Zn results191 rfl) (dG ⟨⟨by simp [Wo,Yi],by simp [Wo,Yi]<;>first|rfl|(congr 1;rw [cJ];simp)⟩,rfl⟩)
 . refine rn [16,1008,5,1008,6,2014,6] ?_;refine aO call190 (U9) ?_;refine ox 2 ?_;refine Zq (q) func191 (Zn results191 rfl) (dG ⟨⟨by simp [Wo,Yi],by simp [Wo,Yi]<;>first|rfl|(congr 1;rw [cJ];simp)⟩,rfl⟩)
 iterate 5
  focus
   refine rn [16,1008,5,1008,6,1014,6] ?_
  rotate_left
 focus
  have j:=Oi hu hz;refine rn [16,1008,5,1008,6,1014,6,1020,6,1026,6,1032,6,1038,6,1044,6,2050,5] ?_;refine Zt (Pu.mul rfl rfl (by omega) (by omega)) ?_;have a:Wo 9 u z=if val (u*z) then ((u*z),0) else (0,2):=by rfl
  refine Vn call189 (aE _) (Kz (z:=(u*z)) (q:=q++F)) ?_ ?_
  . rintro _ _ ⟨⟨c,rfl⟩,rfl⟩;exact dA func191 (dX ⟨⟨by rw [a,if_neg c];decide,by rw [a,if_neg c]⟩,rfl⟩)
 rotate_left
 focus
  have j:=Oa (b:=z) hu;refine rn [16,1008,5,1008,6,1014,6,1020,6,1026,6,1032,6,1038,6,1044,6,1050,9] ?_;refine xp 57 ?_ ?_<;>intro e
  . refine xo 2 ?_;refine Vn call169 (aE _) (Ks) ?_ ?_
    . rintro _ _ ⟨rfl,rfl⟩;exact dA func191 (dX ⟨⟨by simp [Wo,Yi,e],by simp [Wo,Yi,e]⟩,rfl⟩)
    rintro _ _ ⟨⟩
  refine rn [8,2060,5] ?_;refine Zt (G6 rfl rfl (by omega)) ?_;refine bA 63 (I64 (u.tdiv z)) rfl (bK (Value.int .i64) (show IntKind.i64.wrap (u.tdiv z)=u.tdiv z from Uf (by omega) (by omega))) ?_;have a:Wo 10 u z=if val (u.tdiv z) then ((u.tdiv z),0) else (0,2):=by unfold Wo Yi;rw [if_neg (by decide),if_neg (by decide),if_neg (by decide),if_neg (by decide),if_neg (by decide),if_neg (fun h=>e h.2)];rfl
  refine Vn call189 (aE _) (Kz (z:=(u.tdiv z)) (q:=q++F)) ?_ ?_
  . rintro _ _ ⟨⟨c,rfl⟩,rfl⟩;exact dA func191 (dX ⟨⟨by rw [a,if_neg c];decide,by rw [a,if_neg c]⟩,rfl⟩)
 rotate_left
 focus
  have j:=Ol (b:=z) hu;refine rn [16,1008,5,1008,6,1014,6,1020,6,1026,6,1032,6,1038,6,1044,6,1050,9] ?_;refine xp 57 ?_ ?_<;>intro e
  . refine xo 2 ?_;refine Vn call169 (aE _) (Ks) ?_ ?_
    . rintro _ _ ⟨rfl,rfl⟩;exact dA func191 (dX ⟨⟨by simp [Wo,Yi,e],by simp [Wo,Yi,e]⟩,rfl⟩)
    rintro _ _ ⟨⟩
  refine rn [8,1060,6] ?_;refine Zt (Pu.rem rfl rfl (by omega)) ?_;have a:Wo 11 u z=if val (u.tmod z) then ((u.tmod z),0) else (0,2):=by unfold Wo Yi;rw [if_neg (by decide),if_neg (by decide),if_neg (by decide),if_neg (by decide),if_neg (by decide),if_neg (fun h=>e h.2)];rfl
  refine Vn call189 (aE _) (Kz (z:=(u.tmod z)) (q:=q++F)) ?_ ?_
  . rintro _ _ ⟨⟨c,rfl⟩,rfl⟩;exact dA func191 (dX ⟨⟨by rw [a,if_neg c];decide,by rw [a,if_neg c]⟩,rfl⟩)
 rotate_left
 . refine rn [2020,6] ?_;refine aO call190 (U9) ?_;refine ox 2 ?_;refine Zq (q) func191 (Zn results191 rfl) (dG ⟨⟨by simp [Wo,Yi],by simp [Wo,Yi]<;>first|rfl|(congr 1;rw [cJ];simp)⟩,rfl⟩)
 . refine rn [1020,6,2026,6] ?_;refine aO call190 (U9) ?_;refine ox 2 ?_;refine Zq (q) func191 (Zn results191 rfl) (dG ⟨⟨by simp [Wo,Yi],by simp [Wo,Yi]<;>first|rfl|(congr 1;rw [cJ];simp)⟩,rfl⟩)
 . refine rn [1020,6,1026,6,2032,6] ?_;refine aO call190 (U9) ?_;refine ox 2 ?_;refine Zq (q) func191 (Zn results191 rfl) (dG ⟨⟨by simp [Wo,Yi],by simp [Wo,Yi]<;>first|rfl|(congr 1;rw [cJ];simp)⟩,rfl⟩)
 focus
  refine rn [1020,6,1026,6,1032,6,2038,6] ?_;have a:Wo 7 u z=if val (u+z) then ((u+z),0) else (0,2):=by rfl
  refine Vn call189 (aE _) (Kz (z:=(u+z)) (q:=q++F)) ?_ ?_
  . rintro _ _ ⟨⟨c,rfl⟩,rfl⟩;exact dA func191 (dX ⟨⟨by rw [a,if_neg c];decide,by rw [a,if_neg c]⟩,rfl⟩)
 rotate_left
 focus
  refine rn [1020,6,1026,6,1032,6,1038,6,2044,6] ?_;have a:Wo 8 u z=if val (u - z) then ((u - z),0) else (0,2):=by rfl
  refine Vn call189 (aE _) (Kz (z:=(u - z)) (q:=q++F)) ?_ ?_
  . rintro _ _ ⟨⟨c,rfl⟩,rfl⟩;exact dA func191 (dX ⟨⟨by rw [a,if_neg c];decide,by rw [a,if_neg c]⟩,rfl⟩)
 all_goals
  rintro _ _ ⟨⟨i,rfl⟩,rfl⟩;refine ox 2 ?_;refine Zq (q) func191 (Zn results191 rfl) (dG ⟨⟨by rw [a,if_pos i],by rw [a,if_pos i]⟩,rfl⟩)
end
section
variable {n c lo:Int}{pa pp:Nat}{x1:Value}
abbrev AZ (v0:Nat)(v1:Value)(v2:Int):=[.pointer (some ⟨v0,0,none⟩),v1,I64 v2]
theorem R8 (ha:CellsAt q pa 0 (AZ pp x1 lo))(hp:CellsAt q pp 0 (pgC g)):CallF prog G 159 [.pointer (some ⟨pa,0,none⟩),I64 n,.bool bb] (q) (Ret fun v q'=>v= .bool (decide (0<=n/\n<if bb=true then lo else (g.vars.l.length:Int)))/\q'=q):=by
 refine aC func159 ntmps159 rfl fun F d=> ?_;refine xx 9 ?_;refine xp 7 ?_ ?_<;>intro b
 . refine rf [7,0] ha ?_;refine aO call79 (Ja) ?_;refine ox 2 ?_;refine Zq (q) func159 (Zn results159 rfl) ⟨_,rfl,by rw [if_pos b],rfl⟩
 refine rg [8,0,2,0] ha hp ?_;refine bA 21 (.slice g.vars.a g.vars.l.length g.vars.c) rfl (rfl) ?_;refine oo 1 ?_;refine aO call79 (Ja) ?_;refine ox 2 ?_;refine Zq (q) func159 (Zn results159 rfl) ⟨_,rfl,by rw [if_neg (by rw [b];decide)],rfl⟩
end
def ExAt (M:Hp)(a:Addr)(e:Ex):Prop:=SeesZ M (some a) (exC e)/\e.At M
def StAt (M:Hp)(a:Addr)(s:Stm):Prop:=SeesZ M (some a) (stC s)/\s.At M
theorem Kf (h:SeesZ M a vs)(k:SeesZ M a ws)(e:vs.length=ws.length):vs=ws:=by
 apply fW ;intro i;by_cases hi:i<vs.length
 . obtain ⟨b,o,p,q,n,m,l⟩:=h i vs[i] (aD hi);obtain ⟨s,r,g,j,f,d,c⟩:=k i (ws[i]'(e ▸ hi)) (aD _);rw [n] at f;cases f
   rw [m] at d;cases d
   rw [l] at c;rw [aD hi,aD (e ▸ hi)];exact c
 rw [cF (by omega),cF (by omega)]
theorem Rj {α:Type}{f:α->List Value}(hf: ∀ x,(f x).length=sz){l:List α}(hi:i<l.length)(hk:k<sz):(l.flatMap f)[i*sz+k]? =(f l[i])[k]? :=by
 have h:(l.flatMap f)[i*sz+k]? =_:=bK (fun z:List Value=>z[i*sz+k]?) (eS (i*sz) (l.flatMap f)).symm;rw [Ka hf,cY (by rw [Zx hf,bH];rw [eQ (by omega)];omega)] at h;rw [h,Zx hf,bH,eQ (by omega),show i*sz+k - i*sz=k by omega,fG]
 have a:l.flatMap f=(l.take i).flatMap f++(f l[i]++(l.drop (i+1)).flatMap f):=by
  conv=>lhs;rw [<-eS i l,iI,aJ hi,cH]
 rw [a,cY (by rw [Zx hf,bH,eQ (by omega)];omega),Zx hf,bH,eQ (by omega),show i*sz+k - i*sz=k by omega,
  dV (by rw [hf];exact hk)]
theorem SeesZ.row {α:Type}{f:α->List Value}(hf: ∀ x,(f x).length=sz)(h0:0<sz){l:List α}(h:SeesZ M a (l.flatMap f))(hi:i<l.length): ∃ b o,a=some ⟨b,o,none⟩/\SeesZ M (some ⟨b,o+i*sz,none⟩) (f l[i]):=by
 have n:=hf l[i];obtain ⟨b,o,r,s,m,w,v⟩:=h (i*sz+0) ((f l[i])[0]'(by omega)) (by rw [Rj hf hi h0];exact aD (by omega));refine ⟨b,o,m,fun k u g=> ?_⟩;have e:k<sz:=by rw [<-n];exact (cI.1 g).1
 obtain ⟨y,t,c,d,j,q,p⟩:=h (i*sz+k) u (by rw [Rj hf hi e];exact g);rw [m] at j;cases j
 exact ⟨b,o+i*sz,c,d,rfl,q,by rw [eL];exact p⟩
abbrev fR:=@SeesZ.row
theorem SeesZ.sub (h:SeesZ M (some ⟨b,o,none⟩) vs)(e:vs=pre++(ws++post)):SeesZ M (some ⟨b,o+pre.length,none⟩) ws:=fun i u c=>by
 obtain ⟨l,k,a,d,j,g,f⟩:=h (pre.length+i) u (by rw [e,cY (by omega),show pre.length+i - pre.length=i by omega,dV (cI.1 c).1];exact c)
 cases j
 exact ⟨b,o+pre.length,a,d,rfl,g,by rw [eL];exact f⟩
mutual
theorem Ex.uniq {M:Hp}: ∀ {x y:Ex},exC x=exC y->x.At M->y.At M->x=y
 | .mk k n nm sl lo op args aa ac,.mk k' n' nm' sl' lo' op' args' aa' ac',h,⟨h1,h2⟩,⟨g1,g2⟩=>by
  simp only [exC,gP,Value.int.injEq,Value.string.injEq,Value.bool.injEq,Value.slice.injEq,true_and,and_true] at h;obtain ⟨rfl,rfl,rfl,rfl,rfl,rfl,rfl,a,rfl⟩:=h;have e:=Kf h1.2.2 g1.2.2 (by rw [Zx Z4,Zx Z4,a]);rw [Exs.uniq e a h2 g2]
theorem Exs.uniq {M:Hp}: ∀ {l m:List Ex},l.flatMap exC=m.flatMap exC->l.length=m.length->Ex.Ats M l->Ex.Ats M m->l=m
 | [], [],_,_,_,_=>rfl
 | [],_::_,_,h,_,_=>by simp at h
 |_::_, [],_,h,_,_=>by simp at h
 |x::l,y::m,h,hl,⟨h1,h2⟩,⟨g1,g2⟩=>by
  rw [cH,cH] at h;obtain ⟨b,a⟩:=iP h (by rw [Z4,Z4]);rw [Ex.uniq b h1 g1,Exs.uniq a (by simpa using hl) h2 g2]
end
mutual
theorem Stm.uniq {M:Hp}: ∀ {x y:Stm},stC x=stC y->x.At M->y.At M->x=y
 | .mk k ln cl nm wt e ix body els ba bc ea ec id sl ot lo,.mk k' ln' cl' nm' wt' e' ix' body' els' ba' bc' ea' ec' id' sl' ot' lo',h,⟨h1,h2,⟨h3,h4⟩,h5,h6⟩,⟨g1,g2,⟨g3,g4⟩,g5,g6⟩=>by
  simp only [stC] at h;obtain ⟨d,m⟩:=iP h rfl;obtain ⟨l,j⟩:=iP m (by rw [Z4,Z4]);obtain ⟨i,c⟩:=iP j (by rw [Z4,Z4]);simp only [gP,Value.int.injEq,Value.string.injEq,Value.bool.injEq,Value.slice.injEq,true_and,and_true] at d c;obtain ⟨rfl,rfl,rfl,rfl,rfl⟩:=d;obtain ⟨⟨rfl,b,rfl⟩,⟨rfl,a,rfl⟩,rfl,rfl,rfl,rfl⟩:=c;have g:=Kf h3.2.2 g3.2.2 (by rw [Zx Z8,Zx Z8,b]);have f:=Kf h5.2.2 g5.2.2 (by rw [Zx Z8,Zx Z8,a]);rw [Ex.uniq l h1 g1,Ex.uniq i h2 g2,Stms.uniq g b h4 g4,Stms.uniq f a h6 g6]
theorem Stms.uniq {M:Hp}: ∀ {l m:List Stm},l.flatMap stC=m.flatMap stC->l.length=m.length->Stm.Ats M l->Stm.Ats M m->l=m
 | [], [],_,_,_,_=>rfl
 | [],_::_,_,h,_,_=>by simp at h
 |_::_, [],_,h,_,_=>by simp at h
 |x::l,y::m,h,hl,⟨h1,h2⟩,⟨g1,g2⟩=>by
  rw [cH,cH] at h;obtain ⟨b,a⟩:=iP h (by rw [Z8,Z8]);rw [Stm.uniq b h1 g1,Stms.uniq a (by simpa using hl) h2 g2]
end
theorem ExAt.uniq {a:Addr}{x y:Ex}(h:ExAt M a x)(k:ExAt M a y):x=y:=Ex.uniq (Kf h.1 k.1 (by rw [Z4,Z4])) h.2 k.2
theorem StAt.uniq {a:Addr}{y:Stm}(h:StAt M a x)(k:StAt M a y):x=y:=Stm.uniq (Kf h.1 k.1 (by rw [Z8,Z8])) h.2 k.2
theorem SeesZ.brn {a:Addr}(h:SeesZ M (some a) (v::vs))(l:Hle M (wh w)):Brn w a:=by
 obtain ⟨b,o,c,d,f,e,_⟩:=h 0 v rfl
 cases f
 exact ⟨c,d,l _ _ e⟩
theorem ExAt.brn {a:Addr}{x:Ex}(h:ExAt M a x)(l:Hle M (wh w)):Brn w a:=by cases x;exact SeesZ.brn h.1 l
theorem StAt.brn {a:Addr}(h:StAt M a x)(l:Hle M (wh w)):Brn w a:=by cases x;exact SeesZ.brn h.1 l
abbrev Hn:=List (Addr×Value×Nat)
variable {es:Hn}
def ExKs (M:Hp)(n:Nat)(es:Hn):Prop:= ∀ e∈es,∃ x,ExAt M e.1 x/\n<x.sz
def StKs (M:Hp)(n:Nat)(es:Hn):Prop:= ∀ e∈es,∃ x,StAt M e.1 x/\n<x.sz
theorem KeysAt.ex {a:Addr}{x:Ex}(h:Kn q fun M=>ExAt M a x/\ExKs M x.sz es):KeysAt q a es:=by
 rintro G w ⟨_,M,k,l,_,_,_,_,p⟩;obtain ⟨c,i⟩:=h M k p;refine ⟨c.brn l,fun e d=> ?_⟩;obtain ⟨y,b,g⟩:=i e d;exact ⟨fun f=>by have:=(f ▸ c).uniq b;subst this;exact Nat.lt_irrefl _ g,b.brn l⟩
theorem KeysAt.st {a:Addr}(h:Kn q fun M=>StAt M a x/\StKs M x.sz es):KeysAt q a es:=by
 rintro G w ⟨_,M,k,l,_,_,_,_,p⟩;obtain ⟨c,i⟩:=h M k p;refine ⟨c.brn l,fun e d=> ?_⟩;obtain ⟨y,b,g⟩:=i e d;exact ⟨fun f=>by have:=(f ▸ c).uniq b;subst this;exact Nat.lt_irrefl _ g,b.brn l⟩
theorem Nc: ∀ l:List Ex,l.length<=Qe l
 | []=>bB _
 |e::r=>by
  have h:=Nc r;have a:1<=e.sz:=by cases e;simp only [Ex.sz];omega
  simp only [Qe,bG];omega
theorem Je: ∀ l:List Stm,l.length<=Zm l
 | []=>bB _
 |e::r=>by
  have h:=Je r;have a:1<=e.sz:=by cases e;simp only [Stm.sz];omega
  simp only [Zm,bG];omega
section
variable {l:List Ex}
theorem Kn.exn {k n:Int}{nm:ByteArray}{slot:Int}{loc:Bool}(h:Kn q fun M=>Ex.Ats M l):Kn (lst (fun M=>SlAt M a c l.length (l.flatMap exC)) gM::q) fun M=>(Ex.mk k n nm slot loc op l a c).At M:=
 (Kn.here.and h.there).imp fun M h=>⟨h.1,h.2⟩
theorem Kn.blM {m:List Stm}:Kn (blM a c m::q) fun M=>BlkAt M a c m:=fL
theorem Kn.exsM:Kn (exsM l::q) fun M=>Ex.Ats M l:=fL
theorem I7:Le q (exsM []::q):=cZ (fun _ _ _=>trivial)
theorem Ld :Le (exsM l::exM e::q) (exsM (l++ [e])::q):=by
 have h:Kn (exsM l::exM e::q) fun M=>Ex.Ats M (l++ [e]):=(Kn.exsM.and Kn.exM.there).imp fun M h=>Ye.2 fun x a=>by
  rcases aQ.1 a with a|a
  . exact Ye.1 h.1 x a
  rw [aZ.1 a];exact h.2
 exact aS (cZ (mn:=fun l h=>iF l h) h) (dD _ ((eD _ _).trans (eD _ _)))
theorem La {m:List Ex}(h:s<m.length):Z3 (m.take (s+1))=Z3 (m.take s)++ [m[s].er]:=by
 rw [Yy,Yy,aH h,aM];rfl
theorem Kn.exC {e:Ex}(h:Kn q fun M=>ExAt M ⟨b,o,none⟩ e):CellsAt q b o (exC e):=fun k v hk=>(fM (h.imp fun M h=>h.1)).cl hk
theorem Kn.stC {e:Stm}(h:Kn q fun M=>StAt M ⟨b,o,none⟩ e):CellsAt q b o (stC e):=fun k v hk=>(fM (h.imp fun M h=>h.1)).cl hk
abbrev eR:=@Kn.stC
theorem ExKs.down (h:ExKs M n es)(hk:k<=n):ExKs M k es:=fun e a=>let ⟨x,b,c⟩:=h e a;⟨x,b,by omega⟩
theorem StKs.down (h:StKs M n es)(hk:k<=n):StKs M k es:=fun e a=>let ⟨x,b,c⟩:=h e a;⟨x,b,by omega⟩
theorem ExKs.more {a:Addr}{x:Ex}(h:ExKs M n es)(hx:ExAt M a x)(hn:n<x.sz):ExKs M n (es++ [(a,v,k)]):=fun e b=>by
 rcases aQ.1 b with b|b
 . exact h e b
 rw [aZ.1 b];exact ⟨x,hx,hn⟩
theorem StKs.more {a:Addr}(h:StKs M n es)(hx:StAt M a x)(hn:n<x.sz):StKs M n (es++ [(a,v,k)]):=fun e b=>by
 rcases aQ.1 b with b|b
 . exact h e b
 rw [aZ.1 b];exact ⟨x,hx,hn⟩
end
abbrev AE :=((.cells [].toArray 309 (0,0)):Obj)
abbrev Am (v0:Nat)(v1:Nat)(v2:Nat):=([.pointer (some ⟨v0,0,none⟩),.pointer (some ⟨v1,v2,none⟩)]:List Value)
abbrev Ak (v0:Hn)(v1:Nat):=((.map ((v0).map U4).toArray v1):Obj)
abbrev AT (v0:Nat)(v1:Nat):=([.map (some v0),.map (some v1)]:List Value)
theorem Ps: ∀ (N:Nat) {e:Ex} {b o:Nat} {es:Hn} {k:Nat} {q:List HP},e.sz<=N->N<=1000000->CellsAt q pc 0 (AT m1 m2)->(Kn q fun M=>ExAt M ⟨b,o,none⟩ e/\ExKs M e.sz es)->CallF prog G 204 (Am pc b o) (pto m2 (Ak es k)::q) (Ret fun v q'=> ∃ (e':Ex) (k':Nat),e'.er=e.er/\v= .agg (exC e').toArray/\q'=exM e'::pto m2 (Ak es k')::q):=fun N=>by
 induction N with
 |zero=>intro e b o es k q hs;exact aR hs (by cases e;simp only [Ex.sz];omega)
 |succ N IH=> 
 intro e b o es k q hs hN c hK;obtain ⟨w,n,j,u,lo,op,l,aa,ac⟩:=e;refine aC func204 ntmps204 rfl fun F cs=> ?_;have a:=Kn.exC (hK.imp fun M h=>h.1);have hA:Kn q fun M=>SlAt M aa ac l.length (l.flatMap exC)/\Ex.Ats M l:=hK.imp fun M h=>h.1.2;have hS:=fM (hA.imp fun M h=>h.1.2.2)
 have hl:l.length+1<=N+1:=by have:=Nc l;simp only [Ex.sz] at hs;omega
 have z:=Zx Z4 l;obtain ⟨J_,hJ,_,f0,_⟩:=info_parts Uu;have t:J_.size≠0:=by rw [f0];decide
 refine xo 2 ?_;refine bW zeroValue124 fun n1=> ?_
 refine rf [6,0,2] c ?_;refine dJ (F3 underlying306 underlying274 hJ t rfl rfl rfl ((KeysAt.ex hK).le leA) Zk) ?_;rintro _ _ ⟨rfl,rfl⟩;refine rf [6,0,1] c ?_;refine XO.dfDel fun i0=> ?_;refine oo 5 ?_;refine XO.ldC (us:=exC (.mk w n j u lo op l aa ac)) isAgg124 sizeOf124 rfl (a.le leA) ?_;refine bW zeroValue124 fun n2=> ?_
 refine rf [0,4,0,7,0,4] a ?_;refine aY (cG (fun (s:(Nat×Nat)×Option Addr×Nat×List Ex)=>s.1.1<=l.length/\Z3 s.2.2.2=Z3 (l.take s.1.1)/\s.2.2.2.length=s.1.1) (fun s=> [(0,.pointer (some ⟨pc,0,none⟩)),(1,.pointer (some ⟨b,o,none⟩)),(4,pt n1),(5,pt n2),(28,I64 l.length),(29,I64 (s.1.1:Int))]) (fun s=>pto n2 (.cells [I64 w,I64 n,.string j,I64 u,.bool lo,I64 op,.slice s.2.1 (s.2.2.2).length s.2.2.1].toArray 124 (0,0))::pto n1 (.cells zz4.toArray 124 (0,0))::rsH exC 7 124 s.2.1 s.2.2.1 s.2.2.2::exsM s.2.2.2::pto m2 (.map (((es++ [((⟨b,o,none⟩:Addr),(.agg [].toArray:Value),k)]:Hn)).map U4).toArray s.1.2)::(q++F)) (fun s=>l.length - s.1.1) (fun s a0 ih=> ?_) ((0,k+1),none,0, []) ⟨bB _,by simp [Z3],rfl⟩) Zu (aS leA (aS (aS (Zi exC 7 124 _) I7) leA));try dsimp only at a0 ih|-
 obtain ⟨g0,r,c0⟩:=a0;obtain ⟨⟨i,kk⟩,a1,c1,p⟩:=s;dsimp only at*;refine xx 5 ?_;refine xp 30 ?_ ?_<;>intro h0
 . have d:i<l.length:=(by omega);obtain ⟨x,hx⟩:=kL l[i];have y:x.sz<Ex.sz (.mk w n j u lo op l aa ac):=by rw [hx];simp only [Ex.sz];have:=Vx (aB d);omega
   refine Yd (hS.le leA) (by rw [z];omega) fun ab ao e_=> ?_;subst e_
   have b0:Kn q fun M=>ExAt M ⟨ab,ao+(i:Int).toNat*7,none⟩ x/\ExKs M x.sz (es++ [(⟨b,o,none⟩,.agg [].toArray,k)]):=hK.imp fun M h=>by
    obtain ⟨b',o',e1,e2⟩:=fR Z4 (by decide) h.1.2.1.2.2 d
    cases e1
    refine ⟨⟨by rw [hx];exact e2,by rw [hx];exact Ye.1 h.1.2.2 _ (aB d)⟩,(h.2.down (Nat.le_of_lt y)).more h.1 y⟩
   refine rg [10,0,1,2,3,4,5,6,7,8,9,10] c a ?_;refine Yo (fl:= [⟨14,7,fun g=> pt g,fun g=>pto g AE⟩]) ?_;refine iX 10 ⟨⟨_,rfl,rfl,rfl,rfl,rfl,rfl,fun q=>bX zeroValue309⟩,trivial⟩ (Rd.efE (Ek underlying306 underlying274 hJ t rfl rfl ((KeysAt.ex b0).le leA) Zk zeroValue309)) ?_ (hL:=(hlG c a));rintro _ _ ⟨rfl,rfl⟩;refine ⟨(hlA (h:=by repeat first|exact trivial|refine ⟨clA,?_⟩|refine ⟨(c.le leA) 1 _ rfl,?_⟩|refine ⟨(a.le leA) 6 _ rfl,?_⟩)),?_⟩;refine V4 11 ⟨⟨_,rfl,rfl,rfl,rfl,rfl,rfl,fun q=>bX zeroValue309⟩,trivial⟩ (Pu.move rfl) ?_ (hL:=(hlG c a));refine V4 12 ⟨⟨_,rfl,rfl,rfl,rfl,rfl,rfl,fun q=>bX zeroValue309⟩,trivial⟩ (eZ rfl rfl) ?_ (hL:=(hlG c a));refine V4 13 ⟨⟨_,rfl,rfl,rfl,rfl,rfl,rfl,fun q=>bX zeroValue309⟩,trivial⟩ (eZ rfl rfl) ?_ (hL:=(hlG c a));refine Vv (e0:=⟨14,7,fun g=> pt g,fun g=>pto g AE⟩) (hnd:=by simp) 14 ⟨⟨_,rfl,rfl,rfl,rfl,rfl,rfl,fun q=>bX zeroValue309⟩,trivial⟩ (fun ne=> ?_) (hL:=(hlG c a));change XF _ _ _ _ _ _ _ [] _ _ _ ((7,.pointer (some ⟨ne,0,none⟩))::_) _ _ (pto ne AE::_);refine eT ?_ (hL:=(hlG c a));refine rn [16,17,0,3] ?_;refine Zt (bV rfl) ?_;refine rf [1,2047,1,0,1,2,3,4,5,6,7,8,9] a ?_;refine Wy 9 call204 Zk (IH (by omega) (by omega) (c.le leA) (b0.le leA)) ?_;rintro _ _ ⟨e2,k2,d0,rfl,rfl⟩;refine ⟨(hlG c a),?_⟩;refine fC 10 rfl (Yz exC underlying122 Uu rfl rfl Z4 rfl) ?_;rintro _ _ ⟨g,rfl,rfl⟩;refine ⟨(hlG c a),?_⟩;refine fC 11 rfl (Z9 (f:=exC) (l:=p) (m:= [e2]) underlying122 Uu rfl rfl Z4 rfl rfl Zk ((bE _).le Zk) Gc (by simp;omega) (by simp;omega)) ?_;rintro _ _ ⟨a3,c3,rfl,rfl⟩;refine ⟨(hlG c a),?_⟩;refine rn [13,14,0,5] ?_;refine bY (q':=exsM (p++ [e2])::_) (aS (bM Zk Zk) Ld) ?_;refine aY (ih ((i+1,k2),a3,c3,p++ [e2]) ⟨by dsimp only;omega,by dsimp only;rw [La d,<-r,<-hx,<-d0,Yy,Yy,aM];rfl,by dsimp only;rw [aG];simp [c0]⟩ (by dsimp only;omega)) Zu leA
 obtain rfl:i=l.length:=(by omega);rw [cD] at r;clear ih;refine bY (q':=rsH exC 7 124 a1 c1 p::exsM p::_) (bM Zk Zk) ?_;refine X.frzR (Kn.exn (k:=w) (n:=n) (nm:=j) (slot:=u) (loc:=lo) (op:=op) Kn.exsM) (mn:=fun l h=>Ex.At.mono l h) ?_ (hq:=aE _);refine rn [4,0,0,1] ?_;exact X.ret ⟨rfl,Lv.del (mt:=306) rfl underlying306 underlying274 hJ t ((KeysAt.ex hK).le leA) Zk (jG (q':=(exM (Ex.mk w n j u lo op p a1 c1)::pto m2 (Ak es kk)::q)) func204 (rA_ results204) ⟨_,rfl,(Ex.mk w n j u lo op p a1 c1),kk,by simp only [Ex.er,r],rfl,rfl⟩ leA)⟩
mutual
/-- Expressions that are not great. -/
def Stm.lm (B:Nat):Stm->Prop
 | .mk _ _ _ _ _ e ix body els _ _ _ _ _ _ _ _=>e.sz<=B/\ix.sz<=B/\Wa B body/\Wa B els
def Wa (B:Nat):List Stm->Prop
 | []=>True
 |s::r=>s.lm B/\Wa B r
end
theorem Jo {B:Nat}{x:Stm}: ∀ {l:List Stm},Wa B l->x∈l->x.lm B
 |y::r,⟨h1,h2⟩,h=>by
  rcases cE.1 h with rfl|h
  . exact h1
  exact Jo h2 h
theorem Ip (h:s<m.length):Zj (m.take (s+1))=Zj (m.take s)++ [m[s].er]:=by
 rw [Yf,Yf,aH h,aM];rfl
theorem Yj (h:SeesZ M (some ⟨b,o,none⟩) vs)(hv:vs=pre++(exC e++post))(he:e.At M)(hn:n=o+pre.length):ExAt M ⟨b,n,none⟩ e:=hn ▸ ⟨SeesZ.sub h hv,he⟩
abbrev Aq (v0:Nat):=((.map (([]).map U4).toArray v0):Obj)
abbrev B6 (v0:Stm)(v1:Nat)(v2:Hn)(v3:Nat)(v4:List HP):=(Ret fun v q'=> ∃ (s':Stm) (k1' k2':Nat),s'.er=v0.er/\v= .agg (stC s').toArray/\q'=stM s'::pto v1 (Ak v2 k1')::pto v3 (Aq k2')::v4)
def CSt (G:World)(pc m1 m2 B N:Nat):Prop:= ∀ {s:Stm} {b o:Nat} {es:Hn} {k1 k2:Nat} {q:List HP},s.sz<=N->s.lm B->CellsAt q pc 0 (AT m1 m2)->(Kn q fun M=>StAt M ⟨b,o,none⟩ s/\StKs M s.sz es)->
 CallF prog G 187 (Am pc b o) (pto m1 (Ak es k1)::pto m2 (Aq k2)::q) (B6 s m1 es m2 q)
abbrev AG (v0:Nat)(v1:Option Addr)(v2:List Stm)(v3:Nat):=([.pointer (some ⟨v0,0,none⟩),.slice v1 v2.length v3]:List Value)
def CSts (G:World)(pc m1 m2 B N:Nat):Prop:= ∀ {l:List Stm} {a:Option Addr} {c:Nat} {es:Hn} {k1 k2:Nat} {q:List HP},Zm l<=N->Wa B l->CellsAt q pc 0 (AT m1 m2)->(Kn q fun M=>BlkAt M a c l/\StKs M (Zm l) es)->
 CallF prog G 161 (AG pc a l c) (pto m1 (Ak es k1)::pto m2 (Aq k2)::q) (Ret fun v q'=> ∃ (l':List Stm) (a':Option Addr) (c':Nat) (k1' k2':Nat),Zj l'=Zj l/\v= .slice a' l'.length c'/\q'=blM a' c' l'::pto m1 (Ak es k1')::pto m2 (Aq k2')::q)
abbrev AK (v0:Hn)(v1:Nat)(v2:Nat)(v3:Nat):=(v0++ [((⟨v1,v2,none⟩:Addr),(.agg [].toArray:Value),v3)]:Hn)
abbrev A6 (v0)(v1)(v2)(v3)(v4):=([I64 v0,I64 v1,I64 v2,.string v3,.string v4]:List Value)
theorem cst_step {s:Stm}(IH:CSts G pc m1 m2 B N)(hB:B<=1000000)(hs:s.sz<=N+1)(hb:s.lm B)(hc:CellsAt q pc 0 (AT m1 m2))(hK:Kn q fun M=>StAt M ⟨b,o,none⟩ s/\StKs M s.sz es):CallF prog G 187 (Am pc b o) (pto m1 (Ak es k1)::pto m2 (Aq k2)::q) (B6 s m1 es m2 q):=by
 refine aC func187 ntmps187 rfl fun F cs=> ?_;obtain ⟨k,ln,cl,z,y,⟨ek,en,t,n,u,r,el,ea,ec⟩,⟨xk,xn,w,xsl,x,v,xl,xa,xc⟩,bd,p,ba,bc,e0,d0,id,sl,ot,lo⟩:=s;obtain ⟨m0,l0,k0,j0⟩:=hb;have a0:=eR (hK.imp fun M h=>h.1);have p0:Kn q fun M=>ExAt M ⟨b,o+5,none⟩ (Ex.mk ek en t n u r el ea ec)/\ExKs M (Ex.sz (Ex.mk ek en t n u r el ea ec)) []:=hK.imp fun M h=>⟨Yj (pre:= (A6 k ln cl z y)) h.1.1 rfl h.1.2.1 rfl,fun _ h=>by cases h⟩
 have n0:Kn q fun M=>ExAt M ⟨b,o+12,none⟩ (Ex.mk xk xn w xsl x v xl xa xc)/\ExKs M (Ex.sz (Ex.mk xk xn w xsl x v xl xa xc)) []:=hK.imp fun M h=>⟨Yj (pre:= (A6 k ln cl z y)++exC (Ex.mk ek en t n u r el ea ec)) h.1.1 rfl h.1.2.2.1 rfl,fun _ h=>by cases h⟩
 have b0:Zm bd<=N/\Zm p<=N:=by simp only [Stm.sz] at hs;omega
 have q0:Kn q fun M=>BlkAt M ba bc bd/\StKs M (Zm bd) (AK es b o k1):=hK.imp fun M h=>⟨h.1.2.2.2.1,(h.2.down (by simp only [Stm.sz];omega)).more h.1 (by simp only [Stm.sz];omega)⟩
 have o0:Kn q fun M=>BlkAt M e0 d0 p/\StKs M (Zm p) (AK es b o k1):=hK.imp fun M h=>⟨⟨h.1.2.2.2.2.1,h.1.2.2.2.2.2⟩,(h.2.down (by simp only [Stm.sz];omega)).more h.1 (by simp only [Stm.sz];omega)⟩
 obtain ⟨J_,hJ,_,r0,_⟩:=info_parts V7;have c0:J_.size≠0:=by rw [r0];decide
 refine xo 2 ?_;refine bW zeroValue126 fun n1=> ?_
 refine rf [6,0,2] hc ?_;refine dJ (F3 underlying305 underlying146 hJ c0 rfl rfl rfl ((KeysAt.st hK).le leA) Zk) ?_;rintro _ _ ⟨rfl,rfl⟩;refine rf [6,0,1] hc ?_;refine XO.dfDel fun u0=> ?_;refine oo 5 ?_;refine XO.ldC (us:=stC (.mk k ln cl z y (Ex.mk ek en t n u r el ea ec) (Ex.mk xk xn w xsl x v xl xa xc) bd p ba bc e0 d0 id sl ot lo)) isAgg126 sizeOf126 rfl (a0.le leA) ?_;refine bW zeroValue126 fun n2=> ?_
 refine rn [0,2,0,1,2,3,4,6,7,8,9] ?_;refine Wy 4 call204 Zk (Ps B (e:=(Ex.mk ek en t n u r el ea ec)) m0 hB (hc.le leA) (p0.le leA)) ?_;rintro _ _ ⟨⟨fk,fn,j,g,m,i,fl,fa,fc⟩,t0,g0,rfl,rfl⟩;refine ⟨trivial,?_⟩;refine dd [10] ?_;refine Wy 9 call204 Zk (Ps B (e:=(Ex.mk xk xn w xsl x v xl xa xc)) l0 hB (hc.le leA) (n0.le leA)) ?_;rintro _ _ ⟨⟨yk,yn,d,a,f,c,yl,ya,yc⟩,s0,f0,rfl,rfl⟩;refine ⟨trivial,?_⟩;refine rf [12,13,14,0,1,0,1,2,3,4,5,7,8,9,10,11] a0 ?_;refine Wy 5 call161 (bM Zk Zk) (IH (l:=bd) (es:=(AK es b o k1)) b0.1 k0 (hc.le leA) (q0.le leA)) ?_;rintro _ _ ⟨l1,a1,c1,p1,r1,i0,rfl,rfl⟩;refine ⟨(hlF a0),?_⟩;refine dd [12] ?_;refine Wy 11 call161 (bM Zk Zk) (IH (l:=p) (es:=(AK es b o k1)) b0.2 j0 (hc.le leA) (o0.le leA)) ?_;rintro _ _ ⟨l2,a2,c2,p2,r2,h0,rfl,rfl⟩;refine ⟨trivial,?_⟩;refine rn [14,15,16,0,2,0,0,1] ?_;refine bY (q':=exM (Ex.mk fk fn j g m i fl fa fc)::exM (Ex.mk yk yn d a f c yl ya yc)::blM a1 c1 l1::blM a2 c2 l2::_) (bM Zk (bM Zk (bM Zk Zk))) ?_;refine bY (q':=stM (Stm.mk k ln cl z y (Ex.mk fk fn j g m i fl fa fc) (Ex.mk yk yn d a f c yl ya yc) l1 l2 a1 c1 a2 c2 id sl ot lo)::_) (aS (cZ (φ:=fun M=>Stm.At M (Stm.mk k ln cl z y (Ex.mk fk fn j g m i fl fa fc) (Ex.mk yk yn d a f c yl ya yc) l1 l2 a1 c1 a2 c2 id sl ot lo)) (mn:=fun l h=>Stm.At.mono l h) ((Kn.exM.and (Kn.exM.there.and (Kn.blM.there.there.and Kn.blM.there.there.there))).imp fun M h=>⟨h.1,h.2.1,h.2.2.1,h.2.2.2.1,h.2.2.2.2⟩)) (dD _ ((eD _ _).trans ((eD _ _).trans ((eD _ _).trans (eD _ _)))))) ?_;exact X.ret ⟨rfl,Lv.del (mt:=305) rfl underlying305 underlying146 hJ c0 ((KeysAt.st hK).le leA) Zk (jG (q':=(stM (Stm.mk k ln cl z y (Ex.mk fk fn j g m i fl fa fc) (Ex.mk yk yn d a f c yl ya yc) l1 l2 a1 c1 a2 c2 id sl ot lo)::pto m1 (Ak es p2)::pto m2 (Aq r2)::q)) func187 (rA_ results187) ⟨_,rfl,(Stm.mk k ln cl z y (Ex.mk fk fn j g m i fl fa fc) (Ex.mk yk yn d a f c yl ya yc) l1 l2 a1 c1 a2 c2 id sl ot lo),p2,r2,by simp only [Stm.er,i0,h0,g0,f0],rfl,rfl⟩ leA)⟩
theorem Fp {l:List Stm}(IH:CSt G pc m1 m2 B N)(hN:N<=1000000)(hs:Zm l<=N)(hb:Wa B l)(hc:CellsAt q pc 0 (AT m1 m2))(hK:Kn q fun M=>BlkAt M a c l/\StKs M (Zm l) es):CallF prog G 161 (AG pc a l c) (pto m1 (Ak es k1)::pto m2 (Aq k2)::q) (Ret fun v q'=> ∃ (l':List Stm) (a':Option Addr) (c':Nat) (k1' k2':Nat),Zj l'=Zj l/\v= .slice a' l'.length c'/\q'=blM a' c' l'::pto m1 (Ak es k1')::pto m2 (Aq k2')::q):=by
 refine aC func161 ntmps161 rfl fun F cs=> ?_;have hS:=fM (hK.imp fun M h=>h.1.1.2.2);have hl:l.length<=N:=cP (Je l) hs;have k:=Zx Z8 l;obtain ⟨J_,hJ,_,z,_⟩:=info_parts V7;have y:J_.size≠0:=by rw [z];decide
 refine xx 16 ?_;refine aY (cG (fun (s:(Nat×Nat×Nat)×Option Addr×Nat×List Stm)=>s.1.1<=l.length/\Zj s.2.2.2=Zj (l.take s.1.1)/\s.2.2.2.length=s.1.1) (fun s=> [(0,.pointer (some ⟨pc,0,none⟩)),(1,.slice a l.length c),(5,.slice s.2.1 s.2.2.2.length s.2.2.1),(10,I64 l.length),(11,I64 (s.1.1:Int))]) (fun s=>rsH stC 25 126 s.2.1 s.2.2.1 s.2.2.2::stsM s.2.2.2::pto m1 (.map ((es).map U4).toArray s.1.2.1)::pto m2 (.map (([]).map U4).toArray s.1.2.2)::(q++F)) (fun s=>l.length - s.1.1) (fun s n p=> ?_) ((0,k1,k2),none,0, []) ⟨bB _,by simp [Zj],rfl⟩) Zu (aS leA (aS (aS (Zi stC 25 126 _) Hk) leA));try dsimp only at n p|-
 obtain ⟨a0,e,w⟩:=n;obtain ⟨⟨i,j1,j2⟩,a1,c1,d⟩:=s;dsimp only at*;refine xx 5 ?_;refine xp 12 ?_ ?_<;>intro h0
 . have b:i<l.length:=(by omega);obtain ⟨x,j⟩:=kL l[i];have r:x.sz<=Zm l:=j ▸ Ub (aB b);have t:x.lm B:=j ▸ Jo hb (aB b);refine Yd (hS.le leA) (by rw [k];omega) fun ab ao e_=> ?_;subst e_
   have o:Kn q fun M=>StAt M ⟨ab,ao+(i:Int).toNat*25,none⟩ x/\StKs M x.sz es:=hK.imp fun M h=>by
    obtain ⟨b',o',e1,e2⟩:=fR Z8 (by decide) h.1.1.2.2 b
    cases e1
    exact ⟨⟨by rw [j];exact e2,by rw [j];exact Vg.1 h.1.2 _ (aB b)⟩,h.2.down r⟩
   refine rf [10,0,1,2,3,4,5,6,7] hc ?_;refine Yo (fl:= [⟨11,7,fun g=> pt g,fun g=>pto g AE⟩]) ?_;refine iX 7 ⟨⟨_,rfl,rfl,rfl,rfl,rfl,rfl,fun q=>bX zeroValue309⟩,trivial⟩ (Rd.efE (Ek underlying305 underlying146 hJ y rfl rfl ((KeysAt.st o).le leA) Zk zeroValue309)) ?_ (hL:=(hlF hc));refine kk0 ?_;refine V4 8 ⟨⟨_,rfl,rfl,rfl,rfl,rfl,rfl,fun q=>bX zeroValue309⟩,trivial⟩ (Pu.move rfl) ?_;refine V4 9 ⟨⟨_,rfl,rfl,rfl,rfl,rfl,rfl,fun q=>bX zeroValue309⟩,trivial⟩ (eZ rfl rfl) ?_;refine V4 10 ⟨⟨_,rfl,rfl,rfl,rfl,rfl,rfl,fun q=>bX zeroValue309⟩,trivial⟩ (eZ rfl rfl) ?_;refine Vv (e0:=⟨11,7,fun g=> pt g,fun g=>pto g AE⟩) (hnd:=by simp) 11 ⟨⟨_,rfl,rfl,rfl,rfl,rfl,rfl,fun q=>bX zeroValue309⟩,trivial⟩ fun ne=> ?_;change XF _ _ _ _ _ _ _ [] _ _ _ ((7,.pointer (some ⟨ne,0,none⟩))::_) _ _ (pto ne AE::_);refine eT ?_;refine rn [13,14,0,3] ?_;refine Zt (bV rfl) ?_;refine rn [1,2026,7] ?_;refine Zb call187 (bM Zk Zk) (IH (s:=x) (es:=es) (by omega) t (hc.le leA) (o.le leA)) ?_;rintro _ _ ⟨s2,p2,r2,u,rfl,rfl⟩;refine bQ (Yz stC underlying53 V7 rfl rfl Z8 rfl) ?_;rintro _ _ ⟨g,rfl,rfl⟩;refine bQ (Z9 (f:=stC) (l:=d) (m:= [s2]) underlying53 V7 rfl rfl Z8 rfl rfl Zk ((bE _).le Zk) H9 (by simp;omega) (by simp;omega)) ?_;rintro _ _ ⟨a3,c3,rfl,rfl⟩;refine ox 7 ?_;refine bY (q':=stsM (d++ [s2])::_) (aS (bM Zk Zk) H5) ?_;refine aY (p ((i+1,p2,r2),a3,c3,d++ [s2]) ⟨by dsimp only;omega,by dsimp only;rw [Ip b,<-e,<-j,<-u,Yf,Yf,aM];rfl,by dsimp only;rw [aG];simp [w]⟩ (by dsimp only;omega)) Zu leA
 obtain rfl:i=l.length:=(by omega);rw [cD] at e;clear p;refine bY (q':=rsH stC 25 126 a1 c1 d::stsM d::_) (bM Zk Zk) ?_;refine X.frzR (Kn.blk Kn.stsM) (mn:=BlkAt.mono) ?_ (hq:=aE _);refine xx 7 ?_;refine Zq (blM a1 c1 d::pto m1 (Ak es j1)::pto m2 (Aq j2)::q) func161 (Zn results161 rfl) ⟨_,rfl,d,a1,c1,j1,j2,e,rfl,rfl⟩
theorem Gi (hB:B<=1000000): ∀ N,N<=1000000->CSt G pc m1 m2 B N/\CSts G pc m1 m2 B N
 |0,_=>by
  have f:CSt G pc m1 m2 B 0:=fun {s} _ _ _ _ _ _ a=>aR a (by cases s;simp only [Stm.sz];omega)
  exact ⟨f,fun a c b d=>Fp f (by omega) a c b d⟩
 |N+1,hN=>by
  have h:CSts G pc m1 m2 B N:=(Gi hB N (by omega)).2;have e:CSt G pc m1 m2 B (N+1):=fun a c b d=>cst_step h hB a c b d
  exact ⟨e,fun a c b d=>Fp e hN a c b d⟩
mutual
def PStm.its:PStm->Int->List (Int×PStm)
 | .mk k ln cl nm wt e ix body els id slot other loc,d=>(d,.mk k ln cl nm wt e ix body els id slot other loc)::(Z0 body (d+1)++Z0 els (d+1))
def Z0:List PStm->Int->List (Int×PStm)
 | [],_=> []
 |s::r,d=>s.its d++Z0 r d
end
theorem Jb: ∀ (l:List PStm) (d:Int),Z0 l d=l.flatMap fun s=>s.its d
 | [],_=>rfl
 |s::r,d=>by simp only [Z0,cH,Jb r d]
mutual
theorem J6: ∀ (s:PStm) (d:Int),(∃ r,s.its d=(d,s)::r/\ ∀ x∈r,d<x.1)
 | .mk k ln cl nm wt e ix body els id slot other loc,d=>⟨_,rfl,fun x a=>by
  rcases aQ.1 a with a|a
  . have:=Jg body (d+1) x a;omega
  have:=Jg els (d+1) x a;omega⟩
theorem Jg: ∀ (l:List PStm) (d:Int),∀ x∈Z0 l d,d<=x.1
 | [],_,x,a=>by cases a
 |s::r,d,x,a=>by
  rcases aQ.1 a with a|a
  . obtain ⟨t,c,b⟩:=J6 s d;rw [c] at a;rcases cE.1 a with rfl|a
    . exact bL _
    exact Int.le_of_lt (b x a)
  exact Jg r d x a
end
def Mm (l:List (Int×PStm)):List PStm:=(l.filter fun x=>x.1==1).map (·.2)
theorem Dj (a b:List (Int×PStm)):Mm (a++b)=Mm a++Mm b:=by simp [Mm]
theorem C3: ∀ l:List PStm,Mm (Z0 l 1)=l
 | []=>rfl
 |s::r=>by
  obtain ⟨t,e,d⟩:=J6 s 1
  have c:Mm t= []:=by
   unfold Mm;rw [List.map_eq_nil_iff,List.filter_eq_nil_iff];intro x a;have:=d x a;simp only [dC];omega
  have b:s.its 1= [(1,s)]++t:=e;simp only [Z0];rw [Dj,b,Dj,c,C3 r];rfl
theorem Zq5 {l:List (Int×PStm)}(h:i<l.length):Mm (l.take (i+1))=Mm (l.take i)++(if l[i].1=1 then [l[i].2] else []):=by
 rw [aH h,Dj];congr 1;unfold Mm;by_cases hx:l[i].1=1<;>simp [hx]
def itK (l:List PStm)(d:Int)(i:Nat):Nat:=((l.take i).flatMap fun s=>s.its d).length
theorem itK_step (h:i<l.length):itK l d (i+1)=itK l d i+(l[i].its d).length:=N8 _ h
theorem itK_all (l:List PStm)(d:Int):itK l d l.length=(Z0 l d).length:=by unfold itK;rw [cD,Jb]
theorem itK_at (h:i<l.length)(hn:n<(l[i].its d).length):(Z0 l d)[itK l d i+n]? =some (l[i].its d)[n]:=by
 rw [Jb];exact Nz _ l i n h hn
def Seg {α:Type}(L:List α)(k:Nat)(m:List α):Prop:= ∀ i,i<m.length->L[k+i]? =m[i]?
theorem Seg.app {α:Type}{L m n:List α}(h:Seg L k (m++n)):Seg L k m/\Seg L (k+m.length) n:=
 ⟨fun i a=>by rw [h i (by rw [aG];omega),dV a],fun i a=>by
  rw [eL,h (m.length+i) (by rw [aG];omega),cY (by omega)];congr 1;omega⟩
theorem Seg.item (h:Seg L k (Z0 l d))(hi:i<l.length):Seg L (k+itK l d i) (l[i].its d):=fun n a=>by
 have b:=itK_at (d:=d) hi a;have c:=(cI.1 b).1;rw [eL,h _ c,b,aD a]
theorem Seg.self {α:Type}(L:List α):Seg L 0 L:=fun i _=>by rw [eC]
def ItR (x:Int×PStm)(vs:List Value)(A:HP):Prop:= ∃ s:Stm,s.er=x.2/\vs= [I64 x.1,.agg (stC s).toArray]/\A=stM s
section
variable {y:Nat}{l:List Stm}
abbrev AY :=((.map (([]).map U4).toArray 0):Obj)
theorem N4:CallF prog G 160 [] (q) (Ret fun v q'=> ∃ p m1 m2,v= .pointer (some ⟨p,0,none⟩)/\q'=pto m1 AY::pto m2 AY::pto p (.cells (AT m1 m2).toArray 308 (0,0))::q):=by
 refine aC func160 ntmps160 rfl fun F b=> ?_;refine xo 6 ?_;refine bQ (Ef.makeMap) ?_;rintro _ _ ⟨m1,rfl,rfl⟩;refine bQ (Ef.makeMap) ?_;rintro _ _ ⟨m2,rfl,rfl⟩;refine oo 1 ?_;refine Ww fun a=> ?_
 refine ox 2 ?_;refine Zq (pto m1 AY::pto m2 AY::pto a (.cells (AT m1 m2).toArray 308 (0,0))::q) func160 (Zn results160 rfl) ⟨_,rfl,a,m1,m2,rfl,rfl⟩
abbrev Bc (v0:Value)(v1:HP->Prop)(v2:List HP)(v3:List HP):=(v0= .bool false/\ ∃ B,v1 B/\v2=B::v3)
abbrev Bb (v0:List Stm)(v1:Int):=(Z0 (Zj v0) v1)
def Wlk (G:World)(q:List HP)(y B:Nat)(L:List (Int×PStm))(J:Nat->HP)(Jf:HP->Prop)(N:Nat):Prop:= ∀ {l:List Stm} {a:Option Addr} {c:Nat} {d:Int} {k:Nat},Zm l<=N->Wa B l->(0<=d/\d+N<=2000000)->(Kn q fun M=>BlkAt M a c l)->Seg L k (Bb l d)->
 CallF prog G 163 [.slice a l.length c,I64 d,.func (.yield y) #[] #[]] (J k::q) (Ret fun v q'=>(v= .bool true/\q'=J (k+(Bb l d).length)::q)\/(Bc v Jf q' q))
abbrev AC (v0:List (Int×PStm))(v1:World)(v2:Nat)(v3:Nat->HP)(v4:List HP)(v5:HP->Prop):=(∀ i (h:i<v0.length) vs A,ItR v0[i] vs A->CallV prog v1 (.func (.yield v2) #[] #[]) vs (v3 i::A::v4) (Ret fun v q'=>(v= .bool true/\q'=v3 (i+1)::v4)\/(Bc v v5 q' v4)))
theorem Zqj (hy:(AC L G y J q Jf))(IH: ∀ n,n<N->Wlk G q y B L J Jf n)(hB:B<=1000000)(hN:N<=1000000)(hs:Zm l<=N)(hb:Wa B l)(hd:0<=d/\d+N<=2000000)(hK:Kn q fun M=>BlkAt M a c l)(hL:Seg L k (Bb l d)):CallF prog G 163 [.slice a l.length c,I64 d,.func (.yield y) #[] #[]] (J k::q) (Ret fun v q'=>(v= .bool true/\q'=J (k+(Bb l d).length)::q)\/(Bc v Jf q' q)):=by
 refine aC func163 ntmps163 rfl fun F cs=> ?_;have hS:=fM (hK.imp fun M h=>h.1.2.2);have hl:l.length<=N:=cP (Je l) hs;have g0:=Zx Z8 l;have v0:=Zg l;refine xx 12 ?_;refine aY (cG (fun (s:Nat)=>s<=l.length) (fun s=> [(0,.slice a l.length c),(1,I64 d),(2,.func (.yield y) #[] #[]),(9,I64 l.length),(10,I64 s)]) (fun s=>J (k+itK (Zj l) d s)::(q++F)) (fun s=>l.length - s) (fun s i0 ih=> ?_) 0 (bB _)) Zu leA;try dsimp only at i0 ih|-
 obtain hi:=i0;refine xx 5 ?_;refine xp 11 ?_ ?_<;>intro h0
 . have o:s<l.length:=(by omega);have f0:s<(Zj l).length:=(by omega);have c0:(Zj l)[s]=l[s].er:=by simp only [Yf,eY]
   have f:=hL.item (i:=s) f0;rw [c0] at f;have j:=itK_step (d:=d) f0;rw [c0] at j;obtain ⟨x,hx⟩:=kL l[s];have r0:x.sz<=Zm l:=hx ▸ Ub (aB o);have d0:x.lm B:=hx ▸ Jo hb (aB o);rw [<-hx] at f j;refine Yd (hS.le leA) (by rw [g0];omega) fun ab ao e_=> ?_;subst e_
   have p:Kn q fun M=>StAt M ⟨ab,ao+(s:Int).toNat*25,none⟩ x:=hK.imp fun M h=>by
    obtain ⟨b',o',e1,e2⟩:=fR Z8 (by decide) h.1.2.2 o
    cases e1
    exact ⟨by rw [hx];exact e2,by rw [hx];exact Vg.1 h.2 _ (aB o)⟩
   refine rn [11,0,1,2,4,5,6] ?_;refine Wy 2 call160 (aE _) (N4) ?_;rintro _ _ ⟨pc,m1,m2,rfl,rfl⟩;refine ⟨trivial,?_⟩;refine Wy 6 call187 (bM Zk Zk) ((Gi (m1:=m1) (m2:=m2) hB N hN).1 (s:=x) (es:= []) (by omega) d0 (iZ Qu) ((p.le leA).imp fun M h=>⟨h,fun _ h=>by cases h⟩)) ?_;rintro _ _ ⟨s2,j1,j2,t0,rfl,rfl⟩;refine ⟨trivial,?_⟩
   have u:L[k+itK (Zj l) d s]? =some (d,x.er):=by
    obtain ⟨r_,e1,_⟩:=J6 x.er d;have:=f 0 (by rw [e1];exact Nat.succ_pos _);rw [e1] at this;exact this
   have q0:=hy (k+itK (Zj l) d s) (cI.1 u).1 [I64 d,.agg (stC s2).toArray] (stM s2) ⟨s2,by rw [(cI.1 u).2];exact t0,by rw [(cI.1 u).2],rfl⟩;refine XD.cV 7 q0 ?_ (hq:=(bM Zk (bM Zk leA)));rintro _ _ (⟨rfl,rfl⟩|⟨rfl,t,g,rfl⟩) _ b<;>simp only [ca,na] at b<;>subst b
   . refine ⟨trivial,?_⟩;refine Vz 8 rfl (bV rfl) ?_;refine rn [0,1021] ?_;obtain ⟨kk,ln,cl,nm,wt,⟨ek,en,m0,k0,n0,l0,el,ea,ec⟩,⟨xk,xn,a0,xsl,b0,z,xl,xa,xc⟩,w,e,ba,bc,p0,o0,id,sl,ot,lo⟩:=x;obtain ⟨z0,y0,x0,w0⟩:=d0;have j0:=eR p;have hz:Zm w+Zm e+1<=N:=(by simp only [Stm.sz] at r0;omega);have u0:PStm.its (Stm.er (.mk kk ln cl nm wt (Ex.mk ek en m0 k0 n0 l0 el ea ec) (Ex.mk xk xn a0 xsl b0 z xl xa xc) w e ba bc p0 o0 id sl ot lo)) d=(d,Stm.er (.mk kk ln cl nm wt (Ex.mk ek en m0 k0 n0 l0 el ea ec) (Ex.mk xk xn a0 xsl b0 z xl xa xc) w e ba bc p0 o0 id sl ot lo))::(Z0 (Zj w) (d+1)++Z0 (Zj e) (d+1)):=by simp only [Stm.er,PStm.its]
     rw [u0] at f j;rw [bG,aG] at j;have r:=(Seg.app (m:= [_]) f).2;rw [bJ] at r;obtain ⟨s0,e0⟩:=r.app;refine rf [8,0,3] j0 ?_;refine W3 call163 (IH (Zm w) (by omega) (k:=(k+itK (Zj l) d s+1)) (aL _) x0 (by omega) (p.imp fun M h=>h.2.2.2.1) s0) ?_;rintro _ _ (⟨rfl,rfl⟩|⟨rfl,t,g,rfl⟩) _ b<;>simp only [ca,na] at b<;>subst b
     . refine rf [6,0,3] j0 ?_;refine W3 call163 (IH (Zm e) (by omega) (k:=(k+itK (Zj l) d s+1+(Z0 (Zj w) (d+1)).length)) (aL _) w0 (by omega) (p.imp fun M h=>⟨h.2.2.2.2.1,h.2.2.2.2.2⟩) e0) ?_;rintro _ _ (⟨rfl,rfl⟩|⟨rfl,t,g,rfl⟩) _ b<;>simp only [ca,na] at b<;>subst b
       . refine ox 10 ?_;rw [show k+itK (Zj l) d s+1+(Z0 (Zj w) (d+1)).length+(Z0 (Zj e) (d+1)).length=k+itK (Zj l) d (s+1) by omega];refine aY (ih (s+1) (by omega) (by omega)) Zu leA
       refine ox 8 ?_;refine Zq (t::q) func163 (Zn results163 rfl) ⟨_,rfl,.inr ⟨rfl,t,g,rfl⟩⟩
     refine ox 19 ?_;refine Zq (t::q) func163 (Zn results163 rfl) ⟨_,rfl,.inr ⟨rfl,t,g,rfl⟩⟩
   refine ⟨trivial,?_⟩;refine Vz 8 rfl (bV rfl) ?_;refine rn [0,2021,5] ?_;refine Zq (t::q) func163 (Zn results163 rfl) ⟨_,rfl,.inr ⟨rfl,t,g,rfl⟩⟩
 obtain rfl:s=l.length:=(by omega);rw [show itK (Zj l) d l.length=(Bb l d).length by rw [<-v0];exact itK_all _ _];refine xx 6 ?_;refine Zq (J (k+(Bb l d).length)::q) func163 (Zn results163 rfl) ⟨_,rfl,.inl ⟨rfl,rfl⟩⟩
theorem walk_all (hy:(AC L G y J q Jf))(hB:B<=1000000)(N:Nat)(hN:N<=1000000):Wlk G q y B L J Jf N:=by
 induction N using Nat.strongRecOn with
 |ind N IH=>exact fun a d c f e=>Zqj hy (fun n b=>IH n b (by omega)) hB hN a d c f e
abbrev B9 (v0:List Stm):=(Z0 (Zj v0) 1)
theorem Zqh (hB:B<=1000000)(hs:Zm l<=1000000)(hb:Wa B l)(hK:Kn q fun M=>BlkAt M a c l)(hc:CellsAt q nb 0 [.slice a l.length c])
 (hy: ∀ i (h:i<(B9 l).length) vs A,ItR (B9 l)[i] vs A->CallV prog G (.func (.yield y) #[] #[]) vs (J i::A::q) (Ret fun v q'=>(v= .bool true/\q'=J (i+1)::q)\/(Bc v Jf q' q))):
 CallF prog G 162 [.func (.yield y) #[] #[],.pointer (some ⟨nb,0,none⟩)] (J 0::q) (Ret fun _ q'=>q'=J (B9 l).length::q\/ ∃ A,Jf A/\q'=A::q):=by
 refine aC func162 ntmps162 rfl fun F g=> ?_;refine rf [1,0,1] hc ?_;refine W3 call163 (walk_all hy hB (Zm l) hs (k:=0) (aL _) hb (by omega) hK (Seg.self _)) ?_;rintro _ _ e _ d;subst d;rw [eC] at e;rcases e with ⟨rfl,rfl⟩|⟨rfl,f,b,rfl⟩
 . simp only [ca,na];refine ox 1 ?_;refine Z7 (J (B9 l).length::q) func162 (Vm results162) ⟨_,rfl,.inl rfl⟩
 simp only [ca,na];refine ox 1 ?_;refine Z7 (f::q) func162 (Vm results162) ⟨_,rfl,.inr ⟨f,b,rfl⟩⟩
theorem L8 (hB:B<=1000000)(hs:Zm l<=1000000)(hb:Wa B l)(hK:Kn q fun M=>BlkAt M a c l)(hc:CellsAt q nb 0 [.slice a l.length c]):IterR prog G (.func (.func 162) [].toArray (A8 nb).toArray) ItR (B9 l) q:=
 fun y J Jf hy=>CallV.c11 call162 (Zqh (G:=G) (J:=J) (Jf:=Jf) hB hs hb hK hc hy)
abbrev B1 :=((.cells [.slice none 0 0].toArray 53 (0,0)):Obj)
theorem Stmts_ok {x0 x1 x2 x4:Int}{x3:ByteArray}(hB:B<=1000000)(hs:Zm l<=1000000)(hb:Wa B l)(hK:Kn q fun M=>BlkAt M a c l):CallF prog G 124 [.agg [I64 x0,I64 x1,I64 x2,.string x3,I64 x4,.slice a l.length c].toArray] (q) (Ret fun v q'=> ∃ (l':List Stm) (a':Option Addr) (c' nb:Nat),Zj l'=Zj l/\v= .func (.func 162) [].toArray (A8 nb).toArray/\q'=pto nb (.cells [.slice a' l'.length c'].toArray 53 (0,0))::blM a' c' l'::q):=by
 refine aC func124 ntmps124 rfl fun F m=> ?_;refine xo 2 ?_;refine Ww fun i=> ?_
 refine rn [3,0,2,3] ?_;refine Yo (fl:= [⟨4,3,fun g=> pt g,fun g=>pto g B1⟩]) ?_;refine Fi 0 ⟨⟨_,rfl,rfl,rfl,rfl,rfl,rfl,fun q=>bX zeroValue53⟩,trivial⟩ call160 (aE _) (N4) ?_;rintro _ _ ⟨pc,m1,m2,rfl,rfl⟩;refine ⟨hlA,?_⟩;refine Fi 3 ⟨⟨_,rfl,rfl,rfl,rfl,rfl,rfl,fun q=>bX zeroValue53⟩,trivial⟩ call161 (bM Zk Zk) ((Gi (m1:=m1) (m2:=m2) hB 1000000 (aL _)).2 (l:=l) (es:= []) hs hb (iZ Qu) ((hK.le leA).imp fun M h=>⟨h,fun _ h=>by cases h⟩)) ?_;rintro _ _ ⟨b,f,e,k,j,d,rfl,rfl⟩;refine ⟨trivial,?_⟩;refine Vv (e0:=⟨4,3,fun g=> pt g,fun g=>pto g B1⟩) (hnd:=by simp) 4 ⟨⟨_,rfl,rfl,rfl,rfl,rfl,rfl,fun q=>bX zeroValue53⟩,trivial⟩ fun nb=> ?_;change XF _ _ _ _ _ _ _ [] _ _ _ ((3,.pointer (some ⟨nb,0,none⟩))::_) _ _ (pto nb B1::_);refine eT ?_;refine rn [6,0,5] ?_;refine Zq (pto nb (.cells [.slice f b.length e].toArray 53 (0,0))::blM f e b::q) func124 (Zn results124 rfl) ⟨_,rfl,b,f,e,nb,d,rfl,rfl⟩
end
theorem Ni:(prog.info? 55).map (fun i=>(i.zero,i.size,i.bytes))=some (some (.agg #[.string ⟨#[]⟩,I64 0,.slice none 0 0]),3,48):=by kernel_rfl
theorem Ra:(prog.info? 9).map (fun i=>(i.zero,i.size,i.bytes))=some (some (.string ⟨#[]⟩),1,16):=by kernel_rfl
abbrev zEx:Ex:= .mk 0 0 ⟨#[]⟩ 0 false 0 [] none 0
abbrev zSm:Stm:= .mk 0 0 0 ⟨#[]⟩ ⟨#[]⟩ zEx zEx [] [] none 0 none 0 0 0 0 false
mutual
theorem Ed: ∀ {x y:Ex},x.er=y.er->x.sz=y.sz
 | .mk ..,.mk ..,h=>by
  simp only [Ex.er,PEx.mk.injEq] at h;simp only [Ex.sz,F2 h.2.2.2.2.2.2]
theorem F2: ∀ {l m:List Ex},Z3 l=Z3 m->Qe l=Qe m
 | [], [],_=>rfl
 | [],_::_,h=>by simp [Z3] at h
 |_::_, [],h=>by simp [Z3] at h
 |x::l,y::m,h=>by
  simp only [Z3,gP] at h;simp only [Qe,Ed h.1,F2 h.2]
end
mutual
theorem Zzt {B:Nat}: ∀ {x y:Stm},x.er=y.er->y.lm B->x.lm B
 | .mk ..,.mk ..,h,⟨h1,h2,h3,h4⟩=>by
  simp only [Stm.er,PStm.mk.injEq] at h;obtain ⟨_,_,_,_,_,d,c,b,a,_⟩:=h;exact ⟨Ed d ▸ h1,Ed c ▸ h2,K9 b h3,K9 a h4⟩
theorem K9 {B:Nat}: ∀ {l m:List Stm},Zj l=Zj m->Wa B m->Wa B l
 | [],_,_,_=>trivial
 |_::_, [],h,_=>by simp [Zj] at h
 |x::l,y::m,h,⟨h1,h2⟩=>by
  simp only [Zj,gP] at h;exact ⟨Zzt h.1 h1,K9 h.2 h2⟩
end
def cbI (B:List PStm)(k nb:Nat):HP:=ex fun x:List Stm×Option Addr×Nat=>stars [pure (Zj x.1=Mm ((Z0 B 1).take k)),pto nb (.cells [.slice x.2.1 x.1.length x.2.2].toArray 53 (0,0)),rsH stC 25 126 x.2.1 x.2.2 x.1,stsM x.1]
theorem Ik {B:List PStm}{r:List HP}(x:List Stm×Option Addr×Nat)(h:Zj x.1=Mm ((Z0 B 1).take k))(hle:Le q (pto nb (.cells [.slice x.2.1 x.1.length x.2.2].toArray 53 (0,0))::rsH stC 25 126 x.2.1 x.2.2 x.1::stsM x.1::r)):Le q (cbI B k nb::r):=
 Em x (hle.trans ((Ql h _).trans (by exact Z5 [_,_,_,_] r)))
theorem X.cbI {P:Program}{f:Fc}{Q:Yn}{todo:List Item}{p:PE}{ds:List Deferred}{cs:List Frame}{B:List PStm}
 (x: ∀ (l:List Stm) (a:Option Addr) (c:Nat),Zj l=Mm ((Z0 B 1).take k)->X P G f Q todo p ds cs (pto nb (.cells [.slice a l.length c].toArray 53 (0,0))::rsH stC 25 126 a c l::stsM l::q)):X P G f Q todo p ds cs (Go.Proofs.YtflkjkhijcdbaaaGreat.cbI B k nb::q):=
 X.ex (fun s=>bY (Z1 _ _) (X.pure (fun h=>x s.1 s.2.1 s.2.2 h)))
theorem ones_len (l:List (Int×PStm)):(Mm l).length<=l.length:=by unfold Mm;rw [aU];exact gV _ _
mutual
theorem Lq: ∀ (s:Stm) (d:Int),(s.er.its d).length=s.sz
 | .mk _ _ _ _ _ _ _ body els _ _ _ _ _ _ _ _,d=>by simp only [Stm.er,PStm.its,bG,aG,Stm.sz,V0 body,V0 els]
theorem V0: ∀ (l:List Stm) (d:Int),(Z0 (Zj l) d).length=Zm l
 | [],_=>rfl
 |s::r,d=>by simp only [Zj,Z0,aG,Zm,Lq s,V0 r]
end
theorem Im (a b:List Stm):Zj (a++b)=Zj a++Zj b:=by rw [Yf,Yf,Yf,aM]
section
variable {l:List Stm}
theorem Pa (hB:B<=1000000)(hs:Zm l<=1000000)(hb:Wa B l)(hK:Kn q fun M=>BlkAt M a c l):CallF prog G 82 [.slice a l.length c] (q) (Ret fun v q'=> ∃ (l':List Stm) (a':Option Addr) (c':Nat),Zj l'=Zj l/\v= .slice a' l'.length c'/\q'=blM a' c' l'::q):=by
 refine aC func82 ntmps82 rfl fun F cs=> ?_;refine xo 6 ?_;refine bW zeroValue53 fun n1=> ?_
 refine oo 6 ?_;refine Zb call124 (aE _) (Stmts_ok (l:=l) hB hs hb (hK.le leA)) ?_;rintro _ _ ⟨l2,a2,c2,nb,c0,rfl,rfl⟩;refine ox 2 ?_;have g0:Zm l2=Zm l:=by rw [<-V0 l2 0,<-V0 l 0,c0]
 refine bY (q':=pto nb (.cells [.slice a2 l2.length c2].toArray 53 (0,0))::_) leA (X.freeze ?_);have f0:=K9 c0 hb;refine X.rangeR (xs:=Z0 (Zj l2) 1) [im nb (.cells [.slice a2 l2.length c2].toArray 53 (0,0)),blM a2 c2 l2] (fun k:Nat=> [cbI (Zj l2) k n1]) (fun _ _=>False) (F:=q++F) (L8 (B:=B) (by omega) (by omega) f0 (Kn.blM.there) (iZ (Has.im _ _ _))) rfl ?_ (by rintro _ _ _ ⟨_,_,rfl,_⟩;rfl) rfl (by rw [func82];rfl) rfl (fun i hi vs A hA l9 rec F0 j0=> ?_) (fun r=> ?_) (fun _ _ _ hJ=>hJ.elim)
 . simp only [ca,na];refine Ik ([],none,0) (by simp [Zj,Mm]) ?_;exact aS leA (aS (Zi stC 25 126 _) (aS Hk leA))
 . obtain ⟨s2,e0,rfl,rfl⟩:=hA;obtain ⟨x,hx⟩:=kL (Z0 (Zj l2) 1)[i];rw [<-hx] at e0|-;have d0:=Zq5 hi;rw [<-hx] at d0;refine X.sub (p':= [(10,_),(9,_),(8,_),(3,_),(2,_)]) ⟨rfl,rfl,rfl,rfl,rfl,trivial⟩ ?_;simp only [ca,na];refine bY (q':=cbI (Zj l2) i n1::_) Zk (X.cbI (fun d a1 c1 h1=> ?_));have i0:d.length<=1000000:=by have e1:=bK List.length h1;rw [Zg] at e1;have e2:=ones_len ((Z0 (Zj l2) 1).take i);rw [bH,V0] at e2;omega
   obtain ⟨kk,ln,cl,nm,wt,⟨ek,en,y,s,z,w,el,ea,ec⟩,⟨xk,xn,h,xsl,p,e,xl,xa,xc⟩,bd,t,ba,bc,b0,a0,id,sl,ot,lo⟩:=s2;refine xo 5 ?_;refine bW zeroValue126 fun n2=> ?_
   refine rn [0,1] ?_;refine X.beginRound rfl leA ?_;refine xx 6 ?_;refine xp 12 ?_ ?_<;>intro h0
   . refine rn [1,0,1,2,3] ?_;refine fC 3 rfl (Yz (u:=zSm) stC underlying53 V7 rfl rfl Z8 rfl) ?_;rintro _ _ ⟨g,rfl,rfl⟩;refine ⟨hlA,?_⟩;refine fC 4 rfl (Z9 (f:=stC) (l:=d) (m:= [zSm]) underlying53 V7 rfl rfl Z8 rfl rfl Zk ((bE _).le Zk) H9 (by simp;omega) (by simp;omega)) ?_;refine kk2 fun a3 c3=> ?_
     refine P5 (l:=d++ [zSm]) (by simp) fun g3 e3=> ?_;subst e3;refine Vz 5 rfl (Pu.indexAddr rfl rfl underlying53 sizeOf126 (by omega) (by simp;omega)) ?_;refine Yo (fl:= []) (XF.two 6 7 trivial (D7 6 (fun E=>Zz3 (fl:=stC) (l:=d++ [zSm]) (u:=(Stm.mk kk ln cl nm wt (Ex.mk ek en y s z w el ea ec) (Ex.mk xk xn h xsl p e xl xa xc) bd t ba bc b0 a0 id sl ot lo)) (n:=d.length) (j:=(d.length:Int)) (g:=g3) (c:=c3) (et:=126) rfl rfl sizeOf126 Z8 rfl (by simp) (H9 _) Zk E) ?_) (D7 7 (fun E=>Ef.stE (b:=n1) (o:=0) (l:= [.slice a1 d.length c1]) (v:= .slice (some ⟨g3,0,none⟩) (d++ [zSm]).length c3) (t':=53) sizeOf53 rfl rfl rfl rfl Zk rfl E) ?_))
     focus
      rintro _ _ ⟨rfl,rfl⟩;refine ⟨trivial,eT ?_⟩;refine stD 7 ?_
     rotate_left
     focus
      rintro _ _ ⟨rfl,rfl⟩;refine ⟨trivial,eT ?_⟩;refine iQ 6 rfl (Lo (a:=none) (fl:=stC) (l:=d++ [zSm]) (u:=(Stm.mk kk ln cl nm wt (Ex.mk ek en y s z w el ea ec) (Ex.mk xk xn h xsl p e xl xa xc) bd t ba bc b0 a0 id sl ot lo)) (n:=d.length) rfl rfl sizeOf126 Z8 rfl (by simp) (H9 _) Zk) ?_;refine kk0 ?_
     all_goals
      refine rn [0,1] ?_;rw [show (d++ [zSm]).set d.length (Stm.mk kk ln cl nm wt (Ex.mk ek en y s z w el ea ec) (Ex.mk xk xn h xsl p e xl xa xc) bd t ba bc b0 a0 id sl ot lo)=d++ [(Stm.mk kk ln cl nm wt (Ex.mk ek en y s z w el ea ec) (Ex.mk xk xn h xsl p e xl xa xc) bd t ba bc b0 a0 id sl ot lo)] by simp];refine bY (q':=stsM (d++ [(Stm.mk kk ln cl nm wt (Ex.mk ek en y s z w el ea ec) (Ex.mk xk xn h xsl p e xl xa xc) bd t ba bc b0 a0 id sl ot lo)])::_) (aS (bM Zk Zk) H5) ?_;refine X.fall ⟨rfl,rfl,?_⟩;simp only [ca,na];refine bM Zk (Ik (d++ [(Stm.mk kk ln cl nm wt (Ex.mk ek en y s z w el ea ec) (Ex.mk xk xn h xsl p e xl xa xc) bd t ba bc b0 a0 id sl ot lo)],some ⟨g3,0,none⟩,c3) (by rw [Im,h1,d0,if_pos h0,<-e0];rfl) ?_);rw [show (d++ [zSm]).length=(d++ [(Stm.mk kk ln cl nm wt (Ex.mk ek en y s z w el ea ec) (Ex.mk xk xn h xsl p e xl xa xc) bd t ba bc b0 a0 id sl ot lo)]).length by simp];exact leA
   refine xx 3 ?_;refine X.fall ⟨rfl,rfl,?_⟩;simp only [ca,na];refine bM Zk (Ik (d,a1,c1) (by rw [h1,d0,if_neg h0,cA]) leA)
 simp only [ca,na];refine bY (q':=cbI (Zj l2) (Z0 (Zj l2) 1).length n1::_) Zk (X.cbI (fun d a1 c1 h1=> ?_));rw [cD,C3,c0] at h1;refine bY (q':=rsH stC 25 126 a1 c1 d::stsM d::_) (bM Zk Zk) ?_;refine X.frzR (Kn.blk Kn.stsM) (mn:=BlkAt.mono) ?_ (hq:=aE _);refine rn [3,0,2] ?_;exact X.ret ⟨rfl,Eh (q':=blM a1 c1 d::(q++F)) (jG (q':=blM a1 c1 d::q) func82 (Zn results82 rfl) ⟨_,rfl,d,a1,c1,h1,rfl,rfl⟩ leA) (hq:=bM Zk leA)⟩
theorem Q1 (x:Th):(thC x).length=3:=rfl
theorem O1 (x:Th):(thC x).all (·.oneCell')=true:=rfl
theorem Kd {l:List ByteArray}(hs:Sees q a (l.map Value.string))(hL:l.length<=1000000000):CallF prog G 83 [.slice a l.length c] (q) (Ret fun v q'=> ∃ a' c',v= .slice a' l.length c'/\q'=lsH Value.string 9 a' c' l::q):=by
 refine aC func83 ntmps83 rfl fun F k=> ?_;rcases dK l.length with b|b
 . obtain rfl:=aK b;refine xx 10 ?_;refine dR 4 rfl ?_ ?_<;>intro j
   . refine xx 5 ?_;refine Zq (lsH Value.string 9 none 0 []::q) func83 (Zn results83 rfl) ⟨_,rfl,none,0,rfl,rfl⟩ ((leA).trans (Za _ _ _))
   refine xo 4 ?_;refine bQ (J4 Value.string underlying25 Ra) ?_;rintro _ _ ⟨g,rfl,rfl⟩;refine oo 1 ?_;refine bQ (Yx (f:=Value.string) (l:= []) (m:= []) underlying25 Ra rfl rfl rfl Zk (hs.le leA) (fun _=>rfl) (by simp;try omega) (by simp;try omega)) ?_;rintro _ _ ⟨e,d,rfl,rfl⟩;refine ox 2 ?_;refine Zq (lsH Value.string 9 e d []::q) func83 (Zn results83 rfl) ⟨_,rfl,e,d,by simp,rfl⟩
 refine Yd hs (by simp;omega) fun n i h=> ?_;subst h;refine rn [10,1004,4] ?_;refine bQ (J4 Value.string underlying25 Ra) ?_;rintro _ _ ⟨g,rfl,rfl⟩;refine oo 1 ?_;refine bQ (Yx (f:=Value.string) (l:= []) (m:=l) underlying25 Ra rfl rfl rfl Zk (hs.le leA) (fun _=>rfl) (by simp;try omega) (by simp;try omega)) ?_;rintro _ _ ⟨e,d,rfl,rfl⟩;refine ox 2 ?_;refine Zq (lsH Value.string 9 e d l::q) func83 (Zn results83 rfl) ⟨_,rfl,e,d,by simp,rfl⟩
theorem Zz5 {l:List Th}(hs:Sees q a (l.flatMap thC))(hL:l.length<=1000000000):CallF prog G 81 [.slice a l.length c] (q) (Ret fun v q'=> ∃ a' c',v= .slice a' l.length c'/\q'=rsH thC 3 55 a' c' l::q):=by
 refine aC func81 ntmps81 rfl fun F k=> ?_;rcases dK l.length with b|b
 . obtain rfl:=aK b;refine xx 10 ?_;refine dR 4 rfl ?_ ?_<;>intro j
   . refine xx 5 ?_;refine Zq (rsH thC 3 55 none 0 []::q) func81 (Zn results81 rfl) ⟨_,rfl,none,0,rfl,rfl⟩ ((leA).trans (Zi _ _ _ _))
   refine xo 4 ?_;refine bQ (Qs thC underlying24 Ni) ?_;rintro _ _ ⟨g,rfl,rfl⟩;refine oo 1 ?_;refine bQ (Z9 (f:=thC) (l:= []) (m:= []) underlying24 Ni rfl rfl Q1 rfl rfl Zk (hs.le leA) O1 (by simp;try omega) (by simp;try omega)) ?_;rintro _ _ ⟨e,d,rfl,rfl⟩;refine ox 2 ?_;refine Zq (rsH thC 3 55 e d []::q) func81 (Zn results81 rfl) ⟨_,rfl,e,d,by simp,rfl⟩
 refine Yd hs (by rw [Zx Q1];omega) fun n i h=> ?_;subst h;refine rn [10,1004,4] ?_;refine bQ (Qs thC underlying24 Ni) ?_;rintro _ _ ⟨g,rfl,rfl⟩;refine oo 1 ?_;refine bQ (Z9 (f:=thC) (l:= []) (m:=l) underlying24 Ni rfl rfl Q1 rfl rfl Zk (hs.le leA) O1 (by simp;try omega) (by simp;try omega)) ?_;rintro _ _ ⟨e,d,rfl,rfl⟩;refine ox 2 ?_;refine Zq (rsH thC 3 55 e d l::q) func81 (Zn results81 rfl) ⟨_,rfl,e,d,by simp,rfl⟩
end
theorem thsK {l:List Th}{x:Th}(h:Ths.At M l)(hx:BlkAt M x.a x.c x.body):Ths.At M (l++ [x]):=fun y b=>by
 rcases aQ.1 b with b|b
 . exact h y b
 rw [aZ.1 b];exact hx
theorem Ths.At.mono {l:List Th}{M':Hp}(e:Hle M M')(h:Ths.At M l):Ths.At M' l:=fun x hx=>(h x hx).mono e
def thsM (l:List Th):HP:=lst (fun M=>Ths.At M l) fun e h=>Ths.At.mono e h
theorem Kn.thsM {q:List HP}{l:List Th}:Kn (thsM l::q) fun M=>Ths.At M l:=fL
structure CpOk (B:Nat) (g:FC):Prop where
 l:g.vars.l.length<=1000000/\g.arrs.l.length<=1000000/\g.chs.l.length<=1000000/\g.ths.l.length<=1000000/\g.nv.l.length<=1000000/\g.na.l.length<=1000000/\g.nm.l.length<=1000000/\g.nc.l.length<=1000000/\g.nh.l.length<=1000000
 b:B<=1000000
 t: ∀ x∈g.ths.l,Zm x.body<=1000000/\Wa B x.body
theorem pcopy_ok (hK:Kn q fun M=>g.At M)(hB:CpOk B g):CallF prog G 45 [.agg (pgC g).toArray] (q) (Ret fun v q'=> ∃ g':FC,g'.er=g.er/\v= .agg (pgC g').toArray/\q'=fcM g'::q):=by
 refine aC func45 ntmps45 rfl fun F cs=> ?_;obtain ⟨b1,b2,b3,b4,b5,b6,b7,b8,b9⟩:=hB.l;have hV:=(dT (hK.imp fun M h=>h.vars));have hA:=(dT (hK.imp fun M h=>h.arrs));have hC:=(dT (hK.imp fun M h=>h.chs));rw [Qv] at hV hA hC;have hT:=dT (hK.imp fun M h=>h.ths);have s0:=Zx Q1 g.ths.l;have i0:=dT (hK.imp fun M h=>h.nv);rw [V6] at i0;have n0:=dT (hK.imp fun M h=>h.na);rw [V6] at n0;have j0:=dT (hK.imp fun M h=>h.nm);rw [V6] at j0;have m0:=dT (hK.imp fun M h=>h.nc);rw [V6] at m0;have l0:=dT (hK.imp fun M h=>h.nh);rw [V6] at l0;refine xo 2 ?_;refine Ww fun n1=> ?_
 refine bW zeroValue29 fun n2=> ?_
 refine rn [3,0] ?_;refine bW zeroValue29 fun n3=> ?_
 refine rn [0,2,0,1,2,4,5,7,8] ?_;refine Wy 2 call50 (aE _) (Qb (l:=g.vars.l) (hV.le leA) (by omega)) ?_;refine kk2 fun a1 d1=> ?_
 refine dd [9] ?_;refine Wy 5 call70 (aE _) (Ku (l:=g.arrs.l) (hA.le leA) (by omega)) ?_;refine kk2 fun a2 d2=> ?_
 refine Wy 8 call70 (aE _) (Ku (l:=g.chs.l) (hC.le leA) (by omega)) ?_;refine kk2 fun a3 d3=> ?_
 refine rn [11,12,13,14,15,0,3,0] ?_;refine Zb call81 (aE _) (Zz5 (l:=g.ths.l) (hT.le leA) (by omega)) ?_;rintro _ _ ⟨a4,d4,rfl,rfl⟩;refine rn [1,0,5,0,4] ?_;refine aY (cG (fun (s:Nat×List Th)=>s.1<=g.ths.l.length/\s.2.length=s.1/\s.2.map Th.er=(g.ths.l.take s.1).map Th.er) (fun s=> [(2,pt n2),(3,pt n3),(1,pt n1),(25,.slice g.ths.a g.ths.l.length g.ths.c),(26,I64 g.ths.l.length),(27,I64 (s.1:Int))]) (fun s=>pto n3 (.cells [.slice a1 g.vars.l.length d1,.slice a2 g.arrs.l.length d2,I64 g.mu,I64 g.co,.slice a3 g.chs.l.length d3,.slice a4 g.ths.l.length d4,I64 g.main,I64 g.stm,g.nv.v,g.na.v,g.nm.v,g.nc.v,g.nh.v].toArray 29 (0,0))::pto n2 Ay::pto n1 (.cells [g.vars.v,g.arrs.v,I64 g.mu,I64 g.co,g.chs.v,g.ths.v,I64 g.main,I64 g.stm,g.nv.v,g.na.v,g.nm.v,g.nc.v,g.nh.v].toArray 29 (0,0))::lsH I64 2 a1 d1 g.vars.l::lsH I64 3 a2 d2 g.arrs.l::lsH I64 3 a3 d3 g.chs.l::rsH thC 3 55 a4 d4 (s.2++g.ths.l.drop s.1)::thsM s.2::(q++F)) (fun s=>g.ths.l.length - s.1) (fun s t0 ih=> ?_) (0, []) ⟨bB _,rfl,rfl⟩) Zu (aS leA (aS (cZ (φ:=fun M=>Ths.At M []) (mn:=fun e h=>Ths.At.mono e h) (fun _ _ _ _ h=>by cases h)) leA));try dsimp only at t0 ih|-
 obtain ⟨w0,p0,e0⟩:=t0;obtain ⟨i,d⟩:=s;dsimp only at*;refine xx 5 ?_;refine xp 28 ?_ ?_<;>intro h0
 . have d0:i<g.ths.l.length:=(by omega);obtain ⟨y,hy⟩:=kL g.ths.l[i];have r0:=hB.t y (hy ▸ aB d0);refine Yd (hT.le leA) (by rw [s0];omega) fun ab ao e_=> ?_;rw [e_] at hT;rw [e_];refine Yw (l:=d++g.ths.l.drop i) (by rw [aG,bS];omega) fun g4 e4=> ?_;subst e4;refine xo 8 ?_;refine Nw (n:=i) isAgg55 sizeOf55 hT d0 ?_;refine bW zeroValue55 fun n4=> ?_
   refine rn [1,0,1,0,1,2,3,4,5] ?_;refine dS 36 (.slice y.a y.body.length y.c) rfl (by rw [hy]) ?_;refine Wy 5 call82 (aE _) (Pa (l:=y.body) (a:=y.a) (c:=y.c) hB.b r0.1 r0.2 ((hK.le leA).imp fun M h=>h.bod y (hy ▸ aB d0))) ?_;rintro _ _ ⟨l2,g0,f0,v0,rfl,rfl⟩;refine ⟨hlA,?_⟩;refine dd [6,7] ?_;refine iQ 8 rfl (Yr (g:=g4) (f:=thC) (l:=d++g.ths.l.drop i) (u:= { y with body:=l2,a:=g0,c:=f0 }) (n:=i) (k:=2) (j:=(i:Int)) rfl rfl sizeOf53 Q1 rfl (by rw [aG,bS];omega) rfl (by rw [show (d++g.ths.l.drop i)[i]'(by rw [aG,bS];omega)=y by rw [gA (by omega)];simp [p0,hy]];rfl) rfl rfl Zk) ?_;refine kk0 ?_;refine rn [0,5] ?_;rw [Ro d (g.ths.l.drop i) i _ p0 (by rw [bS];omega),fK];refine bY (q':=thsM (d++ [{ y with body:=l2,a:=g0,c:=f0 }])::_) (aS (bM Zk Zk) (aS (cZ (φ:=fun M=>Ths.At M (d++ [{ y with body:=l2,a:=g0,c:=f0 }])) (mn:=fun e h=>Ths.At.mono e h) ((Kn.thsM.and Kn.blM.there).imp fun M h=>thsK h.1 h.2)) (dD _ ((eD _ _).trans (eD _ _))))) ?_;rw [<-e_];refine aY (ih (i+1,d++ [{ y with body:=l2,a:=g0,c:=f0 }]) ⟨by dsimp only;omega,by dsimp only;rw [aG];simp [p0],by dsimp only;rw [aH d0,aM,aM,e0,<-hy];simp only [bP,eM,Th.er,v0]⟩ (by dsimp only;omega)) Zu leA
 obtain rfl:i=g.ths.l.length:=(by omega);rw [cD] at e0;rw [dP,cA];clear ih;refine rn [5,0] ?_;refine bW zeroValue27 fun n4=> ?_
 refine rn [0,2,0,1,2,4,5,7,8,10,11,13,14] ?_;refine Wy 2 call83 (aE _) (Kd (l:=g.nv.l) (i0.le leA) (by omega)) ?_;refine kk2 fun x m=> ?_
 refine Wy 5 call83 (aE _) (Kd (l:=g.na.l) (n0.le leA) (by omega)) ?_;refine kk2 fun c0 w=> ?_
 refine Wy 8 call83 (aE _) (Kd (l:=g.nm.l) (j0.le leA) (by omega)) ?_;refine kk2 fun z o=> ?_
 refine Wy 11 call83 (aE _) (Kd (l:=g.nc.l) (m0.le leA) (by omega)) ?_;refine kk2 fun b0 r=> ?_
 refine Wy 14 call83 (aE _) (Kd (l:=g.nh.l) (l0.le leA) (by omega)) ?_;refine kk2 fun a0 p=> ?_
 refine rn [16,17,18,0,2,0,0,1] ?_;refine Q0 Qv (f':=iC) (l:=g.vars.l) (a:=a1) (c:=d1) (fe:=I64) (ty:=2) ?_;refine Q0 Qv (f':=iC) (l:=g.arrs.l) (a:=a2) (c:=d2) (fe:=I64) (ty:=3) ?_;refine Q0 Qv (f':=iC) (l:=g.chs.l) (a:=a3) (c:=d3) (fe:=I64) (ty:=3) ?_;refine Q0 V6 (f':=sC) (l:=g.nv.l) (a:=x) (c:=m) (fe:=Value.string) (ty:=9) ?_;refine Q0 V6 (f':=sC) (l:=g.na.l) (a:=c0) (c:=w) (fe:=Value.string) (ty:=9) ?_;refine Q0 V6 (f':=sC) (l:=g.nm.l) (a:=z) (c:=o) (fe:=Value.string) (ty:=9) ?_;refine Q0 V6 (f':=sC) (l:=g.nc.l) (a:=b0) (c:=r) (fe:=Value.string) (ty:=9) ?_;refine Q0 V6 (f':=sC) (l:=g.nh.l) (a:=a0) (c:=p) (fe:=Value.string) (ty:=9) ?_;refine P6 (f:=thC) (sz:=3) (ty:=55) (l:=d) (a:=a4) (c:=d4) ?_;obtain ⟨g2,q0⟩: ∃ g2:FC,g2=(⟨⟨g.vars.l,a1,d1⟩,⟨g.arrs.l,a2,d2⟩,g.mu,g.co,⟨g.chs.l,a3,d3⟩,⟨d,a4,d4⟩,g.main,g.stm,⟨g.nv.l,x,m⟩,⟨g.na.l,c0,w⟩,⟨g.nm.l,z,o⟩,⟨g.nc.l,b0,r⟩,⟨g.nh.l,a0,p⟩,g.names,g.cells,g.locals,g.most,g.pl,g.pc,g.flaw⟩:FC):=⟨_,rfl⟩;have o0:d.length=g.ths.l.length:=by have:=bK List.length e0;simpa using this
 refine bY (q':=fcM g2::_) (aS (b:=svM thC ⟨d,a4,d4⟩::svM sC ⟨g.nh.l,a0,p⟩::svM sC ⟨g.nc.l,b0,r⟩::svM sC ⟨g.nm.l,z,o⟩::svM sC ⟨g.na.l,c0,w⟩::svM sC ⟨g.nv.l,x,m⟩::svM iC ⟨g.chs.l,a3,d3⟩::svM iC ⟨g.arrs.l,a2,d2⟩::svM iC ⟨g.vars.l,a1,d1⟩::thsM d::_) (bM Zk (bM Zk (bM Zk (bM Zk (bM Zk (bM Zk (bM Zk (bM Zk (bM Zk Zk))))))))) (cZ (φ:=fun M=>g2.At M) (mn:=fun e h=>FC.At.mono e h) ?hk_)) ?_
 case hk_=>
  exact ((Kn.here.and (Kn.here.there.and (Kn.here.there.there.and (Kn.here.there.there.there.and (Kn.here.there.there.there.there.and (Kn.here.there.there.there.there.there.and (Kn.here.there.there.there.there.there.there.and (Kn.here.there.there.there.there.there.there.there.and (Kn.here.there.there.there.there.there.there.there.there.and (Kn.thsM.there.there.there.there.there.there.there.there.there.and ((hK.le leA)))))))))))).imp fun M ⟨k0,k1,k2,k3,k4,k5,k6,k7,k8,k9,u0⟩=>by
   rw [q0];exact ⟨k8,k7,k6,k0,k9,k5,k4,k3,k2,k1,u0.names⟩)
 refine Zq (fcM g2::q) func45 (rA_ results45) ⟨_,rfl,g2,by rw [q0];simp only [FC.er,e0],by rw [q0,<-o0];rfl,rfl⟩
end Go.Proofs.YtflkjkhijcdbaaaGreat
