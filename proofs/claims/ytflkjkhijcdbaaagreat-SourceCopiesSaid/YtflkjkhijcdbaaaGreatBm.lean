/- Contracts of functions, proved by walking their code. -/
import Derived.Test.YtflkjkhijcdbaaaGreatBl
import Derived.KernelRfl
set_option maxRecDepth 100000
set_option linter.unusedVariables false
set_option linter.unusedSimpArgs false
namespace Go.Proofs.YtflkjkhijcdbaaaGreat
open Go Go.RowKit Wx Go.Proofs.Tryz
attribute [local irreducible] Wx.lsH Wx.rsH Wx.stars
structure SS.fine (F:Fnd) (N:Nat) (s:SS):Prop where
 ok:SS.ok F N s
 u:s.sy.conds.flatten.Nodup
 q: ∀ t∈s.ths,t.sp.length<s.ths.length
structure PTr.ok0 (F:Fnd) (N nth:Nat) (t:PTr):Prop where
 d:0≤t.decl∧t.decl<F.ths.length
 s:1≤t.st∧t.st≤4
 l:t.loc.length≤32
 v: ∀ x∈t.loc,val x
 g:Wp F.cn t.loc.length t.left
 n:t.left.length≤600*(N+1)
 p:t.sp.length<nth∧ ∀ i∈t.sp,0≤i∧i<nth
structure PTr.ok1 (t:PTr):Prop where
 e:t.left= []↔t.st=4
 w:t.st=2∨t.st=3→t.next.kd=8
theorem ThOk.parts {F:Fnd}{N nth:Nat}{t:PTr}(h:ThOk F N nth t)(q:t.sp.length<nth):t.ok0 F N nth∧t.ok1:=⟨⟨h.d,h.s,h.l,h.v,h.g,h.n,q,h.p.2⟩,⟨h.e,h.w⟩⟩
theorem ThOk.of {F:Fnd}{N nth:Nat}{t:PTr}(h:t.ok0 F N nth)(k:t.ok1)(l:nth≤8):ThOk F N nth t:=⟨h.d,h.s,h.l,h.v,h.g,h.n,k.e,k.w,by have:=h.p.1;omega,h.p.2⟩
structure SS.okx (F:Fnd) (N n:Nat) (s:SS):Prop where
 c:(s.cells.length:Int)=F.vars.length+Wv F.arrs
 v: ∀ x∈s.cells,val x
 y:s.sy.ok N
 z:(s.sy.owners.length:Int)=F.mu∧(s.sy.conds.length:Int)=F.co∧s.sy.chans.map Ch.room=F.chs
 t:1≤s.ths.length∧s.ths.length≤8
 nn:n<s.ths.length
 h: ∀ i,i<s.ths.length→(s.th i).ok0 F N s.ths.length
 o: ∀ i,i<s.ths.length→i≠n→(s.th i).ok1
 m:(s.th n).st=1∨((s.th n).st=2∧(s.th n).next.kd=8∧(s.th n).left≠ [])
 w: ∀ l∈s.sy.conds,∀ t∈l,t.toNat<s.ths.length∧(s.th t.toNat).st=2
 u:s.sy.conds.flatten.Nodup
theorem SS.put_len (s:SS)(n:Nat)(t:PTr):(s.put n t).ths.length=s.ths.length:=by simp [SS.put]
theorem Uf {s:SS}{n:Nat}{t:PTr}(h:n<s.ths.length)(i:Nat):(s.put n t).th i=if i=n then t else s.th i:=by
 unfold SS.th SS.put
 by_cases e:i=n
 · subst e;simp [List.getD,h]
 rw [if_neg e];simp only [List.getD_eq_getElem?_getD,List.getElem?_set_ne (Ne.symm e)]
theorem PTr.ok0.mono {F:Fnd}{N N' m m':Nat}{t:PTr}(h:t.ok0 F N m)(l:N≤N')(k:m≤m'):t.ok0 F N' m':=
 ⟨h.d,h.s,h.l,h.v,h.g,by have:=h.n;omega,by have:=h.p.1;omega,fun i hi=>by have:=h.p.2 i hi;omega⟩
theorem SS.okx.mono {F:Fnd}{N N' n:Nat}{s:SS}(h:s.okx F N n)(l:N≤N'):s.okx F N' n:=
 ⟨h.c,h.v,h.y.mono l,h.z,h.t,h.nn,fun i hi=>(h.h i hi).mono l (Nat.le_refl _),h.o,h.m,h.w,h.u⟩
theorem SS.okx.put {F:Fnd}{N n:Nat}{s:SS}{t:PTr}(h:s.okx F N n)(h0:t.ok0 F N s.ths.length)(hm:t.st=1∨(t.st=2∧t.next.kd=8∧t.left≠ []))(hw:(s.th n).st=2→t.st=2):(s.put n t).okx F N n:=by
 have hl:=s.put_len n t
 have ha:=Uf (t:=t) h.nn
 refine ⟨h.c,h.v,h.y,h.z,by rw [hl];exact h.t,by rw [hl];exact h.nn,fun i hi=> ?_,fun i hi hne=> ?_,?_,fun l hl' t' ht=> ?_,h.u⟩
 · rw [hl] at hi⊢;rw [ha];split
   · exact h0
   exact h.h i hi
 · rw [hl] at hi;rw [ha,if_neg hne];exact h.o i hi hne
 · rw [ha,if_pos rfl];exact hm
 obtain ⟨k1,k2⟩:=h.w l hl' t' ht
 rw [hl,ha]
 refine ⟨k1,?_⟩
 split
 · rename_i e;rw [e] at k2;exact hw k2
 exact k2
theorem SS.okx.cell {F:Fnd}{N n:Nat}{s:SS}{l:List Int}(h:s.okx F N n)(hl:l.length=s.cells.length)(hv: ∀ x∈l,val x):({ s with cells:=l } :SS).okx F N n:=
 ⟨by show (l.length:Int)=_;rw [hl];exact h.c,hv,h.y,h.z,h.t,h.nn,h.h,h.o,h.m,h.w,h.u⟩
theorem SS.okx.sync {F:Fnd}{N N' n:Nat}{s:SS}{y:Sy}(h:s.okx F N n)(l:N≤N')(hy:y.ok N')(h1:y.owners.length=s.sy.owners.length)(h2:y.conds=s.sy.conds)(h3:y.chans.map Ch.room=s.sy.chans.map Ch.room):({ s with sy:=y } :SS).okx F N' n:=
 ⟨h.c,h.v,hy,⟨by show (y.owners.length:Int)=_;rw [h1];exact h.z.1,by show (y.conds.length:Int)=_;rw [h2];exact h.z.2.1,by show y.chans.map Ch.room=_;rw [h3];exact h.z.2.2⟩,h.t,h.nn,fun i hi=>(h.h i hi).mono l (Nat.le_refl _),h.o,h.m,by show ∀ l∈y.conds,_;rw [h2];exact h.w,by show y.conds.flatten.Nodup;rw [h2];exact h.u⟩
theorem Eo {l:List Int}{i:Nat}{v:Int}(h: ∀ x∈l,val x)(hv:val v): ∀ x∈l.set i v,val x:=fun x hx=>by
 rcases List.mem_or_eq_of_mem_set hx with hx|rfl
 · exact h x hx
 exact hv
theorem SS.okx.into {F:Fnd}{N n:Nat}{s:SS}{v slot:Int}{loc:Bool}(h:s.okx F N n)(hv:val v):(s.into n slot loc v).1.okx F N n∧((s.into n slot loc v).1.th n).st=(s.th n).st:=by
 unfold SS.into
 split
 · have k:=h.h n h.nn
   refine ⟨h.put ⟨k.d,k.s,by simpa using k.l,Eo k.v hv,by rw [List.length_set];exact k.g,k.n,k.p⟩ (by exact h.m) (fun e=>e),?_⟩
   dsimp only;rw [Uf h.nn,if_pos rfl]
 exact ⟨h.cell (by simp) (Eo h.v hv),rfl⟩
theorem Gx (s:Sy)(k v:Int):(Vx s k v).1.conds=s.conds:=by unfold Vx;(repeat' split)<;>rfl
theorem Io (s:Sy)(k v:Int):(Vx s k v).1.owners=s.owners:=by unfold Vx;(repeat' split)<;>rfl
theorem Gw {l:List Ch}{i:Nat}{x:Ch}(h:x.room=(l.getD i ch0).room):(l.set i x).map Ch.room=l.map Ch.room:=by
 rw [List.map_set]
 apply List.ext_getElem (by simp)
 intro j h1 h2
 by_cases e:i=j
 · subst e;have:i<l.length:=by simpa using h2
   simp [h,List.getD,this]
 simp [List.getElem_set_ne e]
theorem Ai (s:Sy)(k v:Int):(Vx s k v).1.chans.map Ch.room=s.chans.map Ch.room:=by
 unfold Vx
 split
 · split
   · split
     · exact Gw rfl
     rfl
   rfl
 rfl
theorem Ao (s:Sy)(k:Int):(W9 s k).1.chans.map Ch.room=s.chans.map Ch.room:=by
 unfold W9
 split
 · split
   · rfl
   exact Gw rfl
 rfl
theorem Bg (s:Sy)(m t:Int):(Ws s m t).1.owners.length=s.owners.length∧(Ws s m t).1.conds=s.conds∧(Ws s m t).1.chans=s.chans:=by
 unfold Ws;(repeat' split)<;>simp
theorem Nj (s:Sy)(m t:Int):(Z6 s m t).1.owners.length=s.owners.length∧(Z6 s m t).1.conds=s.conds∧(Z6 s m t).1.chans=s.chans:=by
 unfold Z6;(repeat' split)<;>simp
theorem Py {s:SS}{n:Nat}{t:PTr}(h:n<s.ths.length):((s.put n t).th n)=t:=by rw [Uf h,if_pos rfl]
set_option maxHeartbeats 2000000 in
theorem P9 {F:Fnd}{N n:Nat}{s:SS}{x:PStm}{ev:PEv}(h:s.okx F N n)(hM:MayP F)(hs:(s.th n).st=1)(hx:x.good F.cn (s.th n).loc.length)(hl:(s.th n).left.length+1≤600*(N+1))(hk:x.kd≤5∨x.kd=11∨x.kd=15)(ht:(s.data F.pr n x ev).2.2=0):(s.data F.pr n x ev).1.okx F (N+1) n:=by
 have h':=h.mono (Nat.le_succ N)
 obtain ⟨k,ln,cl,nm,wt,e,ix,body,els,id,slot,other,loc⟩:=x
 simp only [PStm.kd] at hk
 obtain ⟨hg1,hg2,hg3,hg4,hg5⟩:=hx
 obtain ⟨hs1,hs2,hs3,hs6,hs8,hs8o,hs11,hs12,hs13⟩:=Yi hg2
 obtain ⟨hpe,hpx⟩:=Wd hg1
 have k0:=h.h n h.nn
 have hev:=(Yp (p:=F.pr) h.v k0.v (hpe (by omega))).1
 unfold SS.data at ht⊢
 dsimp only at ht⊢
 generalize (if k=3 then ix.made F.pr s.cells (s.th n).loc else (0,0, []))=i at ht⊢
 generalize e.made F.pr s.cells (s.th n).loc=v at ht⊢hev
 split at ht
 · rename_i h1;exact absurd ht h1
 rename_i h1;rw [if_neg h1]
 split at ht
 · rename_i h2;exact absurd ht h2
 rename_i h2;rw [if_neg h2]
 split at ht
 · rename_i h3;rw [if_pos h3];exact (h'.into hev).1
 rename_i h3;rw [if_neg h3]
 split at ht
 · rename_i h4;rw [if_pos h4]
   split at ht
   · exact absurd ht (by show ¬ (3:Int)=0;decide)
   rename_i h5;rw [if_neg h5];exact h'.cell (by simp) (Eo h.v hev)
 rename_i h4;rw [if_neg h4]
 have hbd: ∀ m:List PStm,m.length≤513→Wp F.cn (s.th n).loc.length m→(s.put n { s.th n with left:=m++(s.th n).left }).okx F (N+1) n:=fun m hm hg=>by
  refine h'.put ⟨k0.d,k0.s,k0.l,k0.v,Wb.2 fun y hy=> ?_,by simp only [List.length_append];omega,k0.p⟩ (.inl hs) (fun e=>e)
  rcases List.mem_append.1 hy with hy|hy
  · exact Wb.1 hg y hy
  exact Wb.1 k0.g y hy
 split at ht
 · rename_i h5;rw [if_pos h5]
   split
   · exact hbd _ (by omega) hg5
   exact hbd _ (by omega) hg4
 rename_i h5;rw [if_neg h5]
 split at ht
 · rename_i h6;rw [if_pos h6]
   split
   · exact hbd _ (by simp) trivial
   refine hbd _ (by simp only [List.length_append,List.length_singleton];omega) (Wb.2 fun y hy=> ?_)
   rcases List.mem_append.1 hy with hy|hy
   · exact Wb.1 hg4 y hy
   rw [List.mem_singleton.1 hy];exact ⟨hg1,hg2,hg3,hg4,hg5⟩
 rename_i h6;rw [if_neg h6]
 split at ht
 · rename_i h7;rw [if_pos h7]
   exact h.sync (Nat.le_succ N) (sendS_ok h.y _ _) (by rw [Io]) (Gx _ _ _) (Ai _ _ _)
 rename_i h7;rw [if_neg h7];exact h'
theorem CallF.fr {P:Program}{G:World}{fn:FuncId}{vs:List Value}{pre:List HP}{R:Value→List HP→Prop}(E:List HP)(h:CallF P G fn vs pre (Ret R)):CallF P G fn vs (pre++E) (Ret fun v q'=> ∃ q0,R v q0∧q'=q0++E):=by
 intro F w s cs
 rw [List.append_assoc] at s
 obtain ⟨e,w',fr,⟨hne,q,hR,hs⟩,rest⟩:=h (E++F) w s cs
 obtain ⟨v,rfl,hR⟩:=hR
 exact ⟨_,w',fr,⟨hne,q++E,⟨v,rfl,q,hR,rfl⟩,by rw [List.append_assoc];exact hs⟩,rest⟩
theorem lockS_b {s:Sy}{m t:Int}(h:inR m s.owners.length)(ht:thr t):(Ws s m t).2.1=decide (s.owners.getD m.toNat 0= -1):=by
 unfold Ws;rw [if_pos h,if_pos ht];split<;>simp_all
theorem lockS_no {s:Sy}{m t:Int}(h:s.owners.getD m.toNat 0≠ -1):(Ws s m t).1=s:=by
 unfold Ws;(repeat' split)<;>first|rfl|(exfalso;exact h (by assumption))
theorem In {s:Sy}{m t:Int}(h:inR m s.owners.length)(ht:thr t):(Z6 s m t).2=if s.owners.getD m.toNat 0=t then 0 else 140:=by
 unfold Z6;rw [if_pos h,if_pos ht];split<;>simp_all
theorem Am {s:Sy}{m t:Int}(h:s.owners.getD m.toNat 0≠t):(Z6 s m t).1=s:=by
 unfold Z6;(repeat' split)<;>first|rfl|(exfalso;exact h (by assumption))
theorem Ep (e:PEv)(a b:List Sn):(e.sn a).sn b=e.sn (a++b):=by unfold PEv.sn;simp
theorem Dy (e:PEv):e.sn []=e:=by unfold PEv.sn;simp
def StC.wake (σ:StC):List Int→StC
 | []=>σ
 |i::r=>StC.wake { σ with ths:=σ.ths.set i.toNat { σ.ths.getD i.toNat zTC with st:=3 } } r
theorem Eh (σ:StC)(n:Nat):σ.er.th n=(σ.ths.getD n zTC).er:=by
 by_cases h:n<σ.ths.length
 · rw [Zo h,Wl h]
 have h2: ¬n<σ.er.ths.length:=by rw [StC.nth];exact h
 unfold SS.th
 rw [List.getD_eq_getElem?_getD,List.getElem?_eq_none (by omega),List.getD_eq_getElem?_getD,List.getElem?_eq_none (by omega)]
 rfl
theorem T3: ∀ (l:List Int) (σ:StC),(σ.wake l).er=σ.er.wake l
 | [],_=>rfl
 |i::r,σ=>by
  show (StC.wake _ r).er=SS.wake _ r
  rw [T3 r,W6,Eh]
  rfl
def Vw (l:List TC):List Int→List TC
 | []=>l
 |i::r=>Vw (l.set i.toNat { l.getD i.toNat zTC with st:=3 }) r
theorem T4: ∀ (m:List Int) (σ:StC),σ.wake m= { σ with ths:=Vw σ.ths m }
 | [],_=>rfl
 |i::r,σ=>by show StC.wake _ r=_;rw [T4 r];rfl
theorem D2: ∀ (m n:List Int) (l:List TC),Vw l (m++n)=Vw (Vw l m) n
 | [],_,_=>rfl
 |i::r,n,l=>by show Vw _ (r++n)=_;rw [D2 r n];rfl
theorem J1: ∀ (m:List Int) (l:List TC),(Vw l m).length=l.length
 | [],_=>rfl
 |i::r,l=>by show (Vw _ r).length=_;rw [J1 r,List.length_set]
theorem Rw: ∀ (m:List Int) (l:List TC),(Vw l m).map trH=l.map trH
 | [],_=>rfl
 |i::r,l=>by
  show (Vw _ r).map trH=_
  rw [Rw r]
  by_cases h:i.toNat<l.length
  · exact Rx h (by rw [Wl h];rfl)
  rw [List.set_eq_of_length_le (by omega)]
theorem Rl: ∀ (m:List Int) (l:List TC),(Vw l m).map TC.todo=l.map TC.todo
 | [],_=>rfl
 |i::r,l=>by
  show (Vw _ r).map TC.todo=_
  rw [Rl r]
  by_cases h:i.toNat<l.length
  · exact Hq h (by rw [Wl h])
  rw [List.set_eq_of_length_le (by omega)]
theorem set_mem {l:List Int}{i:Nat}{v x:Int}(h:x∈l.set i v):x∈l∨x=v:=List.mem_or_eq_of_mem_set h
theorem Et {s:Sy}{N:Nat}{m t:Int}(h:s.ok N):(Z6 s m t).1.ok N:=by
 unfold Z6
 split
 · split
   · split
     · refine ⟨by simpa using h.no,h.nc,h.nh,fun o ho=> ?_,h.c,h.h⟩
       rcases set_mem ho with ho|rfl
       · exact h.o o ho
       omega
     exact h
   exact h
 exact h
theorem Ip {M:Hp}{l:List TC}{n:Nat}{y:PS}{x:TC}(hn:n<l.length)(hT:TodoAt M l)(hy:y.At M)(hx:x.todo=l[n].todo++ [y]):TodoAt M (l.set n x):=by
 intro t ht z hz
 rcases List.mem_or_eq_of_mem_set ht with ht|rfl
 · exact hT t ht z hz
 rw [hx] at hz
 rcases List.mem_append.1 hz with hz|hz
 · exact hT _ (List.getElem_mem hn) z hz
 rw [List.mem_singleton.1 hz];exact hy
theorem Pv (l:List Int)(n:Nat):l.getD n 0=(l.drop n).headD 0:=by
 simp [List.headD_eq_head?_getD,List.head?_drop]
theorem D5 (s:Sy)(k:Int):(W9 s k).1.owners=s.owners:=by unfold W9;(repeat' split)<;>rfl
theorem R5 (s:Sy)(k:Int):(W9 s k).1.conds=s.conds:=by unfold W9;(repeat' split)<;>rfl
theorem I2 (s:Sy)(k:Int):(W9 s k).1.chans.length=s.chans.length:=by unfold W9;(repeat' split)<;>simp
theorem PO.sy {g:FC}{N who:Nat}{σ:StC}{y:Sy}(h:PO g N who σ)(hy:y.ok N)(h1:y.owners.length=σ.sy.owners.length)(h2:y.conds=σ.sy.conds)(h3:y.chans.length=σ.sy.chans.length):PO g N who { σ with sy:=y } :=
 ⟨h.w,h.h8,h.cl,h.cv,h.lv,h.ll,hy,h.n9,by rw [show ({ σ with sy:=y } :StC).sy=y from rfl,h1];exact h.mu,by rw [show ({ σ with sy:=y } :StC).sy=y from rfl,h2];exact h.co,by rw [show ({ σ with sy:=y } :StC).sy=y from rfl,h3];exact h.ch,by rw [show ({ σ with sy:=y } :StC).sy=y from rfl,h2];exact h.cd,h.td,h.sp⟩
def SS.woken (s:SS)(n:Nat)(x:PStm)(ev:PEv):SS×PEv×Int:=
 ({ (s.put n { s.th n with st:=1 }) with sy:=(Ws s.sy x.oth n).1 },({ ev with woke:=true } :PEv).sn [(1,x.oth,0)],0)
theorem Le.stars_snoc (A:List HP)(B:HP)(r:List HP):Le (stars A::B::r) (stars (A++ [B])::r):=
 (Zs A (B::r)).trans (by have:=Z5 (A++ [B]) r;rwa [List.append_assoc] at this)
theorem spawn_er {g:FC}{σ:StC}{n a c:Nat}{aa sa:Option Addr}{d:Int}{T:TC}(hn:n<σ.ths.length)(hT:T.er=Vf g.er.pr d):
 ({ σ with ha:=aa,hc:=a,ths:=σ.ths.set n { σ.ths[n] with sa:=sa,sc:=c,sp:=σ.ths[n].sp++ [(σ.ths.length:Int)] } ++ [T] } :StC).er= { σ.er.put n { (σ.ths[n]).er with sp:=(σ.ths[n]).er.sp++ [(σ.ths.length:Int)] } with ths:=(σ.er.put n { (σ.ths[n]).er with sp:=(σ.ths[n]).er.sp++ [(σ.ths.length:Int)] }).ths++ [Vf g.er.pr d] } :=by
 unfold StC.er SS.put
 simp only [List.map_append,List.map_set,List.map_cons,List.map_nil,hT]
 rfl
section
variable {G:World}{q:List HP}{p pp who n N:Nat}{g:FC}{σ:StC}{ev:EvC}{k sl ot u:Int}{bb:Bool}
set_option maxHeartbeats 4000000 in
theorem xlock_ok {y:PS}(hP:Prg q pp g)(hM:MayP g.er)(hO:PO g N who σ)(hev:ev.e.acc= []∧ev.e.syn= [])(hyA:Kn q fun M=>y.At M)(hg:y.s.er.good g.er.cn (σ.ths[who]'(hO.w)).loc.length)(hTd:Kn q fun M=>TodoAt M σ.ths)(hk:y.s.er.kd=6):CallF prog G 133 [.pointer (some ⟨p,0,none⟩),.pointer (some ⟨y.b,y.o,none⟩)] (Zx p pp who σ ev++q) (RP (fun v q'=> ∃ (σ':StC) (ev':EvC),((σ.er.others g.er.pr who y.s.er ev.e).2.2=0∧σ'.er=(σ.er.others g.er.pr who y.s.er ev.e).1∧ev'.e=(σ.er.others g.er.pr who y.s.er ev.e).2.1∧Kn q fun M=>TodoAt M σ'.ths)∧q'=Zx p pp who σ' ev'++q) (fun ch q'=> ∃ (σ':StC) (ev':EvC),((σ.er.others g.er.pr who y.s.er ev.e).2.2≠0∧ch= [Vp (σ.er.others g.er.pr who y.s.er ev.e).2.2]∧ev'.e=(σ.er.others g.er.pr who y.s.er ev.e).2.1)∧q'=Zx p pp who σ' ev'++q)):=by
 refine CallF.of func133 ntmps133 rfl (fun F cs=> ?_)
 obtain ⟨yb,yo,ys⟩:=y
 obtain ⟨kk,ln,cl,nm,wt,⟨ek,en,enm,esl,elo,eop,el,ea,ec⟩,⟨xk,xn,xnm,xsl,xlo,xop,xl,xa,xc⟩,bd,es2,ba,bc,ea2,ec2,id,sl,ot,lo_⟩:=ys
 have hCs:=Kn.stC hyA;dsimp only at hCs hg hyA hk⊢;simp only [Stm.er,PStm.kd] at hk
 have hwho:=hO.w;have h8:=hO.h8;have hys:=hO.y;have hN9:=hO.n9;obtain ⟨hev1,hev2⟩:=hev
 have hKe:Kn q fun M=>ExAt M ⟨yb,yo+5,none⟩ (Ex.mk ek en enm esl elo eop el ea ec):=hyA.imp fun M h=>Yk (pre:= [.int .i64 kk,.int .i64 ln,.int .i64 cl,.string nm,.string wt]) h.1 rfl h.2.1 rfl
 have hKx:Kn q fun M=>ExAt M ⟨yb,yo+12,none⟩ (Ex.mk xk xn xnm xsl xlo xop xl xa xc):=hyA.imp fun M h=>Yk (pre:= [.int .i64 kk,.int .i64 ln,.int .i64 cl,.string nm,.string wt]++exC (Ex.mk ek en enm esl elo eop el ea ec)) h.1 rfl h.2.2.1 rfl
 have hKb:Kn q fun M=>BlkAt M ba bc bd:=hyA.imp fun M h=>h.2.2.2.1;have hKl:Kn q fun M=>BlkAt M ea2 ec2 es2:=hyA.imp fun M h=>⟨h.2.2.2.2.1,h.2.2.2.2.2⟩
 obtain ⟨hg1,hg2,hg3,_⟩:=hg;obtain ⟨hs1,hs2,hs3,hs6,hs8,hs8o,hs11,hs12,hs13⟩:=Yi hg2;obtain ⟨hpe,hpx⟩:=Wd hg1;rw [Zn,Zn] at hg3
 obtain ⟨R,hR⟩: ∃ R,R=σ.er.others g.er.pr who (Stm.er (Stm.mk kk ln cl nm wt (Ex.mk ek en enm esl elo eop el ea ec) (Ex.mk xk xn xnm xsl xlo xop xl xa xc) bd es2 ba bc ea2 ec2 id sl ot lo_)) ev.e:=⟨_,rfl⟩;rw [←hR];unfold SS.others at hR;simp only [Stm.er] at hR;rw [Zo hwho] at hR
 change X _ _ _ _ _ _ _ _ (pto p (.cells (Yt pp σ++(.int .i64 (who:Int)::evC ev)).toArray 145 (0,0))::lsH I64 2 σ.ca σ.cc σ.cells::yH σ.sp σ.sy::rsH trC 5 116 σ.ha σ.hc σ.ths::stars (σ.ths.map trH)::rsH acC 3 140 ev.aa ev.ac ev.e.acc::rsH snC 3 50 ev.na ev.nc ev.e.syn::(q++F))
 obtain rfl:kk=6:=(by omega)
 try dsimp only at hR
 rw [if_pos (by decide)] at hR
 try rw [show σ.er.sy=σ.sy from rfl] at hR
 have hthr:thr (who:Int):=⟨by omega,by omega⟩;have hmu:=hO.mu;have hco:=hO.co;have hch:=hO.ch
 have hin:=hs6 (.inl rfl);have hlk:=lockS_b (s:=σ.sy) (m:=sl) (t:=(who:Int)) ⟨hin.1,by omega⟩ hthr
 refine xx 2 ?_;refine drw ?_;refine dl [0,1,2,3] 4 ?_;refine dd [5,6,7] ?_;refine ldD 8 ?_ (hc:=((hCs.le leA) 22 _ rfl))
 refine dl [9,10,11] 12 ?_;refine Uy 13 call128 (Lock_Y (m:=sl) (t:=(who:Int)) hys (by omega)) ?_
 rintro _ _ ⟨rfl,rfl⟩ _ e_;simp only [ca,na] at e_;subst e_
 refine ⟨trivial,?_⟩
 refine dd [14,15,16,17,18] ?_;refine XD.nil ?_;refine xo 3 ?_;refine Zt (Pu.not rfl) ?_;refine ox 1 ?_;refine X.part 24 rfl (fun h1=> ?_) (fun h1=> ?_)
 · replace h1:=sp h1;rw [hlk] at h1;have hno:σ.sy.owners.getD sl.toNat 0≠ -1:=(by simpa using h1);rw [if_pos hno] at hR;rw [lockS_no hno]
   refine xo 2 ?_;refine Vh call169 (Le.refl _) (Kf (z:=4)) ?_ ?_
   · rintro _ _ ⟨rfl,rfl⟩
     exact FQ.panic func133 (RP.thr (by rw [hR];exact ⟨σ,ev,⟨(show (4:Int)≠0 by decide),rfl,rfl⟩,rfl⟩)) leA
   rintro _ _ ⟨⟩
 replace h1:=sp h1;rw [hlk] at h1;have hno:σ.sy.owners.getD sl.toNat 0= -1:=(by simpa using h1);rw [if_neg (fun k=>k hno)] at hR
 refine xo 7 ?_;refine ld ?_ (hc:=((hCs.le leA) 22 _ rfl))
 refine Zf call98 leA (V2 (p:=p) (pp:=pp) (who:=who) (σ:=({ σ with sy:=(Ws σ.sy sl who).1 } :StC)) (ev:=ev) (k:=1) (sl:=sl) (ot:=0) (q:=q++F) (by rw [hev2];decide)) ?_
 rintro _ _ ⟨ev2,hev2,rfl⟩
 refine ox 1 ?_;refine Z7 (Zx p pp who ({ σ with sy:=(Ws σ.sy sl who).1 } :StC) ev2++q) func133 (Vg results133) (RP.ret ⟨({ σ with sy:=(Ws σ.sy sl who).1 } :StC),ev2,⟨by rw [hR],by rw [hR];rfl,by rw [hR,hev2];rfl,hTd⟩,rfl⟩) (by rw [List.append_assoc];exact Le.refl _)
set_option maxHeartbeats 2000000 in
theorem S3 {NN:Nat}(hys:σ.sy.ok NN)(hN9:NN≤900)(hin:0≤sl∧sl<σ.sy.owners.length)(hthr:thr (who:Int))(hl:ev.e.syn.length≤1000000000):CallF prog G 170 [.pointer (some ⟨p,0,none⟩),.int .i64 sl] (Zx p pp who σ ev++q) (RP (fun v q'=> ∃ ev':EvC,(σ.sy.owners.getD sl.toNat 0=(who:Int)∧ev'.e=ev.e.sn [(2,sl,0)])∧q'=Zx p pp who ({ σ with sy:=(Z6 σ.sy sl who).1 } :StC) ev'++q) (fun ch q'=>(σ.sy.owners.getD sl.toNat 0≠(who:Int)∧ch= [Vp 4])∧q'=Zx p pp who σ ev++q)):=by
 refine CallF.of func170 ntmps170 rfl (fun F cs=> ?_)
 have hlk:=In (s:=σ.sy) (m:=sl) (t:=(who:Int)) ⟨hin.1,by omega⟩ hthr
 change X _ _ _ _ _ _ _ _ (pto p (.cells (Yt pp σ++(.int .i64 (who:Int)::evC ev)).toArray 145 (0,0))::lsH I64 2 σ.ca σ.cc σ.cells::yH σ.sp σ.sy::rsH trC 5 116 σ.ha σ.hc σ.ths::stars (σ.ths.map trH)::rsH acC 3 140 ev.aa ev.ac ev.e.acc::rsH snC 3 50 ev.na ev.nc ev.e.syn::(q++F))
 refine xx 2 ?_;refine drw ?_;refine dl [0,1,2,3] 4 ?_;refine dl [5,6,7,8] 9 ?_;refine Uy 10 call193 (Unlock_Y (m:=sl) (t:=(who:Int)) hys (by omega)) ?_
 rintro _ _ ⟨rfl,rfl⟩ _ e_;simp only [ca,na] at e_;subst e_
 refine ⟨trivial,?_⟩
 refine dd [11] ?_;refine XD.nil ?_;refine xx 5 ?_;refine X.part 17 rfl (fun h1=> ?_) (fun h1=> ?_)
 · replace h1:=sp h1;rw [hlk] at h1;have hno:σ.sy.owners.getD sl.toNat 0≠(who:Int):=(fun k=>h1 (if_pos k));rw [Am hno]
   refine xo 2 ?_;refine Vh call169 (Le.refl _) (Kf (z:=4)) ?_ ?_
   · rintro _ _ ⟨rfl,rfl⟩
     exact FQ.panic func170 (RP.thr (⟨⟨hno,rfl⟩,rfl⟩)) leA
   rintro _ _ ⟨⟩
 replace h1:=sp h1;rw [hlk] at h1;have hno:σ.sy.owners.getD sl.toNat 0=(who:Int):=Decidable.byContradiction (fun k=>by rw [if_neg k] at h1;exact absurd h1 (by decide))
 refine xo 5 ?_;refine Zf call98 leA (V2 (p:=p) (pp:=pp) (who:=who) (σ:=({ σ with sy:=(Z6 σ.sy sl who).1 } :StC)) (ev:=ev) (k:=2) (sl:=sl) (ot:=0) (q:=q++F) (hl)) ?_
 rintro _ _ ⟨ev2,hev2,rfl⟩
 refine ox 1 ?_;refine Z7 (Zx p pp who ({ σ with sy:=(Z6 σ.sy sl who).1 } :StC) ev2++q) func170 (Vg results170) (RP.ret ⟨ev2,⟨hno,hev2⟩,rfl⟩) (by rw [List.append_assoc];exact Le.refl _)
set_option maxHeartbeats 4000000 in
theorem Ay {y:PS}(hP:Prg q pp g)(hM:MayP g.er)(hO:PO g N who σ)(hev:ev.e.acc= []∧ev.e.syn= [])(hyA:Kn q fun M=>y.At M)(hg:y.s.er.good g.er.cn (σ.ths[who]'(hO.w)).loc.length)(hTd:Kn q fun M=>TodoAt M σ.ths)(hk:y.s.er.kd=7):CallF prog G 134 [.pointer (some ⟨p,0,none⟩),.pointer (some ⟨y.b,y.o,none⟩)] (Zx p pp who σ ev++q) (RP (fun v q'=> ∃ (σ':StC) (ev':EvC),((σ.er.others g.er.pr who y.s.er ev.e).2.2=0∧σ'.er=(σ.er.others g.er.pr who y.s.er ev.e).1∧ev'.e=(σ.er.others g.er.pr who y.s.er ev.e).2.1∧Kn q fun M=>TodoAt M σ'.ths)∧q'=Zx p pp who σ' ev'++q) (fun ch q'=> ∃ (σ':StC) (ev':EvC),((σ.er.others g.er.pr who y.s.er ev.e).2.2≠0∧ch= [Vp (σ.er.others g.er.pr who y.s.er ev.e).2.2]∧ev'.e=(σ.er.others g.er.pr who y.s.er ev.e).2.1)∧q'=Zx p pp who σ' ev'++q)):=by
 refine CallF.of func134 ntmps134 rfl (fun F cs=> ?_)
 obtain ⟨yb,yo,ys⟩:=y
 obtain ⟨kk,ln,cl,nm,wt,⟨ek,en,enm,esl,elo,eop,el,ea,ec⟩,⟨xk,xn,xnm,xsl,xlo,xop,xl,xa,xc⟩,bd,es2,ba,bc,ea2,ec2,id,sl,ot,lo_⟩:=ys
 have hCs:=Kn.stC hyA;dsimp only at hCs hg hyA hk⊢;simp only [Stm.er,PStm.kd] at hk
 have hwho:=hO.w;have h8:=hO.h8;have hys:=hO.y;have hN9:=hO.n9;obtain ⟨hev1,hev2⟩:=hev
 have hKe:Kn q fun M=>ExAt M ⟨yb,yo+5,none⟩ (Ex.mk ek en enm esl elo eop el ea ec):=hyA.imp fun M h=>Yk (pre:= [.int .i64 kk,.int .i64 ln,.int .i64 cl,.string nm,.string wt]) h.1 rfl h.2.1 rfl
 have hKx:Kn q fun M=>ExAt M ⟨yb,yo+12,none⟩ (Ex.mk xk xn xnm xsl xlo xop xl xa xc):=hyA.imp fun M h=>Yk (pre:= [.int .i64 kk,.int .i64 ln,.int .i64 cl,.string nm,.string wt]++exC (Ex.mk ek en enm esl elo eop el ea ec)) h.1 rfl h.2.2.1 rfl
 have hKb:Kn q fun M=>BlkAt M ba bc bd:=hyA.imp fun M h=>h.2.2.2.1;have hKl:Kn q fun M=>BlkAt M ea2 ec2 es2:=hyA.imp fun M h=>⟨h.2.2.2.2.1,h.2.2.2.2.2⟩
 obtain ⟨hg1,hg2,hg3,_⟩:=hg;obtain ⟨hs1,hs2,hs3,hs6,hs8,hs8o,hs11,hs12,hs13⟩:=Yi hg2;obtain ⟨hpe,hpx⟩:=Wd hg1;rw [Zn,Zn] at hg3
 obtain ⟨R,hR⟩: ∃ R,R=σ.er.others g.er.pr who (Stm.er (Stm.mk kk ln cl nm wt (Ex.mk ek en enm esl elo eop el ea ec) (Ex.mk xk xn xnm xsl xlo xop xl xa xc) bd es2 ba bc ea2 ec2 id sl ot lo_)) ev.e:=⟨_,rfl⟩;rw [←hR];unfold SS.others at hR;simp only [Stm.er] at hR;rw [Zo hwho] at hR
 change X _ _ _ _ _ _ _ _ (pto p (.cells (Yt pp σ++(.int .i64 (who:Int)::evC ev)).toArray 145 (0,0))::lsH I64 2 σ.ca σ.cc σ.cells::yH σ.sp σ.sy::rsH trC 5 116 σ.ha σ.hc σ.ths::stars (σ.ths.map trH)::rsH acC 3 140 ev.aa ev.ac ev.e.acc::rsH snC 3 50 ev.na ev.nc ev.e.syn::(q++F))
 obtain rfl:kk=7:=(by omega)
 try dsimp only at hR
 rw [if_neg (by decide)] at hR
 rw [if_pos (by decide)] at hR
 try rw [show σ.er.sy=σ.sy from rfl] at hR
 have hthr:thr (who:Int):=⟨by omega,by omega⟩;have hmu:=hO.mu;have hco:=hO.co;have hch:=hO.ch
 have hin:=hs6 (.inr rfl)
 refine xo 5 ?_;refine ld ?_ (hc:=((hCs.le leA) 22 _ rfl))
 refine Vh call170 leA (S3 (p:=p) (pp:=pp) (who:=who) (σ:=σ) (ev:=ev) (sl:=sl) (q:=q++F) hys hN9 ⟨hin.1,by omega⟩ hthr (by rw [hev2];decide)) ?_ ?_
 · rintro _ _ ⟨⟨hno,rfl⟩,rfl⟩
   exact FQ.panic func134 (RP.thr (by rw [if_pos hno] at hR;rw [hR];exact ⟨σ,ev,⟨(show (4:Int)≠0 by decide),rfl,rfl⟩,rfl⟩)) (by rw [List.append_assoc];exact Le.refl _)
 rintro _ _ ⟨ev2,⟨hno,hev3⟩,eq_⟩;simp only [Zx,spP,Zc,evL,ca,na] at eq_;subst eq_
 rw [if_neg (fun k=>k hno)] at hR
 refine ox 1 ?_;refine Z7 (Zx p pp who ({ σ with sy:=(Z6 σ.sy sl who).1 } :StC) ev2++q) func134 (Vg results134) (RP.ret ⟨({ σ with sy:=(Z6 σ.sy sl who).1 } :StC),ev2,⟨by rw [hR],by rw [hR];rfl,by rw [hR,hev3];rfl,hTd⟩,rfl⟩) (by rw [List.append_assoc];exact Le.refl _)
set_option maxHeartbeats 8000000 in
theorem xwait_ok {y:PS}(hP:Prg q pp g)(hM:MayP g.er)(hO:PO g N who σ)(hev:ev.e.acc= []∧ev.e.syn= [])(hyA:Kn q fun M=>y.At M)(hg:y.s.er.good g.er.cn (σ.ths[who]'(hO.w)).loc.length)(hTd:Kn q fun M=>TodoAt M σ.ths)(hk:y.s.er.kd=8):CallF prog G 135 [.pointer (some ⟨p,0,none⟩),.pointer (some ⟨y.b,y.o,none⟩)] (Zx p pp who σ ev++q) (RP (fun v q'=> ∃ (σ':StC) (ev':EvC),((σ.er.others g.er.pr who y.s.er ev.e).2.2=0∧σ'.er=(σ.er.others g.er.pr who y.s.er ev.e).1∧ev'.e=(σ.er.others g.er.pr who y.s.er ev.e).2.1∧Kn q fun M=>TodoAt M σ'.ths)∧q'=Zx p pp who σ' ev'++q) (fun ch q'=> ∃ (σ':StC) (ev':EvC),((σ.er.others g.er.pr who y.s.er ev.e).2.2≠0∧ch= [Vp (σ.er.others g.er.pr who y.s.er ev.e).2.2]∧ev'.e=(σ.er.others g.er.pr who y.s.er ev.e).2.1)∧q'=Zx p pp who σ' ev'++q)):=by
 refine CallF.of func135 ntmps135 rfl (fun F cs=> ?_)
 obtain ⟨yb,yo,ys⟩:=y
 obtain ⟨kk,ln,cl,nm,wt,⟨ek,en,enm,esl,elo,eop,el,ea,ec⟩,⟨xk,xn,xnm,xsl,xlo,xop,xl,xa,xc⟩,bd,es2,ba,bc,ea2,ec2,id,sl,ot,lo_⟩:=ys
 have hCs:=Kn.stC hyA;dsimp only at hCs hg hyA hk⊢;simp only [Stm.er,PStm.kd] at hk
 have hwho:=hO.w;have h8:=hO.h8;have hys:=hO.y;have hN9:=hO.n9;obtain ⟨hev1,hev2⟩:=hev
 have hKe:Kn q fun M=>ExAt M ⟨yb,yo+5,none⟩ (Ex.mk ek en enm esl elo eop el ea ec):=hyA.imp fun M h=>Yk (pre:= [.int .i64 kk,.int .i64 ln,.int .i64 cl,.string nm,.string wt]) h.1 rfl h.2.1 rfl
 have hKx:Kn q fun M=>ExAt M ⟨yb,yo+12,none⟩ (Ex.mk xk xn xnm xsl xlo xop xl xa xc):=hyA.imp fun M h=>Yk (pre:= [.int .i64 kk,.int .i64 ln,.int .i64 cl,.string nm,.string wt]++exC (Ex.mk ek en enm esl elo eop el ea ec)) h.1 rfl h.2.2.1 rfl
 have hKb:Kn q fun M=>BlkAt M ba bc bd:=hyA.imp fun M h=>h.2.2.2.1;have hKl:Kn q fun M=>BlkAt M ea2 ec2 es2:=hyA.imp fun M h=>⟨h.2.2.2.2.1,h.2.2.2.2.2⟩
 obtain ⟨hg1,hg2,hg3,_⟩:=hg;obtain ⟨hs1,hs2,hs3,hs6,hs8,hs8o,hs11,hs12,hs13⟩:=Yi hg2;obtain ⟨hpe,hpx⟩:=Wd hg1;rw [Zn,Zn] at hg3
 obtain ⟨R,hR⟩: ∃ R,R=σ.er.others g.er.pr who (Stm.er (Stm.mk kk ln cl nm wt (Ex.mk ek en enm esl elo eop el ea ec) (Ex.mk xk xn xnm xsl xlo xop xl xa xc) bd es2 ba bc ea2 ec2 id sl ot lo_)) ev.e:=⟨_,rfl⟩;rw [←hR];unfold SS.others at hR;simp only [Stm.er] at hR;rw [Zo hwho] at hR
 change X _ _ _ _ _ _ _ _ (pto p (.cells (Yt pp σ++(.int .i64 (who:Int)::evC ev)).toArray 145 (0,0))::lsH I64 2 σ.ca σ.cc σ.cells::yH σ.sp σ.sy::rsH trC 5 116 σ.ha σ.hc σ.ths::stars (σ.ths.map trH)::rsH acC 3 140 ev.aa ev.ac ev.e.acc::rsH snC 3 50 ev.na ev.nc ev.e.syn::(q++F))
 obtain rfl:kk=8:=(by omega)
 try dsimp only at hR
 rw [if_neg (by decide)] at hR
 rw [if_neg (by decide)] at hR
 rw [if_pos (by decide)] at hR
 try rw [show σ.er.sy=σ.sy from rfl] at hR
 have hthr:thr (who:Int):=⟨by omega,by omega⟩;have hmu:=hO.mu;have hco:=hO.co;have hch:=hO.ch
 have hin:=hs8 (.inl rfl);have hino:=hs8o rfl
 refine Yz (l:=σ.ths) (by omega) (fun ga e_=> ?_)
 have hr: ∀ r,Sees (rsH trC 5 116 σ.ha σ.hc σ.ths::r) (some ⟨ga,0,none⟩) (σ.ths.flatMap trC):=fun r=>by rw [←e_];exact Sees.rsH r
 refine xo 6 ?_;refine ld ?_ (hc:=((hCs.le leA) 23 _ rfl))
 refine Vh call170 leA (S3 (p:=p) (pp:=pp) (who:=who) (σ:=σ) (ev:=ev) (sl:=ot) (q:=q++F) hys hN9 ⟨hino.1,by omega⟩ hthr (by rw [hev2];decide)) ?_ ?_
 · rintro _ _ ⟨⟨hno,rfl⟩,rfl⟩
   exact FQ.panic func135 (RP.thr (by rw [if_pos hno] at hR;rw [hR];exact ⟨σ,ev,⟨(show (4:Int)≠0 by decide),rfl,rfl⟩,rfl⟩)) (by rw [List.append_assoc];exact Le.refl _)
 rintro _ _ ⟨ev2,⟨hno,hev3⟩,eq_⟩;simp only [Zx,spP,Zc,evL,ca,na] at eq_;subst eq_
 rw [if_neg (fun k=>k hno)] at hR
 refine ox 2 ?_;refine drw ?_;refine dl [0,1,2,3] 4 ?_;refine dd [5,6,7] ?_;refine ldD 8 ?_ (hc:=((hCs.le leA) 22 _ rfl))
 refine dl [9,10,11] 12 ?_;refine Uy 13 call171 (Wait_Y (k:=sl) (t:=(who:Int)) (N:=N) (s:=(Z6 σ.sy ot who).1) (Et hys) (by omega)) ?_
 rintro _ _ ⟨rfl,rfl⟩ _ e_;simp only [ca,na] at e_;subst e_
 refine ⟨trivial,?_⟩
 refine XD.nil ?_;refine xo 3 ?_;refine XO.cR call95 (Q4 (p:=p) (who:=who) (ga:=ga) (m:=σ.ths.length) (c:=σ.hc) (by rw [←e_];exact clA) clA hwho) ?_
 refine oo 7 ?_;refine XO.le (q':=stars (σ.ths.map trH)::_) Zk (XO.le (M0 hwho _) ?_)
 refine XO.le (q':=rsH trC 5 116 (some ⟨ga,0,none⟩) σ.hc σ.ths::_) (by rw [←e_];exact Zk) ?_
 refine XO.ef0 (Ye (g:=ga) (f:=trC) (l:=σ.ths) (u:=({ σ.ths[who] with st:=2 } :TC)) (n:=who) (k:=1) (j:=(who:Int)) rfl rfl sizeOf99 Zy rfl hwho rfl rfl rfl rfl Zk) ?_
 rintro _ _ ⟨rfl,rfl⟩
 refine oo 6 ?_;refine ld ?_ (hc:=(Cl.row (n:=who) (Sees.rsH _) leA Zy (show who<(σ.ths.set who ({ σ.ths[who] with st:=2 } :TC)).length by rw [List.length_set];exact hwho) rfl 3 _ (by rw [List.getElem_set_self];rfl)))
 refine oo 1 ?_;refine XO.ef (Qq (u:=(⟨yb,yo,(Stm.mk 8 ln cl nm wt (Ex.mk ek en enm esl elo eop el ea ec) (Ex.mk xk xn xnm xsl xlo xop xl xa xc) bd es2 ba bc ea2 ec2 id sl ot lo_)⟩:PS)) PS.v underlying114 We rfl rfl) ?_
 rintro _ _ ⟨g2,rfl,rfl⟩
 refine XO.ef (Yb (f:=PS.v) (l:=σ.ths[who].todo) (m:= [(⟨yb,yo,(Stm.mk 8 ln cl nm wt (Ex.mk ek en enm esl elo eop el ea ec) (Ex.mk xk xn xnm xsl xlo xop xl xa xc) bd es2 ba bc ea2 ec2 id sl ot lo_)⟩:PS)]) underlying114 We rfl rfl rfl Zk ((Sees.lsH _).le leA) (fun _=>rfl) (by have:=hO.td;simp only [List.length_singleton];omega) (by have:=hO.td;simp only [List.length_singleton];omega)) ?_
 rintro _ _ ⟨a5,c5,rfl,rfl⟩
 refine oo 2 ?_;refine XO.ef0 (Ye (g:=ga) (f:=trC) (l:=(σ.ths.set who ({ σ.ths[who] with st:=2 } :TC))) (u:=({ σ.ths[who] with st:=2,ta:=a5,tc:=c5,todo:=σ.ths[who].todo++ [(⟨yb,yo,(Stm.mk 8 ln cl nm wt (Ex.mk ek en enm esl elo eop el ea ec) (Ex.mk xk xn xnm xsl xlo xop xl xa xc) bd es2 ba bc ea2 ec2 id sl ot lo_)⟩:PS)] } :TC)) (n:=who) (k:=3) (j:=(who:Int)) rfl rfl sizeOf114 Zy rfl (by rw [List.length_set];exact hwho) rfl (by rw [List.getElem_set_self];rfl) rfl rfl Zk) ?_
 rintro _ _ ⟨rfl,rfl⟩
 rw [List.set_set]
 refine ox 1 ?_
 rw [←e_]
 refine X.le (q':=stars ((σ.ths.set who ({ σ.ths[who] with st:=2,ta:=a5,tc:=c5,todo:=σ.ths[who].todo++ [(⟨yb,yo,(Stm.mk 8 ln cl nm wt (Ex.mk ek en enm esl elo eop el ea ec) (Ex.mk xk xn xnm xsl xlo xop xl xa xc) bd es2 ba bc ea2 ec2 id sl ot lo_)⟩:PS)] } :TC)).map trH)::_) (Le.trans (b:=lsH I64 2 (({ σ.ths[who] with st:=2,ta:=a5,tc:=c5,todo:=σ.ths[who].todo++ [(⟨yb,yo,(Stm.mk 8 ln cl nm wt (Ex.mk ek en enm esl elo eop el ea ec) (Ex.mk xk xn xnm xsl xlo xop xl xa xc) bd es2 ba bc ea2 ec2 id sl ot lo_)⟩:PS)] } :TC)).la (({ σ.ths[who] with st:=2,ta:=a5,tc:=c5,todo:=σ.ths[who].todo++ [(⟨yb,yo,(Stm.mk 8 ln cl nm wt (Ex.mk ek en enm esl elo eop el ea ec) (Ex.mk xk xn xnm xsl xlo xop xl xa xc) bd es2 ba bc ea2 ec2 id sl ot lo_)⟩:PS)] } :TC)).lc (({ σ.ths[who] with st:=2,ta:=a5,tc:=c5,todo:=σ.ths[who].todo++ [(⟨yb,yo,(Stm.mk 8 ln cl nm wt (Ex.mk ek en enm esl elo eop el ea ec) (Ex.mk xk xn xnm xsl xlo xop xl xa xc) bd es2 ba bc ea2 ec2 id sl ot lo_)⟩:PS)] } :TC)).loc::lsH PS.v 146 (({ σ.ths[who] with st:=2,ta:=a5,tc:=c5,todo:=σ.ths[who].todo++ [(⟨yb,yo,(Stm.mk 8 ln cl nm wt (Ex.mk ek en enm esl elo eop el ea ec) (Ex.mk xk xn xnm xsl xlo xop xl xa xc) bd es2 ba bc ea2 ec2 id sl ot lo_)⟩:PS)] } :TC)).ta (({ σ.ths[who] with st:=2,ta:=a5,tc:=c5,todo:=σ.ths[who].todo++ [(⟨yb,yo,(Stm.mk 8 ln cl nm wt (Ex.mk ek en enm esl elo eop el ea ec) (Ex.mk xk xn xnm xsl xlo xop xl xa xc) bd es2 ba bc ea2 ec2 id sl ot lo_)⟩:PS)] } :TC)).tc (({ σ.ths[who] with st:=2,ta:=a5,tc:=c5,todo:=σ.ths[who].todo++ [(⟨yb,yo,(Stm.mk 8 ln cl nm wt (Ex.mk ek en enm esl elo eop el ea ec) (Ex.mk xk xn xnm xsl xlo xop xl xa xc) bd es2 ba bc ea2 ec2 id sl ot lo_)⟩:PS)] } :TC)).todo::lsH I64 3 (({ σ.ths[who] with st:=2,ta:=a5,tc:=c5,todo:=σ.ths[who].todo++ [(⟨yb,yo,(Stm.mk 8 ln cl nm wt (Ex.mk ek en enm esl elo eop el ea ec) (Ex.mk xk xn xnm xsl xlo xop xl xa xc) bd es2 ba bc ea2 ec2 id sl ot lo_)⟩:PS)] } :TC)).sa (({ σ.ths[who] with st:=2,ta:=a5,tc:=c5,todo:=σ.ths[who].todo++ [(⟨yb,yo,(Stm.mk 8 ln cl nm wt (Ex.mk ek en enm esl elo eop el ea ec) (Ex.mk xk xn xnm xsl xlo xop xl xa xc) bd es2 ba bc ea2 ec2 id sl ot lo_)⟩:PS)] } :TC)).sc (({ σ.ths[who] with st:=2,ta:=a5,tc:=c5,todo:=σ.ths[who].todo++ [(⟨yb,yo,(Stm.mk 8 ln cl nm wt (Ex.mk ek en enm esl elo eop el ea ec) (Ex.mk xk xn xnm xsl xlo xop xl xa xc) bd es2 ba bc ea2 ec2 id sl ot lo_)⟩:PS)] } :TC)).sp::stars ((σ.ths.eraseIdx who).map trH)::_) (Le.pick Zk (Le.pick Zk (Le.pick Zk Zk))) (Mo hwho ({ σ.ths[who] with st:=2,ta:=a5,tc:=c5,todo:=σ.ths[who].todo++ [(⟨yb,yo,(Stm.mk 8 ln cl nm wt (Ex.mk ek en enm esl elo eop el ea ec) (Ex.mk xk xn xnm xsl xlo xop xl xa xc) bd es2 ba bc ea2 ec2 id sl ot lo_)⟩:PS)] } :TC) _)) ?_
 refine X.le (q':=Zx p pp who ({ σ with sy:=(Us (Z6 σ.sy ot who).1 sl who).1,ths:=σ.ths.set who ({ σ.ths[who] with st:=2,ta:=a5,tc:=c5,todo:=σ.ths[who].todo++ [(⟨yb,yo,(Stm.mk 8 ln cl nm wt (Ex.mk ek en enm esl elo eop el ea ec) (Ex.mk xk xn xnm xsl xlo xop xl xa xc) bd es2 ba bc ea2 ec2 id sl ot lo_)⟩:PS)] } :TC) } :StC) ev2++(q++F)) (by unfold Zx spP Yt Zc;simp only [List.length_set];exact leA) ?_
 refine Z7 (Zx p pp who ({ σ with sy:=(Us (Z6 σ.sy ot who).1 sl who).1,ths:=σ.ths.set who ({ σ.ths[who] with st:=2,ta:=a5,tc:=c5,todo:=σ.ths[who].todo++ [(⟨yb,yo,(Stm.mk 8 ln cl nm wt (Ex.mk ek en enm esl elo eop el ea ec) (Ex.mk xk xn xnm xsl xlo xop xl xa xc) bd es2 ba bc ea2 ec2 id sl ot lo_)⟩:PS)] } :TC) } :StC) ev2++q) func135 (Vg results135) (RP.ret ⟨({ σ with sy:=(Us (Z6 σ.sy ot who).1 sl who).1,ths:=σ.ths.set who ({ σ.ths[who] with st:=2,ta:=a5,tc:=c5,todo:=σ.ths[who].todo++ [(⟨yb,yo,(Stm.mk 8 ln cl nm wt (Ex.mk ek en enm esl elo eop el ea ec) (Ex.mk xk xn xnm xsl xlo xop xl xa xc) bd es2 ba bc ea2 ec2 id sl ot lo_)⟩:PS)] } :TC) } :StC),ev2,⟨by rw [hR],by rw [hR];exact congrArg (fun z:SS=> { z with sy:=(Us (Z6 σ.sy ot who).1 sl who).1 }) (show ({ σ with ths:=σ.ths.set who ({ σ.ths[who] with st:=2,ta:=a5,tc:=c5,todo:=σ.ths[who].todo++ [(⟨yb,yo,(Stm.mk 8 ln cl nm wt (Ex.mk ek en enm esl elo eop el ea ec) (Ex.mk xk xn xnm xsl xlo xop xl xa xc) bd es2 ba bc ea2 ec2 id sl ot lo_)⟩:PS)] } :TC) } :StC).er=σ.er.put who { (σ.ths[who]).er with st:=2,left:=Stm.er (Stm.mk 8 ln cl nm wt (Ex.mk ek en enm esl elo eop el ea ec) (Ex.mk xk xn xnm xsl xlo xop xl xa xc) bd es2 ba bc ea2 ec2 id sl ot lo_)::(σ.ths[who]).er.left } by rw [W6];congr 1;simp only [TC.er,List.map_append,List.reverse_append,List.map_cons,List.map_nil,List.reverse_cons,List.reverse_nil,List.nil_append,List.cons_append,Stm.er]),by rw [hR,hev3];rfl,(hTd.and hyA).imp fun M h=>Ip hwho h.1 h.2 rfl⟩,rfl⟩) (by rw [List.append_assoc];exact Le.refl _)
set_option maxHeartbeats 4000000 in
theorem xwake_ok {y:PS}(hP:Prg q pp g)(hM:MayP g.er)(hO:PO g N who σ)(hev:ev.e.acc= []∧ev.e.syn= [])(hyA:Kn q fun M=>y.At M)(hg:y.s.er.good g.er.cn (σ.ths[who]'(hO.w)).loc.length)(hTd:Kn q fun M=>TodoAt M σ.ths)(hk:y.s.er.kd=8):CallF prog G 96 [.pointer (some ⟨p,0,none⟩),.pointer (some ⟨y.b,y.o,none⟩)] (Zx p pp who σ ev++q) (RP (fun v q'=> ∃ (σ':StC) (ev':EvC),((σ.er.woken who y.s.er ev.e).2.2=0∧σ'.er=(σ.er.woken who y.s.er ev.e).1∧ev'.e=(σ.er.woken who y.s.er ev.e).2.1∧Kn q fun M=>TodoAt M σ'.ths)∧q'=Zx p pp who σ' ev'++q) (fun ch q'=> ∃ (σ':StC) (ev':EvC),((σ.er.woken who y.s.er ev.e).2.2≠0∧ch= [Vp (σ.er.woken who y.s.er ev.e).2.2]∧ev'.e=(σ.er.woken who y.s.er ev.e).2.1)∧q'=Zx p pp who σ' ev'++q)):=by
 refine CallF.of func96 ntmps96 rfl (fun F cs=> ?_)
 obtain ⟨yb,yo,ys⟩:=y
 obtain ⟨kk,ln,cl,nm,wt,⟨ek,en,enm,esl,elo,eop,el,ea,ec⟩,⟨xk,xn,xnm,xsl,xlo,xop,xl,xa,xc⟩,bd,es2,ba,bc,ea2,ec2,id,sl,ot,lo_⟩:=ys
 have hCs:=Kn.stC hyA;dsimp only at hCs hg hyA hk⊢;simp only [Stm.er,PStm.kd] at hk
 have hwho:=hO.w;have h8:=hO.h8;have hys:=hO.y;have hN9:=hO.n9;obtain ⟨hev1,hev2⟩:=hev
 have hKe:Kn q fun M=>ExAt M ⟨yb,yo+5,none⟩ (Ex.mk ek en enm esl elo eop el ea ec):=hyA.imp fun M h=>Yk (pre:= [.int .i64 kk,.int .i64 ln,.int .i64 cl,.string nm,.string wt]) h.1 rfl h.2.1 rfl
 have hKx:Kn q fun M=>ExAt M ⟨yb,yo+12,none⟩ (Ex.mk xk xn xnm xsl xlo xop xl xa xc):=hyA.imp fun M h=>Yk (pre:= [.int .i64 kk,.int .i64 ln,.int .i64 cl,.string nm,.string wt]++exC (Ex.mk ek en enm esl elo eop el ea ec)) h.1 rfl h.2.2.1 rfl
 have hKb:Kn q fun M=>BlkAt M ba bc bd:=hyA.imp fun M h=>h.2.2.2.1;have hKl:Kn q fun M=>BlkAt M ea2 ec2 es2:=hyA.imp fun M h=>⟨h.2.2.2.2.1,h.2.2.2.2.2⟩
 obtain ⟨hg1,hg2,hg3,_⟩:=hg;obtain ⟨hs1,hs2,hs3,hs6,hs8,hs8o,hs11,hs12,hs13⟩:=Yi hg2;obtain ⟨hpe,hpx⟩:=Wd hg1;rw [Zn,Zn] at hg3
 obtain ⟨R,hR⟩: ∃ R,R=σ.er.woken who (Stm.er (Stm.mk kk ln cl nm wt (Ex.mk ek en enm esl elo eop el ea ec) (Ex.mk xk xn xnm xsl xlo xop xl xa xc) bd es2 ba bc ea2 ec2 id sl ot lo_)) ev.e:=⟨_,rfl⟩;rw [←hR];unfold SS.woken at hR;simp only [Stm.er] at hR;rw [Zo hwho] at hR
 change X _ _ _ _ _ _ _ _ (pto p (.cells (Yt pp σ++(.int .i64 (who:Int)::evC ev)).toArray 145 (0,0))::lsH I64 2 σ.ca σ.cc σ.cells::yH σ.sp σ.sy::rsH trC 5 116 σ.ha σ.hc σ.ths::stars (σ.ths.map trH)::rsH acC 3 140 ev.aa ev.ac ev.e.acc::rsH snC 3 50 ev.na ev.nc ev.e.syn::(q++F))
 obtain rfl:kk=8:=(by omega)
 try rw [show σ.er.sy=σ.sy from rfl] at hR
 dsimp only [PStm.oth] at hR
 refine Yz (l:=σ.ths) (by omega) (fun ga e_=> ?_)
 have hr: ∀ r,Sees (rsH trC 5 116 σ.ha σ.hc σ.ths::r) (some ⟨ga,0,none⟩) (σ.ths.flatMap trC):=fun r=>by rw [←e_];exact Sees.rsH r
 refine xo 6 ?_;refine st ?_;refine ox 2 ?_;refine drw ?_;refine dl [0,1,2,3] 4 ?_;refine dd [5,6,7] ?_;refine ldD 8 ?_ (hc:=((hCs.le leA) 23 _ rfl))
 refine dl [9,10,11] 12 ?_;refine Uy 13 call128 (Lock_Y (m:=ot) (t:=(who:Int)) hys (by omega)) ?_
 rintro _ _ ⟨rfl,rfl⟩ _ e_;simp only [ca,na] at e_;subst e_
 refine ⟨trivial,?_⟩
 refine XD.nil ?_;refine xo 3 ?_;refine XO.cR call95 (Q4 (p:=p) (who:=who) (ga:=ga) (m:=σ.ths.length) (c:=σ.hc) (by rw [←e_];exact clA) clA hwho) ?_
 refine oo 2 ?_;refine XO.le (q':=rsH trC 5 116 (some ⟨ga,0,none⟩) σ.hc σ.ths::_) (by rw [←e_];exact Zk) ?_
 refine XO.ef0 (Ye (g:=ga) (f:=trC) (l:=σ.ths) (u:=({ σ.ths[who] with st:=1 } :TC)) (n:=who) (k:=1) (j:=(who:Int)) rfl rfl sizeOf99 Zy rfl hwho rfl rfl rfl rfl Zk) ?_
 rintro _ _ ⟨rfl,rfl⟩
 rw [←e_]
 refine oo 6 ?_;refine ld ?_ (hc:=((hCs.le leA) 23 _ rfl))
 refine Zf call98 (by unfold Zx spP Yt Zc;simp only [List.length_set];rw [Rx hwho (show trH ({ σ.ths[who] with st:=1 } :TC)=trH σ.ths[who] from rfl)];exact leA) (V2 (p:=p) (pp:=pp) (who:=who) (σ:=({ σ with sy:=(Ws σ.sy ot who).1,ths:=σ.ths.set who ({ σ.ths[who] with st:=1 } :TC) } :StC)) (ev:=({ ev with e:= { ev.e with woke:=true } } :EvC)) (k:=1) (sl:=ot) (ot:=0) (q:=q++F) (by dsimp only;rw [hev2];decide)) ?_
 rintro _ _ ⟨ev2,hev3,rfl⟩
 refine ox 1 ?_;refine Z7 (Zx p pp who ({ σ with sy:=(Ws σ.sy ot who).1,ths:=σ.ths.set who ({ σ.ths[who] with st:=1 } :TC) } :StC) ev2++q) func96 (Vg results96) (RP.ret ⟨({ σ with sy:=(Ws σ.sy ot who).1,ths:=σ.ths.set who ({ σ.ths[who] with st:=1 } :TC) } :StC),ev2,⟨by rw [hR],by rw [hR];exact congrArg (fun z:SS=> { z with sy:=(Ws σ.sy ot who).1 }) (W6 σ who _),by rw [hR,hev3],hTd.imp fun M h=>TodoAt.of (Hq hwho rfl) h⟩,rfl⟩) (by rw [List.append_assoc];exact Le.refl _)
set_option maxHeartbeats 8000000 in
theorem Ab {y:PS}(hP:Prg q pp g)(hM:MayP g.er)(hO:PO g N who σ)(hev:ev.e.acc= []∧ev.e.syn= [])(hyA:Kn q fun M=>y.At M)(hg:y.s.er.good g.er.cn (σ.ths[who]'(hO.w)).loc.length)(hTd:Kn q fun M=>TodoAt M σ.ths)(hk:y.s.er.kd=9):CallF prog G 136 [.pointer (some ⟨p,0,none⟩),.pointer (some ⟨y.b,y.o,none⟩)] (Zx p pp who σ ev++q) (RP (fun v q'=> ∃ (σ':StC) (ev':EvC),((σ.er.others g.er.pr who y.s.er ev.e).2.2=0∧σ'.er=(σ.er.others g.er.pr who y.s.er ev.e).1∧ev'.e=(σ.er.others g.er.pr who y.s.er ev.e).2.1∧Kn q fun M=>TodoAt M σ'.ths)∧q'=Zx p pp who σ' ev'++q) (fun ch q'=> ∃ (σ':StC) (ev':EvC),((σ.er.others g.er.pr who y.s.er ev.e).2.2≠0∧ch= [Vp (σ.er.others g.er.pr who y.s.er ev.e).2.2]∧ev'.e=(σ.er.others g.er.pr who y.s.er ev.e).2.1)∧q'=Zx p pp who σ' ev'++q)):=by
 refine CallF.of func136 ntmps136 rfl (fun F cs=> ?_)
 obtain ⟨yb,yo,ys⟩:=y
 obtain ⟨kk,ln,cl,nm,wt,⟨ek,en,enm,esl,elo,eop,el,ea,ec⟩,⟨xk,xn,xnm,xsl,xlo,xop,xl,xa,xc⟩,bd,es2,ba,bc,ea2,ec2,id,sl,ot,lo_⟩:=ys
 have hCs:=Kn.stC hyA;dsimp only at hCs hg hyA hk⊢;simp only [Stm.er,PStm.kd] at hk
 have hwho:=hO.w;have h8:=hO.h8;have hys:=hO.y;have hN9:=hO.n9;obtain ⟨hev1,hev2⟩:=hev
 have hKe:Kn q fun M=>ExAt M ⟨yb,yo+5,none⟩ (Ex.mk ek en enm esl elo eop el ea ec):=hyA.imp fun M h=>Yk (pre:= [.int .i64 kk,.int .i64 ln,.int .i64 cl,.string nm,.string wt]) h.1 rfl h.2.1 rfl
 have hKx:Kn q fun M=>ExAt M ⟨yb,yo+12,none⟩ (Ex.mk xk xn xnm xsl xlo xop xl xa xc):=hyA.imp fun M h=>Yk (pre:= [.int .i64 kk,.int .i64 ln,.int .i64 cl,.string nm,.string wt]++exC (Ex.mk ek en enm esl elo eop el ea ec)) h.1 rfl h.2.2.1 rfl
 have hKb:Kn q fun M=>BlkAt M ba bc bd:=hyA.imp fun M h=>h.2.2.2.1;have hKl:Kn q fun M=>BlkAt M ea2 ec2 es2:=hyA.imp fun M h=>⟨h.2.2.2.2.1,h.2.2.2.2.2⟩
 obtain ⟨hg1,hg2,hg3,_⟩:=hg;obtain ⟨hs1,hs2,hs3,hs6,hs8,hs8o,hs11,hs12,hs13⟩:=Yi hg2;obtain ⟨hpe,hpx⟩:=Wd hg1;rw [Zn,Zn] at hg3
 obtain ⟨R,hR⟩: ∃ R,R=σ.er.others g.er.pr who (Stm.er (Stm.mk kk ln cl nm wt (Ex.mk ek en enm esl elo eop el ea ec) (Ex.mk xk xn xnm xsl xlo xop xl xa xc) bd es2 ba bc ea2 ec2 id sl ot lo_)) ev.e:=⟨_,rfl⟩;rw [←hR];unfold SS.others at hR;simp only [Stm.er] at hR;rw [Zo hwho] at hR
 change X _ _ _ _ _ _ _ _ (pto p (.cells (Yt pp σ++(.int .i64 (who:Int)::evC ev)).toArray 145 (0,0))::lsH I64 2 σ.ca σ.cc σ.cells::yH σ.sp σ.sy::rsH trC 5 116 σ.ha σ.hc σ.ths::stars (σ.ths.map trH)::rsH acC 3 140 ev.aa ev.ac ev.e.acc::rsH snC 3 50 ev.na ev.nc ev.e.syn::(q++F))
 obtain rfl:kk=9:=(by omega)
 try dsimp only at hR
 rw [if_neg (by decide)] at hR
 rw [if_neg (by decide)] at hR
 rw [if_neg (by decide)] at hR
 rw [if_pos (by decide)] at hR
 try rw [show σ.er.sy=σ.sy from rfl] at hR
 have hthr:thr (who:Int):=⟨by omega,by omega⟩;have hmu:=hO.mu;have hco:=hO.co;have hch:=hO.ch
 have hin:=hs8 (.inr (.inl rfl));have hci:sl.toNat<σ.sy.conds.length:=(by omega);have hcm:=Y7 (d:=([]:List Int)) hci;have hcd:=hO.cd _ hcm;have hct:=(hys.c _ hcm).2
 refine Yz (l:=σ.ths) (by omega) (fun ga e_=> ?_)
 have hr: ∀ r,Sees (rsH trC 5 116 σ.ha σ.hc σ.ths::r) (some ⟨ga,0,none⟩) (σ.ths.flatMap trC):=fun r=>by rw [←e_];exact Sees.rsH r
 rcases hL:σ.sy.conds.getD sl.toNat [] with _|⟨i,r⟩
 · have hsg:(Yo σ.sy sl).2=(-1,0):=by unfold Yo;rw [if_pos ⟨hin.1,by omega⟩,hL,if_pos rfl]
   refine xx 1 ?_;refine drw ?_;refine dl [0,1,2,3] 4 ?_;refine dd [5,6,7] ?_;refine ldD 8 ?_ (hc:=((hCs.le leA) 22 _ rfl))
   refine Uy 9 call172 (Cr (k:=sl) hys (by omega)) ?_
   rintro _ _ ⟨rfl,rfl⟩ _ e_;simp only [ca,na] at e_;subst e_
   refine ⟨trivial,?_⟩
   rw [hsg]
   refine dd [10,11,12,13,14,15,16] ?_;refine XD.nil ?_;refine xx 4 ?_;refine X.know 21 (.bool false) rfl (congrArg Value.bool (by decide)) ?_
   refine xx 2 ?_
   try dsimp only at hR
   rw [hL] at hR
   refine Z7 (Zx p pp who ({ σ with sy:=(Yo σ.sy sl).1 } :StC) ev++q) func136 (Vg results136) (RP.ret ⟨({ σ with sy:=(Yo σ.sy sl).1 } :StC),ev,⟨by rw [hR],by rw [hR];rfl,by rw [hR];simp,hTd⟩,rfl⟩) (by unfold Zx spP;exact leA)
 rw [hL] at hct hcd;obtain ⟨I,rfl⟩:=Int.eq_ofNat_of_zero_le (hct i (List.mem_cons_self ..)).1;have hI:I<σ.ths.length:=hcd _ (List.mem_cons_self ..)
 have hsg:(Yo σ.sy sl).2=((I:Int),0):=by unfold Yo;rw [if_pos ⟨hin.1,by omega⟩,hL,if_neg (by intro h;cases h)];rfl
 refine xx 1 ?_;refine drw ?_;refine dl [0,1,2,3] 4 ?_;refine dd [5,6,7] ?_;refine ldD 8 ?_ (hc:=((hCs.le leA) 22 _ rfl))
 refine Uy 9 call172 (Cr (k:=sl) hys (by omega)) ?_
 rintro _ _ ⟨rfl,rfl⟩ _ e_;simp only [ca,na] at e_;subst e_
 refine ⟨trivial,?_⟩
 rw [hsg]
 refine dd [10,11,12,13,14,15,16] ?_;refine XD.nil ?_;refine xx 4 ?_;refine X.know 21 (.bool true) rfl (congrArg Value.bool (decide_eq_true (Int.natCast_nonneg I))) ?_;refine xj 7 ?_;refine oo 1 ?_;refine XO.know 26 (.slice (some ⟨ga,0,none⟩) σ.ths.length σ.hc) rfl (by rw [←e_]) ?_
 refine XO.know 27 (.int .i64 (I:Int)) rfl (by rw [Int.max_eq_left (by omega)]) ?_
 refine oo 2 ?_;refine XO.le (q':=rsH trC 5 116 (some ⟨ga,0,none⟩) σ.hc σ.ths::_) (by rw [←e_];exact Zk) ?_
 refine XO.ef0 (Ye (g:=ga) (f:=trC) (l:=σ.ths) (u:=({ σ.ths[I] with st:=3 } :TC)) (n:=I) (k:=1) (j:=(I:Int)) rfl rfl sizeOf99 Zy rfl hI rfl rfl rfl rfl Zk) ?_
 rintro _ _ ⟨rfl,rfl⟩
 rw [←e_]
 refine oo 6 ?_;refine ld ?_ (hc:=((hCs.le leA) 22 _ rfl))
 refine oo 1 ?_;refine XO.know 35 (.int .i64 (I:Int)) rfl (by rw [Int.max_eq_left (by omega)]) ?_
 refine Zf call98 (by unfold Zx spP Yt Zc;simp only [List.length_set];rw [Rx hI (show trH ({ σ.ths[I] with st:=3 } :TC)=trH σ.ths[I] from rfl)];exact leA) (V2 (p:=p) (pp:=pp) (who:=who) (σ:=({ σ with sy:=(Yo σ.sy sl).1,ths:=σ.ths.set I ({ σ.ths[I] with st:=3 } :TC) } :StC)) (ev:=ev) (k:=3) (sl:=sl) (ot:=(I:Int)) (q:=q++F) (by rw [hev2];decide)) ?_
 rintro _ _ ⟨ev2,hev3,rfl⟩
 refine ox 1 ?_
 try dsimp only at hR
 rw [hL] at hR
 have hwk:({ σ with ths:=σ.ths.set I ({ σ.ths[I] with st:=3 } :TC) } :StC).er=σ.er.wake [(I:Int)]:=by
  rw [W6];simp only [SS.wake,Eh,show ((I:Int)).toNat=I from rfl,Wl hI];rfl
 rw [if_neg (show ¬ (9:Int)=10 by decide),if_neg (show ¬ (9:Int)=10 by decide),show min 1 ((I:Int)::r).length=1 by simp only [List.length_cons];omega,show List.take 1 ((I:Int)::r)= [(I:Int)] from rfl] at hR
 refine Z7 (Zx p pp who ({ σ with sy:=(Yo σ.sy sl).1,ths:=σ.ths.set I ({ σ.ths[I] with st:=3 } :TC) } :StC) ev2++q) func136 (Vg results136) (RP.ret ⟨({ σ with sy:=(Yo σ.sy sl).1,ths:=σ.ths.set I ({ σ.ths[I] with st:=3 } :TC) } :StC),ev2,⟨by rw [hR],by rw [hR];exact congrArg (fun z:SS=> { z with sy:=(Yo σ.sy sl).1 }) hwk,by rw [hR,hev3];rfl,hTd.imp fun M h=>TodoAt.of (Hq hI rfl) h⟩,rfl⟩) (by rw [List.append_assoc];exact Le.refl _)
set_option maxHeartbeats 4000000 in
theorem xrecv_ok {y:PS}(hP:Prg q pp g)(hM:MayP g.er)(hO:PO g N who σ)(hev:ev.e.acc= []∧ev.e.syn= [])(hyA:Kn q fun M=>y.At M)(hg:y.s.er.good g.er.cn (σ.ths[who]'(hO.w)).loc.length)(hTd:Kn q fun M=>TodoAt M σ.ths)(hk:y.s.er.kd=12)(hroom:0<(σ.sy.chans.getD y.s.er.slt.toNat ch0).items.length):CallF prog G 139 [.pointer (some ⟨p,0,none⟩),.pointer (some ⟨y.b,y.o,none⟩)] (Zx p pp who σ ev++q) (RP (fun v q'=> ∃ (σ':StC) (ev':EvC),((σ.er.others g.er.pr who y.s.er ev.e).2.2=0∧σ'.er=(σ.er.others g.er.pr who y.s.er ev.e).1∧ev'.e=(σ.er.others g.er.pr who y.s.er ev.e).2.1∧Kn q fun M=>TodoAt M σ'.ths)∧q'=Zx p pp who σ' ev'++q) (fun ch q'=> ∃ (σ':StC) (ev':EvC),((σ.er.others g.er.pr who y.s.er ev.e).2.2≠0∧ch= [Vp (σ.er.others g.er.pr who y.s.er ev.e).2.2]∧ev'.e=(σ.er.others g.er.pr who y.s.er ev.e).2.1)∧q'=Zx p pp who σ' ev'++q)):=by
 refine CallF.of func139 ntmps139 rfl (fun F cs=> ?_)
 obtain ⟨yb,yo,ys⟩:=y
 obtain ⟨kk,ln,cl,nm,wt,⟨ek,en,enm,esl,elo,eop,el,ea,ec⟩,⟨xk,xn,xnm,xsl,xlo,xop,xl,xa,xc⟩,bd,es2,ba,bc,ea2,ec2,id,sl,ot,lo_⟩:=ys
 have hCs:=Kn.stC hyA;dsimp only at hCs hg hyA hk⊢;simp only [Stm.er,PStm.kd] at hk
 have hwho:=hO.w;have h8:=hO.h8;have hys:=hO.y;have hN9:=hO.n9;obtain ⟨hev1,hev2⟩:=hev
 have hKe:Kn q fun M=>ExAt M ⟨yb,yo+5,none⟩ (Ex.mk ek en enm esl elo eop el ea ec):=hyA.imp fun M h=>Yk (pre:= [.int .i64 kk,.int .i64 ln,.int .i64 cl,.string nm,.string wt]) h.1 rfl h.2.1 rfl
 have hKx:Kn q fun M=>ExAt M ⟨yb,yo+12,none⟩ (Ex.mk xk xn xnm xsl xlo xop xl xa xc):=hyA.imp fun M h=>Yk (pre:= [.int .i64 kk,.int .i64 ln,.int .i64 cl,.string nm,.string wt]++exC (Ex.mk ek en enm esl elo eop el ea ec)) h.1 rfl h.2.2.1 rfl
 have hKb:Kn q fun M=>BlkAt M ba bc bd:=hyA.imp fun M h=>h.2.2.2.1;have hKl:Kn q fun M=>BlkAt M ea2 ec2 es2:=hyA.imp fun M h=>⟨h.2.2.2.2.1,h.2.2.2.2.2⟩
 obtain ⟨hg1,hg2,hg3,_⟩:=hg;obtain ⟨hs1,hs2,hs3,hs6,hs8,hs8o,hs11,hs12,hs13⟩:=Yi hg2;obtain ⟨hpe,hpx⟩:=Wd hg1;rw [Zn,Zn] at hg3
 obtain ⟨R,hR⟩: ∃ R,R=σ.er.others g.er.pr who (Stm.er (Stm.mk kk ln cl nm wt (Ex.mk ek en enm esl elo eop el ea ec) (Ex.mk xk xn xnm xsl xlo xop xl xa xc) bd es2 ba bc ea2 ec2 id sl ot lo_)) ev.e:=⟨_,rfl⟩;rw [←hR];unfold SS.others at hR;simp only [Stm.er] at hR;rw [Zo hwho] at hR
 change X _ _ _ _ _ _ _ _ (pto p (.cells (Yt pp σ++(.int .i64 (who:Int)::evC ev)).toArray 145 (0,0))::lsH I64 2 σ.ca σ.cc σ.cells::yH σ.sp σ.sy::rsH trC 5 116 σ.ha σ.hc σ.ths::stars (σ.ths.map trH)::rsH acC 3 140 ev.aa ev.ac ev.e.acc::rsH snC 3 50 ev.na ev.nc ev.e.syn::(q++F))
 obtain rfl:kk=12:=(by omega)
 try dsimp only at hR
 rw [if_neg (by decide)] at hR
 rw [if_neg (by decide)] at hR
 rw [if_neg (by decide)] at hR
 rw [if_neg (by decide)] at hR
 rw [if_pos (by decide)] at hR
 try rw [show σ.er.sy=σ.sy from rfl] at hR
 have hthr:thr (who:Int):=⟨by omega,by omega⟩;have hmu:=hO.mu;have hco:=hO.co;have hch:=hO.ch
 have hin:=hs11 (.inr rfl);have hino:=hs12 rfl;have hci:sl.toNat<σ.sy.chans.length:=(by omega)
 replace hroom:0<(σ.sy.chans.getD sl.toNat ch0).items.length:=hroom
 obtain ⟨C,hC⟩: ∃ C,C=σ.sy.chans.getD sl.toNat ch0:=⟨_,rfl⟩;rw [←hC] at hroom;have hne:C.items≠ []:=(fun k=>by rw [k] at hroom;exact absurd hroom (by decide))
 have hrc:(W9 σ.sy sl).2=(C.items.headD 0,(C.taken:Int),0):=by unfold W9;rw [if_pos ⟨hin.1,by omega⟩,←hC,if_neg hne];exact congrArg (fun z=>(z,(C.taken:Int),(0:Int))) (Pv _ _)
 have hO2:PO g N who { σ with sy:=(W9 σ.sy sl).1 } :=hO.sy (Gb hys _) (by rw [D5]) (by rw [R5]) (I2 _ _)
 try dsimp only at hR
 rw [←hC] at hR
 refine xx 1 ?_;refine drw ?_;refine dl [0,1,2,3] 4 ?_;refine dd [5,6,7] ?_;refine ldD 8 ?_ (hc:=((hCs.le leA) 22 _ rfl))
 refine Uy 9 call175 (Recv_Y (k:=sl) hys (by omega)) ?_
 rintro _ _ ⟨rfl,rfl⟩ _ e_;simp only [ca,na] at e_;subst e_
 refine ⟨trivial,?_⟩
 rw [hrc]
 refine dd [10,11,12,13,14,15,16,17,18] ?_;refine XD.nil ?_;refine xx 1 ?_;refine drw ?_;refine dd [0,1,2,3] ?_;refine ldD 4 ?_ (hc:=((hCs.le leA) 23 _ rfl))
 refine dd [5,6,7] ?_;refine ldD 8 ?_ (hc:=((hCs.le leA) 24 _ rfl))
 refine dd [9] ?_;refine Y5 10 call165 leA (Ss (p:=p) (pp:=pp) (who:=who) (g:=g) (N:=N) (σ:=({ σ with sy:=(W9 σ.sy sl).1 } :StC)) (ev:=ev) (sl:=ot) (bb:=lo_) (u:=C.items.headD 0) (q:=q++F) hO2 hino (by rw [hev1];decide) hM) ?_
 rintro _ _ ⟨σ2,ev3,⟨hk1,hk2,hk3⟩,eq_⟩;simp only [Zx,spP,Zc,evL,ca,na] at eq_;subst eq_
 refine ⟨trivial,?_⟩
 refine XD.nil ?_;refine xo 5 ?_;refine ld ?_ (hc:=((hCs.le leA) 22 _ rfl))
 refine oo 1 ?_;refine XO.know 39 (.int .i64 (C.taken:Int)) rfl (by dsimp only;rw [Int.max_eq_left (by omega)]) ?_
 refine Zf call98 leA (V2 (p:=p) (pp:=pp) (who:=who) (σ:=σ2) (ev:=ev3) (k:=5) (sl:=sl) (ot:=(C.taken:Int)) (q:=q++F) (by rw [hk2];unfold PEv.ac;dsimp only;rw [hev2];decide)) ?_
 rintro _ _ ⟨ev4,hev3,rfl⟩
 refine ox 1 ?_;refine Z7 (Zx p pp who σ2 ev4++q) func139 (Vg results139) (RP.ret ⟨σ2,ev4,⟨by rw [hR],by rw [hR];exact hk1,by rw [hR,hev3,hk2];rfl,hTd.imp fun M h=>TodoAt.of hk3 h⟩,rfl⟩) (by rw [List.append_assoc];exact Le.refl _)
set_option maxHeartbeats 8000000 in
theorem xall_ok {y:PS}(hP:Prg q pp g)(hM:MayP g.er)(hO:PO g N who σ)(hev:ev.e.acc= []∧ev.e.syn= [])(hyA:Kn q fun M=>y.At M)(hg:y.s.er.good g.er.cn (σ.ths[who]'(hO.w)).loc.length)(hTd:Kn q fun M=>TodoAt M σ.ths)(hk:y.s.er.kd=10):CallF prog G 137 [.pointer (some ⟨p,0,none⟩),.pointer (some ⟨y.b,y.o,none⟩)] (Zx p pp who σ ev++q) (RP (fun v q'=> ∃ (σ':StC) (ev':EvC),((σ.er.others g.er.pr who y.s.er ev.e).2.2=0∧σ'.er=(σ.er.others g.er.pr who y.s.er ev.e).1∧ev'.e=(σ.er.others g.er.pr who y.s.er ev.e).2.1∧Kn q fun M=>TodoAt M σ'.ths)∧q'=Zx p pp who σ' ev'++q) (fun ch q'=> ∃ (σ':StC) (ev':EvC),((σ.er.others g.er.pr who y.s.er ev.e).2.2≠0∧ch= [Vp (σ.er.others g.er.pr who y.s.er ev.e).2.2]∧ev'.e=(σ.er.others g.er.pr who y.s.er ev.e).2.1)∧q'=Zx p pp who σ' ev'++q)):=by
 refine CallF.of func137 ntmps137 rfl (fun F cs=> ?_)
 obtain ⟨yb,yo,ys⟩:=y
 obtain ⟨kk,ln,cl,nm,wt,⟨ek,en,enm,esl,elo,eop,el,ea,ec⟩,⟨xk,xn,xnm,xsl,xlo,xop,xl,xa,xc⟩,bd,es2,ba,bc,ea2,ec2,id,sl,ot,lo_⟩:=ys
 have hCs:=Kn.stC hyA;dsimp only at hCs hg hyA hk⊢;simp only [Stm.er,PStm.kd] at hk
 have hwho:=hO.w;have h8:=hO.h8;have hys:=hO.y;have hN9:=hO.n9;obtain ⟨hev1,hev2⟩:=hev
 have hKe:Kn q fun M=>ExAt M ⟨yb,yo+5,none⟩ (Ex.mk ek en enm esl elo eop el ea ec):=hyA.imp fun M h=>Yk (pre:= [.int .i64 kk,.int .i64 ln,.int .i64 cl,.string nm,.string wt]) h.1 rfl h.2.1 rfl
 have hKx:Kn q fun M=>ExAt M ⟨yb,yo+12,none⟩ (Ex.mk xk xn xnm xsl xlo xop xl xa xc):=hyA.imp fun M h=>Yk (pre:= [.int .i64 kk,.int .i64 ln,.int .i64 cl,.string nm,.string wt]++exC (Ex.mk ek en enm esl elo eop el ea ec)) h.1 rfl h.2.2.1 rfl
 have hKb:Kn q fun M=>BlkAt M ba bc bd:=hyA.imp fun M h=>h.2.2.2.1;have hKl:Kn q fun M=>BlkAt M ea2 ec2 es2:=hyA.imp fun M h=>⟨h.2.2.2.2.1,h.2.2.2.2.2⟩
 obtain ⟨hg1,hg2,hg3,_⟩:=hg;obtain ⟨hs1,hs2,hs3,hs6,hs8,hs8o,hs11,hs12,hs13⟩:=Yi hg2;obtain ⟨hpe,hpx⟩:=Wd hg1;rw [Zn,Zn] at hg3
 obtain ⟨R,hR⟩: ∃ R,R=σ.er.others g.er.pr who (Stm.er (Stm.mk kk ln cl nm wt (Ex.mk ek en enm esl elo eop el ea ec) (Ex.mk xk xn xnm xsl xlo xop xl xa xc) bd es2 ba bc ea2 ec2 id sl ot lo_)) ev.e:=⟨_,rfl⟩;rw [←hR];unfold SS.others at hR;simp only [Stm.er] at hR;rw [Zo hwho] at hR
 change X _ _ _ _ _ _ _ _ (pto p (.cells (Yt pp σ++(.int .i64 (who:Int)::evC ev)).toArray 145 (0,0))::lsH I64 2 σ.ca σ.cc σ.cells::yH σ.sp σ.sy::rsH trC 5 116 σ.ha σ.hc σ.ths::stars (σ.ths.map trH)::rsH acC 3 140 ev.aa ev.ac ev.e.acc::rsH snC 3 50 ev.na ev.nc ev.e.syn::(q++F))
 obtain rfl:kk=10:=(by omega)
 try dsimp only at hR
 rw [if_neg (by decide)] at hR
 rw [if_neg (by decide)] at hR
 rw [if_neg (by decide)] at hR
 rw [if_pos (by decide)] at hR
 try rw [show σ.er.sy=σ.sy from rfl] at hR
 have hthr:thr (who:Int):=⟨by omega,by omega⟩;have hmu:=hO.mu;have hco:=hO.co;have hch:=hO.ch
 have hin:=hs8 (.inr (.inr rfl));have hci:sl.toNat<σ.sy.conds.length:=(by omega);have hcm:=Y7 (d:=([]:List Int)) hci;have hcd:=hO.cd _ hcm;have hct:=(hys.c _ hcm).2;have hcl_:=(hys.c _ hcm).1;have hth:σ.er.ths.length=σ.ths.length:=StC.nth σ
 refine Yz (l:=σ.ths) (by omega) (fun ga e_=> ?_)
 have hr: ∀ r,Sees (rsH trC 5 116 σ.ha σ.hc σ.ths::r) (some ⟨ga,0,none⟩) (σ.ths.flatMap trC):=fun r=>by rw [←e_];exact Sees.rsH r
 obtain ⟨L,hL⟩: ∃ L,L=σ.sy.conds.getD sl.toNat []:=⟨_,rfl⟩;rw [←hL] at hcd hct hcl_;have hsg:(J6 σ.sy sl).2=(L,0):=by unfold J6;rw [if_pos ⟨hin.1,by omega⟩,←hL]
 refine xx 1 ?_;refine drw ?_;refine dl [0,1,2,3] 4 ?_;refine dd [5,6,7] ?_;refine ldD 8 ?_ (hc:=((hCs.le leA) 22 _ rfl))
 refine Uy 9 call173 (All_Y (k:=sl) hys (by omega)) ?_
 rintro _ _ ⟨la,lc,rfl,rfl⟩ _ e_;simp only [ca,na] at e_;subst e_
 refine ⟨trivial,?_⟩
 rw [hsg]
 refine dd [10,11,12,13,14] ?_;refine XD.nil ?_;refine xx 7 ?_;refine X.at (X.loop (fun (s:Nat×EvC)=>s.1≤L.length∧s.2.e=ev.e.sn ((L.take s.1).map fun i=>((3:Int),sl,i))) (fun s=> [(0,.pointer (some ⟨p,0,none⟩)),(1,.pointer (some ⟨yb,yo,none⟩)),(21,.slice la L.length lc),(22,.int .i64 (L.length:Int)),(23,.int .i64 (s.1:Int))]) (fun s=>pto p (.cells (Yt pp σ++(.int .i64 (who:Int)::evC s.2)).toArray 145 (0,0))::lsH I64 2 σ.ca σ.cc σ.cells::yH σ.sp (J6 σ.sy sl).1::rsH trC 5 116 σ.ha σ.hc (Vw σ.ths (L.take s.1))::stars (σ.ths.map trH)::rsH acC 3 140 s.2.aa s.2.ac s.2.e.acc::rsH snC 3 50 s.2.na s.2.nc s.2.e.syn::lsH I64 3 la lc L::(q++F)) (fun s=>L.length - s.1) (fun s hi_ ih=> ?_) (0,ev) ⟨Nat.zero_le _,by rw [List.take_zero,List.map_nil,Dy]⟩) Zd leA
 try dsimp only at hi_ ih⊢
 obtain ⟨hi,hse⟩:=hi_
 refine xx 5 ?_;refine X.part 24 rfl (fun h0=> ?_) (fun h0=> ?_)
 · replace h0:=sp h0;have hlt:s.1<L.length:=(by omega)
   obtain ⟨I,hI_⟩:=Int.eq_ofNat_of_zero_le (hct _ (List.getElem_mem hlt)).1;have hI:I<σ.ths.length:=(by have:=hcd _ (List.getElem_mem hlt);rw [hI_] at this;exact this);have hI2:I<(Vw σ.ths (L.take s.1)).length:=(by rw [J1];exact hI)
   have hwk:(Vw σ.ths (L.take s.1)).set I ({ (Vw σ.ths (L.take s.1))[I]'hI2 with st:=3 } :TC)=Vw σ.ths (L.take (s.1+1)):=by
    rw [List.take_succ_eq_append_getElem hlt,D2,hI_]
    show _=(Vw σ.ths (L.take s.1)).set I { (Vw σ.ths (L.take s.1)).getD I zTC with st:=3 }
    rw [Wl hI2]
   refine V9 (l:=L) (by omega) (fun gl el_=> ?_);have hl_: ∀ r,Sees (lsH I64 3 la lc L::r) (some ⟨gl,0,none⟩) (L.map I64):=fun r=>by rw [←el_];exact Sees.lsH r
   refine xo 6 ?_;refine XO.know 21 (.slice (some ⟨gl,0,none⟩) L.length lc) rfl (by rw [←el_]) ?_
   refine oo 1 ?_;refine ld ?_ (hc:=(((hl_ _).le leA).at (by omega) hlt))
   refine XO.know 26 (.int .i64 (I:Int)) rfl (by rw [hI_]) ?_
   refine ol 8 ?_;refine oo 1 ?_;refine XO.know 31 (.slice (some ⟨ga,0,none⟩) σ.ths.length σ.hc) rfl (by rw [←e_]) ?_
   refine oo 2 ?_;refine XO.le (q':=rsH trC 5 116 (some ⟨ga,0,none⟩) σ.hc (Vw σ.ths (L.take s.1))::_) (by rw [←e_];exact Zk) ?_
   refine XO.ef0 (Ye (g:=ga) (f:=trC) (l:=(Vw σ.ths (L.take s.1))) (u:=({ (Vw σ.ths (L.take s.1))[I]'hI2 with st:=3 } :TC)) (n:=I) (k:=1) (j:=(I:Int)) rfl rfl sizeOf99 Zy rfl hI2 rfl rfl rfl rfl Zk) ?_
   rintro _ _ ⟨rfl,rfl⟩
   rw [←e_,hwk]
   refine oo 6 ?_;refine ld ?_ (hc:=((hCs.le leA) 22 _ rfl))
   refine oo 1 ?_;refine Zf call98 (by unfold Zx spP Yt Zc;simp only [J1,Rw];exact leA) (V2 (p:=p) (pp:=pp) (who:=who) (σ:=({ σ with sy:=(J6 σ.sy sl).1,ths:=Vw σ.ths (L.take (s.1+1)) } :StC)) (ev:=s.2) (k:=3) (sl:=sl) (ot:=(I:Int)) (q:=lsH I64 3 la lc L::(q++F)) (by rw [hse];unfold PEv.sn;dsimp only;rw [hev2];simp only [List.nil_append,List.length_map,List.length_take];omega)) ?_
   rintro _ _ ⟨ev2,hev3,eq_⟩
   simp only [Zx,spP,Yt,Zc,evL,ca,na,J1,Rw] at eq_;subst eq_
   refine ox 6 ?_
   rw [←el_]
   refine X.at (ih (s.1+1,ev2) ⟨by dsimp only;omega,by dsimp only;rw [hev3,hse,Ep,List.take_succ_eq_append_getElem hlt,List.map_append,hI_];rfl⟩ (by dsimp only;omega)) Zd leA
 replace h0:=sp h0;obtain ⟨s1,s2⟩:=s;dsimp only at hi h0 hse⊢;obtain rfl:s1=L.length:=(by omega);rw [List.take_length] at hse⊢
 refine xx 2 ?_
 try dsimp only at hR
 rw [←hL,if_pos (show (10:Int)=10 by decide),if_pos (show (10:Int)=10 by decide),List.take_length] at hR
 refine Z7 (Zx p pp who ({ σ with sy:=(J6 σ.sy sl).1,ths:=Vw σ.ths L } :StC) s2++q) func137 (Vg results137) (RP.ret ⟨({ σ with sy:=(J6 σ.sy sl).1,ths:=Vw σ.ths L } :StC),s2,⟨by rw [hR],by rw [hR];exact congrArg (fun z:SS=> { z with sy:=(J6 σ.sy sl).1 }) (show ({ σ with ths:=Vw σ.ths L } :StC).er=σ.er.wake L by rw [←T3,T4]),by rw [hR,hse];rfl,hTd.imp fun M h=>TodoAt.of (Rl _ _) h⟩,rfl⟩) (by unfold Zx spP Yt Zc;simp only [J1,Rw];exact leA)
set_option maxHeartbeats 8000000 in
theorem xjoin_ok {y:PS}(hP:Prg q pp g)(hM:MayP g.er)(hO:PO g N who σ)(hev:ev.e.acc= []∧ev.e.syn= [])(hyA:Kn q fun M=>y.At M)(hg:y.s.er.good g.er.cn (σ.ths[who]'(hO.w)).loc.length)(hTd:Kn q fun M=>TodoAt M σ.ths)(hk:y.s.er.kd=14):CallF prog G 141 [.pointer (some ⟨p,0,none⟩),.pointer (some ⟨y.b,y.o,none⟩)] (Zx p pp who σ ev++q) (RP (fun v q'=> ∃ (σ':StC) (ev':EvC),((σ.er.others g.er.pr who y.s.er ev.e).2.2=0∧σ'.er=(σ.er.others g.er.pr who y.s.er ev.e).1∧ev'.e=(σ.er.others g.er.pr who y.s.er ev.e).2.1∧Kn q fun M=>TodoAt M σ'.ths)∧q'=Zx p pp who σ' ev'++q) (fun ch q'=> ∃ (σ':StC) (ev':EvC),((σ.er.others g.er.pr who y.s.er ev.e).2.2≠0∧ch= [Vp (σ.er.others g.er.pr who y.s.er ev.e).2.2]∧ev'.e=(σ.er.others g.er.pr who y.s.er ev.e).2.1)∧q'=Zx p pp who σ' ev'++q)):=by
 refine CallF.of func141 ntmps141 rfl (fun F cs=> ?_)
 obtain ⟨yb,yo,ys⟩:=y
 obtain ⟨kk,ln,cl,nm,wt,⟨ek,en,enm,esl,elo,eop,el,ea,ec⟩,⟨xk,xn,xnm,xsl,xlo,xop,xl,xa,xc⟩,bd,es2,ba,bc,ea2,ec2,id,sl,ot,lo_⟩:=ys
 have hCs:=Kn.stC hyA;dsimp only at hCs hg hyA hk⊢;simp only [Stm.er,PStm.kd] at hk
 have hwho:=hO.w;have h8:=hO.h8;have hys:=hO.y;have hN9:=hO.n9;obtain ⟨hev1,hev2⟩:=hev
 have hKe:Kn q fun M=>ExAt M ⟨yb,yo+5,none⟩ (Ex.mk ek en enm esl elo eop el ea ec):=hyA.imp fun M h=>Yk (pre:= [.int .i64 kk,.int .i64 ln,.int .i64 cl,.string nm,.string wt]) h.1 rfl h.2.1 rfl
 have hKx:Kn q fun M=>ExAt M ⟨yb,yo+12,none⟩ (Ex.mk xk xn xnm xsl xlo xop xl xa xc):=hyA.imp fun M h=>Yk (pre:= [.int .i64 kk,.int .i64 ln,.int .i64 cl,.string nm,.string wt]++exC (Ex.mk ek en enm esl elo eop el ea ec)) h.1 rfl h.2.2.1 rfl
 have hKb:Kn q fun M=>BlkAt M ba bc bd:=hyA.imp fun M h=>h.2.2.2.1;have hKl:Kn q fun M=>BlkAt M ea2 ec2 es2:=hyA.imp fun M h=>⟨h.2.2.2.2.1,h.2.2.2.2.2⟩
 obtain ⟨hg1,hg2,hg3,_⟩:=hg;obtain ⟨hs1,hs2,hs3,hs6,hs8,hs8o,hs11,hs12,hs13⟩:=Yi hg2;obtain ⟨hpe,hpx⟩:=Wd hg1;rw [Zn,Zn] at hg3
 obtain ⟨R,hR⟩: ∃ R,R=σ.er.others g.er.pr who (Stm.er (Stm.mk kk ln cl nm wt (Ex.mk ek en enm esl elo eop el ea ec) (Ex.mk xk xn xnm xsl xlo xop xl xa xc) bd es2 ba bc ea2 ec2 id sl ot lo_)) ev.e:=⟨_,rfl⟩;rw [←hR];unfold SS.others at hR;simp only [Stm.er] at hR;rw [Zo hwho] at hR
 change X _ _ _ _ _ _ _ _ (pto p (.cells (Yt pp σ++(.int .i64 (who:Int)::evC ev)).toArray 145 (0,0))::lsH I64 2 σ.ca σ.cc σ.cells::yH σ.sp σ.sy::rsH trC 5 116 σ.ha σ.hc σ.ths::stars (σ.ths.map trH)::rsH acC 3 140 ev.aa ev.ac ev.e.acc::rsH snC 3 50 ev.na ev.nc ev.e.syn::(q++F))
 obtain rfl:kk=14:=(by omega)
 try dsimp only at hR
 rw [if_neg (by decide)] at hR
 rw [if_neg (by decide)] at hR
 rw [if_neg (by decide)] at hR
 rw [if_neg (by decide)] at hR
 rw [if_neg (by decide)] at hR
 rw [if_neg (by decide)] at hR
 try rw [show σ.er.sy=σ.sy from rfl] at hR
 have hthr:thr (who:Int):=⟨by omega,by omega⟩;have hmu:=hO.mu;have hco:=hO.co;have hch:=hO.ch
 refine Yz (l:=σ.ths) (by omega) (fun ga e_=> ?_)
 have hr: ∀ r,Sees (rsH trC 5 116 σ.ha σ.hc σ.ths::r) (some ⟨ga,0,none⟩) (σ.ths.flatMap trC):=fun r=>by rw [←e_];exact Sees.rsH r
 have hsp:=hO.sp
 refine xo 3 ?_;refine XO.cR call95 (Q4 (p:=p) (who:=who) (ga:=ga) (m:=σ.ths.length) (c:=σ.hc) (by rw [←e_];exact clA) clA hwho) ?_
 refine oo 2 ?_;refine ld ?_ (hc:=(Cl.row (n:=who) (hr _) leA Zy hwho rfl 4 _ rfl))
 refine ox 4 ?_;refine X.at (X.loop (fun (s:Nat×EvC)=>s.1≤σ.ths[who].sp.length∧s.2.e=ev.e.sn ((σ.ths[who].sp.take s.1).map fun i=>((7:Int),(0:Int),i))) (fun s=> [(0,.pointer (some ⟨p,0,none⟩)),(10,.slice σ.ths[who].sa σ.ths[who].sp.length σ.ths[who].sc),(11,.int .i64 (σ.ths[who].sp.length:Int)),(12,.int .i64 (s.1:Int))]) (fun s=>pto p (.cells (Yt pp σ++(.int .i64 (who:Int)::evC s.2)).toArray 145 (0,0))::lsH I64 2 σ.ca σ.cc σ.cells::yH σ.sp σ.sy::rsH trC 5 116 σ.ha σ.hc σ.ths::stars (σ.ths.map trH)::rsH acC 3 140 s.2.aa s.2.ac s.2.e.acc::rsH snC 3 50 s.2.na s.2.nc s.2.e.syn::(q++F)) (fun s=>σ.ths[who].sp.length - s.1) (fun s hi_ ih=> ?_) (0,ev) ⟨Nat.zero_le _,by rw [List.take_zero,List.map_nil,Dy]⟩) Zd leA
 try dsimp only at hi_ ih⊢
 obtain ⟨hi,hse⟩:=hi_
 refine xx 5 ?_;refine X.part 13 rfl (fun h0=> ?_) (fun h0=> ?_)
 · replace h0:=sp h0;have hlt:s.1<σ.ths[who].sp.length:=(by omega)
   have hA:=(N1 (q:=q++F) hwho);refine Yx (hA.le leA) (by simp;omega) (fun ab ao e2_=> ?_);have hs_:=hA;rw [e2_] at hs_⊢
   refine xo 7 ?_;refine ld ?_ (hc:=((hs_.le leA).at rfl hlt))
   refine oo 5 ?_;refine Zf call98 leA (V2 (p:=p) (pp:=pp) (who:=who) (σ:=σ) (ev:=s.2) (k:=7) (sl:=0) (ot:=σ.ths[who].sp[s.1]) (q:=q++F) (by rw [hse];unfold PEv.sn;dsimp only;rw [hev2];simp only [List.nil_append,List.length_map,List.length_take];omega)) ?_
   rintro _ _ ⟨ev2,hev3,eq_⟩;simp only [Zx,spP,Zc,evL,ca,na] at eq_;subst eq_
   refine ox 6 ?_
   rw [←e2_]
   refine X.at (ih (s.1+1,ev2) ⟨by dsimp only;omega,by dsimp only;rw [hev3,hse,Ep,List.take_succ_eq_append_getElem hlt,List.map_append];rfl⟩ (by dsimp only;omega)) Zd leA
 replace h0:=sp h0;obtain ⟨s1,s2⟩:=s;dsimp only at hi h0 hse⊢;obtain rfl:s1=σ.ths[who].sp.length:=(by omega);rw [List.take_length] at hse
 refine xx 2 ?_;refine Z7 (Zx p pp who σ s2++q) func141 (Vg results141) (RP.ret ⟨σ,s2,⟨by rw [hR],by rw [hR],by rw [hR,hse];rfl,hTd⟩,rfl⟩) (by rw [List.append_assoc];exact Le.refl _)
theorem Ot {n:Nat}(E F:List HP)(hP:Prg q pp g)(hn:n<g.ths.l.length)(hl:0≤g.ths.l[n].loc∧g.ths.l[n].loc≤32)(hb:g.ths.l[n].body.length≤1000000):CallF prog G 47 [.pointer (some ⟨pp,0,none⟩),.int .i64 (n:Int)] (E++(q++F)) (Ret fun v q'=> ∃ T:TC,T.er=Vf g.er.pr n∧v= .agg (trC T).toArray∧(Kn q fun M=> ∀ y∈T.todo,y.At M)∧q'=trH T::(E++(q++F))):=
 CallF.conv (Ys E q F) (CallF.fr (E++F) (Cw hP hn hl hb)) (by rintro _ _ ⟨_,rfl,_,⟨T,h1,rfl,h2,rfl⟩,rfl⟩;exact ⟨_,⟨_,rfl,T,h1,rfl,h2,rfl⟩,Le.cons _ (Ys q E F)⟩)
set_option maxHeartbeats 8000000 in
theorem If {y:PS}(hP:Prg q pp g)(hM:MayP g.er)(hO:PO g N who σ)(hev:ev.e.acc= []∧ev.e.syn= [])(hyA:Kn q fun M=>y.At M)(hg:y.s.er.good g.er.cn (σ.ths[who]'(hO.w)).loc.length)(hTd:Kn q fun M=>TodoAt M σ.ths)(hk:y.s.er.kd=13):CallF prog G 140 [.pointer (some ⟨p,0,none⟩),.pointer (some ⟨y.b,y.o,none⟩)] (Zx p pp who σ ev++q) (RP (fun v q'=> ∃ (σ':StC) (ev':EvC),((σ.er.others g.er.pr who y.s.er ev.e).2.2=0∧σ'.er=(σ.er.others g.er.pr who y.s.er ev.e).1∧ev'.e=(σ.er.others g.er.pr who y.s.er ev.e).2.1∧Kn q fun M=>TodoAt M σ'.ths)∧q'=Zx p pp who σ' ev'++q) (fun ch q'=> ∃ (σ':StC) (ev':EvC),((σ.er.others g.er.pr who y.s.er ev.e).2.2≠0∧ch= [Vp (σ.er.others g.er.pr who y.s.er ev.e).2.2]∧ev'.e=(σ.er.others g.er.pr who y.s.er ev.e).2.1)∧q'=Zx p pp who σ' ev'++q)):=by
 refine CallF.of func140 ntmps140 rfl (fun F cs=> ?_)
 obtain ⟨yb,yo,ys⟩:=y
 obtain ⟨kk,ln,cl,nm,wt,⟨ek,en,enm,esl,elo,eop,el,ea,ec⟩,⟨xk,xn,xnm,xsl,xlo,xop,xl,xa,xc⟩,bd,es2,ba,bc,ea2,ec2,id,sl,ot,lo_⟩:=ys
 have hCs:=Kn.stC hyA;dsimp only at hCs hg hyA hk⊢;simp only [Stm.er,PStm.kd] at hk
 have hwho:=hO.w;have h8:=hO.h8;have hys:=hO.y;have hN9:=hO.n9;obtain ⟨hev1,hev2⟩:=hev
 have hKe:Kn q fun M=>ExAt M ⟨yb,yo+5,none⟩ (Ex.mk ek en enm esl elo eop el ea ec):=hyA.imp fun M h=>Yk (pre:= [.int .i64 kk,.int .i64 ln,.int .i64 cl,.string nm,.string wt]) h.1 rfl h.2.1 rfl
 have hKx:Kn q fun M=>ExAt M ⟨yb,yo+12,none⟩ (Ex.mk xk xn xnm xsl xlo xop xl xa xc):=hyA.imp fun M h=>Yk (pre:= [.int .i64 kk,.int .i64 ln,.int .i64 cl,.string nm,.string wt]++exC (Ex.mk ek en enm esl elo eop el ea ec)) h.1 rfl h.2.2.1 rfl
 have hKb:Kn q fun M=>BlkAt M ba bc bd:=hyA.imp fun M h=>h.2.2.2.1;have hKl:Kn q fun M=>BlkAt M ea2 ec2 es2:=hyA.imp fun M h=>⟨h.2.2.2.2.1,h.2.2.2.2.2⟩
 obtain ⟨hg1,hg2,hg3,_⟩:=hg;obtain ⟨hs1,hs2,hs3,hs6,hs8,hs8o,hs11,hs12,hs13⟩:=Yi hg2;obtain ⟨hpe,hpx⟩:=Wd hg1;rw [Zn,Zn] at hg3
 obtain ⟨R,hR⟩: ∃ R,R=σ.er.others g.er.pr who (Stm.er (Stm.mk kk ln cl nm wt (Ex.mk ek en enm esl elo eop el ea ec) (Ex.mk xk xn xnm xsl xlo xop xl xa xc) bd es2 ba bc ea2 ec2 id sl ot lo_)) ev.e:=⟨_,rfl⟩;rw [←hR];unfold SS.others at hR;simp only [Stm.er] at hR;rw [Zo hwho] at hR
 change X _ _ _ _ _ _ _ _ (pto p (.cells (Yt pp σ++(.int .i64 (who:Int)::evC ev)).toArray 145 (0,0))::lsH I64 2 σ.ca σ.cc σ.cells::yH σ.sp σ.sy::rsH trC 5 116 σ.ha σ.hc σ.ths::stars (σ.ths.map trH)::rsH acC 3 140 ev.aa ev.ac ev.e.acc::rsH snC 3 50 ev.na ev.nc ev.e.syn::(q++F))
 obtain rfl:kk=13:=(by omega)
 try dsimp only at hR
 rw [if_neg (by decide)] at hR
 rw [if_neg (by decide)] at hR
 rw [if_neg (by decide)] at hR
 rw [if_neg (by decide)] at hR
 rw [if_neg (by decide)] at hR
 rw [if_pos (by decide)] at hR
 try rw [show σ.er.sy=σ.sy from rfl] at hR
 have hthr:thr (who:Int):=⟨by omega,by omega⟩;have hmu:=hO.mu;have hco:=hO.co;have hch:=hO.ch
 refine Yz (l:=σ.ths) (by omega) (fun ga e_=> ?_)
 have hr: ∀ r,Sees (rsH trC 5 116 σ.ha σ.hc σ.ths::r) (some ⟨ga,0,none⟩) (σ.ths.flatMap trC):=fun r=>by rw [←e_];exact Sees.rsH r
 have hsp:=hO.sp;have hin:=hs13 rfl;obtain ⟨D,rfl⟩:=Int.eq_ofNat_of_zero_le hin.1;have hD:D<g.ths.l.length:=(by have:=hin.2;rw [cn_th] at this;omega)
 have htx:=hM.t _ (List.mem_map_of_mem (f:=Th.er) (List.getElem_mem hD));have hth:σ.er.ths.length=σ.ths.length:=StC.nth σ;rw [hth] at hR
 refine xj 6 ?_;refine ox 9 ?_;refine X.part 12 rfl (fun h1=> ?_) (fun h1=> ?_)
 · replace h1:=sp h1;rw [if_pos (show 8≤σ.ths.length by omega)] at hR
   refine xo 2 ?_;refine Vh call169 (Le.refl _) (Kf (z:=5)) ?_ ?_
   · rintro _ _ ⟨rfl,rfl⟩
     exact FQ.panic func140 (RP.thr (by rw [hR];exact ⟨σ,ev,⟨(show (5:Int)≠0 by decide),rfl,rfl⟩,rfl⟩)) leA
   rintro _ _ ⟨⟩
 replace h1:=sp h1;rw [if_neg (show ¬8≤σ.ths.length by omega)] at hR
 refine xo 5 ?_;refine XO.cR call95 (Q4 (p:=p) (who:=who) (ga:=ga) (m:=σ.ths.length) (c:=σ.hc) (by rw [←e_];exact clA) clA hwho) ?_
 refine oo 1 ?_;refine XO.cR call95 (Q4 (p:=p) (who:=who) (ga:=ga) (m:=σ.ths.length) (c:=σ.hc) (by rw [←e_];exact clA) clA hwho) ?_
 refine oo 2 ?_;refine ld ?_ (hc:=(Cl.row (n:=who) (hr _) leA Zy hwho rfl 4 _ rfl))
 refine oo 1 ?_;refine XO.ef (Qq (u:=(σ.ths.length:Int)) I64 underlying22 Rh rfl rfl) ?_
 rintro _ _ ⟨g2,rfl,rfl⟩
 refine XO.le (q':=stars (σ.ths.map trH)::_) Zk (XO.le (M0 hwho _) ?_)
 refine XO.ef (Yb (f:=I64) (l:=σ.ths[who].sp) (m:= [(σ.ths.length:Int)]) underlying22 Rh rfl rfl rfl Zk ((Sees.lsH _).le leA) (fun _=>rfl) (by simp only [List.length_singleton];omega) (by simp only [List.length_singleton];omega)) ?_
 rintro _ _ ⟨a5,c5,rfl,rfl⟩
 refine oo 2 ?_;refine XO.le (q':=rsH trC 5 116 (some ⟨ga,0,none⟩) σ.hc σ.ths::_) (by rw [←e_];exact Zk) ?_
 refine XO.ef0 (Ye (g:=ga) (f:=trC) (l:=σ.ths) (u:=({ σ.ths[who] with sa:=a5,sc:=c5,sp:=σ.ths[who].sp++ [(σ.ths.length:Int)] } :TC)) (n:=who) (k:=4) (j:=(who:Int)) rfl rfl sizeOf22 Zy rfl hwho rfl rfl rfl rfl Zk) ?_
 rintro _ _ ⟨rfl,rfl⟩
 rw [←e_]
 refine XO.le (q':=stars ((σ.ths.set who ({ σ.ths[who] with sa:=a5,sc:=c5,sp:=σ.ths[who].sp++ [(σ.ths.length:Int)] } :TC)).map trH)::_) (Le.trans (b:=lsH I64 2 (({ σ.ths[who] with sa:=a5,sc:=c5,sp:=σ.ths[who].sp++ [(σ.ths.length:Int)] } :TC)).la (({ σ.ths[who] with sa:=a5,sc:=c5,sp:=σ.ths[who].sp++ [(σ.ths.length:Int)] } :TC)).lc (({ σ.ths[who] with sa:=a5,sc:=c5,sp:=σ.ths[who].sp++ [(σ.ths.length:Int)] } :TC)).loc::lsH PS.v 146 (({ σ.ths[who] with sa:=a5,sc:=c5,sp:=σ.ths[who].sp++ [(σ.ths.length:Int)] } :TC)).ta (({ σ.ths[who] with sa:=a5,sc:=c5,sp:=σ.ths[who].sp++ [(σ.ths.length:Int)] } :TC)).tc (({ σ.ths[who] with sa:=a5,sc:=c5,sp:=σ.ths[who].sp++ [(σ.ths.length:Int)] } :TC)).todo::lsH I64 3 (({ σ.ths[who] with sa:=a5,sc:=c5,sp:=σ.ths[who].sp++ [(σ.ths.length:Int)] } :TC)).sa (({ σ.ths[who] with sa:=a5,sc:=c5,sp:=σ.ths[who].sp++ [(σ.ths.length:Int)] } :TC)).sc (({ σ.ths[who] with sa:=a5,sc:=c5,sp:=σ.ths[who].sp++ [(σ.ths.length:Int)] } :TC)).sp::stars ((σ.ths.eraseIdx who).map trH)::_) (Le.pick Zk (Le.pick Zk (Le.pick Zk Zk))) (Mo hwho ({ σ.ths[who] with sa:=a5,sc:=c5,sp:=σ.ths[who].sp++ [(σ.ths.length:Int)] } :TC) _)) ?_
 refine ox 2 ?_;refine drw ?_;refine dl [0,1,2,3,4] 5 ?_;refine dl [6,7,8,9] 10 ?_;refine dd [11,12,13] ?_;refine ldD 14 ?_ (hc:=((hCs.le leA) 22 _ rfl))
 refine Y5 15 call47 leA (Ot (n:=D) (pto p (.cells (Yt pp σ++(.int .i64 (who:Int)::evC ev)).toArray 145 (0,0))::lsH I64 2 σ.ca σ.cc σ.cells::yH σ.sp σ.sy::rsH trC 5 116 σ.ha σ.hc (σ.ths.set who ({ σ.ths[who] with sa:=a5,sc:=c5,sp:=σ.ths[who].sp++ [(σ.ths.length:Int)] } :TC))::stars ((σ.ths.set who ({ σ.ths[who] with sa:=a5,sc:=c5,sp:=σ.ths[who].sp++ [(σ.ths.length:Int)] } :TC)).map trH)::rsH acC 3 140 ev.aa ev.ac ev.e.acc::rsH snC 3 50 ev.na ev.nc ev.e.syn:: []) F hP hD htx.1 (by have:=htx.2.1;rw [show (Th.er g.ths.l[D]).body=Zj g.ths.l[D].body from rfl,Zn] at this;omega)) ?_
 rintro _ _ ⟨T1,hT1,rfl,hTk,rfl⟩
 refine ⟨(hlA (h:=by repeat first|exact trivial|refine ⟨clA,?_⟩|refine ⟨(hCs.le leA) 21 _ rfl,?_⟩|refine ⟨(hCs.le leA) 22 _ rfl,?_⟩|refine ⟨(hCs.le leA) 23 _ rfl,?_⟩|refine ⟨(hCs.le leA) 24 _ rfl,?_⟩|refine ⟨(hCs.le leA) 19 _ rfl,?_⟩|refine ⟨(hCs.le leA) 20 _ rfl,?_⟩)),?_⟩
 refine XD.ef 16 rfl (Yj (u:=T1) trC underlying96 U2 rfl rfl Zy rfl) ?_
 rintro _ _ ⟨gt,rfl,rfl⟩
 refine ⟨(hlA (h:=by repeat first|exact trivial|refine ⟨clA,?_⟩|refine ⟨(hCs.le leA) 21 _ rfl,?_⟩|refine ⟨(hCs.le leA) 22 _ rfl,?_⟩|refine ⟨(hCs.le leA) 23 _ rfl,?_⟩|refine ⟨(hCs.le leA) 24 _ rfl,?_⟩|refine ⟨(hCs.le leA) 19 _ rfl,?_⟩|refine ⟨(hCs.le leA) 20 _ rfl,?_⟩)),?_⟩
 refine XD.know 31 (.slice σ.ha (σ.ths.set who ({ σ.ths[who] with sa:=a5,sc:=c5,sp:=σ.ths[who].sp++ [(σ.ths.length:Int)] } :TC)).length σ.hc) rfl (by rw [List.length_set]) ?_
 refine XD.ef 17 rfl (Yq (f:=trC) (l:=(σ.ths.set who ({ σ.ths[who] with sa:=a5,sc:=c5,sp:=σ.ths[who].sp++ [(σ.ths.length:Int)] } :TC))) (m:= [T1]) underlying96 U2 rfl rfl Zy rfl rfl Zk ((Sees.rsH _).le leA) Er (by simp only [List.length_set,List.length_singleton];omega) (by simp only [List.length_set,List.length_singleton];omega)) ?_
 rintro _ _ ⟨a6,c6,rfl,rfl⟩
 refine ⟨trivial,?_⟩
 refine dd [18,19,20] ?_;refine stD 21 ?_;refine XD.nil ?_;refine xo 3 ?_;refine XO.le (q':=stars (((σ.ths.set who ({ σ.ths[who] with sa:=a5,sc:=c5,sp:=σ.ths[who].sp++ [(σ.ths.length:Int)] } :TC))++ [T1]).map trH)::_) (Le.trans (b:=stars ((σ.ths.set who ({ σ.ths[who] with sa:=a5,sc:=c5,sp:=σ.ths[who].sp++ [(σ.ths.length:Int)] } :TC)).map trH)::trH T1::_) (Le.pick Zk Zk) (by rw [List.map_append];exact Le.stars_snoc _ _ _)) ?_
 refine Zf call98 (by unfold Zx spP Yt Zc;simp only [List.length_append,List.length_set,List.length_singleton];exact leA) (V2 (p:=p) (pp:=pp) (who:=who) (σ:=({ σ with ha:=a6,hc:=c6,ths:=(σ.ths.set who ({ σ.ths[who] with sa:=a5,sc:=c5,sp:=σ.ths[who].sp++ [(σ.ths.length:Int)] } :TC))++ [T1] } :StC)) (ev:=ev) (k:=6) (sl:=0) (ot:=(σ.ths.length:Int)) (q:=q++F) (by rw [hev2];decide)) ?_
 rintro _ _ ⟨ev2,hev3,rfl⟩
 refine ox 1 ?_
 refine Z7 (Zx p pp who ({ σ with ha:=a6,hc:=c6,ths:=(σ.ths.set who ({ σ.ths[who] with sa:=a5,sc:=c5,sp:=σ.ths[who].sp++ [(σ.ths.length:Int)] } :TC))++ [T1] } :StC) ev2++q) func140 (Vg results140) (RP.ret ⟨({ σ with ha:=a6,hc:=c6,ths:=(σ.ths.set who ({ σ.ths[who] with sa:=a5,sc:=c5,sp:=σ.ths[who].sp++ [(σ.ths.length:Int)] } :TC))++ [T1] } :StC),ev2,⟨by rw [hR],by rw [hR];exact spawn_er hwho hT1,by rw [hR,hev3];rfl,(hTd.and hTk).imp fun M h t ht y hy=>by
  rcases List.mem_append.1 ht with ht|ht
  · rcases List.mem_or_eq_of_mem_set ht with ht|rfl
    · exact h.1 t ht y hy
    exact h.1 _ (List.getElem_mem hwho) y hy
  rw [List.mem_singleton.1 ht] at hy;exact h.2 y hy⟩,rfl⟩) (by rw [List.append_assoc];exact Le.refl _)
end
theorem G2 {α:Type}{i:α}{r:List α}: ∀ {c:List (List α)} {k:Nat},c.getD k []=i::r→c.flatten.Perm (i::(c.set k r).flatten)
 | [],k,h=>by simp at h
 |a::c,0,h=>by
  have:a=i::r:=by simpa using h
  subst this
  simp
 |a::c,k+1,h=>by
  have h2:c.getD k []=i::r:=by simpa using h
  simp only [List.flatten_cons,List.set_cons_succ]
  exact (List.Perm.append_left a (G2 h2)).trans List.perm_middle
theorem G3 {α:Type}{i:α}: ∀ {c:List (List α)} {k:Nat},k<c.length→(c.set k (c.getD k []++ [i])).flatten.Perm (i::c.flatten)
 | [],k,h=>by simp at h
 |a::c,0,h=>by
  simp only [List.set_cons_zero,List.flatten_cons,List.getD_cons_zero,List.append_assoc]
  exact List.perm_middle
 |a::c,k+1,h=>by
  simp only [List.set_cons_succ,List.flatten_cons,List.getD_cons_succ]
  exact (List.Perm.append_left a (G3 (by simpa using h))).trans List.perm_middle
theorem Gr {α:Type}{c:List (List α)}{k:Nat}{r l:List α}(h:l∈c.set k r)(hr: ∀ x∈r,x∈c.getD k [])(hk:k<c.length): ∀ x∈l,∃ m∈c,x∈m:=fun x hx=>by
 rcases List.mem_or_eq_of_mem_set h with h|rfl
 · exact ⟨l,h,hx⟩
 exact ⟨_,Y7 hk,hr x hx⟩
theorem SS.okx.wake1 {F:Fnd}{N n k:Nat}{s:SS}{i:Int}{r:List Int}(h:s.okx F N n)(hs:(s.th n).st=1)(hk:k<s.sy.conds.length)(hc:s.sy.conds.getD k []=i::r):
 ({ (s.put i.toNat { s.th i.toNat with st:=3 }) with sy:= { s.sy with conds:=s.sy.conds.set k r } } :SS).okx F N n∧(({ (s.put i.toNat { s.th i.toNat with st:=3 }) with sy:= { s.sy with conds:=s.sy.conds.set k r } } :SS).th n)=s.th n:=by
 have hm:=Y7 (d:=([]:List Int)) hk
 have hi:=h.w _ hm i (hc ▸ List.mem_cons_self ..)
 have hne:n≠i.toNat:=fun e=>by rw [←e,hs] at hi;exact absurd hi.2 (by decide)
 have ha:=Uf (t:= { s.th i.toNat with st:=3 }) hi.1
 have hl:=s.put_len i.toNat { s.th i.toNat with st:=3 }
 have hth:(({ (s.put i.toNat { s.th i.toNat with st:=3 }) with sy:= { s.sy with conds:=s.sy.conds.set k r } } :SS).th n)=s.th n:=by
  show (s.put i.toNat { s.th i.toNat with st:=3 }).th n=_
  rw [ha,if_neg hne]
 have hp:=G2 hc
 have hnd:=hp.nodup_iff.1 h.u
 have k0:=h.h _ hi.1
 have k1:=h.o _ hi.1 (Ne.symm hne)
 have hsub: ∀ l∈s.sy.conds.set k r,∀ t∈l,t≠i∧ ∃ m∈s.sy.conds,t∈m:=fun l hl2 t ht=>by
  refine ⟨fun e=> ?_,Gr hl2 (fun x hx=>hc ▸ List.mem_cons_of_mem _ hx) hk t ht⟩
  subst e
  exact (List.nodup_cons.1 hnd).1 (List.mem_flatten.2 ⟨l,hl2,ht⟩)
 refine ⟨⟨h.c,h.v,?_,⟨h.z.1,by show ((s.sy.conds.set k r).length:Int)=_;rw [List.length_set];exact h.z.2.1,h.z.2.2⟩,by show 1≤(s.put _ _).ths.length∧_;rw [hl];exact h.t,by show n<(s.put _ _).ths.length;rw [hl];exact h.nn,fun j hj=> ?_,fun j hj hjn=> ?_,by rw [hth];exact .inl hs,fun l hl2 t ht=> ?_,(List.nodup_cons.1 hnd).2⟩,hth⟩
 · refine ⟨h.y.no,by show (s.sy.conds.set k r).length≤64;rw [List.length_set];exact h.y.nc,h.y.nh,h.y.o,fun l hl2=> ?_,h.y.h⟩
   have hmc:=h.y.c _ hm
   rw [hc] at hmc
   rcases List.mem_or_eq_of_mem_set hl2 with hl2|rfl
   · exact h.y.c l hl2
   exact ⟨by have:=hmc.1;rw [List.length_cons] at this;omega,fun t ht=>hmc.2 t (List.mem_cons_of_mem _ ht)⟩
 · have hj2:j<s.ths.length:=by rw [←hl];exact hj
   show ((s.put _ _).th j).ok0 F N (s.put _ _).ths.length
   rw [ha,hl];split
   · exact ⟨k0.d,⟨show (1:Int)≤3 by decide,show (3:Int)≤4 by decide⟩,k0.l,k0.v,k0.g,k0.n,k0.p⟩
   exact h.h j hj2
 · have hj2:j<s.ths.length:=by rw [←hl];exact hj
   show ((s.put _ _).th j).ok1
   rw [ha];split
   · exact ⟨⟨fun e=>by have:=k1.e.1 e;rw [hi.2] at this;exact absurd this (by decide),fun e=>absurd e (by show ¬ (3:Int)=4;decide)⟩,fun _=>k1.w (.inl hi.2)⟩
   exact h.o j hj2 hjn
 obtain ⟨k2,m,hm2,k3⟩:=hsub l hl2 t ht
 obtain ⟨k4,k5⟩:=h.w m hm2 t k3
 show t.toNat<(s.put _ _).ths.length∧((s.put _ _).th t.toNat).st=2
 rw [hl,ha,if_neg (fun e=>k2 (by have h1:=(h.y.c m hm2).2 t k3;have h2:=(h.y.c _ hm).2 i (hc ▸ List.mem_cons_self ..);unfold thr at h1 h2;omega))]
 exact ⟨k4,k5⟩
theorem B9: ∀ (l:List Int) (s:SS) (y:Sy),({ s with sy:=y } :SS).wake l= { s.wake l with sy:=y }
 | [],_,_=>rfl
 |i::r,s,y=>by
  show SS.wake _ r= { SS.wake _ r with sy:=y }
  rw [←B9 r]
  rfl
theorem SS.okx.wakes {F:Fnd}{N n k:Nat}: ∀ {l:List Int} {s:SS},s.okx F N n→(s.th n).st=1→k<s.sy.conds.length→s.sy.conds.getD k []=l→
 ({ s.wake l with sy:= { s.sy with conds:=s.sy.conds.set k [] } } :SS).okx F N n∧(({ s.wake l with sy:= { s.sy with conds:=s.sy.conds.set k [] } } :SS).th n)=s.th n
 | [],s,h,hs,hk,hc=>by
  have:s.sy.conds.set k []=s.sy.conds:=by
   rw [←hc,List.getD_eq_getElem?_getD,List.getElem?_eq_getElem hk]
   exact List.set_getElem_self hk
  rw [this]
  exact ⟨h,rfl⟩
 |i::r,s,h,hs,hk,hc=>by
  obtain ⟨h1,h2⟩:=h.wake1 hs hk hc
  have hk2:k<(s.sy.conds.set k r).length:=by rw [List.length_set];exact hk
  have:=SS.okx.wakes (l:=r) (k:=k) h1 (by rw [h2];exact hs) hk2 (by simp [List.getD,hk])
  simp only [List.set_set,B9] at this
  rw [h2] at this
  exact this
theorem SS.okx.waits {F:Fnd}{N n:Nat}{s:SS}{k:Int}{x:PStm}(h:s.okx F N n)(hs:(s.th n).st=1)(hk:0≤k∧k<s.sy.conds.length)(hx:x.good F.cn (s.th n).loc.length)(h8:x.kd=8)(hl:(s.th n).left.length+1≤600*(N+2)):
 (({ s with sy:=(Us s.sy k n).1 } :SS).put n { s.th n with st:=2,left:=x::(s.th n).left }).okx F (N+1) n:=by
 have hno: ¬∃ l∈s.sy.conds,(n:Int)∈l:=fun ⟨l,hl,hn⟩=>by
  have:=(h.w l hl n hn).2
  rw [show ((n:Int)).toNat=n from rfl,hs] at this
  exact absurd this (by decide)
 have ht:=h.t;have hnn:=h.nn
 have hw:(Us s.sy k n).1= { s.sy with conds:=s.sy.conds.set k.toNat (s.sy.conds.getD k.toNat []++ [(n:Int)]) } :=by
  unfold Us;rw [if_pos hk,if_pos ⟨by omega,by omega⟩,if_neg hno]
 have hy:=waitS_ok h.y k n
 rw [hw] at hy⊢
 have hkk:k.toNat<s.sy.conds.length:=by omega
 have ha:=Uf (t:= { s.th n with st:=2,left:=x::(s.th n).left }) h.nn
 have k0:=h.h n h.nn
 have hp:=G3 (i:=(n:Int)) hkk
 refine ⟨h.c,h.v,hy,⟨h.z.1,by show ((s.sy.conds.set _ _).length:Int)=_;rw [List.length_set];exact h.z.2.1,h.z.2.2⟩,by simp only [SS.put_len];exact h.t,by simp only [SS.put_len];exact h.nn,fun j hj=> ?_,fun j hj hjn=> ?_,?_,fun l hl2 t ht=> ?_,hp.nodup_iff.2 (List.nodup_cons.2 ⟨fun hm=>hno (by obtain ⟨l,h1,h2⟩:=List.mem_flatten.1 hm;exact ⟨l,h1,h2⟩),h.u⟩)⟩
 iterate 2
  focus
   have hj2:j<s.ths.length:=by have:=SS.put_len s n { s.th n with st:=2,left:=x::(s.th n).left };rw [←this];exact hj
  rotate_left
 · show ((s.put _ _).th n).st=1∨(((s.put _ _).th n).st=2∧((s.put _ _).th n).next.kd=8∧((s.put _ _).th n).left≠ [])
   rw [ha,if_pos rfl];exact .inr ⟨rfl,h8,fun e=>by cases e⟩
 · show t.toNat<(s.put _ _).ths.length∧((s.put _ _).th t.toNat).st=2
   rw [SS.put_len,ha]
   have hcase:(∃ m∈s.sy.conds,t∈m)∨t=n:=by
    rcases List.mem_or_eq_of_mem_set hl2 with hl2|rfl
    · exact .inl ⟨l,hl2,ht⟩
    rcases List.mem_append.1 ht with ht|ht
    · exact .inl ⟨_,Y7 hkk,ht⟩
    exact .inr (List.mem_singleton.1 ht)
   rcases hcase with ⟨m,hm,hm2⟩|rfl
   · obtain ⟨k1,k2⟩:=h.w m hm t hm2
     refine ⟨k1,?_⟩
     split
     · rfl
     exact k2
   exact ⟨h.nn,by rw [if_pos (show ((n:Int)).toNat=n from rfl)]⟩
 · show ((s.put _ _).th j).ok0 F (N+1) (s.put _ _).ths.length
   rw [ha,SS.put_len];split
   · exact ⟨k0.d,⟨show (1:Int)≤2 by decide,show (2:Int)≤4 by decide⟩,k0.l,k0.v,⟨hx,k0.g⟩,by simp only [List.length_cons];omega,k0.p⟩
   exact (h.h j hj2).mono (Nat.le_succ N) (Nat.le_refl _)
 show ((s.put _ _).th j).ok1
 rw [ha,if_neg hjn];exact h.o j hj2 hjn
theorem O7 {F:Fnd}{d:Int}(h:0≤d∧d<F.ths.length):F.pr.ths.getD d.toNat (0, [])=(F.ths[d.toNat].loc,F.ths[d.toNat].body):=by
 have h1:d.toNat<F.pr.ths.length:=by simp [Fnd.pr];omega
 rw [List.getD_eq_getElem?_getD,List.getElem?_eq_getElem h1]
 simp [Fnd.pr]
theorem Tg {F:Fnd}{N m:Nat}{d:Int}(hM:MayP F)(h:0≤d∧d<F.ths.length)(hm:0<m):(Vf F.pr d).ok0 F N m∧(Vf F.pr d).ok1:=by
 have ht:=hM.t _ (List.getElem_mem (show d.toNat<F.ths.length by omega))
 unfold Vf
 rw [O7 h]
 dsimp only
 have hlo:((F.ths[d.toNat].loc.toNat:Nat):Int)=F.ths[d.toNat].loc:=by omega
 refine ⟨⟨h,?_,?_,?_,?_,?_,⟨hm,fun i hi=>by cases hi⟩⟩,⟨?_,?_⟩⟩
 · dsimp only;split<;>omega
 · simp only [List.length_replicate];omega
 · intro x hx;rw [(List.mem_replicate.1 hx).2];unfold val;omega
 · simp only [List.length_replicate];rw [hlo];exact ht.2.2
 · dsimp only;omega
 · dsimp only
   split
   · rename_i e;exact ⟨fun _=>rfl,fun _=>e⟩
   rename_i e;exact ⟨fun k=>absurd k e,fun k=>absurd k (by decide)⟩
 dsimp only;intro k;exfalso;revert k;split<;>(intro k;rcases k with k|k<;>exact absurd k (by decide))
theorem SS.okx.spawn {F:Fnd}{N n:Nat}{s:SS}{d:Int}(h:s.okx F N n)(hM:MayP F)(hs:(s.th n).st=1)(hd:0≤d∧d<F.ths.length)(h8:s.ths.length<8):
 ({ (s.put n { s.th n with sp:=(s.th n).sp++ [(s.ths.length:Int)] }) with ths:=(s.put n { s.th n with sp:=(s.th n).sp++ [(s.ths.length:Int)] }).ths++ [Vf F.pr d] } :SS).okx F N n:=by
 obtain ⟨X,hX⟩: ∃ X,X=({ s.th n with sp:=(s.th n).sp++ [(s.ths.length:Int)] } :PTr):=⟨_,rfl⟩
 rw [←hX]
 have k0:=h.h n h.nn
 have hlen:({ (s.put n X) with ths:=(s.put n X).ths++ [Vf F.pr d] } :SS).ths.length=s.ths.length+1:=by
  show ((s.put n X).ths++ [Vf F.pr d]).length=_
  rw [List.length_append,SS.put_len];rfl
 have ha: ∀ i,({ (s.put n X) with ths:=(s.put n X).ths++ [Vf F.pr d] } :SS).th i=if i=s.ths.length then Vf F.pr d else if i=n then X else s.th i:=fun i=>by
  unfold SS.th
  show ((s.put n X).ths++ [Vf F.pr d]).getD i zTr=_
  by_cases e:i=s.ths.length
  · rw [if_pos e,List.getD_eq_getElem?_getD,List.getElem?_append_right (by rw [SS.put_len];omega),SS.put_len,e];simp
  rw [if_neg e]
  by_cases e2:i<s.ths.length
  · rw [List.getD_eq_getElem?_getD,List.getElem?_append_left (by rw [SS.put_len];exact e2),←List.getD_eq_getElem?_getD]
    exact Uf h.nn i
  have hin:i≠n:=fun k=>e2 (k ▸ h.nn)
  rw [if_neg hin,List.getD_eq_getElem?_getD,List.getElem?_eq_none (by rw [List.length_append,SS.put_len];simp;omega),List.getD_eq_getElem?_getD,List.getElem?_eq_none (by omega)]
 have hX0:X.ok0 F N (s.ths.length+1):=by
  rw [hX]
  refine ⟨k0.d,k0.s,k0.l,k0.v,k0.g,k0.n,⟨by have:=k0.p.1;simp only [List.length_append,List.length_singleton];omega,fun i hi=> ?_⟩⟩
  rcases List.mem_append.1 hi with hi|hi
  · have:=k0.p.2 i hi;omega
  rw [List.mem_singleton.1 hi];omega
 have hnn:=h.nn
 refine ⟨h.c,h.v,h.y,h.z,by rw [hlen];omega,by rw [hlen];omega,fun i hi=> ?_,fun i hi hne=> ?_,?_,fun l hl t ht=> ?_,h.u⟩
 · rw [hlen] at hi⊢;rw [ha];split
   · exact (Tg hM hd (by omega)).1
   split
   · exact hX0
   exact (h.h i (by omega)).mono (Nat.le_refl _) (Nat.le_succ _)
 · rw [hlen] at hi;rw [ha];split
   · exact (Tg (N:=N) hM hd (Nat.succ_pos 0)).2
   exact h.o i (by omega) hne
 · rw [ha,if_neg (by omega),if_pos rfl,hX];exact .inl hs
 obtain ⟨k1,k2⟩:=h.w l hl t ht
 rw [hlen,ha,if_neg (by omega)]
 refine ⟨by omega,?_⟩
 split
 · rename_i e;rw [e] at k2;rw [hX];exact k2
 exact k2
theorem recv_val {s:Sy}{N:Nat}(h:s.ok N)(k:Nat):val ((s.chans.getD k ch0).items.headD 0):=by
 by_cases hk:k<s.chans.length
 · have hc:=h.h _ (Y7 (d:=ch0) hk)
   cases hi:(s.chans.getD k ch0).items with
   |nil=>show val 0;unfold val;omega
   |cons a r=>exact hc.2.2.2.2 a (List.mem_of_mem_drop (show a∈(s.chans.getD k ch0).items by rw [hi];exact List.mem_cons_self ..))
 rw [List.getD_eq_getElem?_getD,List.getElem?_eq_none (by omega)]
 show val 0;unfold val;omega
theorem Ar {s:Sy}{k:Int}(hk:0≤k∧k<s.conds.length):(Yo s k).1= { s with conds:=s.conds.set k.toNat ((s.conds.getD k.toNat []).drop 1) } :=by
 unfold Yo
 rw [if_pos hk]
 split
 · rename_i e
   have:s.conds.set k.toNat ((s.conds.getD k.toNat []).drop 1)=s.conds:=by
    have hkk:k.toNat<s.conds.length:=by omega
    have hg:s.conds.getD k.toNat []=s.conds[k.toNat]:=by simp [List.getD,hkk]
    rw [e,List.drop_nil,←e,hg]
    exact List.set_getElem_self hkk
   rw [this]
 rfl
theorem Fp {F:Fnd}{N n:Nat}{s:SS}{x:PStm}{ev:PEv}(h:s.okx F N n)(hM:MayP F)(hs:(s.th n).st=1)(hx:x.good F.cn (s.th n).loc.length)(hl:(s.th n).left.length+1≤600*(N+1))(hk: ¬ (x.kd≤5∨x.kd=11∨x.kd=15))(ht:(s.others F.pr n x ev).2.2=0):(s.others F.pr n x ev).1.okx F (N+1) n:=by
 have h':=h.mono (Nat.le_succ N)
 obtain ⟨k,ln,cl,nm,wt,e,ix,body,els,id,slot,other,loc⟩:=x
 simp only [PStm.kd] at hk
 have hgx:=hx
 obtain ⟨hg1,hg2,hg3,hg4,hg5⟩:=hx
 obtain ⟨hs1,hs2,hs3,hs6,hs8,hs8o,hs11,hs12,hs13⟩:=Yi hg2
 have hz:=h.z
 have hco:F.cn.co=F.co:=rfl
 unfold SS.others at ht⊢
 dsimp only at ht⊢
 split at ht
 · rename_i h1;rw [if_pos h1]
   split at ht
   · exact absurd ht (by show ¬ (4:Int)=0;decide)
   rename_i h2;rw [if_neg h2]
   obtain ⟨k1,k2,k3⟩:=Bg s.sy slot n
   exact h.sync (Nat.le_succ N) ((Gl h.y _ _).mono (Nat.le_succ N)) k1 k2 (by rw [k3])
 rename_i h1;rw [if_neg h1]
 split at ht
 · rename_i h1;rw [if_pos h1]
   split at ht
   · exact absurd ht (by show ¬ (4:Int)=0;decide)
   rename_i h2;rw [if_neg h2]
   obtain ⟨k1,k2,k3⟩:=Nj s.sy slot n
   exact h.sync (Nat.le_succ N) ((Ra h.y _ _).mono (Nat.le_succ N)) k1 k2 (by rw [k3])
 rename_i h2;rw [if_neg h2]
 split at ht
 · rename_i h3;rw [if_pos h3]
   split at ht
   · exact absurd ht (by show ¬ (4:Int)=0;decide)
   rename_i h4;rw [if_neg h4]
   obtain ⟨k1,k2,k3⟩:=Nj s.sy other n
   have hu:=h.sync (Nat.le_refl N) (Ra h.y other n) k1 k2 (by rw [k3])
   have hsl:=hs8 (.inl h3)
   exact SS.okx.waits hu hs ⟨hsl.1,by rw [show ({ s with sy:=(Z6 s.sy other n).1 } :SS).sy=(Z6 s.sy other n).1 from rfl,k2];omega⟩ hgx h3 (by show (s.th n).left.length+1≤_;omega)
 rename_i h3;rw [if_neg h3]
 split at ht
 · rename_i h4;rw [if_pos h4]
   have hsl:=hs8 (by omega)
   have hkk:slot.toNat<s.sy.conds.length:=by omega
   by_cases h10:k=10
   · have hw:=(h'.wakes hs hkk rfl).1
     simp only [if_pos h10,List.take_length]
     have ha:(J6 s.sy slot).1= { s.sy with conds:=s.sy.conds.set slot.toNat [] } :=by unfold J6;rw [if_pos ⟨hsl.1,by omega⟩]
     rw [ha];exact hw
   simp only [if_neg h10]
   rw [Ar ⟨hsl.1,by omega⟩]
   cases hc:s.sy.conds.getD slot.toNat [] with
   |nil=>
    have:s.sy.conds.set slot.toNat []=s.sy.conds:=by
     have hg:s.sy.conds.getD slot.toNat []=s.sy.conds[slot.toNat]:=by simp [List.getD,hkk]
     rw [←hc,hg];exact List.set_getElem_self hkk
    simp only [List.drop_nil,List.take_nil,this]
    exact h'
   |cons i r=>
    have:=(h'.wake1 hs hkk hc).1
    simp only [List.drop_succ_cons,List.drop_zero,List.length_cons,show min 1 (r.length+1)=1 by omega,List.take_succ_cons,List.take_zero]
    exact this
 rename_i h4;rw [if_neg h4]
 split at ht
 · rename_i h5;rw [if_pos h5]
   have hr:=h.sync (Nat.le_succ N) ((Gb h.y slot).mono (Nat.le_succ N)) (by rw [D5]) (R5 _ _) (Ao _ _)
   exact (hr.into (recv_val h.y slot.toNat)).1
 rename_i h5;rw [if_neg h5]
 split at ht
 · rename_i h6;rw [if_pos h6]
   split at ht
   · exact absurd ht (by show ¬ (5:Int)=0;decide)
   rename_i h7;rw [if_neg h7]
   exact h'.spawn hM hs (hs13 h6) (by omega)
 rename_i h6;rw [if_neg h6];exact h'
theorem SS.fine.pop {F:Fnd}{N n:Nat}{s:SS}(h:s.fine F N)(hn:n<s.ths.length)(hst:(s.th n).st=1∨(s.th n).st=3):(s.put n { s.th n with st:=1,left:=(s.th n).left.drop 1 }).okx F N n:=by
 have hp: ∀ i,i<s.ths.length→(s.th i).ok0 F N s.ths.length∧(s.th i).ok1:=fun i hi=>by
  rw [Hm hi];exact (h.ok.h _ (List.getElem_mem hi)).parts (h.q _ (List.getElem_mem hi))
 have k0:=(hp n hn).1
 have ha:=Uf (t:= { s.th n with st:=1,left:=(s.th n).left.drop 1 }) hn
 refine ⟨h.ok.c,h.ok.v,h.ok.y,h.ok.z,by simp only [SS.put_len];exact h.ok.t,by simp only [SS.put_len];exact hn,fun i hi=> ?_,fun i hi hne=> ?_,by rw [ha,if_pos rfl];exact .inl rfl,fun l hl t ht=> ?_,h.u⟩
 · simp only [SS.put_len] at hi⊢;rw [ha];split
   · exact ⟨k0.d,⟨show (1:Int)≤1 by decide,show (1:Int)≤4 by decide⟩,k0.l,k0.v,Wb.2 fun y hy=>Wb.1 k0.g y (List.mem_of_mem_drop hy),by have:=k0.n;simp only [List.length_drop];omega,k0.p⟩
   exact (hp i hi).1
 · simp only [SS.put_len] at hi;rw [ha,if_neg hne];exact (hp i hi).2
 obtain ⟨k1,k2⟩:=h.ok.w l hl t ht
 simp only [SS.put_len];rw [ha]
 refine ⟨k1,?_⟩
 split
 · rename_i e;rw [e] at k2;omega
 exact k2
theorem O2 {p:PPr}{s:SS}{n:Nat}(h:s.can p n=true): ¬ ((s.th n).st=2∨(s.th n).st=4):=by
 unfold SS.can at h
 dsimp only at h
 split at h
 · cases h
 omega
structure SS.ready (F:Fnd) (N n:Nat) (s:SS) (x:PStm):Prop where
 st:(s.th n).st=1∨(s.th n).st=3
 l:(s.th n).left=x::(s.th n).left.drop 1
 e:x=(s.th n).next
 g:x.good F.cn (s.th n).loc.length
 b:((s.th n).left.drop 1).length+1≤600*(N+1)
 w:(s.th n).st=3→x.kd=8
theorem SS.fine.ready {F:Fnd}{N n:Nat}{s:SS}{p:PPr}(h:s.fine F N)(hn:n<s.ths.length)(hc:s.can p n=true):s.ready F N n (s.th n).next:=by
 have k:=h.ok.h _ (List.getElem_mem hn)
 rw [←Hm hn] at k
 have h1:=O2 hc
 have hs:=k.s
 have hst:(s.th n).st=1∨(s.th n).st=3:=by omega
 have hne:(s.th n).left≠ []:=fun e=>by have:=k.e.1 e;omega
 have hl:(s.th n).left=(s.th n).next::(s.th n).left.drop 1:=by
  unfold PTr.next
  cases hq:(s.th n).left with
  |nil=>exact absurd hq hne
  |cons a r=>rfl
 refine ⟨hst,hl,rfl,?_,?_,fun e=>k.w (.inr e)⟩
 · have hg:=k.g;rw [hl] at hg;exact hg.1
 have hb:=k.n;rw [hl,List.length_cons] at hb;exact hb
theorem P4 {s:SS}{n:Nat}{st:Int}(h:(s.th n).st=st)(l:List PStm):s.put n { s.th n with left:=l } =s.put n { s.th n with st:=st,left:=l } :=by rw [←h]
theorem Em {F:Fnd}{N n:Nat}{s:SS}(h:s.fine F N)(hM:MayP F)(hn:n<s.ths.length)(hc:s.can F.pr n=true)(ht:(s.did F.pr n).2.2=0):(s.did F.pr n).1.okx F (N+1) n:=by
 have R:=h.ready hn hc
 have hp:=h.pop hn R.st
 unfold SS.did at ht⊢
 dsimp only at ht⊢
 split at ht
 · rename_i h3;rw [if_pos h3]
   obtain ⟨k1,k2,k3⟩:=Bg s.sy (s.th n).next.oth n
   exact hp.sync (Nat.le_succ N) ((Gl h.ok.y _ _).mono (Nat.le_succ N)) k1 k2 (by rw [k3];rfl)
 rename_i h3;rw [if_neg h3]
 have h1:(s.th n).st=1:=by have:=R.st;omega
 rw [P4 h1] at ht⊢
 obtain ⟨X,hX⟩: ∃ X,X=({ s.th n with st:=1,left:=(s.th n).left.drop 1 } :PTr):=⟨_,rfl⟩
 rw [←hX] at hp ht⊢
 have hat:(s.put n X).th n=X:=Py hn
 have e1:((s.put n X).th n).st=1:=by rw [hat,hX]
 have e2:(s.th n).next.good F.cn ((s.put n X).th n).loc.length:=by rw [hat,hX];exact R.g
 have e3:((s.put n X).th n).left.length+1≤600*(N+1):=by rw [hat,hX];exact R.b
 split at ht
 · rename_i hk;rw [if_pos hk];exact P9 hp hM e1 e2 e3 hk ht
 rename_i hk;rw [if_neg hk];exact Fp hp hM e1 e2 e3 hk ht
def SS.ended (s:SS)(n:Nat)(ev:PEv):SS×PEv:=
 if (s.th n).left= [] then (s.put n { s.th n with st:=4 }, { ev with syn:=ev.syn++ [(8,0,0)] }) else (s,ev)
theorem SS.okx.ended {F:Fnd}{N n:Nat}{s:SS}{ev:PEv}(h:s.okx F N n):(s.ended n ev).1.fine F N:=by
 have mk: ∀ s:SS,(s.cells.length:Int)=F.vars.length+Wv F.arrs→(∀ x∈s.cells,val x)→s.sy.ok N→((s.sy.owners.length:Int)=F.mu∧(s.sy.conds.length:Int)=F.co∧s.sy.chans.map Ch.room=F.chs)→(1≤s.ths.length∧s.ths.length≤8)→
  (∀ i,i<s.ths.length→(s.th i).ok0 F N s.ths.length∧(s.th i).ok1)→(∀ l∈s.sy.conds,∀ t∈l,t.toNat<s.ths.length∧(s.th t.toNat).st=2)→s.sy.conds.flatten.Nodup→s.fine F N:=fun s a b c d e f g u=>by
  have f2: ∀ t∈s.ths,t.ok0 F N s.ths.length∧t.ok1:=fun t ht=>by
   obtain ⟨i,hi,rfl⟩:=List.getElem_of_mem ht
   rw [←Hm hi];exact f i hi
  exact ⟨⟨a,b,c,d,e,fun t ht=>ThOk.of (f2 t ht).1 (f2 t ht).2 e.2,g⟩,u,fun t ht=>(f2 t ht).1.p.1⟩
 have hnn:=h.nn
 unfold SS.ended
 split
 · rename_i he
   have hs:(s.th n).st=1:=by rcases h.m with h1|h1;exact h1;exact absurd he h1.2.2
   have ha:=Uf (t:= { s.th n with st:=4 }) hnn
   have k0:=h.h n hnn
   refine mk _ h.c h.v h.y h.z (by simp only [SS.put_len];exact h.t) (fun i hi=> ?_) (fun l hl t ht=> ?_) h.u
   · simp only [SS.put_len] at hi⊢;rw [ha];split
     · exact ⟨⟨k0.d,⟨show (1:Int)≤4 by decide,show (4:Int)≤4 by decide⟩,k0.l,k0.v,k0.g,k0.n,k0.p⟩,⟨fun _=>rfl,fun _=>he⟩,fun e=>by rcases e with e|e<;>exact absurd e (by first|(show ¬ (4:Int)=2;decide)|(show ¬ (4:Int)=3;decide))⟩
     rename_i hne;exact ⟨h.h i hi,h.o i hi hne⟩
   obtain ⟨k1,k2⟩:=h.w l hl t ht
   simp only [SS.put_len];rw [ha]
   refine ⟨k1,?_⟩
   split
   · rename_i e;rw [e] at k2;omega
   exact k2
 rename_i he
 refine mk _ h.c h.v h.y h.z h.t (fun i hi=>⟨h.h i hi,?_⟩) h.w h.u
 by_cases e:i=n
 · subst e
   refine ⟨⟨fun k=>absurd k he,fun k=> ?_⟩,fun k=> ?_⟩
   · have k':(s.th i).st=4:=k
     rcases h.m with h1|h1<;>omega
   have k':(s.th i).st=2∨(s.th i).st=3:=k
   rcases h.m with h1|h1
   · omega
   exact h1.2.1
 exact h.o i hi e
theorem Mi {p:PPr}{s:SS}{n:Nat}:s.step p n=if (s.did p n).2.2≠0 then ({ s with out:=⟨4,(s.did p n).2.2,n,(s.th n).next.idn⟩ }, { zEv n (s.th n).next.idn with trap:=(s.did p n).2.2,acc:=(s.did p n).2.1.acc }) else ((((s.did p n).1.ended n (s.did p n).2.1).1).stands p,((s.did p n).1.ended n (s.did p n).2.1).2):=by
 unfold SS.step SS.ended
 dsimp only
 split
 · rfl
 split<;>rfl
theorem SS.fine.out {F:Fnd}{N:Nat}{s:SS}(h:s.fine F N)(o:POut):({ s with out:=o } :SS).fine F N:=⟨⟨h.ok.c,h.ok.v,h.ok.y,h.ok.z,h.ok.t,h.ok.h,h.ok.w⟩,h.u,h.q⟩
theorem SS.fine.mono {F:Fnd}{N N':Nat}{s:SS}(h:s.fine F N)(l:N≤N'):s.fine F N':=
 ⟨⟨h.ok.c,h.ok.v,h.ok.y.mono l,h.ok.z,h.ok.t,fun t ht=>let k:=h.ok.h t ht;⟨k.d,k.s,k.l,k.v,k.g,by have:=k.n;omega,k.e,k.w,k.p⟩,h.ok.w⟩,h.u,h.q⟩
theorem SS.fine.stands {F:Fnd}{N:Nat}{s:SS}{p:PPr}(h:s.fine F N):(s.stands p).fine F N:=by
 unfold SS.stands;dsimp only;split<;>exact h.out _
theorem SS.fine.step {F:Fnd}{N n:Nat}{s:SS}(h:s.fine F N)(hM:MayP F)(hn:n<s.ths.length)(hc:s.can F.pr n=true):(s.step F.pr n).1.fine F (N+1):=by
 rw [Mi]
 split
 · exact (h.mono (Nat.le_succ N)).out _
 rename_i h1
 exact (Em h hM hn hc (Decidable.not_not.1 h1)).ended.stands
def SS.does (p:PPr)(s:SS)(n:Nat)(x:PStm)(ev:PEv):SS×PEv×Int:=if x.kd≤5∨x.kd=11∨x.kd=15 then s.data p n x ev else s.others p n x ev
theorem P7 {p:PPr}{s:SS}{n:Nat}(h:(s.th n).st≠3):s.did p n=(s.put n { s.th n with left:=(s.th n).left.drop 1 }).does p n (s.th n).next (zEv n (s.th n).next.idn):=by
 unfold SS.did SS.does;dsimp only;rw [if_neg h]
theorem Ci {p:PPr}{s:SS}{n:Nat}(hn:n<s.ths.length)(h:(s.th n).st=3):s.did p n=(s.put n { s.th n with left:=(s.th n).left.drop 1 }).woken n (s.th n).next (zEv n (s.th n).next.idn):=by
 unfold SS.did SS.woken;dsimp only;rw [if_pos h,Py hn]
 unfold SS.put PEv.sn zEv
 simp
abbrev TC.pop (t:TC):TC:= { t with todo:=t.todo.take (t.todo.length - 1) }
theorem Ol (t:TC):t.pop.er= { t.er with left:=t.er.left.drop 1 } :=by
 unfold TC.er
 simp only [PTr.mk.injEq,true_and,and_true]
 rw [←List.dropLast_eq_take]
 simp [List.map_dropLast,List.tail_reverse]
abbrev StC.pop (σ:StC)(n:Nat)(h:n<σ.ths.length):StC:= { σ with ths:=σ.ths.set n σ.ths[n].pop }
theorem P2 {σ:StC}{n:Nat}(h:n<σ.ths.length):(σ.pop n h).er=σ.er.put n { σ.er.th n with left:=(σ.er.th n).left.drop 1 } :=by
 rw [W6,Ol,Zo h]
theorem PO.pop {g:FC}{N who:Nat}{σ:StC}(h:SS.fine g.er N σ.er)(hN:N≤900)(hw:who<σ.ths.length):PO g N who (σ.pop who hw):=by
 have k:=h.ok.at hw
 have hl:(σ.pop who hw).ths.length=σ.ths.length:=by simp
 have hlen:σ.er.ths.length=σ.ths.length:=StC.nth σ
 have ht:=h.ok.t;rw [hlen] at ht
 have hg:(σ.pop who hw).ths[who]'(by rw [hl];exact hw)=σ.ths[who].pop:=List.getElem_set_self ..
 have hz:=h.ok.z
 refine ⟨by rw [hl];exact hw,by rw [hl];exact ht.2,h.ok.c,h.ok.v,?_,?_,h.ok.y,hN,hz.1,hz.2.1,?_,?_,?_,?_⟩
 · rw [hg];exact k.v
 · rw [hg];exact k.l
 · have:=congrArg List.length hz.2.2
   rw [List.length_map] at this
   have hc:g.er.cn.ch=(g.er.chs.length:Int):=rfl
   rw [hc,←this];rfl
 · intro l hl2 t ht2;rw [hl,←hlen];exact (h.ok.w l hl2 t ht2).1
 · rw [hg]
   have:=k.n;rw [W2] at this
   have h2:σ.ths[who].pop.todo.length=min (σ.ths[who].todo.length - 1) σ.ths[who].todo.length:=List.length_take
   omega
 rw [hg,hl];exact k.p
theorem Sq (A:HP)(C q X:List HP):Le (C++(A::(q++X))) ((C++q)++(A::X)):=by rw [List.append_assoc];exact Le.append_left C (Ys [A] q X)
theorem D3 (A:HP)(C q X:List HP):Le ((C++q)++(A::X)) (C++(A::(q++X))):=by rw [List.append_assoc];exact Le.append_left C (Ys q [A] X)
theorem H7 {P:Program}{G:World}{fn:FuncId}{vs:List Value}{pre:List HP}{R:Wx.Ug}(E:List HP)(h:CallF P G fn vs pre R):CallF P G fn vs (pre++E) (fun e q'=> ∃ q0,R e q0∧q'=q0++E):=by
 intro F w s cs
 rw [List.append_assoc] at s
 obtain ⟨e,w',fr,⟨hne,q,hR,hs⟩,rest⟩:=h (E++F) w s cs
 exact ⟨e,w',fr,⟨hne,q++E,⟨q,hR,rfl⟩,by rw [List.append_assoc];exact hs⟩,rest⟩
theorem Xy {P:Program}{G:World}{fv:Value}{vs:List Value}{pre:List HP}{R:Wx.Ug}(E:List HP)(h:CallV P G fv vs pre R):CallV P G fv vs (pre++E) (fun e q'=> ∃ q0,R e q0∧q'=q0++E):=by
 intro F w s fr cs hm ho
 rw [List.append_assoc] at s
 obtain ⟨e,w',⟨q,hR,hs⟩,rest⟩:=h (E++F) w s fr cs hm ho
 exact ⟨e,w',⟨q++E,⟨q,hR,rfl⟩,by rw [List.append_assoc];exact hs⟩,rest⟩
abbrev StepR (p pp who:Nat)(q:List HP)(R:StC→EvC→Prop)(Rp:StC→EvC→List PanicEntry→Prop):Wx.Ug:=
 RP (fun _ q'=> ∃ (σ':StC) (ev':EvC),R σ' ev'∧q'=Zx p pp who σ' ev'++q) (fun ch q'=> ∃ (σ':StC) (ev':EvC),Rp σ' ev' ch∧q'=Zx p pp who σ' ev'++q)
theorem B6 {p pp who:Nat}{A:HP}{q F:List HP}{R:StC→EvC→Prop}{Rp:StC→EvC→List PanicEntry→Prop}(e:Ending)(q':List HP)(h: ∃ q0,StepR p pp who q R Rp e q0∧q'=q0++(A::F)): ∃ q'',StepR p pp who (A::(q++F)) R Rp e q''∧Le q' q'':=by
 rcases h with ⟨_,⟨v,rfl,σ',ev',hR,rfl⟩|⟨ch,rfl,σ',ev',hR,rfl⟩,rfl⟩
 · exact ⟨_,.inl ⟨v,rfl,σ',ev',hR,rfl⟩,D3 _ _ _ _⟩
 exact ⟨_,.inr ⟨ch,rfl,σ',ev',hR,rfl⟩,D3 _ _ _ _⟩
theorem L3 {P:Program}{G:World}{fn:FuncId}{vs:List Value}{p pp who:Nat}{q C:List HP}{R:StC→EvC→Prop}{Rp:StC→EvC→List PanicEntry→Prop}(A:HP)(F:List HP)(h:CallF P G fn vs (C++q) (StepR p pp who q R Rp)):CallF P G fn vs (C++(A::(q++F))) (StepR p pp who (A::(q++F)) R Rp):=
 CallF.conv (Sq A C q F) (H7 (A::F) h) B6
theorem L2 {P:Program}{G:World}{fv:Value}{vs:List Value}{p pp who:Nat}{q C:List HP}{R:StC→EvC→Prop}{Rp:StC→EvC→List PanicEntry→Prop}(A:HP)(F:List HP)(h:CallV P G fv vs (C++q) (StepR p pp who q R Rp)):CallV P G fv vs (C++(A::(q++F))) (StepR p pp who (A::(q++F)) R Rp):=
 CallV.conv (Sq A C q F) (Xy (A::F) h) B6
section
variable {G:World}{q:List HP}{p pp who n N:Nat}{g:FC}{σ:StC}{ev:EvC}{k sl ot u:Int}{bb:Bool}
theorem Ek {nb:Nat}:Quiet prog G 94 [.pointer (some ⟨nb,0,none⟩)]:=by
 refine Quiet.of func94 ntmps94 rfl (fun F c₀ cs₀ hr=> ?_)
 refine xo 2 ?_;refine XO.rcv hr ?_;refine Zt (Lb rfl underlying199 rfl zeroValue199) ?_;refine oo 3 ?_;refine XO.al zeroValue199 fun n1=> ?_
 refine stA ?_;refine ox 6 ?_;refine X.know 8 (.bool false) rfl rfl ?_;refine xx 2 ?_;exact X.fall ⟨rfl,rfl,.inl rfl,⟨_,Vg results94⟩,leA⟩
theorem Cz {nb:Nat}{y0:Value}:Catches prog G 94 [.pointer (some ⟨nb,0,none⟩)] (Vp k) [pto nb (.cells [y0].toArray 39 (0,0))] [pto nb (.cells [.int .i64 k].toArray 39 (0,0))]:=by
 refine Catches.of func94 ntmps94 rfl rfl (fun F c₀ cs₀ hr=> ?_)
 refine xo 2 ?_;refine XO.rcv hr ?_;refine Zt (Ly rfl underlying199 rfl) ?_;refine oo 3 ?_;refine XO.al zeroValue199 fun n1=> ?_
 refine stA ?_;refine ox 6 ?_;refine X.know 8 (.bool true) rfl rfl ?_;refine xj 3 ?_;refine st ?_;refine ox 1 ?_;exact X.fall ⟨rfl,rfl,.inl rfl,⟨_,Vg results94⟩,leA⟩
def dL:List (Int×Value×Nat):= [(1,.func (.func 129) #[] #[],0),(2,.func (.func 129) #[] #[],1),(3,.func (.func 130) #[] #[],2),(4,.func (.func 131) #[] #[],3),(5,.func (.func 132) #[] #[],4),(6,.func (.func 133) #[] #[],5),(7,.func (.func 134) #[] #[],6),(8,.func (.func 135) #[] #[],7),(9,.func (.func 136) #[] #[],8),(10,.func (.func 137) #[] #[],9),(11,.func (.func 138) #[] #[],10),(12,.func (.func 139) #[] #[],11),(13,.func (.func 140) #[] #[],12),(14,.func (.func 141) #[] #[],13),(15,.func (.func 142) #[] #[],14)]
def dE (e:Int×Value×Nat):MapEntry:= { key:= .int .i64 e.1,val:=e.2.1,born:=e.2.2 }
theorem dL_has {k:Int}(h:1≤k∧k≤15): ¬∀ e∈dL,e.1≠k:=by
 intro h2
 simp only [dL,List.mem_cons,forall_eq_or_imp,List.not_mem_nil,false_imp_iff,implies_true,and_true] at h2
 omega
set_option maxHeartbeats 1000000 in
theorem doers_ok:CallF prog G 97 [] ([]) (Ret fun v q'=> ∃ n,v= .map (some n)∧q'= [pto n (.map (dL.map dE).toArray 15)]):=by
 refine CallF.of func97 ntmps97 rfl (fun F cs=> ?_)
 refine xo 6 ?_;refine XO.ef (Ef.makeMap) ?_;rintro _ _ ⟨n1,rfl,rfl⟩
 refine XO.ef0 (Ef.insert (es:= []) underlying204 underlying119 rfl rfl rfl Zk (by rfl)) ?_
 rintro _ _ ⟨rfl,rfl⟩
 refine XO.ef0 (Ef.insert (es:=((dL.take 1).map dE)) underlying204 underlying119 rfl rfl rfl Zk (by rfl)) ?_
 rintro _ _ ⟨rfl,rfl⟩
 refine XO.ef0 (Ef.insert (es:=((dL.take 2).map dE)) underlying204 underlying119 rfl rfl rfl Zk (by rfl)) ?_
 rintro _ _ ⟨rfl,rfl⟩
 refine XO.ef0 (Ef.insert (es:=((dL.take 3).map dE)) underlying204 underlying119 rfl rfl rfl Zk (by rfl)) ?_
 rintro _ _ ⟨rfl,rfl⟩
 refine XO.ef0 (Ef.insert (es:=((dL.take 4).map dE)) underlying204 underlying119 rfl rfl rfl Zk (by rfl)) ?_
 rintro _ _ ⟨rfl,rfl⟩
 refine XO.ef0 (Ef.insert (es:=((dL.take 5).map dE)) underlying204 underlying119 rfl rfl rfl Zk (by rfl)) ?_
 rintro _ _ ⟨rfl,rfl⟩
 refine XO.ef0 (Ef.insert (es:=((dL.take 6).map dE)) underlying204 underlying119 rfl rfl rfl Zk (by rfl)) ?_
 rintro _ _ ⟨rfl,rfl⟩
 refine XO.ef0 (Ef.insert (es:=((dL.take 7).map dE)) underlying204 underlying119 rfl rfl rfl Zk (by rfl)) ?_
 rintro _ _ ⟨rfl,rfl⟩
 refine XO.ef0 (Ef.insert (es:=((dL.take 8).map dE)) underlying204 underlying119 rfl rfl rfl Zk (by rfl)) ?_
 rintro _ _ ⟨rfl,rfl⟩
 refine XO.ef0 (Ef.insert (es:=((dL.take 9).map dE)) underlying204 underlying119 rfl rfl rfl Zk (by rfl)) ?_
 rintro _ _ ⟨rfl,rfl⟩
 refine XO.ef0 (Ef.insert (es:=((dL.take 10).map dE)) underlying204 underlying119 rfl rfl rfl Zk (by rfl)) ?_
 rintro _ _ ⟨rfl,rfl⟩
 refine XO.ef0 (Ef.insert (es:=((dL.take 11).map dE)) underlying204 underlying119 rfl rfl rfl Zk (by rfl)) ?_
 rintro _ _ ⟨rfl,rfl⟩
 refine XO.ef0 (Ef.insert (es:=((dL.take 12).map dE)) underlying204 underlying119 rfl rfl rfl Zk (by rfl)) ?_
 rintro _ _ ⟨rfl,rfl⟩
 refine XO.ef0 (Ef.insert (es:=((dL.take 13).map dE)) underlying204 underlying119 rfl rfl rfl Zk (by rfl)) ?_
 rintro _ _ ⟨rfl,rfl⟩
 refine XO.ef0 (Ef.insert (es:=((dL.take 14).map dE)) underlying204 underlying119 rfl rfl rfl Zk (by rfl)) ?_
 rintro _ _ ⟨rfl,rfl⟩
 refine ox 3 ?_;refine Zq [pto n1 (.map (dL.map dE).toArray 15)] func97 (Zg results97 rfl) ⟨_,rfl,n1,rfl,rfl⟩
theorem doer_at {y:PS}(hP:Prg q pp g)(hM:MayP g.er)(hO:PO g N who σ)(hev:ev.e.acc= []∧ev.e.syn= [])(hyA:Kn q fun M=>y.At M)(hg:y.s.er.good g.er.cn (σ.ths[who]'(hO.w)).loc.length)(hTd:Kn q fun M=>TodoAt M σ.ths)(hr1:y.s.er.kd=11→((σ.sy.chans.getD y.s.er.slt.toNat ch0).items.length:Int)<(σ.sy.chans.getD y.s.er.slt.toNat ch0).room)(hr2:y.s.er.kd=12→0<(σ.sy.chans.getD y.s.er.slt.toNat ch0).items.length){e:Int×Value×Nat}(h:e∈dL)(hk:y.s.er.kd=e.1): ∃ f,e.2.1= .func (.func f) #[] #[]∧CallV prog G (.func (.func f) #[] #[]) [.pointer (some ⟨p,0,none⟩),.pointer (some ⟨y.b,y.o,none⟩)] (Zx p pp who σ ev++q) (RP (fun v q'=> ∃ (σ':StC) (ev':EvC),((σ.er.does g.er.pr who y.s.er ev.e).2.2=0∧σ'.er=(σ.er.does g.er.pr who y.s.er ev.e).1∧ev'.e=(σ.er.does g.er.pr who y.s.er ev.e).2.1∧Kn q fun M=>TodoAt M σ'.ths)∧q'=Zx p pp who σ' ev'++q) (fun ch q'=> ∃ (σ':StC) (ev':EvC),((σ.er.does g.er.pr who y.s.er ev.e).2.2≠0∧ch= [Vp (σ.er.does g.er.pr who y.s.er ev.e).2.2]∧ev'.e=(σ.er.does g.er.pr who y.s.er ev.e).2.1)∧q'=Zx p pp who σ' ev'++q)):=by
 simp only [dL,List.mem_cons,List.not_mem_nil,or_false] at h
 rcases h with rfl|rfl|rfl|rfl|rfl|rfl|rfl|rfl|rfl|rfl|rfl|rfl|rfl|rfl|rfl
 · have he:σ.er.does g.er.pr who y.s.er ev.e=σ.er.data g.er.pr who y.s.er ev.e:=if_pos (by rw [hk];decide)
   rw [he];exact ⟨129,rfl,Yd call129 (L5 hP hM hO hev hyA hg hTd (.inl hk))⟩
 · have he:σ.er.does g.er.pr who y.s.er ev.e=σ.er.data g.er.pr who y.s.er ev.e:=if_pos (by rw [hk];decide)
   rw [he];exact ⟨129,rfl,Yd call129 (L5 hP hM hO hev hyA hg hTd (.inr hk))⟩
 · have he:σ.er.does g.er.pr who y.s.er ev.e=σ.er.data g.er.pr who y.s.er ev.e:=if_pos (by rw [hk];decide)
   rw [he];exact ⟨130,rfl,Yd call130 (xput_ok hP hM hO hev hyA hg hTd hk)⟩
 · have he:σ.er.does g.er.pr who y.s.er ev.e=σ.er.data g.er.pr who y.s.er ev.e:=if_pos (by rw [hk];decide)
   rw [he];exact ⟨131,rfl,Yd call131 (Ag hP hM hO hev hyA hg hTd hk)⟩
 · have he:σ.er.does g.er.pr who y.s.er ev.e=σ.er.data g.er.pr who y.s.er ev.e:=if_pos (by rw [hk];decide)
   rw [he];exact ⟨132,rfl,Yd call132 (Af hP hM hO hev hyA hg hTd hk)⟩
 iterate 5
  focus
   have he:σ.er.does g.er.pr who y.s.er ev.e=σ.er.others g.er.pr who y.s.er ev.e:=if_neg (by rw [hk];decide)
  rotate_left
 · have he:σ.er.does g.er.pr who y.s.er ev.e=σ.er.data g.er.pr who y.s.er ev.e:=if_pos (by rw [hk];decide)
   rw [he];exact ⟨138,rfl,Yd call138 (xsend_ok hP hM hO hev hyA hg hTd hk (hr1 hk))⟩
 · have he:σ.er.does g.er.pr who y.s.er ev.e=σ.er.others g.er.pr who y.s.er ev.e:=if_neg (by rw [hk];decide)
   rw [he];exact ⟨139,rfl,Yd call139 (xrecv_ok hP hM hO hev hyA hg hTd hk (hr2 hk))⟩
 · have he:σ.er.does g.er.pr who y.s.er ev.e=σ.er.others g.er.pr who y.s.er ev.e:=if_neg (by rw [hk];decide)
   rw [he];exact ⟨140,rfl,Yd call140 (If hP hM hO hev hyA hg hTd hk)⟩
 · have he:σ.er.does g.er.pr who y.s.er ev.e=σ.er.others g.er.pr who y.s.er ev.e:=if_neg (by rw [hk];decide)
   rw [he];exact ⟨141,rfl,Yd call141 (xjoin_ok hP hM hO hev hyA hg hTd hk)⟩
 · have he:σ.er.does g.er.pr who y.s.er ev.e=σ.er.data g.er.pr who y.s.er ev.e:=if_pos (by rw [hk];decide)
   rw [he];exact ⟨142,rfl,Yd call142 (Ig hP hM hO hev hyA hg hTd hk)⟩
 · rw [he];exact ⟨133,rfl,Yd call133 (xlock_ok hP hM hO hev hyA hg hTd hk)⟩
 · rw [he];exact ⟨134,rfl,Yd call134 (Ay hP hM hO hev hyA hg hTd hk)⟩
 · rw [he];exact ⟨135,rfl,Yd call135 (xwait_ok hP hM hO hev hyA hg hTd hk)⟩
 · rw [he];exact ⟨136,rfl,Yd call136 (Ab hP hM hO hev hyA hg hTd hk)⟩
 rw [he];exact ⟨137,rfl,Yd call137 (xall_ok hP hM hO hev hyA hg hTd hk)⟩
end
end Go.Proofs.YtflkjkhijcdbaaaGreat
