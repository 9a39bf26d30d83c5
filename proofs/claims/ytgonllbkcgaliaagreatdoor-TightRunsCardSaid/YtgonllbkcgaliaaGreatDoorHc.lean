/- Contracts of functions, proved by walking their code. -/
import Derived.Test.YtgonllbkcgaliaaGreatDoorHb
import Derived.ChangeKeysEq
import Derived.MapKept
set_option linter.unusedVariables false
set_option linter.unusedSimpArgs false
namespace Wx
open Go Go.RowKit
structure FlE where
 i:Nat
 d:Nat
 V:Nat→Value
 A:Nat→HP
abbrev FlS:=List (FlE×Nat)
def V5 (S:FlS):List Nat:=S.map (·.1.i)
def fCh (S:FlS):List HP:=S.map fun e=>e.1.A e.2
def fAgr (tm:Array Value)(S:FlS):Prop:= ∀ e∈S,tm.getD e.1.d undef=e.1.V e.2
def Rb (p:PE)(d:Nat):Bool:=p.all fun x=> !(x.1==d)
theorem P6 {p:PE}{d:Nat}(h:Rb p d=true):lkp p d=none:=by
 induction p with
 |nil=>rfl
 |cons x r ih=>
  obtain ⟨y,z⟩:=x
  simp only [Rb,List.all_cons,Bool.and_eq_true] at h
  simp only [lkp]
  have:Nat.beq y d=false:=by
   cases hb:Nat.beq y d with
   |false=>rfl
   |true=>rw [Nat.eq_of_beq_eq_true hb] at h;simp at h
  rw [this];exact ih h.2
theorem Agr.put_free {tm:Array Value}{p:PE}{d:Nat}{v:Value}(h:Rb p d=true)(a:Agr tm p):Agr (Wh tm (some d) v) p:=by
 intro t u e
 have hne:d≠t:=by rintro rfl;rw [P6 h] at e;cases e
 have:=a t u e
 simpa [Wh,Array.getElem?_setIfInBounds,hne] using this
theorem HL.le {q q':List HP}(l:Le q q'): ∀ {L:Rds},HL q' L→HL q L
 | [],_=>trivial
 |(_,_,_,_)::_,h=>⟨fun G w s=>h.1 G w (s.le l),HL.le l h.2⟩
theorem HL.sub {q:List HP}: ∀ {L L':Rds},(∀ e∈L',e∈L)→HL q L→HL q L':=by
 intro L L' hs h
 have mem: ∀ {L:Rds},HL q L→ ∀ e∈L,Cl q ⟨e.2.1,e.2.2.1,none⟩ e.2.2.2:=by
  intro L
  induction L with
  |nil=>intro _ e he;cases he
  |cons x r ih=>intro h e he;rcases List.mem_cons.1 he with rfl|he;exact h.1;exact ih h.2 e he
 induction L' with
 |nil=>trivial
 |cons x r ih=>exact ⟨mem h x (hs x (List.mem_cons_self ..)),ih fun e he=>hs e (List.mem_cons_of_mem _ he)⟩
theorem Vj {ops:List Oper}{done:List Nat}{j:Nat}(h:rdy ops done j=true):j∉done:=by
 intro hm;unfold rdy at h;simp [hm] at h
theorem Nz {ops:List Oper}{done E:List Nat}{j:Nat}(h:rdy ops done j=true)(hn:j∉E):rdy ops (E++done) j=true:=by
 induction E with
 |nil=>exact h
 |cons x r ih=>exact N3 (ih fun hm=>hn (List.mem_cons_of_mem _ hm)) (fun e=>hn (e ▸ List.mem_cons_self ..))
theorem Dl {ops:List Oper}{done done':List Nat}{j:Nat}(h:rdy ops done j=true)(hs: ∀ x∈done,x∈done')(hn:j∉done'):rdy ops done' j=true:=by
 unfold rdy at*
 simp only [Bool.and_eq_true,Bool.not_eq_true'] at h⊢
 refine ⟨by simpa using hn,?_⟩
 cases ho:ops[j]? with
 |none=>rw [ho] at h;simp at h
 |some o=>
  rw [ho] at h
  have h2:=h.2
  simp only [Zqc,List.all_eq_true] at h2⊢
  intro e he
  have:=h2 e he
  simp only [Bool.or_eq_true] at this⊢
  rcases this with x|x
  · exact .inl x
  right;simp at x⊢;exact hs _ x
section
variable {P:Program}{G:World}{f:Fc}{Q:Y3}{ops:List Oper}{k:List Item}{pk p:PE}{ds:List Deferred}{cs:List Frame}{q:List HP}{n:Nat}{done:List Nat}{L:Rds}{o:Oper}{v:Value}{fl:List FlE}
def XF (P:Program)(G:World)(f:Fc)(Q:Y3)(ops:List Oper)(k:List Item)(pk:PE)(fl:List FlE)(L:Rds)(n:Nat)(done:List Nat)(p:PE)(ds:List Deferred)(cs:List Frame)(q:List HP):Prop:=
 okR ops=true→Bw ops pk=true→ ∀ (S:FlS) m tm w,(V5 S).Nodup→(∀ e∈S,e.1∈fl)→m+S.length=n→tm.size=f.n→Agr tm p→fAgr tm S→St G w (q++fCh S)→
  WA P ops (Ke' P G f Q k ds cs) (Kp' G Q f.n pk ds cs) m L (V5 S++done) tm w
def FlR (P:Program)(G:World)(f:Fc)(ops:List Oper)(done:List Nat)(p:PE):List FlE→Prop
 | []=>True
 |e::r=>(∃ o,ops[e.i]? =some o∧o.dst=some e.d∧rdy ops done e.i=true∧Wt ops p o=some true∧Nat.blt e.d f.n=true∧Rb p e.d=true∧ ∀ q,Ef P G p q o fun v q'=> ∃ g,v=e.V g∧q'=e.A g::q)∧FlR P G f ops done p r
theorem FlR.get {e:FlE}: ∀ {fl:List FlE},FlR P G f ops done p fl→e∈fl→ ∃ o,ops[e.i]? =some o∧o.dst=some e.d∧rdy ops done e.i=true∧Wt ops p o=some true∧Nat.blt e.d f.n=true∧Rb p e.d=true∧ ∀ q,Ef P G p q o fun v q'=> ∃ g,v=e.V g∧q'=e.A g::q
 |x::r,⟨h,h2⟩,hm=>by
  rcases List.mem_cons.1 hm with rfl|hm
  · exact h
  exact h2.get hm
theorem X8 (A:HP)(q E:List HP):Le (A::(q++E)) (q++(A::E)):=by
 induction q with
 |nil=>exact Le.refl _
 |cons B r ih=>exact (Le.swap A B _).trans (ih.cons B)
theorem Le.midB (A:HP)(q E:List HP):Le (q++(A::E)) (A::(q++E)):=by
 induction q with
 |nil=>exact Le.refl _
 |cons B r ih=>exact (ih.cons B).trans (Le.swap B A _)
theorem Fp (hok:okR ops=true){i j:Nat}{x y:Oper}(hx:ops[i]? =some x)(hy:ops[j]? =some y)(hne:i≠j){D D':List Nat}(hi:rdy ops D i=true)(hj:rdy ops D' j=true)(hiD:j∉D)(hjD:i∉D'){d:Nat}(hd:x.dst=some d):y.dst≠some d:=by
 rcases Pl hok hx hy hne with h|h|h
 · exact absurd (E4 hx hi h) hiD
 · exact absurd (E4 hy hj h) hjD
 exact ((Fa h).1 d hd).2
theorem Ri (hok:okR ops=true)(hR:FlR P G f ops done p fl){S:FlS}{tm:Array Value}{w:World}(h1:(V5 S).Nodup)(h2: ∀ e∈S,e.1∈fl)(hn:tm.size=f.n)(ag:Agr tm p)(fa:fAgr tm S)(s:St G w (q++fCh S))
 {e:FlE} (he:e∈fl) (hx:e.i∉V5 S) {oe:Oper} (ho:ops[e.i]? =some oe) {K:Array Value→World→Prop} {Kp:List PanicEntry→Array Value→World→Prop}
 (hK: ∀ g tm' w',(V5 ((e,g)::S)).Nodup→(∀ x∈(e,g)::S,x.1∈fl)→tm'.size=f.n→Agr tm' p→fAgr tm' ((e,g)::S)→St G w' (q++fCh ((e,g)::S))→K tm' w'):OW P ops oe tm w K Kp:=by
 obtain ⟨o,ho',hd,hr,hw,hlt,hkf,hE⟩:=hR.get he
 rw [ho] at ho';cases ho'
 unfold OW
 rw [if_pos (Ya ag hw)]
 refine ((hE _).ap tm w ag s).mono fun en w' _ hh=> ?_
 obtain ⟨q',⟨v,rfl,g,rfl,rfl⟩,s'⟩:=hh
 have hsz:e.d<tm.size:=by rw [hn];simpa [Nat.blt_eq] using hlt
 refine hK g _ w' ?_ ?_ ?_ ?_ ?_ ?_
 · exact List.nodup_cons.2 ⟨hx,h1⟩
 · intro x hx;rcases List.mem_cons.1 hx with rfl|hx;exact he;exact h2 x hx
 · rw [Yg];exact hn
 · rw [hd];exact ag.put_free hkf
 · intro x hxm
   rw [hd]
   rcases List.mem_cons.1 hxm with rfl|hxm
   · simp [Wh,hsz]
   obtain ⟨o2,ho2,hd2,hr2,_,_,_,_⟩:=hR.get (h2 x hxm)
   have hne:e.i≠x.1.i:=fun e'=>hx (by rw [e'];exact List.mem_map_of_mem hxm)
   have hdd:=Fp hok ho ho2 hne hr hr2 (Vj hr2) (Vj hr) hd
   rw [hd2] at hdd
   have hdne:e.d≠x.1.d:=fun e'=>hdd (by rw [e'])
   have:=fa x hxm
   simpa [Wh,Array.getElem?_setIfInBounds,hdne] using this
 exact s'.le (X8 _ _ _)
theorem Yb (h:XF P G f Q ops k pk fl L n done p ds cs q):XD P G f Q ops k pk L n done p ds cs q:=fun a b tm w hn ag s hs=>by
 have:=h a b [] n tm w (by simp [V5]) (by simp) (by simp) hn ag (by intro e he;cases he) (by simpa [fCh] using s)
 simpa [V5] using this
theorem XF.back (h:XD P G f Q ops k pk L n done p ds cs q)(hL:HL q L:=by exact hlA):XF P G f Q ops k pk [] L n done p ds cs q:=fun a b S m tm w h1 h2 h3 hn ag fa s=>by
 cases S with
 |nil=>
  have e:m=n:=by simpa using h3
  subst e
  have s':St G w q:=by simpa [fCh] using s
  exact h a b tm w hn ag s' (hL.sl s')
 |cons x r=>exact absurd (h2 x (List.mem_cons_self ..)) (by simp)
def onlyF (ops:List Oper)(fl done:List Nat)(i:Nat):Bool:=(List.range ops.length).all fun j=>j==i||fl.contains j|| !rdy ops (fl++done) j
theorem XF.step {R:Value→List HP→Prop}(j:Nat){oj:Oper}(hR:FlR P G f ops done p fl)(ho:ops[j]? =some oj)(hE: ∀ E,Ef P G p (q++E) oj fun v q'=> ∃ q1,R v q1∧q'=q1++E)(hL:HL q L)
 (K: ∀ v q1,R v q1→XF P G f Q ops k pk fl (cut oj L) n (j::done) (Qv p oj.dst v) ds cs q1)
 (hon:onlyF ops (fl.map (·.i)) done j=true) (hjf:(fl.map (·.i)).contains j=false) (hr:rdy ops done j=true) (hw:Wt ops p oj=some true) (hd:dOk f.n oj.dst=true) (hlen:Nat.ble fl.length n=true) (hKL: ∀ v q1,R v q1→HL q1 (cut oj L)):
 XF P G f Q ops k pk fl L (n+1) done p ds cs q:=by
 intro a b S m
 induction m generalizing S with
 |zero=>
  intro tm w h1 h2 h3 hn ag fa s
  exfalso
  have hle:S.length≤fl.length:=by
   have h4:(V5 S).length≤(fl.map (·.i)).length:=by
    refine List.Nodup.length_le_of_subset h1 fun x hx=> ?_
    obtain ⟨e,he,rfl⟩:=List.mem_map.1 hx
    exact List.mem_map_of_mem (h2 e he)
   simpa [V5] using h4
  have:fl.length≤n:=by simpa using hlen
  omega
 |succ m ih=>
  intro tm w h1 h2 h3 hn ag fa s
  have hjS:j∉V5 S:=fun hm=>by
   obtain ⟨e,he,e'⟩:=List.mem_map.1 hm
   have:j∈fl.map (·.i):=by rw [←e'];exact List.mem_map_of_mem (h2 e he)
   simp [this] at hjf
  have hrj:=Nz hr hjS
  refine ⟨fun hnone=>absurd hrj (by simp [hnone j]),fun x ox hox hrx=> ?_⟩
  by_cases hxj:x=j
  · subst hxj
    rw [ho] at hox;cases hox
    unfold OW
    rw [if_pos (Ya ag hw)]
    refine ((hE (fCh S)).ap tm w ag s).mono fun en w' _ hh=> ?_
    obtain ⟨q',⟨v,rfl,q1,hv,rfl⟩,s'⟩:=hh
    refine ⟨((hKL v q1 hv).le (Wu q1 (fCh S))).sl s',?_⟩
    refine WA.congr _ (done:=V5 S++(x::done)) (fun y=>by simp only [List.mem_append,List.mem_cons];exact ⟨fun h=>by rcases h with h|h|h<;>simp [h],fun h=>by rcases h with h|h|h<;>simp [h]⟩) ?_
    refine K v q1 hv a b S m _ w' h1 h2 (by omega) (by rw [Yg];exact hn) (ag.put (hn ▸ hd)) ?_ s'
    intro e he
    obtain ⟨o2,ho2,hd2,hr2,_,_,_,_⟩:=hR.get (h2 e he)
    have hne:e.1.i≠x:=fun e'=>hjS (by rw [←e'];exact List.mem_map_of_mem he)
    have hdd:=Fp a ho2 ho hne hr2 hr (Vj hr) (Vj hr2) hd2
    have:=fa e he
    cases hdo:oj.dst with
    |none=>simpa [Wh] using this
    |some d=>
     have hdne:d≠e.1.d:=fun e'=>hdd (by rw [hdo,e'])
     simpa [Wh,Array.getElem?_setIfInBounds,hdne] using this
  have hxl:x<ops.length:=(List.getElem?_eq_some_iff.1 hox).1
  have hxf:x∈fl.map (·.i):=by
   have h4:=List.all_eq_true.1 hon x (by simpa using hxl)
   rcases Decidable.em (x∈fl.map (·.i)) with h5|h5
   · exact h5
   have h6:rdy ops (fl.map (·.i)++done) x=true:=Dl hrx (fun y hy=>by
    rcases List.mem_append.1 hy with hy|hy
    · obtain ⟨e,he,rfl⟩:=List.mem_map.1 hy
      exact List.mem_append_left _ (List.mem_map_of_mem (h2 e he))
    · exact List.mem_append_right _ hy) (fun hm=>by
    rcases List.mem_append.1 hm with hm|hm
    · exact h5 hm
    exact Vj hrx (List.mem_append_right _ hm))
   simp [hxj,h6] at h4
   simp at h5
   obtain ⟨y,hy,e⟩:=h4
   exact absurd e (h5 y hy)
  obtain ⟨e,he,rfl⟩:=List.mem_map.1 hxf
  have hxS:e.i∉V5 S:=fun hm=>Vj hrx (List.mem_append_left _ hm)
  refine Ri a hR h1 h2 hn ag fa s he hxS hox fun g tm' w' k1 k2 k3 k4 k5 k6=> ?_
  refine ⟨((hL.sub fun y hy=>(Us.1 hy).1).le (Wu q _)).sl k6,?_⟩
  exact WA.mono _ (fun y hy=>(Us.1 hy).1) (ih ((e,g)::S) tm' w' k1 k2 (by simp;omega) k3 k4 k5 k6)
theorem XF.absorb (i:Nat){e0:FlE}(he0:fl.find? (fun e=>e.i==i)=some e0)(hR:FlR P G f ops done p fl)(hL:HL q L)
 (K: ∀ g,XF P G f Q ops k pk (fl.filter fun e=> !(e.i==i)) L n (i::done) ((e0.d,e0.V g)::p) ds cs (e0.A g::q))
 (hnd:(fl.map (·.i)).Nodup) (hon:((List.range ops.length).all fun j=>(fl.map (·.i)).contains j|| !rdy ops (((fl.filter fun e=> !(e.i==i)).map (·.i))++done) j)=true) (hlen:Nat.ble fl.length (n+1)=true):
 XF P G f Q ops k pk fl L (n+1) done p ds cs q:=by
 have hm0:e0∈fl:=List.mem_of_find?_eq_some he0
 have hi0:e0.i=i:=by have:=List.find?_some he0;simpa using this
 have uniq: ∀ e∈fl,e.i=i→e=e0:=by
  intro e he hei
  have h1:=List.mem_iff_getElem.1 he
  have h2:=List.mem_iff_getElem.1 hm0
  obtain ⟨x,hx,rfl⟩:=h1
  obtain ⟨y,hy,rfl⟩:=h2
  have:x=y:=by
   have h3:(fl.map (·.i))[x]'(by simpa using hx)=(fl.map (·.i))[y]'(by simpa using hy):=by simp [hei,hi0]
   exact (List.getElem_inj hnd).1 h3
  subst this;rfl
 intro a b
 have inS: ∀ (S:FlS) m tm w g,(e0,g)∈S→(V5 S).Nodup→(∀ e∈S,e.1∈fl)→m+S.length=n+1→tm.size=f.n→Agr tm p→fAgr tm S→St G w (q++fCh S)→WA P ops (Ke' P G f Q k ds cs) (Kp' G Q f.n pk ds cs) m L (V5 S++done) tm w:=by
  intro S m tm w g hg h1 h2 h3 hn ag fa s
  obtain ⟨S1,S2,rfl⟩:=List.append_of_mem hg
  have hnd1:(V5 (S1++S2)).Nodup∧i∉V5 (S1++S2):=by
   unfold V5 at h1⊢
   rw [List.map_append,List.map_cons,←hi0] at*
   have h4:=List.perm_middle.nodup_iff.1 h1
   exact ⟨(List.nodup_cons.1 h4).2,(List.nodup_cons.1 h4).1⟩
  have:=K g a b (S1++S2) m tm w hnd1.1 (fun e he=>by
   have hef:e.1∈fl:=h2 e (by rcases List.mem_append.1 he with he|he<;>simp [he])
   refine List.mem_filter.2 ⟨hef,?_⟩
   have:e.1.i≠i:=fun e'=>hnd1.2 (by rw [←e'];exact List.mem_map_of_mem he)
   simp [this]) (by simp at h3⊢;omega) hn (by
   intro t u hu
   simp only [lkp] at hu
   cases hb:Nat.beq e0.d t with
   |true=>
    rw [hb] at hu
    have:=Nat.eq_of_beq_eq_true hb
    subst this
    simp at hu;subst hu
    exact fa (e0,g) hg
   |false=>rw [hb] at hu;exact ag t u (by simpa using hu)) (fun e he=>fa e (by rcases List.mem_append.1 he with he|he<;>simp [he])) (s.le (by
   unfold fCh
   rw [List.map_append,List.map_cons,List.map_append]
   rw [←List.append_assoc]
   refine (Le.midB _ _ _).trans ?_
   rw [List.append_assoc]
   exact Le.refl _))
  refine this.congr _ fun y=> ?_
  unfold V5
  simp only [List.map_append,List.map_cons,List.mem_append,List.mem_cons,hi0]
  exact ⟨fun h=>by rcases h with (h|h)|h|h<;>simp [h],fun h=>by rcases h with (h|h|h)|h<;>simp [h]⟩
 intro S m
 induction m generalizing S with
 |zero=>
  intro tm w h1 h2 h3 hn ag fa s
  by_cases hg: ∃ g,(e0,g)∈S
  · obtain ⟨g,hg⟩:=hg;exact inS S 0 tm w g hg h1 h2 h3 hn ag fa s
  exfalso
  have h4:(e0.i::V5 S).length≤(fl.map (·.i)).length:=by
   refine List.Nodup.length_le_of_subset (List.nodup_cons.2 ⟨fun hm=> ?_,h1⟩) fun x hx=> ?_
   · obtain ⟨e,he,e'⟩:=List.mem_map.1 hm
     have:=uniq e.1 (h2 e he) (e'.trans hi0)
     exact hg ⟨e.2,by rw [←this];exact he⟩
   rcases List.mem_cons.1 hx with rfl|hx
   · exact List.mem_map_of_mem hm0
   obtain ⟨e,he,rfl⟩:=List.mem_map.1 hx
   exact List.mem_map_of_mem (h2 e he)
  have:fl.length≤n+1:=by simpa using hlen
  simp [V5] at h4
  omega
 |succ m ih=>
  intro tm w h1 h2 h3 hn ag fa s
  by_cases hg: ∃ g,(e0,g)∈S
  · obtain ⟨g,hg⟩:=hg;exact inS S (m+1) tm w g hg h1 h2 h3 hn ag fa s
  have hiS:i∉V5 S:=fun hm=>by
   obtain ⟨e,he,e'⟩:=List.mem_map.1 hm
   have:=uniq e.1 (h2 e he) e'
   exact hg ⟨e.2,by rw [←this];exact he⟩
  obtain ⟨oi,hoi,hdi,hri,_⟩:=hR.get hm0
  rw [hi0] at hoi hri
  have hri':=Nz hri hiS
  refine ⟨fun hnone=>absurd hri' (by simp [hnone i]),fun x ox hox hrx=> ?_⟩
  have hxl:x<ops.length:=(List.getElem?_eq_some_iff.1 hox).1
  have hxf:x∈fl.map (·.i):=by
   have h4:=List.all_eq_true.1 hon x (by simpa using hxl)
   rcases Decidable.em (x∈fl.map (·.i)) with h5|h5
   · exact h5
   have h6:rdy ops ((fl.filter fun e=> !(e.i==i)).map (·.i)++done) x=true:=Dl hrx (fun y hy=>by
    rcases List.mem_append.1 hy with hy|hy
    · have hyi:y≠i:=fun e=>hiS (e ▸ hy)
      obtain ⟨e,he,rfl⟩:=List.mem_map.1 hy
      exact List.mem_append_left _ (List.mem_map_of_mem (List.mem_filter.2 ⟨h2 e he,by simpa using hyi⟩))
    · exact List.mem_append_right _ hy) (fun hm=>by
    rcases List.mem_append.1 hm with hm|hm
    · obtain ⟨e,he,rfl⟩:=List.mem_map.1 hm
      exact h5 (List.mem_map_of_mem (List.mem_filter.1 he).1)
    exact Vj hrx (List.mem_append_right _ hm))
   simp only [Bool.or_eq_true,Bool.not_eq_true'] at h4
   rcases h4 with h4|h4
   · exact absurd (by simpa using h4) h5
   rw [h6] at h4;cases h4
  obtain ⟨e,he,rfl⟩:=List.mem_map.1 hxf
  have hxS:e.i∉V5 S:=fun hm=>Vj hrx (List.mem_append_left _ hm)
  refine Ri a hR h1 h2 hn ag fa s he hxS hox fun g tm' w' k1 k2 k3 k4 k5 k6=> ?_
  refine ⟨((hL.sub fun y hy=>(Us.1 hy).1).le (Wu q _)).sl k6,?_⟩
  exact WA.mono _ (fun y hy=>(Us.1 hy).1) (ih ((e,g)::S) tm' w' k1 k2 (by simp;omega) k3 k4 k5 k6)
theorem Ae: ∀ a b:List HP,Le (a++b) (b++a)
 | [],b=>by rw [List.append_nil];exact Le.refl _
 |A::a,b=>((Ae a b).cons A).trans (X8 A b a)
theorem Le.liftR {q q':List HP}(h:Le q q')(E:List HP):Le (q++E) (q'++E):=(Ae q E).trans ((Nt E h).trans (Ae E q'))
theorem XF.pu_ (i:Nat)(hR:FlR P G f ops done p fl)(ho:ops[i]? =some o)(h:Pu P p o v)(hL:HL q L)(K:XF P G f Q ops k pk fl L n (i::done) (Qv p o.dst v) ds cs q)
 (hif:(fl.map (·.i)).contains i=false) (hr:rdy ops done i=true) (hw:Wt ops p o=some true) (hd:dOk f.n o.dst=true) (hlen:Nat.ble fl.length n=true):XF P G f Q ops k pk fl L (n+1) done p ds cs q:=by
 intro a b S m tm w h1 h2 h3 hn ag fa s
 have hiS:i∉V5 S:=fun hm=>by
  obtain ⟨e,he,e'⟩:=List.mem_map.1 hm
  have:i∈fl.map (·.i):=by rw [←e'];exact List.mem_map_of_mem (h2 e he)
  simp [this] at hif
 have hle:S.length≤fl.length:=by
  have h4:(V5 S).length≤(fl.map (·.i)).length:=by
   refine List.Nodup.length_le_of_subset h1 fun x hx=> ?_
   obtain ⟨e,he,rfl⟩:=List.mem_map.1 hx
   exact List.mem_map_of_mem (h2 e he)
  simpa [V5] using h4
 have h5:fl.length≤n:=by simpa using hlen
 obtain ⟨m,rfl⟩: ∃ m',m=m'+1:=⟨m - 1,by omega⟩
 have hS:=(hL.le (Wu q (fCh S))).sl s
 refine WA.first (Li:= []) a ho (fun ch tm w=>Kp'.of_put b ho ch tm w) (fun e he=>by cases he) m L _ tm w (fun e he=>by cases he) (Nz hr hiS) (.inl ⟨Ya ag hw,fun w' _=>h tm w' ag⟩) hS ?_
 refine WA.congr _ (done:=V5 S++(i::done)) (fun y=>by simp only [List.mem_append,List.mem_cons];exact ⟨fun h=>by rcases h with h|h|h<;>simp [h],fun h=>by rcases h with h|h|h<;>simp [h]⟩) ?_
 refine K a b S m _ w h1 h2 (by omega) (by rw [Yg];exact hn) (ag.put (hn ▸ hd)) ?_ s
 intro e he
 obtain ⟨o2,ho2,hd2,hr2,_,_,_,_⟩:=hR.get (h2 e he)
 have hne:e.1.i≠i:=fun e'=>hiS (by rw [←e'];exact List.mem_map_of_mem he)
 have hdd:=Fp a ho2 ho hne hr2 hr (Vj hr) (Vj hr2) hd2
 have:=fa e he
 cases hdo:o.dst with
 |none=>simpa [Wh] using this
 |some d=>
  have hdne:d≠e.1.d:=fun e'=>hdd (by rw [hdo,e'])
  simpa [Wh,Array.getElem?_setIfInBounds,hdne] using this
section
variable {d:Tmp}{op:Op}{ty:TypeId}{pos:String}{af:Array Edge}{gd:Option (Nat×Bool)}
theorem Tp (i:Nat)(hR:FlR P G f ops done p fl)(h:Pu P p ⟨some d,op,ty,pos,af,gd⟩ v)(K:XF P G f Q ops k pk fl L n (i::done) ((d,v)::p) ds cs q)(ho:ops[i]? =some ⟨some d,op,ty,pos,af,gd⟩:=by rfl)(hL:HL q L:=by exact hlA)
 (hif:(fl.map (·.i)).contains i=false:=by rfl) (hr:rdy ops done i=true:=by rfl) (hw:Wt ops p ⟨some d,op,ty,pos,af,gd⟩=some true:=by rfl) (hd:Nat.blt d f.n=true:=by rfl) (hlen:Nat.ble fl.length n=true:=by rfl):XF P G f Q ops k pk fl L (n+1) done p ds cs q:=
 .pu_ i hR ho h hL K hif hr hw hd hlen
theorem Wn (i:Nat){e0:FlE}(hR:FlR P G f ops done p fl)(K: ∀ g,XF P G f Q ops k pk (fl.filter fun e=> !(e.i==i)) L n (i::done) ((e0.d,e0.V g)::p) ds cs (e0.A g::q))(he0:fl.find? (fun e=>e.i==i)=some e0:=by rfl)(hL:HL q L:=by exact hlA)
 (hnd:(fl.map (·.i)).Nodup:=by decide) (hon:((List.range ops.length).all fun j=>(fl.map (·.i)).contains j|| !rdy ops (((fl.filter fun e=> !(e.i==i)).map (·.i))++done) j)=true:=by rfl) (hlen:Nat.ble fl.length (n+1)=true:=by rfl):
 XF P G f Q ops k pk fl L (n+1) done p ds cs q:= .absorb i he0 hR hL K hnd hon hlen
theorem XF.ef (i:Nat){R:Value→List HP→Prop}(hR:FlR P G f ops done p fl)(hE: ∀ E,Ef P G p (q++E) ⟨some d,op,ty,pos,af,gd⟩ fun v q'=> ∃ q1,R v q1∧q'=q1++E)
 (K: ∀ v q1,R v q1→HL q1 (cut ⟨some d,op,ty,pos,af,gd⟩ L)∧XF P G f Q ops k pk fl (cut ⟨some d,op,ty,pos,af,gd⟩ L) n (i::done) ((d,v)::p) ds cs q1)
 (ho:ops[i]? =some ⟨some d,op,ty,pos,af,gd⟩:=by rfl) (hL:HL q L:=by exact hlA) (hon:onlyF ops (fl.map (·.i)) done i=true:=by rfl) (hif:(fl.map (·.i)).contains i=false:=by rfl) (hr:rdy ops done i=true:=by rfl) (hw:Wt ops p ⟨some d,op,ty,pos,af,gd⟩=some true:=by rfl) (hd:Nat.blt d f.n=true:=by rfl) (hlen:Nat.ble fl.length n=true:=by rfl):
 XF P G f Q ops k pk fl L (n+1) done p ds cs q:= .step i hR ho hE hL (fun v q1 h=>(K v q1 h).2) hon hif hr hw hd hlen (fun v q1 h=>(K v q1 h).1)
end
theorem K9 {α:Type}{r:List HP}{fe:α→Value}{a b:Option Addr}{c c':Nat}{l m:List α}{e:TypeId}{d:Option Tmp}{ty':TypeId}{pos:String}{af:Array Edge}{gd:Option (Nat×Bool)}{x y:Operand}{t:TypeId}{z:Value}{bytes:Nat}(ht:P.underlying t=some (.slice e))(hi:(P.info? e).map (fun i=>(i.zero,i.size,i.bytes))=some (some z,1,bytes))(hz:z.cells.size=1)
 (hx:evp p x=some (.slice a l.length c)) (hy:evp p y=some (.slice b m.length c')) (hq:Le q (Wx.lsH fe e a c l::r)) (hs:Sees q b (m.map fe)) (h1: ∀ u,(fe u).oneCell'=true)
 (h63:l.length+m.length≤9223372036854775807) (hby:(l.length+m.length)*bytes≤140737488355328) (E:List HP):
 Ef P G p (q++E) ⟨d,.call ⟨.builtin .append, [x,y].toArray, [t,t].toArray⟩,ty',pos,af,gd⟩ fun v q'=> ∃ q1,(∃ a' c',v= .slice a' (l++m).length c'∧q1=Wx.lsH fe e a' c' (l++m)::r)∧q'=q1++E:=by
 intro tm w ag s
 obtain ⟨v,w',q',h1',h2',a',c'',h3,h4⟩:=Ye (P:=P) (G:=G) (d:=d) (ty':=ty') (pos:=pos) (af:=af) (gd:=gd) (r:=r++E) ht hi hz hx hy (hq.liftR E) (hs.le (Wu q E)) h1 h63 hby tm w ag s
 exact ⟨v,w',q',h1',h2',_,⟨a',c'',h3,rfl⟩,h4⟩
theorem A8 {V:Nat→Value}{A:Nat→HP}(h: ∀ q,Ef P G p q o fun v q'=> ∃ g,v=V g∧q'=A g::q)(E:List HP):Ef P G p (q++E) o fun v q'=> ∃ q1,(∃ g,v=V g∧q1=A g::q)∧q'=q1++E:=by
 intro tm w ag s
 obtain ⟨v,w',q',h1,h2,g,h3,h4⟩:=h (q++E) tm w ag s
 exact ⟨v,w',q',h1,h2,_,⟨g,h3,rfl⟩,h4⟩
end
end Wx
namespace Wx
open Go Go.RowKit
end Wx
namespace Wx
open Go Go.RowKit
section
variable {P:Program}{p:PE}{d:Option Tmp}{ty:TypeId}{pos:String}{af:Array Edge}{gd:Option (Nat×Bool)}{x y:Operand}{t t':TypeId}
theorem I7 {P:Program}{p:PE}{d:Option Tmp}{ty:TypeId}{pos:String}{af:Array Edge}{gd:Option (Nat×Bool)}{x y z:Operand}{t e:TypeId}{a:Option Addr}{n c sz:Nat}{kd kd':IntKind}{h m:Int}(hx:evp p x=some (.slice a n c))(hy:evp p y=some (.int kd h))(hm:evp p z=some (.int kd' m))(ht:P.underlying t=some (.slice e))(hs: ∀ w,(Go.sizeOf e).run P w= .ok sz w)(h0:0≤h)(h1:h≤m)(h2:m≤c):
 Pu P p ⟨d,.slice t x none (some y) (some z),ty,pos,af,gd⟩ (.slice a h.toNat m.toNat):=fun tm w ag=>by
 have hc:0≤h∧h≤m:=⟨h0,h1⟩
 have hm':0≤m∧m≤(c:Int):=⟨by omega,h2⟩
 have hz:a.map (fun x:Addr=>x.add 0)=a:=by cases a<;>simp [Addr.add]
 simp [execOp,Zd ag hx,Zd ag hy,Zd ag hm,Instr.sliceAt,Instr.slice,run_underlying ht,Instr.sliceBounds,Instr.sliceBound,asIntOf,hc,hm',hs,hz]
 intro hh;omega
theorem Pu.cap {P:Program}{p:PE}{d:Option Tmp}{ty:TypeId}{pos:String}{af:Array Edge}{gd:Option (Nat×Bool)}{x:Operand}{t e:TypeId}{A:Option Addr}{n m:Nat}{ats:List TypeId}(hx:evp p x=some (.slice A n m))(ht:P.underlying t=some (.slice e)):Pu P p ⟨d,.call ⟨.builtin .cap, [x].toArray,(t::ats).toArray⟩,ty,pos,af,gd⟩ (.int .i64 m):=
 fun tm w ag=>by simp [execOp,resolve,invoke,builtin,Zd ag hx,Builtin.cap_,run_underlying ht,goInt]
end
end Wx
namespace Wx
open Go Go.RowKit
inductive TD where
 |ptr|fn|ifc|bool|str|other
 |slc (e:Nat)
 |int (k:IntKind)
 |strct (fs:List (Nat×Nat))
structure TF where
 d:TD
 agg:Bool
 sz:Nat
 bz:Option (List (Nat×Nat)×List Value):=none
inductive Tr where
 |e
 |n (v:Option TF) (l r:Tr)
def Tr.get:Tr→Nat→Option TF
 | .e,_=>none
 | .n v l r,t=>bif Nat.beq t 0 then v else bif Nat.beq (t % 2) 1 then l.get (t / 2) else r.get (t / 2 - 1)
def TD.ok (P:Program)(t:TypeId):TD→Prop
 | .ptr=> ∃ e,P.underlying t=some (.pointer e)
 | .fn=> ∃ u r b,P.underlying t=some (.func u r b)
 | .ifc=> ∃ m,P.underlying t=some (.interface m)
 | .bool=>P.underlying t=some .bool
 | .str=>P.underlying t=some .string
 | .other=> ∃ D,P.underlying t=some D∧(match D with| .interface _=>false|_=>true)=true
 | .slc e=>P.underlying t=some (.slice e)
 | .int k=>P.underlying t=some (.int k)
 | .strct l=> ∃ fs,P.underlying t=some (.struct fs)∧fs.toList.map (fun F=>(F.type,F.offset))=l
def TF.ok (P:Program)(t:TypeId)(x:TF):Prop:=
 x.d.ok P t∧(∀ w,(isAgg t).run P w= .ok x.agg w)∧(∀ w,(Go.sizeOf t).run P w= .ok x.sz w)∧
 match x.bz with
 |none=>True
 |some (pl,z)=>(∀ w,(zeroValue t).run P w= .ok (.agg z.toArray) w)∧ ∃ fs,P.underlying t=some (.struct fs)∧fs.toList.mapM (fun f=>(P.info? f.type).map fun i=>(f.offset,i.size))=some pl
def Tr.ok (P:Program):Tr→(Nat→Nat)→Prop
 | .e,_=>True
 | .n v l r,f=>(match v with|none=>True|some x=>x.ok P (f 0))∧l.ok P (fun i=>f (2*i+1))∧r.ok P (fun i=>f (2*i+2))
theorem Zs {P:Program}: ∀ {T:Tr} {f:Nat→Nat} {t:Nat} {x:TF},T.ok P f→T.get t=some x→x.ok P (f t)
 | .e,_,_,_,_,h=>by simp [Tr.get] at h
 | .n v l r,f,t,x,⟨h1,h2,h3⟩,h=>by
  unfold Tr.get at h
  cases hb:Nat.beq t 0 with
  |true=>
   have:=Nat.eq_of_beq_eq_true hb;subst this
   rw [hb] at h;simp only [cond_true] at h;subst h;exact h1
  |false=>
   have h0:=Nat.ne_of_beq_eq_false hb
   rw [hb] at h;simp only [cond_false] at h
   cases hc:Nat.beq (t % 2) 1 with
   |true=>
    have:=Nat.eq_of_beq_eq_true hc
    rw [hc] at h;simp only [cond_true] at h
    have:=Zs h2 h
    have e:2*(t / 2)+1=t:=by omega
    simpa only [e] using this
   |false=>
    have:=Nat.ne_of_beq_eq_false hc
    rw [hc] at h;simp only [cond_false] at h
    have:=Zs h3 h
    have e:2*(t / 2 - 1)+2=t:=by omega
    simpa only [e] using this
def Pg:List Value→Nat→List Value→Option (List Value)
 |l,_, []=>some l
 | [],_,_=>none
 |_::l,0,v::vs=>match Pg l 0 vs with
  |some r=>some (v::r)
  |none=>none
 |x::l,n+1,vs=>match Pg l n vs with
  |some r=>some (x::r)
  |none=>none
theorem Cp: ∀ {l:List Value} {n:Nat} {vs r:List Value},Pg l n vs=some r→spl l n vs=r∧n+vs.length≤l.length∨vs= []∧r=l
 |l,n, [],r,h=>by right;cases l<;>cases n<;>simp [Pg] at h<;>simp [h]
 | [],n,v::vs,r,h=>by cases n<;>simp [Pg] at h
 |x::l,0,v::vs,r,h=>by
  simp only [Pg] at h
  split at h
  · rename_i r' hr
    cases h
    left
    rcases Cp hr with ⟨e,e2⟩|⟨rfl,rfl⟩
    · exact ⟨by simp [spl,e],by simp;omega⟩
    exact ⟨by cases r'<;>simp [spl],by simp⟩
  cases h
 |x::l,n+1,v::vs,r,h=>by
  simp only [Pg] at h
  split at h
  · rename_i r' hr
    cases h
    left
    rcases Cp hr with ⟨e,e2⟩|⟨h,_⟩
    · exact ⟨by simp [spl,e],by simp at e2⊢;omega⟩
    cases h
  cases h
def Ii:Value→Option (List Value)
 | .agg ⟨l⟩=>some l
 | .tuple _=>none
 |v=>some [v]
theorem Zzt {v:Value}{l:List Value}(h:Ii v=some l):v.cells.toList=l:=by
 unfold Ii at h
 split at h
 · cases h;rfl
 · cases h
 rename_i h1 h2
 cases h
 cases v<;>first|rfl|exact absurd rfl (h2 _)|(rename_i a;exact absurd rfl (h1 a.toList))
def bldF (pl:List (Nat×Nat))(p:PE):List Value→List (Nat×Operand)→Option (List Value)
 |cs, []=>some cs
 |cs,(i,x)::r=>match Gb pl i,evp p x with
  |some (off,sz),some v=>match Ii v with
   |some vs=>match Nat.beq vs.length sz && Nat.ble (off+sz) cs.length with
    |true=>match Pg cs off vs with
     |some cs'=>bldF pl p cs' r
     |none=>none
    |false=>none
   |none=>none
  |_,_=>none
theorem evl_cons {p:PE}{x:Operand}{l:List Operand}{v:Value}{vs:List Value}(h:evp p x=some v)(k:evl p l=some vs):evl p (x::l)=some (v::vs):=by simp [evl,h,k]
theorem Xs {pl:List (Nat×Nat)}{p:PE}: ∀ {ps:List (Nat×Operand)} {cs r:List Value},bldF pl p cs ps=some r→ ∃ us,evl p (ps.map (·.2))=some us∧Fb pl cs ((ps.map (·.1)).zip us)=some r
 | [],cs,r,h=>by simp only [bldF] at h;cases h;exact ⟨[],rfl,by cases pl<;>rfl⟩
 |(i,x)::ps,cs,r,h=>by
  simp only [bldF] at h
  split at h
  · rename_i off sz v h1 h2
    split at h
    · rename_i vs h3
      split at h
      · rename_i h4
        split at h
        · rename_i cs' h5
          obtain ⟨us,e1,e2⟩:=Xs h
          refine ⟨v::us,evl_cons h2 e1,?_⟩
          have e3:=Zzt h3
          have h4':=h4
          simp only [Bool.and_eq_true] at h4'
          simp only [List.map_cons,List.zip_cons_cons,Fb,h1,e3,h4,cond_true]
          have e4:=Nat.le_of_ble_eq_true h4'.2
          have e5:=Nat.eq_of_beq_eq_true h4'.1
          have e6:spl cs off vs=cs':=by
           rcases Cp h5 with ⟨e,_⟩|⟨rfl,rfl⟩
           · exact e
           cases cs'<;>cases off<;>rfl
          rw [e6];exact e2
        cases h
      cases h
    cases h
  cases h
abbrev SR:=Option (Value×Option Prop)
def bin (op:BinOp)(T:Tr)(t:TypeId):Value→Value→SR
 | .int kd m,.int kd' n=>match decide (kd=kd') with
  |true=>match op with
   | .eql=>some (.bool (m==n),none)
   | .neq=>some (.bool (m !=n),none)
   | .lss=>some (.bool (decide (m<n)),none)
   | .leq=>some (.bool (decide (m≤n)),none)
   | .gtr=>some (.bool (decide (n<m)),none)
   | .geq=>some (.bool (decide (n≤m)),none)
   | .add=>match kd with
    | .i64=>some (.int .i64 (m+n),some (-9223372036854775808≤m+n∧m+n≤9223372036854775807))
    |k=>some (.int k (k.wrap (m+n)),none)
   | .sub=>match kd with
    | .i64=>some (.int .i64 (m - n),some (-9223372036854775808≤m - n∧m - n≤9223372036854775807))
    |k=>some (.int k (k.wrap (m - n)),none)
   | .mul=>match kd with
    | .i64=>some (.int .i64 (m*n),some (-9223372036854775808≤m*n∧m*n≤9223372036854775807))
    |k=>some (.int k (k.wrap (m*n)),none)
   | .rem=>some (.int kd (m.tmod n),some (n≠0))
   | .quo=>some (.int kd (kd.wrap (m.tdiv n)),some (n≠0))
   | .shr=>some (.int kd (m.fdiv (2 ^ min n.toNat kd.bits)),some (0≤n))
   | .shl=>some (.int kd (kd.wrap (m*2 ^ min n.toNat kd.bits)),some (0≤n))
   | .and=>some (.int kd (kd.wrap ((BitVec.ofInt kd.bits m &&& BitVec.ofInt kd.bits n).toNat:Int)),none)
   | .or=>some (.int kd (kd.wrap ((BitVec.ofInt kd.bits m|||BitVec.ofInt kd.bits n).toNat:Int)),none)
   |_=>none
  |false=>match op with
   | .shr=>some (.int kd (m.fdiv (2 ^ min n.toNat kd.bits)),some (0≤n))
   | .shl=>some (.int kd (kd.wrap (m*2 ^ min n.toNat kd.bits)),some (0≤n))
   |_=>none
 | .bool a,.bool b=>match op,T.get t with
  | .eql,some ⟨.bool,_,_,_⟩=>some (.bool (a==b),none)
  | .neq,some ⟨.bool,_,_,_⟩=>some (.bool (a !=b),none)
  |_,_=>none
 | .string a,.string b=>match op with
  | .eql=>some (.bool (a.toList==b.toList),none)
  | .neq=>some (.bool (!(a.toList==b.toList)),none)
  |_=>none
 |_,_=>none
def nilc (op:BinOp)(T:Tr)(t:TypeId):Value→Value→SR
 | .pointer A,.pointer none=>match op,T.get t with
  | .eql,some ⟨.ptr,_,_,_⟩=>some (.bool A.isNone,none)
  | .neq,some ⟨.ptr,_,_,_⟩=>some (.bool A.isSome,none)
  |_,_=>none
 | .slice A _ _,.slice none 0 0=>match op,T.get t with
  | .eql,some ⟨.slc _,_,_,_⟩=>some (.bool A.isNone,none)
  | .neq,some ⟨.slc _,_,_,_⟩=>some (.bool A.isSome,none)
  |_,_=>none
 |_,_=>none
def sxO (T:Tr)(p:PE):Op→SR
 | .move x=>match evp p x with
  |some v=>some (v,none)
  |none=>none
 | .assign x=>match evp p x with
  |some v=>some (v,none)
  |none=>none
 | .pick c a b=>match evp p c with
  |some (.bool true)=>match evp p a with
   |some v=>some (v,none)
   |none=>none
  |some (.bool false)=>match evp p b with
   |some v=>some (v,none)
   |none=>none
  |_=>none
 | .extract x n=>match evp p x with
  |some (.tuple ⟨vs⟩)=>match nth vs n with
   |some v=>some (v,none)
   |none=>none
  |_=>none
 | .makeFunc fn ⟨l⟩ ⟨m⟩=>match evl p l,evl p m with
  |some fs,some ms=>some (.func fn fs.toArray ms.toArray,none)
  |_,_=>none
 | .makeInterface t x=>match evp p x,T.get t with
  |some v,some ⟨d,_,_,_⟩=>match d with
   | .ifc=>none
   |_=>some (.iface t v,none)
  |_,_=>none
 | .nilCheck x=>match evp p x with
  |some (.pointer (some A))=>some (.pointer (some A),none)
  |some (.func (.func f) l m)=>some (.func (.func f) l m,none)
  |_=>none
 | .unOp .not _ x=>match evp p x with
  |some (.bool true)=>some (.bool false,none)
  |some (.bool false)=>some (.bool true,none)
  |_=>none
 | .unOp .neg _ x=>match evp p x with
  |some (.int kd n)=>some (.int kd (kd.wrap (0 - n)),none)
  |_=>none
 | .convert s t x=>match evp p x,T.get s,T.get t with
  |some (.int _ n),some ⟨.int _,_,_,_⟩,some ⟨.int kd,_,_,_⟩=>match kd with
   | .i64=>some (.int .i64 n,some (-9223372036854775808≤n∧n≤9223372036854775807))
   |k=>some (.int k (k.wrap n),none)
  |_,_,_=>none
 | .fieldAddr t x n=>match evp p x,T.get t with
  |some (.pointer (some ⟨b,o,none⟩)),some ⟨.strct l,_,_,_⟩=>match Gb l n with
   |some (ft,off)=>match T.get ft with
    |some ⟨_,_,_+1,_⟩=>some (.pointer (some ⟨b,o+off,none⟩),none)
    |_=>none
   |none=>none
  |_,_=>none
 | .field t x n=>match evp p x,T.get t with
  |some (.agg ⟨vs⟩),some ⟨.strct l,_,_,_⟩=>match Gb l n with
   |some (ft,off)=>match T.get ft with
    |some ⟨_,false,_,_⟩=>match nth vs off with
     |some v=>some (v,none)
     |none=>none
    |some ⟨_,true,sz,_⟩=>some (.agg (Wx.sub vs off sz).toArray,none)
    |none=>none
   |none=>none
  |_,_=>none
 | .indexAddr t x i=>match evp p x,evp p i,T.get t with
  |some (.slice (some ⟨b,o,none⟩) n _),some (.int _ j),some ⟨.slc e,_,_,_⟩=>match T.get e with
   |some ⟨_,_,sz,_⟩=>some (.pointer (some ⟨b,o+j.toNat*sz,none⟩),some (0≤j∧j<n))
   |none=>none
  |_,_,_=>none
 | .slice t x none (some h) none=>match evp p x,evp p h,T.get t with
  |some (.slice a _ c),some (.int _ j),some ⟨.slc e,_,_,_⟩=>match T.get e with
   |some _=>some (.slice a j.toNat c,some (0≤j∧j≤c))
   |none=>none
  |_,_,_=>none
 | .slice t x none (some h) (some m)=>match evp p x,evp p h,evp p m,T.get t with
  |some (.slice a _ c),some (.int _ j),some (.int _ m),some ⟨.slc e,_,_,_⟩=>match T.get e with
   |some _=>some (.slice a j.toNat m.toNat,some (0≤j∧j≤m∧m≤c))
   |none=>none
  |_,_,_,_=>none
 | .slice t x (some h) none none=>match evp p x,evp p h,T.get t with
  |some (.slice a n c),some (.int _ j),some ⟨.slc e,_,_,_⟩=>match T.get e with
   |some ⟨_,_,sz,_⟩=>some (.slice (sufA a c j.toNat sz) (n - j.toNat) (c - j.toNat),some (0≤j∧j≤n))
   |none=>none
  |_,_,_=>none
 | .build t ⟨ps⟩=>match T.get t with
  |some ⟨_,_,_,some (pl,z)⟩=>match bldF pl p z ps with
   |some cells=>some (.agg cells.toArray,none)
   |none=>none
  |_=>none
 | .call ⟨.builtin .len,⟨[x]⟩,⟨t::_⟩⟩=>match evp p x,T.get t with
  |some (.slice _ n _),some ⟨.slc _,_,_,_⟩=>some (.int .i64 n,none)
  |some (.string s),some ⟨.str,_,_,_⟩=>some (.int .i64 s.size,none)
  |_,_=>none
 | .call ⟨.builtin .cap,⟨[x]⟩,⟨t::_⟩⟩=>match evp p x,T.get t with
  |some (.slice _ _ c),some ⟨.slc _,_,_,_⟩=>some (.int .i64 c,none)
  |_,_=>none
 | .call ⟨.builtin .max,⟨[x,y]⟩,_⟩=>match evp p x,evp p y with
  |some (.int kd m),some (.int _ n)=>some (.int kd (max m n),none)
  |_,_=>none
 | .call ⟨.builtin .min,⟨[x,y]⟩,_⟩=>match evp p x,evp p y with
  |some (.int kd m),some (.int _ n)=>some (.int kd (min m n),none)
  |_,_=>none
 | .binOp op t x y _=>match y with
  | .const (.pointer none)=>match evp p x with
   |some v=>nilc op T t v (.pointer none)
   |none=>none
  | .const (.slice none 0 0)=>match evp p x with
   |some v=>nilc op T t v (.slice none 0 0)
   |none=>none
  |y=>match evp p x,evp p y with
   |some v,some u=>bin op T t v u
   |_,_=>none
 |_=>none
section sound
variable {P:Program}{T:Tr}{p:PE}{v:Value}{c:Option Prop}{d:Option Tmp}{ty:TypeId}{pos:String}{af:Array Edge}{gd:Option (Nat×Bool)}
theorem kd_of {a b:IntKind}(h:decide (a=b)=true):b=a:=(of_decide_eq_true h).symm
theorem bin_ok {op:BinOp}{t t':TypeId}{x y:Operand}{a b:Value}(hT:T.ok P id)(hx:evp p x=some a)(hy:evp p y=some b)(h:bin op T t a b=some (v,c))(hc: ∀ φ,c=some φ→φ):
 Pu P p ⟨d,.binOp op t x y t',ty,pos,af,gd⟩ v:=by
 unfold bin at h
 split at h
 · split at h
   · rename_i hd
     have:=kd_of hd;subst this
     split at h<;>try (split at h)
     all_goals first
      |cases h
      |skip
     all_goals first
      |exact Pu.eql hx hy
      |exact Pu.neq hx hy
      |exact Pu.lss hx hy
      |exact Pu.leq hx hy
      |exact Pu.gtr hx hy
      |exact Pu.geq hx hy
      |exact Pu.add hx hy (hc _ rfl).1 (hc _ rfl).2
      |exact X5 hx hy
      |exact Pu.sub hx hy (hc _ rfl).1 (hc _ rfl).2
      |exact X1 hx hy
      |exact Pu.mul hx hy (hc _ rfl).1 (hc _ rfl).2
      |exact X4 hx hy
      |exact Pu.rem hx hy (hc _ rfl)
      |exact Ad hx hy (hc _ rfl)
      |exact Pu.shr hx hy (hc _ rfl)
      |exact Pu.shl hx hy (hc _ rfl)
      |exact Pu.and hx hy
      |exact Pu.or hx hy
   split at h<;>cases h
   · exact Pu.shr hx hy (hc _ rfl)
   exact Pu.shl hx hy (hc _ rfl)
 · split at h<;>first|(cases h;done)|skip
   · rename_i hg
     cases h;exact Pu.eqlB hx hy (Zs hT hg).1
   rename_i hg
   cases h;exact Pu.neqB hx hy (Zs hT hg).1
 · split at h<;>cases h
   · exact Pu.eqlS hx hy
   exact Pu.neqS hx hy
 cases h
theorem Xz {op:BinOp}{t t':TypeId}{x:Operand}{a b:Value}(hT:T.ok P id)(hx:evp p x=some a)(h:nilc op T t a b=some (v,c)):
 Pu P p ⟨d,.binOp op t x (.const b) t',ty,pos,af,gd⟩ v:=by
 unfold nilc at h
 split at h
 · split at h
   · rename_i hg
     obtain ⟨⟨e,he⟩,_⟩:=Zs hT hg
     cases h;exact Zze hx he
   · rename_i hg
     obtain ⟨⟨e,he⟩,_⟩:=Zs hT hg
     cases h;exact Zzs hx he
   cases h
 · split at h
   · rename_i hg
     have he:=(Zs hT hg).1
     cases h;exact I9 hx he
   · rename_i hg
     have he:=(Zs hT hg).1
     cases h;exact I8 hx he
   cases h
 cases h
theorem TD.some {t:TypeId}{D:TD}(h:D.ok P t): ∃ E,P.underlying t=some E∧((∀ _:D= .ifc,False)→(match E with| .interface _=>false|_=>true)=true):=by
 cases D with
 |ptr=>obtain ⟨e,he⟩:=h;exact ⟨_,he,fun _=>rfl⟩
 |fn=>obtain ⟨u,r,b,he⟩:=h;exact ⟨_,he,fun _=>rfl⟩
 |ifc=>obtain ⟨u,he⟩:=h;exact ⟨_,he,fun k=>(k rfl).elim⟩
 |bool=>exact ⟨_,h,fun _=>rfl⟩
 |str=>exact ⟨_,h,fun _=>rfl⟩
 |other=>obtain ⟨E,he,hk⟩:=h;exact ⟨E,he,fun _=>hk⟩
 |slc e=>exact ⟨_,h,fun _=>rfl⟩
 |int k=>exact ⟨_,h,fun _=>rfl⟩
 |strct l=>obtain ⟨u,he,_⟩:=h;exact ⟨_,he,fun _=>rfl⟩
theorem fld {l:List (Nat×Nat)}{n:Nat}{ft off:Nat}{fs:Array Field}(h:fs.toList.map (fun F=>(F.type,F.offset))=l)(k:Gb l n=some (ft,off)):(fs[n]?).map (fun F=>(F.type,F.offset))=some (ft,off):=by
 rw [Xq,←h] at k
 simpa using k
theorem sxO_ok {op:Op}(hT:T.ok P id)(h:sxO T p op=some (v,c))(hc: ∀ φ,c=some φ→φ):Pu P p ⟨d,op,ty,pos,af,gd⟩ v:=by
 unfold sxO at h
 split at h
 · split at h<;>cases h;exact Pu.move ‹_›
 · split at h<;>cases h;exact Pu.assign ‹_›
 · split at h
   · split at h<;>cases h;exact Pu.pickT ‹_› ‹_›
   · split at h<;>cases h;exact Pu.pickF ‹_› ‹_›
   cases h
 · split at h
   · split at h<;>cases h;exact Pu.extract ‹_› ‹_›
   cases h
 · split at h<;>cases h;exact Pu.makeFunc ‹_› ‹_›
 · split at h
   · rename_i hx hg
     obtain ⟨E,he,hk⟩:=TD.some (Zs hT hg).1
     split at h
     · cases h
     rename_i hn
     cases h;refine Pu.makeInterface hx he ?_;have hk':=hk fun e=>hn e;clear hk;revert hk';cases E<;>exact fun e=>e
   cases h
 · split at h<;>cases h
   · exact Pu.nilCheck ‹_›
   exact Ac ‹_›
 · split at h<;>cases h
   · exact Pu.not (z:=true) ‹_›
   exact Pu.not (z:=false) ‹_›
 · split at h<;>cases h;exact X3 ‹_›
 · split at h
   · rename_i hx hs ht
     have h1:=(Zs hT hs).1
     have h2:=(Zs hT ht).1
     split at h<;>cases h
     · exact Pu.conv hx h1 h2 (Uz (hc _ rfl).1 (hc _ rfl).2)
     exact L9 hx h1 h2
   cases h
 · split at h
   · rename_i hx ht
     obtain ⟨⟨fs,h1,h2⟩,_⟩:=Zs hT ht
     split at h
     · rename_i hn
       split at h<;>cases h
       rename_i hf
       exact Pu.fieldAddr _ _ _ hx h1 (fld h2 hn) (Zs hT hf).2.2.1
     cases h
   cases h
 · split at h
   · rename_i hx ht
     obtain ⟨⟨fs,h1,h2⟩,_⟩:=Zs hT ht
     split at h
     · rename_i hn
       split at h
       · rename_i hf
         split at h<;>cases h
         exact Pu.field _ _ hx h1 (fld h2 hn) (Zs hT hf).2.1 ‹_›
       · rename_i hf
         cases h
         exact Zzo _ _ hx h1 (fld h2 hn) (Zs hT hf).2.1 (Zs hT hf).2.2.1
       cases h
     cases h
   cases h
 · split at h
   · rename_i hx hy ht
     split at h<;>cases h
     rename_i he
     exact Pu.indexAddr hx hy (Zs hT ht).1 (Zs hT he).2.2.1 (hc _ rfl).1 (hc _ rfl).2
   cases h
 · split at h
   · rename_i hx hy ht
     split at h<;>cases h
     rename_i he
     exact I6 hx hy (Zs hT ht).1 (Zs hT he).2.2.1 (hc _ rfl).1 (hc _ rfl).2
   cases h
 · split at h
   · rename_i hx hy hm ht
     split at h<;>cases h
     rename_i he
     exact I7 hx hy hm (Zs hT ht).1 (Zs hT he).2.2.1 (hc _ rfl).1 (hc _ rfl).2.1 (hc _ rfl).2.2
   cases h
 · split at h
   · rename_i hx hy ht
     split at h<;>cases h
     rename_i he
     exact I5 hx hy (Zs hT ht).1 (Zs hT he).2.2.1 (hc _ rfl).1 (hc _ rfl).2
   cases h
 · split at h
   · rename_i ht
     obtain ⟨_,_,_,h1,fs,h2,h3⟩:=Zs hT ht
     split at h<;>cases h
     rename_i hb
     obtain ⟨us,e1,e2⟩:=Xs hb
     exact Pu.build _ h1 h2 h3 e1 e2
   cases h
 · split at h
   · rename_i hx ht
     cases h;exact Pu.len hx (Zs hT ht).1
   · rename_i hx ht
     cases h;exact Pu.lenS hx (Zs hT ht).1
   cases h
 · split at h
   · rename_i hx ht
     cases h;exact Pu.cap hx (Zs hT ht).1
   cases h
 · split at h<;>cases h;exact Pu.max2 ‹_› ‹_›
 · split at h<;>cases h;exact Pu.min2 ‹_› ‹_›
 · split at h
   · split at h
     · exact Xz hT ‹_› h
     cases h
   · split at h
     · exact Xz hT ‹_› h
     cases h
   split at h
   · exact bin_ok hT ‹_› ‹_› h hc
   cases h
 cases h
end sound
inductive Md where
 |code
 |ops (ops l:List Oper)
def Y (P:Program)(G:World)(f:Fc)(Q:Y3)(md:Md)(k:List Item)(p:PE)(ds:List Deferred)(cs:List Frame)(q:List HP):Prop:=
 match md with
 | .code=>X P G f Q k p ds cs q
 | .ops ops l=>XO P G f Q ops.toArray k l p ds cs q
structure Sta where
 md:Md
 k:List Item
 p:PE
 c:List Prop
def Kd:List Prop→Prop
 | []=>True
 |φ::r=>φ∧Kd r
def opS (T:Tr)(ops:List Oper)(p:PE)(o:Oper):SR:=
 match Wt ops p o with
 |some true=>sxO T p o.op
 |some false=>some (undef,none)
 |none=>none
def putO (n:Nat)(p:PE)(v:Value):Option Tmp→Option PE
 |none=>some p
 |some d=>match Nat.blt d n with
  |true=>some ((d,v)::p)
  |false=>none
def Xf:Op→Bool
 | .defer _=>true
 |_=>false
def st1 (T:Tr)(n:Nat):Md→List Item→PE→List Prop→Option Sta
 | .ops ops [],k,p,c=>some ⟨.code,k,p,c⟩
 | .ops ops (o::l),k,p,c=>match opS T ops p o with
  |some (v,φ)=>match putO n p v o.dst,Xf o.op with
   |some p',false=>match φ with
    |none=>some ⟨.ops ops l,k,p',c⟩
    |some φ=>some ⟨.ops ops l,k,p',φ::c⟩
   |_,_=>none
  |none=>none
 | .code,.code (.seq a b)::k,p,c=>some ⟨.code,.code a:: .code b::k,p,c⟩
 | .code,.code .skip::k,p,c=>some ⟨.code,k,p,c⟩
 | .code,.code (.label _)::k,p,c=>some ⟨.code,k,p,c⟩
 | .code,.inBlock _::k,p,c=>some ⟨.code,k,p,c⟩
 | .code,.inScope _::k,p,c=>some ⟨.code,k,p,c⟩
 | .code,.code (.block i b)::k,p,c=>some ⟨.code,.code b:: .inBlock i::k,p,c⟩
 | .code,.code (.scope b)::k,p,c=>some ⟨.code,.code b:: .inScope b::k,p,c⟩
 | .code,.code (.exit i)::k,p,c=>match exitTo i k with
  |some k'=>some ⟨.code,k',p,c⟩
  |none=>none
 | .code,.code (.region _ ⟨ops⟩ false)::k,p,c=>some ⟨.ops ops ops,k,p,c⟩
 | .code,.code (.cond x a b)::k,p,c=>match evp p x with
  |some (.bool true)=>some ⟨.code,.code a::k,p,c⟩
  |some (.bool false)=>some ⟨.code,.code b::k,p,c⟩
  |_=>none
 |_,_,_,_=>none
def stn (T:Tr)(n:Nat):Nat→Md→List Item→PE→List Prop→Option Sta
 |0,md,k,p,c=>some ⟨md,k,p,c⟩
 |m+1,md,k,p,c=>match st1 T n md k p c with
  |some ⟨md',k',p',c'⟩=>stn T n m md' k' p' c'
  |none=>none
section
variable {P:Program}{G:World}{f:Fc}{Q:Y3}{T:Tr}{md:Md}{k:List Item}{p:PE}{c:List Prop}{ds:List Deferred}{cs:List Frame}{q:List HP}
theorem opS_ok {ops:List Oper}{o:Oper}{v:Value}{φ:Option Prop}(hT:T.ok P id)(h:opS T ops p o=some (v,φ))(hc: ∀ ψ,φ=some ψ→ψ):
 (Wt ops p o=some true∧Pu P p o v)∨(Wt ops p o=some false∧v=undef):=by
 unfold opS at h
 split at h
 · rename_i hw
   exact .inl ⟨hw,sxO_ok hT h hc⟩
 · rename_i hw
   cases h;exact .inr ⟨hw,rfl⟩
 cases h
theorem O7 {n:Nat}{v:Value}{d:Option Tmp}{p':PE}(h:putO n p v d=some p'):dOk n d=true∧p'=Qv p d v:=by
 unfold putO at h
 split at h
 · cases h;exact ⟨rfl,rfl⟩
 split at h
 · rename_i hb;cases h;exact ⟨hb,rfl⟩
 cases h
theorem st1_ok {s:Sta}(hT:T.ok P id)(h:st1 T f.n md k p c=some s)(hc:Kd s.c)(K:Y P G f Q s.md s.k s.p ds cs q):Y P G f Q md k p ds cs q∧Kd c:=by
 unfold st1 at h
 split at h
 · cases h;exact ⟨XO.nil K,hc⟩
 · rename_i ops o l
   split at h
   · rename_i v φ hop
     split at h
     · rename_i p' hp hd
       have hdf: ∀ c,o.op≠ .defer c:=by
        intro c e;rw [e] at hd;simp [Xf] at hd
       obtain ⟨h1,h2⟩:=O7 hp
       subst h2
       have key: ∀ (φ':Option Prop),φ=φ'→(∀ ψ,φ'=some ψ→ψ)→XO P G f Q ops.toArray k l (Qv p o.dst v) ds cs q→XO P G f Q ops.toArray k (o::l) p ds cs q:=by
        rintro _ rfl hψ K
        rcases opS_ok hT hop hψ with ⟨hw,hpu⟩|⟨hw,rfl⟩
        · exact .pu_ hpu K hw h1 hdf
        exact .pass_ hw h1 K
       split at h
       · cases h;exact ⟨key _ rfl (fun _ e=>by cases e) K,hc⟩
       rename_i ψ
       cases h;exact ⟨key _ rfl (fun _ e=>by cases e;exact hc.1) K,hc.2⟩
     cases h
   cases h
 · cases h;exact ⟨X.seq K,hc⟩
 · cases h;exact ⟨X.skip K,hc⟩
 · cases h;exact ⟨X.label K,hc⟩
 · cases h;exact ⟨X.inBlock K,hc⟩
 · cases h;exact ⟨X.inScope K,hc⟩
 · cases h;exact ⟨X.block K,hc⟩
 · cases h;exact ⟨X.scope K,hc⟩
 · split at h
   · cases h;exact ⟨X.exit ‹_› K,hc⟩
   cases h
 · cases h;exact ⟨X.region K,hc⟩
 · split at h
   · cases h;exact ⟨X.condT ‹_› K,hc⟩
   · cases h;exact ⟨X.condF ‹_› K,hc⟩
   cases h
 cases h
theorem Ep (hT:T.ok P id): ∀ {m:Nat} {md:Md} {k:List Item} {p:PE} {c:List Prop} {s:Sta},stn T f.n m md k p c=some s→Kd s.c→Y P G f Q s.md s.k s.p ds cs q→Y P G f Q md k p ds cs q∧Kd c
 |0,md,k,p,c,s,h,hc,K=>by cases h;exact ⟨K,hc⟩
 |m+1,md,k,p,c,s,h,hc,K=>by
  simp only [stn] at h
  split at h
  · rename_i md' k' p' c' h1
    obtain ⟨K',hc'⟩:=Ep hT h hc K
    exact st1_ok hT h1 hc' K'
  cases h
variable {k':List Item}{p':PE}{ops l ops' l':List Oper}
theorem stXX (hT:T.ok P id)(m:Nat)(h:stn T f.n m .code k p []=some ⟨.code,k',p',c⟩)(hc:Kd c)(K:X P G f Q k' p' ds cs q):X P G f Q k p ds cs q:=(Ep (Q:=Q) (q:=q) (ds:=ds) (cs:=cs) hT h hc K).1
theorem stXO (hT:T.ok P id)(m:Nat)(h:stn T f.n m .code k p []=some ⟨.ops ops' l',k',p',c⟩)(hc:Kd c)(K:XO P G f Q ops'.toArray k' l' p' ds cs q):X P G f Q k p ds cs q:=(Ep (Q:=Q) (q:=q) (ds:=ds) (cs:=cs) hT h hc K).1
theorem stOX (hT:T.ok P id)(m:Nat)(h:stn T f.n m (.ops ops l) k p []=some ⟨.code,k',p',c⟩)(hc:Kd c)(K:X P G f Q k' p' ds cs q):XO P G f Q ops.toArray k l p ds cs q:=(Ep (Q:=Q) (q:=q) (ds:=ds) (cs:=cs) hT h hc K).1
theorem stOO (hT:T.ok P id)(m:Nat)(h:stn T f.n m (.ops ops l) k p []=some ⟨.ops ops' l',k',p',c⟩)(hc:Kd c)(K:XO P G f Q ops'.toArray k' l' p' ds cs q):XO P G f Q ops.toArray k l p ds cs q:=(Ep (Q:=Q) (q:=q) (ds:=ds) (cs:=cs) hT h hc K).1
end
structure StD where
 n:Nat
 done:List Nat
 p:PE
 c:List Prop
def sdn (T:Tr)(fn:Nat)(ops:List Oper):List Nat→Nat→List Nat→PE→List Prop→Option StD
 | [],n,done,p,c=>some ⟨n,done,p,c⟩
 |i::r,n,done,p,c=>match n,ops[i]?,rdy ops done i with
  |m+1,some o,true=>match opS T ops p o with
   |some (v,φ)=>match putO fn p v o.dst with
    |some p'=>match φ with
     |none=>sdn T fn ops r m (i::done) p' c
     |some φ=>sdn T fn ops r m (i::done) p' (φ::c)
    |none=>none
   |none=>none
  |_,_,_=>none
section
variable {P:Program}{G:World}{f:Fc}{Q:Y3}{T:Tr}{ops:List Oper}{k:List Item}{pk:PE}{L:Rds}{ds:List Deferred}{cs:List Frame}{q:List HP}
theorem S6 (hT:T.ok P id): ∀ {is:List Nat} {n:Nat} {done:List Nat} {p:PE} {c:List Prop} {s:StD},sdn T f.n ops is n done p c=some s→Kd s.c→XD P G f Q ops k pk L s.n s.done s.p ds cs q→XD P G f Q ops k pk L n done p ds cs q∧Kd c
 | [],n,done,p,c,s,h,hc,K=>by cases h;exact ⟨K,hc⟩
 |i::r,n,done,p,c,s,h,hc,K=>by
  simp only [sdn] at h
  split at h
  · rename_i m o ho hr
    split at h
    · rename_i v φ hop
      split at h
      · rename_i p' hp
        obtain ⟨h1,h2⟩:=O7 hp
        subst h2
        have key: ∀ (φ':Option Prop),φ=φ'→(∀ ψ,φ'=some ψ→ψ)→XD P G f Q ops k pk L m (i::done) (Qv p o.dst v) ds cs q→XD P G f Q ops k pk L (m+1) done p ds cs q:=by
         rintro _ rfl hψ K
         rcases opS_ok hT hop hψ with ⟨hw,hpu⟩|⟨hw,rfl⟩
         · exact .pu_ i ho hpu K hr hw h1
         exact .pass_ i ho K hr hw h1
        split at h
        · obtain ⟨K',hc'⟩:=S6 hT h hc K
          exact ⟨key _ rfl (fun _ e=>by cases e) K',hc'⟩
        obtain ⟨K',hc'⟩:=S6 hT h hc K
        exact ⟨key _ rfl (fun _ e=>by cases e;exact hc'.1) K',hc'.2⟩
      cases h
    cases h
  cases h
variable {n n':Nat}{done done':List Nat}{p p':PE}{c:List Prop}
theorem stDD (hT:T.ok P id)(is:List Nat)(h:sdn T f.n ops is n done p []=some ⟨n',done',p',c⟩)(hc:Kd c)(K:XD P G f Q ops k pk L n' done' p' ds cs q):XD P G f Q ops k pk L n done p ds cs q:=(S6 (Q:=Q) (q:=q) (ds:=ds) (cs:=cs) hT h hc K).1
end
def G0:List Nat→PE→Option PE
 | [],_=>some []
 |d::r,p=>match lkp p d,G0 r p with
  |some v,some p'=>some ((d,v)::p')
  |_,_=>none
theorem Rk: ∀ {l:List Nat} {p p':PE},G0 l p=some p'→SubP p' p
 | [],p,p',h=>by cases h;trivial
 |d::r,p,p',h=>by
  simp only [G0] at h
  split at h
  · cases h;exact ⟨‹_›,Rk ‹_›⟩
  cases h
theorem Zp {p p':PE}(h:SubP p' p:=by repeat (first|exact trivial|refine ⟨(by first|rfl|exact congrArg some (congrArg (Value.int _) (by omega))|(show some _=some _;simp;done)|(show some _=some _;simp;omega)),?_⟩)):SubP p' p:=h
theorem X.sb {P:Program}{G:World}{f:Fc}{Q:Y3}{todo:List Item}{p p':PE}{ds:List Deferred}{cs:List Frame}{q:List HP}(l:List Nat)(x:X P G f Q todo p' ds cs q)(h:G0 l p=some p':=by exact rfl):X P G f Q todo p ds cs q:=x.sub (Rk h)
theorem Zg {P:Program}{G:World}{f:Fc}{Q:Y3}{ops:List Oper}{k:List Item}{p p':PE}{ds:List Deferred}{cs:List Frame}{q:List HP}{r:List Oper}(l:List Nat)(x:XO P G f Q ops.toArray k r p' ds cs q)(h:G0 l p=some p':=by exact rfl):XO P G f Q ops.toArray k r p ds cs q:=x.sub (Rk h)
theorem Uw {φ:Prop}{r:List Prop}(h:φ)(k:Kd r):Kd (φ::r):=⟨h,k⟩
end Wx
namespace Wx
open Go Go.RowKit
theorem sp {φ ψ:Prop}(h:φ)(e:φ→ψ:=by intro h;(try simp only [decide_eq_true_eq,decide_eq_false_iff_not,bne_iff_ne,beq_iff_eq,ne_eq,bne_eq_false_iff_eq,beq_eq_false_iff_ne,Bool.not_eq_true',Bool.not_eq_false',Int.not_lt,Int.not_le,Bool.not_not,Bool.and_eq_true,Bool.and_eq_false_iff,Bool.true_and,Bool.and_true,beq_self_eq_true,Bool.or_eq_true,Bool.or_eq_false_iff] at h);exact h):ψ:=e h
theorem XD.sb {P:Program}{G:World}{f:Fc}{Q:Y3}{ops:List Oper}{k:List Item}{pk p p':PE}{L:Rds}{n:Nat}{done:List Nat}{ds:List Deferred}{cs:List Frame}{q:List HP}(l:List Nat)(x:XD P G f Q ops k pk L n done p' ds cs q)(h:G0 l p=some p':=by exact rfl):XD P G f Q ops k pk L n done p ds cs q:=x.sub (Rk h)
theorem Zv {p p':PE}(h:SubP p' p:=by repeat (first|exact trivial|refine ⟨(by first|rfl|exact congrArg (fun x=>some (Value.bool x)) (Eq.symm (by assumption))),?_⟩)):SubP p' p:=h
section
variable {P:Program}{G:World}{f:Fc}{Q:Y3}{ops:List Oper}{k:List Item}{p:PE}{ds:List Deferred}{cs:List Frame}{q:List HP}{rest:List Oper}{args:List Operand}{ats:Array TypeId}{ty:TypeId}{pos:String}{af:Array Edge}{gd:Option (Nat×Bool)}{vs:List Value}{pre:List HP}{R:Value→List HP→Prop}{d:Tmp}{fo:Operand}{fv:Value}
theorem XO.cVX (hq:Le q pre)(hc:CallV P G fv vs pre (Ret R))(x: ∀ v q',R v q'→XO P G f Q ops.toArray k rest ((d,v)::p) ds cs q')(hf:evp p fo=some fv:=by rfl)(hv:evl p args=some vs:=by rfl)
 (hw:Wt ops p ⟨some d,.call ⟨.value fo,args.toArray,ats⟩,ty,pos,af,gd⟩=some true:=by rfl) (hd:Nat.blt d f.n=true:=by rfl):
 XO P G f Q ops.toArray k (⟨some d,.call ⟨.value fo,args.toArray,ats⟩,ty,pos,af,gd⟩::rest) p ds cs q:=
 .cV (F:= []) hc (fun v q' r q'' e=>by rw [List.append_nil] at e;rw [e];exact x v q' r) hf hv (by rw [List.append_nil];exact hq) hw hd
end
end Wx
namespace Wx
open Go Go.RowKit
section
variable {P:Program}{G:World}{p:PE}{q:List HP}{d:Option Tmp}{ty:TypeId}{pos:String}{af:Array Edge}{gd:Option (Nat×Bool)}{x y:Operand}{t e:TypeId}{kd:IntKind}
theorem Td {b o n:Nat}{i:Int}{sz:Nat}(hx:evp p x=some (.pointer (some ⟨b,o,none⟩)))(hy:evp p y=some (.int kd i))(ht:P.underlying t=some (.array n e))(hs: ∀ w,(Go.sizeOf e).run P w= .ok sz w)
 (h0:0≤i) (h1:i<n):Pu P p ⟨d,.indexAddr t x y,ty,pos,af,gd⟩ (.pointer (some ⟨b,o+i.toNat*sz,none⟩)):=
 fun tm w ag=>by
  have hc:0≤i∧i<(n:Int):=⟨h0,h1⟩
  simp [execOp,Zd ag hx,Zd ag hy,Instr.indexAt,Instr.sureAddr,asIntOf,run_underlying ht,hc,hs,Vi]
end
end Wx
namespace Wx
open Go Go.RowKit
section
variable {P:Program}{G:World}{f:Fc}{Q:Y3}{ops:List Oper}{k:List Item}{p:PE}{ds:List Deferred}{cs:List Frame}{q:List HP}{rest:List Oper}{args:List Operand}{ats:Array TypeId}{ty:TypeId}{pos:String}{af:Array Edge}{gd:Option (Nat×Bool)}{vs:List Value}{u:Value}{d:Tmp}{fo:Operand}{fv:Value}
theorem Nh (hc:CallV P G fv vs q (Ret fun v q'=>v=u∧q'=q))(x:XO P G f Q ops.toArray k rest ((d,u)::p) ds cs q)(hf:evp p fo=some fv:=by rfl)(hv:evl p args=some vs:=by rfl)
 (hw:Wt ops p ⟨some d,.call ⟨.value fo,args.toArray,ats⟩,ty,pos,af,gd⟩=some true:=by rfl) (hd:Nat.blt d f.n=true:=by rfl):
 XO P G f Q ops.toArray k (⟨some d,.call ⟨.value fo,args.toArray,ats⟩,ty,pos,af,gd⟩::rest) p ds cs q:=
 .cVX (Le.refl _) hc (fun v q' h=>by obtain ⟨rfl,rfl⟩:=h;exact x) hf hv hw hd
theorem Fo {pk:PE}{L:Rds}{n:Nat}{done:List Nat}(i:Nat)(hc:CallV P G fv vs q (Ret fun v q'=>v=u∧q'=q))
 (K:XD P G f Q ops k pk (cut ⟨some d,.call ⟨.value fo,args.toArray,ats⟩,ty,pos,af,gd⟩ L) n (i::done) ((d,u)::p) ds cs q)
 (ho:ops[i]? =some ⟨some d,.call ⟨.value fo,args.toArray,ats⟩,ty,pos,af,gd⟩:=by rfl) (hf:evp p fo=some fv:=by rfl) (hv:evl p args=some vs:=by rfl)
 (hL:HL q (cut ⟨some d,.call ⟨.value fo,args.toArray,ats⟩,ty,pos,af,gd⟩ L):=by exact hlA)
 (h1:Uc ops done i=true:=by rfl) (hr:rdy ops done i=true:=by rfl) (hw:Wt ops p ⟨some d,.call ⟨.value fo,args.toArray,ats⟩,ty,pos,af,gd⟩=some true:=by rfl) (hd:Nat.blt d f.n=true:=by rfl):XD P G f Q ops k pk L (n+1) done p ds cs q:=
 .call i ho hf hv hc (Qy q) (fun v q' h q'' e=>by obtain ⟨rfl,rfl⟩:=h;rw [List.append_nil] at e;subst e;exact ⟨hL,K⟩) h1 hr hw hd
theorem Cl.le {q q':List HP}{A:Addr}{v:Value}(h:Cl q' A v)(l:Le q q'):Cl q A v:=fun G w s=>h G w (s.le l)
def Rdr {α:Type}(P:Program)(G:World)(fv:Value)(E:α→Value)(u:α→Value)(q:List HP)(l:List α):Prop:=
 ∀ q1,Le q1 q→ ∀ x∈l,CallV P G fv [E x] q1 (Ret fun v q'=>v=u x∧q'=q1)
theorem Rdr.le {α:Type}{E:α→Value}{u:α→Value}{q q':List HP}{l:List α}(h:Rdr P G fv E u q l)(k:Le q' q):Rdr P G fv E u q' l:=fun q1 h1=>h q1 (h1.trans k)
end
end Wx
namespace Wx
open Go Go.RowKit
section
variable {P:Program}{G:World}{p:PE}{q r:List HP}{d:Option Tmp}{ty:TypeId}{pos:String}{af:Array Edge}{gd:Option (Nat×Bool)}{x y z:Operand}{t t' kt et:TypeId}{kd:IntKind}{v u:Value}{k:Int}{b clock:Nat}{es:List MapEntry}
theorem St.setObjM {G w:World}{b clock:Nat}{es:Array MapEntry}{o:Obj}{q:List HP}(s:St G w (pto b (.map es clock)::q)):St G { w with heap:=w.heap.setIfInBounds b o } (pto b o::q):=s.setObj
theorem Ef.insert (ht:P.underlying t=some (.map kt et))(hk:P.underlying kt=some (.int kd))(hx:evp p x=some (.map (some b)))(hy:evp p y=some (.int kd k))(hz:evp p z=some v)(hq:Le q (pto b (.map es.toArray clock)::r))
 (hf:Instr.findNow (.int kd) (.int kd k) es 0=some none):Ef P G p q ⟨d,.insert t x y z,ty,pos,af,gd⟩ fun u q'=>u=undef∧q'=pto b (.map (es++ [({ key:= .int kd k,val:=v,born:=clock } :MapEntry)]).toArray (clock+1))::r:=
 fun tm w ag s=>by
  have s':=s.le hq
  have hb:=s'.has (Has.pto _ _ _)
  have hkey:MapKept.IsKey (.int kd) (.int kd k):=by first|trivial|exact rfl|simp [MapKept.IsKey]
  refine ⟨undef,_,_,.inr ⟨rfl,?_⟩,s'.setObjM (o:= .map (es.toArray.push { key:= .int kd k,val:=v,born:=clock }) (clock+1)),rfl,by simp⟩
  simp [execOp,Zd ag hx,Zd ag hy,Zd ag hz,Instr.mapUpdate,run_underlying ht,MapKept.run_getObj_map hb,MapKept.run_checkKey hk hkey,MapKept.run_findKey hk hf,MapKept.run_setObj_map _ hb,Result.andThen]
theorem Rd.lookup {zv:Value}(ht:P.underlying t=some (.map kt et))(hk:P.underlying kt=some (.int kd))(hx:evp p x=some (.map (some b)))(hy:evp p y=some (.int kd k))(hq:Le q (pto b (.map es.toArray clock)::r))(hz: ∀ w,(zeroValue et).run P w= .ok zv w)
 {a:Option (Nat×Value)} (hf:Instr.findNow (.int kd) (.int kd k) es 0=some a):Rd P G p q ⟨d,.lookup t x y false,ty,pos,af,gd⟩ (match a with|some (_,v)=>v|none=>zv):=
 fun tm w ag s=>by
  have hb:=(s.le hq).has (Has.pto _ _ _)
  have hkey:MapKept.IsKey (.int kd) (.int kd k):=by first|trivial|exact rfl|simp [MapKept.IsKey]
  cases a with
  |none=>simp [execOp,Zd ag hx,Zd ag hy,Instr.lookup,run_underlying ht,MapKept.run_getObj_map hb,MapKept.run_checkKey hk hkey,MapKept.run_findKey hk hf,hz,Result.andThen]
  |some y=>obtain ⟨i,v⟩:=y;simp [execOp,Zd ag hx,Zd ag hy,Instr.lookup,run_underlying ht,MapKept.run_getObj_map hb,MapKept.run_checkKey hk hkey,MapKept.run_findKey hk hf,Result.andThen]
theorem Dk {kd:IntKind}{c:Int}: ∀ (l:List (Int×Value×Nat)) (i:Nat),∃ a,Instr.findNow (.int kd) (.int kd c) (l.map fun e=>({ key:= .int kd e.1,val:=e.2.1,born:=e.2.2 } :MapEntry)) i=some a∧
 ((a=none∧ ∀ e∈l,e.1≠c)∨ ∃ j e,a=some (j,e.2.1)∧e∈l∧e.1=c)
 | [],i=>⟨none,rfl,.inl ⟨rfl,by simp⟩⟩
 |e::l,i=>by
  by_cases h:c=e.1
  · exact ⟨some (i,e.2.1),by simp [Instr.findNow,Instr.sameNow,h],.inr ⟨i,e,rfl,List.mem_cons_self ..,h.symm⟩⟩
  obtain ⟨a,h1,h2⟩:=Dk (kd:=kd) (c:=c) l (i+1)
  refine ⟨a,by simp only [List.map_cons,Instr.findNow,Instr.sameNow,if_true];rw [show (c==e.1)=false from beq_eq_false_iff_ne.2 h];exact h1,?_⟩
  rcases h2 with ⟨h3,h4⟩|⟨j,e',h3,h4,h5⟩
  · exact .inl ⟨h3,fun y hy=>by rcases List.mem_cons.1 hy with rfl|hy;exact fun k=>h k.symm;exact h4 y hy⟩
  exact .inr ⟨j,e',h3,List.mem_cons_of_mem _ h4,h5⟩
theorem Zq6 (k:Nat){u r:Array TypeId}{b:Bool}(ht:P.underlying t=some (.func u r b))(w:World):(Op.equalIn (k+1) t .nilFunc .nilFunc).run P w= .ok true w:=by
 simp [Op.equalIn,run_underlying ht,Result.andThen]
theorem W4 {u r:Array TypeId}{b:Bool}(hx:evp p x=some .nilFunc)(ht:P.underlying t=some (.func u r b)):Pu P p ⟨d,.binOp .neq t x (.const .nilFunc) t',ty,pos,af,gd⟩ (.bool false):=fun tm w ag=>by
 have he:(Op.equal t .nilFunc .nilFunc).run P w= .ok true w:=Zq6 9999 ht w
 have hn:evA tm (.const .nilFunc)= .nilFunc:=rfl
 simp [execOp,Zd ag hx,hn,eqGuard,Go.binOp,he]
end
def CellsAt (q:List HP)(b o:Nat)(vs:List Value):Prop:= ∀ k v,vs[k]? =some v→Cl q ⟨b,o+k,none⟩ v
theorem CellsAt.le {q q':List HP}{b o:Nat}{vs:List Value}(h:CellsAt q' b o vs)(l:Le q q'):CellsAt q b o vs:=fun k v e=>(h k v e).le l
theorem CellsAt.of {q:List HP}{b:Nat}{l:List Value}{t:TypeId}{fz:Nat×Nat}(h:Has q b (.cells l.toArray t fz)):CellsAt q b 0 l:=fun k v e=>Cl.of h (by rw [Vm];simpa using e)
theorem Dn {α:Type}{f:α→List Value}{sz bk o n:Nat}{j:Int}{l:List α}{q q0:List HP}(h:Sees q0 (some ⟨bk,o,none⟩) (l.flatMap f))(hq:Le q q0)(hf: ∀ x,(f x).length=sz)(hn:n<l.length)(hj:j=n):CellsAt q bk (o+j.toNat*sz) (f l[n]):=
 fun k v e=>Wk h hq hf hn hj k v e
end Wx
namespace Wx
open Go Go.RowKit
section
variable {P:Program}{G:World}
def CallM (P:Program)(G:World)(recv:Value)(name:String)(vs:List Value)(pre:List HP)(R:Qh):Prop:=
 ∀ (F:List HP) w,St G w (pre++F)→Ap P (invoke (.fn (.method name) #[]) (#[recv]++vs.toArray)) w fun e w'=> ∃ q,R e q∧St G w' (q++F)
theorem CallM.of {t:TypeId}{v rv:Value}{name:String}{fn:FuncId}{vs:List Value}{pre:List HP}{R:Qh}(hcf: ∀ args w,(callFunc fn args).run P w= .ok (.enter fn args) w)
 (hm: ∀ F w,St G w (pre++F)→(Go.method (P.types.size+Made.depth) t v name).run P w= .ok (fn,rv) w) (h:CallF P G fn (rv::vs) pre R):CallM P G (.iface t v) name vs pre R:=by
 intro F w s fr cs hmode ho
 have hc:=Ys (a:= []) (b:= []) (vs:=rv::vs) hcf (by simpa using h) F w s fr cs hmode ho
 obtain ⟨e,w',hR,hne,fr1,cs1,w1,hap,hst⟩:=hc
 refine ⟨e,w',hR,hne,fr1,cs1,w1,?_,hst⟩
 rw [←hap]
 have e1:(invoke (.fn (.method name) #[]) (#[Value.iface t v]++vs.toArray)).run P w=(callFunc fn (#[rv]++vs.toArray)).run P w:=by
  have hm':(Go.method (P.types.size+100) t v name).run P w= .ok (fn,rv) w:=hm F w s
  simp [invoke,callMethod,go_sem,hm']
 have e2:(do let d←Deferred.ofValue (.func (.func fn) [].toArray [].toArray) (rv::vs).toArray;invoke d.target d.args:Sem Next).run P w=(callFunc fn (#[rv]++vs.toArray)).run P w:=by
  simp [Deferred.ofValue,invoke,Sem.run_bind,Result.andThen,bind,Sem.bind,Pure.pure]
 simp only [stepG.apply,Sem.runT_eq,e1,e2,GStep.bare_after,if_true]
theorem E8 {t el:TypeId}{ti:TypeInfo}{name:String}{fn:FuncId}{v:Value}{m:Method}{w:World}(hti: ∀ w,(typeInfo t).run P w= .ok ti w)(hu:P.underlying t=some (.pointer el))
 (hf:ti.methods.find? (fun m=>m.name==name)=some m) (hp:m.path= #[]) (hfn:m.func=some (fn,true)):(Go.method (P.types.size+Made.depth) t v name).run P w= .ok (fn,v) w:=by
 rw [show P.types.size+Made.depth=(P.types.size+99)+1 from rfl]
 generalize P.types.size+99=fuel
 simp [Go.method,hti,hf,hp,hfn,follow,receiverAt,Place.get,run_underlying hu,Result.andThen]
theorem ssaWrap (a:Addr)(xt yt:TypeId)(u v:String):Builtin.ssaWrapNilChk_ #[xt] yt #[.pointer (some a),strVal u,strVal v]=Pure.pure (.pointer (some a)):=rfl
theorem T0 {t el:TypeId}{ti:TypeInfo}{name:String}{fn:FuncId}{a:Addr}{u:Value}{m:Method}{w:World}{q:List HP}(s:St G w q)(hc:Cl q a u)(hti: ∀ w,(typeInfo t).run P w= .ok ti w)(hu:P.underlying t=some (.pointer el))
 (hag: ∀ w,(isAgg el).run P w= .ok false w) (hf:ti.methods.find? (fun m=>m.name==name)=some m) (hp:m.path= #[]) (hfn:m.func=some (fn,false)):(Go.method (P.types.size+Made.depth) t (.pointer (some a)) name).run P w= .ok (fn,u) w:=by
 rw [show P.types.size+Made.depth=(P.types.size+99)+1 from rfl]
 generalize P.types.size+99=fuel
 have h:=hc G w s
 simp [Go.method,hti,hf,hp,hfn,follow,receiverAt,Place.get,run_underlying hu,Result.andThen,ssaWrap,asAddr,loadVar,hag,h]
end
section
variable {P:Program}{G:World}{f:Fc}{Q:Y3}{ops:List Oper}{k:List Item}{p:PE}{ds:List Deferred}{cs:List Frame}{q pre F:List HP}{rest:List Oper}{args:List Operand}{ats:Array TypeId}{ty:TypeId}{pos:String}{af:Array Edge}{gd:Option (Nat×Bool)}{vs:List Value}{R:Value→List HP→Prop}{ro:Operand}{recv:Value}{name:String}
theorem XO.callM_ {d:Option Tmp}(hf:evp p ro=some recv)(hv:evl p args=some vs)(hc:CallM P G recv name vs pre (Ret R))(hq:Le q (pre++F))
 (x: ∀ v q',R v q'→XO P G f Q ops.toArray k rest (Qv p d v) ds cs (q'++F))
 (hw:Wt ops p ⟨d,.call ⟨.invoke ro name,args.toArray,ats⟩,ty,pos,af,gd⟩=some true) (hd:dOk f.n d=true):
 XO P G f Q ops.toArray k (⟨d,.call ⟨.invoke ro name,args.toArray,ats⟩,ty,pos,af,gd⟩::rest) p ds cs q:=by
 intro is h tm w n a s
 cases is with
 |nil=>simp at h
 |cons i r=>
  obtain ⟨ho,hr'⟩:=List.cons.inj h
  obtain ⟨e,w₁,⟨q₁,hR,s₁⟩,hne,fr₁,cs₁,w₂,hap,hst⟩:=hc F w (s.le hq) (f.fr tm ds (.inRegion ops.toArray (i::r)::k)) cs rfl trivial
  have hexec:execOp (evA tm) ⟨d,.call ⟨.invoke ro name,args.toArray,ats⟩,ty,pos,af,gd⟩=invoke (.fn (.method name) #[]) (#[recv]++vs.toArray):=by
   have h1:=Zd a hf
   have h2:=Hw a hv
   have:(args.toArray.map (evA tm))=vs.toArray:=by rw [←h2];simp
   simp only [execOp,resolve,h1,this]
   rfl
  have hstep:step P (lone (f.fr tm ds (.inRegion ops.toArray (i::r)::k)) cs w)= .next (lone fr₁ cs₁ w₂):=by
   refine step_lone_go ?_
   rw [U2 f tm ds cs w _ i r k ho (Ya a hw) (by intro _ h;cases h),hexec]
   exact hap
  obtain ⟨v,rfl,hR⟩:=hR
  obtain ⟨o',tm',p',ds',cs',w',q',hQ,hn,ha,hs,arr⟩:=x v q₁ hR r hr' (Wh tm d v) w₁ (by rw [Yg];exact n) (a.put (n ▸ hd)) s₁
  refine ⟨o',tm',p',ds',cs',w',q',hQ,hn,ha,hs,Arr.head ((Steps.one hstep).trans hst) ?_⟩
  have:=Uv f tm ds _ i r k v ho
  simp only [Sl,this]
  exact arr
theorem Mr {d:Tmp}(hc:CallM P G recv name vs pre (Ret R))(x: ∀ v q',R v q'→ ∀ q'',q''=q'++F→XO P G f Q ops.toArray k rest ((d,v)::p) ds cs q'')(hf:evp p ro=some recv:=by rfl)(hv:evl p args=some vs:=by rfl)(hq:Le q (pre++F):=by exact leA)
 (hw:Wt ops p ⟨some d,.call ⟨.invoke ro name,args.toArray,ats⟩,ty,pos,af,gd⟩=some true:=by rfl) (hd:Nat.blt d f.n=true:=by rfl):
 XO P G f Q ops.toArray k (⟨some d,.call ⟨.invoke ro name,args.toArray,ats⟩,ty,pos,af,gd⟩::rest) p ds cs q:= .callM_ hf hv hc hq (fun v q' r=>x v q' r _ rfl) hw hd
end
def bxH {α:Type}(f:α→Value)(ts te:TypeId)(n:Nat)(l:List α):HP:=ex fun s:Option Addr×Nat=>stars [pto n (.cells [.slice s.1 l.length s.2].toArray ts (0,0)),lsH f te s.1 s.2 l]
theorem Le.bx {α:Type}{f:α→Value}{ts te:TypeId}{n:Nat}{l:List α}{a:Option Addr}{c:Nat}{q r:List HP}(h:Le q (pto n (.cells [.slice a l.length c].toArray ts (0,0))::lsH f te a c l::r)):Le q (bxH f ts te n l::r):=
 Sx (a,c) (h.trans (by exact Vh [_,_] r))
theorem X.bx {P:Program}{G:World}{f:Fc}{Q:Y3}{todo:List Item}{p:PE}{ds:List Deferred}{cs:List Frame}{q:List HP}{α:Type}{g:α→Value}{ts te:TypeId}{n:Nat}{l:List α}
 (x: ∀ a c,X P G f Q todo p ds cs (pto n (.cells [.slice a l.length c].toArray ts (0,0))::lsH g te a c l::q)):X P G f Q todo p ds cs (bxH g ts te n l::q):=
 X.ex (fun s=>X.le (W2 _ _) (x s.1 s.2))
theorem F5: ∀ a b c:List HP,Le (a++(b++c)) (b++(a++c))
 | [],_,_=>Le.refl _
 |A::a,b,c=>by
  refine Le.trans (Le.cons A (F5 a b c)) ?_
  have go: ∀ (b d:List HP),Le (A::(b++d)) (b++(A::d)):=by
   intro b d
   induction b with
   |nil=>exact Le.refl _
   |cons B b ih=>exact Le.trans (Le.swap A B (b++d)) (Le.cons B ih)
  exact go b (a++c)
theorem Le.pushR (A:HP)(b d:List HP):Le (A::(b++d)) (b++(A::d)):=F5 [A] b d
theorem Sb: ∀ q pre F:List HP,Le (q++(pre++F)) (q++F):=fun q pre F=>Nt q (by
 induction pre with
 |nil=>exact Le.refl _
 |cons A r ih=>exact Ek ih)
theorem Zz1 (q F:List HP)(A B:HP):Le (q++(A::B::F)) (q++F):=Sb q [A,B] F
theorem Zz0 (q F:List HP)(A B C:HP):Le (q++(A::B::C::F)) (q++F):=Sb q [A,B,C] F
theorem leB {q q':List HP}(h:Le q q':=by repeat (first|exact Le.refl _|exact Le.pushR _ _ _|exact Zz1 _ _ _ _|exact Zz0 _ _ _ _ _|(apply Le.pick; · (repeat first|exact Le.here _ _|apply Le.there))|refine Ek ?_)):Le q q':=h
end Wx
namespace Wx
open Go Go.RowKit
section
variable {P:Program}{G:World}{p:PE}{q r:List HP}{d:Option Tmp}{ty:TypeId}{pos:String}{af:Array Edge}{gd:Option (Nat×Bool)}{x y z:Operand}{t:TypeId}{v u:Value}
theorem Fe {D:TypeDesc}{xt:TypeId}{v:Value}(hx:evp p x=some (.iface t v))(ht:P.underlying t=some D)(hD:(match D with| .interface _=>false|_=>true)=true):
 Pu P p ⟨d,.typeAssert x xt t false,ty,pos,af,gd⟩ v:=fun tm w ag=>by
 simp only [execOp,Zd ag hx,Instr.typeAssert,Sem.run_bind,run_underlying ht,Result.andThen_ok]
 cases D<;>first|(cases hD;done)|simp
end
theorem Nc {α:Type}(f:α→Value)(ty:TypeId)(a:Option Addr)(c:Nat)(l:List α)(n:Nat)(q:List HP):Le (lsH f ty a c l::q) (lsH f ty a c (l.take n)::q):=by
 refine .one fun M h p=> ?_
 obtain ⟨p1,p2⟩:=p
 refine ⟨by simp,?_⟩
 rcases p2 with ⟨ha,hc,hn⟩|⟨g,cur,q1,q2,q3,q4,q5,q6⟩
 · left;exact ⟨ha,hc,by have:=List.eq_nil_of_length_eq_zero hn;subst this;simp⟩
 right
 refine ⟨g,cur,q1,?_,q3,q4,?_,q6⟩
 · have:=List.length_take_le n l;have:=List.length_take (i:=n) (l:=l);omega
 rw [List.map_take,←q5,List.take_take]
 congr 1
 have:=List.length_take (i:=n) (l:=l)
 omega
section
variable {P:Program}{G:World}{recv:Value}{name:String}{vs:List Value}{pre pre':List HP}{R R':Value→List HP→Prop}
theorem Zz5 {α:Sort _}{A:α→HP}{S:Qh}(h: ∀ y,CallM P G recv name vs (A y::pre) S):CallM P G recv name vs (ex A::pre) S:=by
 intro F w s fr cs hm ho
 have s1:St G w (ex A::(pre++F)):=s
 obtain ⟨y,s'⟩:=s1.get_ex
 exact h y F w s' fr cs hm ho
theorem CallM.conv (h:CallM P G recv name vs pre (Ret R))(hq:Le pre' pre)(hr: ∀ v q,R v q→ ∃ q',R' v q'∧Le q q'):CallM P G recv name vs pre' (Ret R'):=by
 intro F w s fr cs hm ho
 obtain ⟨e,w',⟨q,⟨v,rfl,hR⟩,hs⟩,rest⟩:=h F w (s.le (hq.liftR F)) fr cs hm ho
 obtain ⟨q',hR',hl⟩:=hr v q hR
 exact ⟨_,w',⟨q',⟨v,rfl,hR'⟩,hs.le (hl.liftR F)⟩,rest⟩
theorem Nl {α:Type}{f:α→Value}{ts te:TypeId}{n:Nat}{l:List α}{φ:Value→List α→Prop}(h: ∀ a c,CallM P G recv name vs [pto n (.cells [.slice a l.length c].toArray ts (0,0)),lsH f te a c l] (Ret fun v q'=> ∃ l' a' c',φ v l'∧q'= [pto n (.cells [.slice a' l'.length c'].toArray ts (0,0)),lsH f te a' c' l'])):
 CallM P G recv name vs [bxH f ts te n l] (Ret fun v q'=> ∃ l',φ v l'∧q'= [bxH f ts te n l']):=
 Zz5 fun y=>(h y.1 y.2).conv (W2 _ _) fun v q ⟨l',a',c',h1,h2⟩=>⟨_,⟨l',h1,rfl⟩,by subst h2;exact Le.bx (Le.refl _)⟩
end
theorem St.lsCap {G w:World}{q:List HP}{α:Type}{f:α→Value}{ty:TypeId}{a:Option Addr}{c:Nat}{l:List α}(s:St G w (Wx.lsH f ty a c l::q)):l.length≤c:=by
 obtain ⟨_,M,h,_,_,_,_,_,h₁,h₂,_,_,_,p,_⟩:=s
 rcases p.2 with ⟨_,rfl,h⟩|⟨g,cur,q1,q2,q3,q4,q5,q6⟩
 · omega
 exact q2
theorem Xe {P:Program}{G:World}{f:Fc}{Q:Y3}{todo:List Item}{p:PE}{ds:List Deferred}{cs:List Frame}{q r:List HP}{α:Type}{fl:α→Value}{ty:TypeId}{a:Option Addr}{c:Nat}{l:List α}(x:l.length≤c→X P G f Q todo p ds cs q)(hq:Le q (lsH fl ty a c l::r):=by exact Zj):X P G f Q todo p ds cs q:=
 .fact (fun w s=>(s.le hq).lsCap) fun h=>x h
end Wx
namespace Wx
open Go Go.RowKit
section
variable {P:Program}{G:World}{f:Fc}{Q:Y3}{k:List Item}{cs:List Frame}
theorem X.loopD {b:Code}{α:Sort _}(Inv:α→Prop)(pI:α→PE)(dI:α→List Deferred)(qI:α→List HP)(μ:α→Nat)
 (round: ∀ a,Inv a→(∀ a',Inv a'→μ a'<μ a→X P G f Q (.inLoop b::k) (pI a') (dI a') cs (qI a'))→X P G f Q (.code b:: .inLoop b::k) (pI a) (dI a) cs (qI a))
 (a:α) (h:Inv a):X P G f Q (.code (.loop b)::k) (pI a) (dI a) cs (qI a):=by
 have key: ∀ n a,μ a=n→Inv a→X P G f Q (.code b:: .inLoop b::k) (pI a) (dI a) cs (qI a):=by
  intro n
  induction n using Nat.strongRecOn with
  |_ n ih=>exact fun a hn h=>round a h fun a' h' hl=> .inLoop (ih (μ a') (hn ▸ hl) a' rfl h')
 exact .loop1 (key _ a rfl h)
end
def mks (rs:List Nat):HP:=stars (rs.map fun r=>pto r (.deferred (some [])))
theorem Ov (q:List HP):Le q (mks []::q):=Vh [] q
theorem Sf (r:Nat)(rs:List Nat)(q:List HP):Le (pto r (.deferred (some []))::mks rs::q) (mks (r::rs)::q):=
 Le.trans (Le.cons _ (W2 (rs.map fun r=>pto r (.deferred (some []))) q)) (Vh (pto r (.deferred (some []))::rs.map fun r=>pto r (.deferred (some []))) q)
theorem Gp (r:Nat)(rs:List Nat)(q:List HP):Le (mks (r::rs)::q) (pto r (.deferred (some []))::mks rs::q):=
 Le.trans (W2 (pto r (.deferred (some []))::rs.map fun r=>pto r (.deferred (some []))) q) (Le.cons _ (Vh (rs.map fun r=>pto r (.deferred (some []))) q))
theorem X6 {P:Program}{G:World}{fn:FuncId}{R:Qh}{F:List HP}{u:FrameMode}{p:PE}{ds:List Deferred}(hu:u≠ .run)(hl: ∀ q q',Le q q'→Lv P G fn R F ds u p q'→Lv P G fn R F ds u p q): ∀ (rs:List Nat) {q q':List HP},Lv P G fn R F ds u p q'→Le q (Wx.mks rs::q')→Lv P G fn R F (rs.map markD++ds) u p q
 | [],q,q',h,hq=>hl _ _ (hq.trans (Ek (Le.refl _))) h
 |r::rs,q,q',h,hq=>X7 hu (hq.trans (Gp r rs q')) (X6 hu hl rs h (Le.refl _))
theorem Lv.le_ {P:Program}{G:World}{fn:FuncId}{R:Qh}{F:List HP}{u:FrameMode}{p:PE}{ds:List Deferred}{q q':List HP}(hl:Le q q')(h:Lv P G fn R F ds u p q'):Lv P G fn R F ds u p q:=fun tm w fr cs a b c d e f s=>h tm w fr cs a b c d e f (s.le hl)
theorem Lv.mks {P:Program}{G:World}{fn:FuncId}{R:Qh}{F:List HP}{u:FrameMode}{p:PE}{ds:List Deferred}{rs:List Nat}{q q':List HP}(h:Lv P G fn R F ds u p q')(hu:u≠ .run:=by simp)(hq:Le q (Wx.mks rs::q'):=by exact Zj):Lv P G fn R F (rs.map markD++ds) u p q:=
 X6 hu (fun _ _ l h=>Lv.le_ l h) rs h hq
theorem L8 {G w:World}{q:List HP}{α:Type}{f:α→Value}{ty:TypeId}{a:Option Addr}{c:Nat}{l:List α}(s:St G w (Wx.lsH f ty a c l::q)):l.length≤maxLen:=by
 obtain ⟨_,M,h,_,_,_,_,_,h₁,h₂,_,_,_,p,_⟩:=s
 rcases p.2 with ⟨_,_,h⟩|⟨g,cur,q1,q2,q3,q4,q5,q6⟩
 · rw [h];exact Nat.zero_le _
 exact Nat.le_trans q2 q3
theorem X.lsmax {P:Program}{G:World}{f:Fc}{Q:Y3}{todo:List Item}{p:PE}{ds:List Deferred}{cs:List Frame}{q r:List HP}{α:Type}{fl:α→Value}{ty:TypeId}{a:Option Addr}{c:Nat}{l:List α}(x:l.length≤9223372036854775807→X P G f Q todo p ds cs q)(hq:Le q (Wx.lsH fl ty a c l::r):=by exact Zj):X P G f Q todo p ds cs q:=
 .fact (fun w s=>Nat.le_trans (L8 (s.le hq)) (by decide)) fun h=>x h
theorem XO.lsmax {P:Program}{G:World}{f:Fc}{Q:Y3}{ops:List Oper}{k:List Item}{rest:List Oper}{p:PE}{ds:List Deferred}{cs:List Frame}{q r:List HP}{α:Type}{fl:α→Value}{ty:TypeId}{a:Option Addr}{c:Nat}{l:List α}(x:l.length≤9223372036854775807→XO P G f Q ops.toArray k rest p ds cs q)(hq:Le q (Wx.lsH fl ty a c l::r):=by exact Zj):XO P G f Q ops.toArray k rest p ds cs q:=
 .fact (fun w s=>Nat.le_trans (L8 (s.le hq)) (by decide)) fun h=>x h
end Wx
namespace Wx
open Go Go.RowKit
theorem Bu {α β:Type}(F:α→List β)(sz:Nat): ∀ (ds:List α) (cs:List β),cs.length=ds.length*sz→(∀ i (h:i<ds.length),(cs.drop (i*sz)).take sz=F ds[i])→cs=ds.flatMap F
 | [],cs,h,_=>by
  have:cs= []:=List.eq_nil_of_length_eq_zero (by simpa using h)
  subst this;rfl
 |d::ds,cs,h,hF=>by
  have h0:=hF 0 (by simp)
  rw [Nat.zero_mul,List.drop_zero,List.getElem_cons_zero] at h0
  have hl:cs.length=(ds.length+1)*sz:=by simpa using h
  have ih:=Bu F sz ds (cs.drop sz) (by rw [List.length_drop,hl,Nat.succ_mul];omega) (fun i hi=>by
   have h1:=hF (i+1) (by simp;omega)
   rw [List.getElem_cons_succ] at h1
   rw [List.drop_drop,←h1,Nat.succ_mul,Nat.add_comm])
  rw [List.flatMap_cons,←h0,←ih,List.take_append_drop]
end Wx
namespace Wx
open Go Go.RowKit
section
variable {P:Program}{G:World}{f:Fc}{Q:Y3}{ops:List Oper}{k:List Item}{pk p:PE}{ds:List Deferred}{cs:List Frame}{q:List HP}{n:Nat}{done:List Nat}{L:Rds}{o:Oper}{v:Value}{fl:List FlE}
def StepOk (P:Program)(G:World)(f:Fc)(Q:Y3)(ops:List Oper)(k:List Item)(pk:PE)(fl:List FlE)(L:Rds)(n:Nat)(done:List Nat)(p:PE)(ds:List Deferred)(cs:List Frame)(q:List HP)(j:Nat):Prop:=
 ∃ (oj:Oper) (R:Value→List HP→Prop),ops[j]? =some oj∧(∀ E,Ef P G p (q++E) oj fun v q'=> ∃ q1,R v q1∧q'=q1++E)∧(∀ v q1,R v q1→HL q1 (cut oj L)∧XF P G f Q ops k pk fl (cut oj L) n (j::done) (Qv p oj.dst v) ds cs q1)∧
  (fl.map (·.i)).contains j=false∧rdy ops done j=true∧Wt ops p oj=some true∧dOk f.n oj.dst=true
def onlyJ (ops:List Oper)(fl done js:List Nat):Bool:=(List.range ops.length).all fun j=>js.contains j||fl.contains j|| !rdy ops (fl++done) j
theorem XF.any (js:List Nat)(hR:FlR P G f ops done p fl)(hj0:js≠ [])(hJ: ∀ j∈js,StepOk P G f Q ops k pk fl L n done p ds cs q j)(hL:HL q L)
 (hon:onlyJ ops (fl.map (·.i)) done js=true) (hlen:Nat.ble fl.length n=true):XF P G f Q ops k pk fl L (n+1) done p ds cs q:=by
 intro a b S m
 induction m generalizing S with
 |zero=>
  intro tm w h1 h2 h3 hn ag fa s
  exfalso
  have hle:S.length≤fl.length:=by
   have h4:(V5 S).length≤(fl.map (·.i)).length:=by
    refine List.Nodup.length_le_of_subset h1 fun x hx=> ?_
    obtain ⟨e,he,rfl⟩:=List.mem_map.1 hx
    exact List.mem_map_of_mem (h2 e he)
   simpa [V5] using h4
  have:fl.length≤n:=by simpa using hlen
  omega
 |succ m ih=>
  intro tm w h1 h2 h3 hn ag fa s
  have nS: ∀ j,(fl.map (·.i)).contains j=false→j∉V5 S:=fun j hjf hm=>by
   obtain ⟨e,he,e'⟩:=List.mem_map.1 hm
   have:j∈fl.map (·.i):=by rw [←e'];exact List.mem_map_of_mem (h2 e he)
   simp [this] at hjf
  refine ⟨fun hnone=> ?_,fun x ox hox hrx=> ?_⟩
  · obtain ⟨j,r,rfl⟩:=List.exists_cons_of_ne_nil hj0
    obtain ⟨_,_,_,_,_,hjf,hr,_⟩:=hJ j (List.mem_cons_self ..)
    exact absurd (Nz hr (nS j hjf)) (by simp [hnone j])
  by_cases hxj:x∈js
  · obtain ⟨oj,R,ho,hE,K,hjf,hr,hw,hd⟩:=hJ x hxj
    have hjS:=nS x hjf
    rw [ho] at hox;cases hox
    unfold OW
    rw [if_pos (Ya ag hw)]
    refine ((hE (fCh S)).ap tm w ag s).mono fun en w' _ hh=> ?_
    obtain ⟨q',⟨v,rfl,q1,hv,rfl⟩,s'⟩:=hh
    refine ⟨((K v q1 hv).1.le (Wu q1 (fCh S))).sl s',?_⟩
    refine WA.congr _ (done:=V5 S++(x::done)) (fun y=>by simp only [List.mem_append,List.mem_cons];exact ⟨fun h=>by rcases h with h|h|h<;>simp [h],fun h=>by rcases h with h|h|h<;>simp [h]⟩) ?_
    refine (K v q1 hv).2 a b S m _ w' h1 h2 (by omega) (by rw [Yg];exact hn) (ag.put (hn ▸ hd)) ?_ s'
    intro e he
    obtain ⟨o2,ho2,hd2,hr2,_,_,_,_⟩:=hR.get (h2 e he)
    have hne:e.1.i≠x:=fun e'=>hjS (by rw [←e'];exact List.mem_map_of_mem he)
    have hdd:=Fp a ho2 ho hne hr2 hr (Vj hr) (Vj hr2) hd2
    have:=fa e he
    cases hdo:ox.dst with
    |none=>simpa [Wh] using this
    |some d=>
     have hdne:d≠e.1.d:=fun e'=>hdd (by rw [hdo,e'])
     simpa [Wh,Array.getElem?_setIfInBounds,hdne] using this
  have hxl:x<ops.length:=(List.getElem?_eq_some_iff.1 hox).1
  have hxf:x∈fl.map (·.i):=by
   have h4:=List.all_eq_true.1 hon x (by simpa using hxl)
   rcases Decidable.em (x∈fl.map (·.i)) with h5|h5
   · exact h5
   have h6:rdy ops (fl.map (·.i)++done) x=true:=Dl hrx (fun y hy=>by
    rcases List.mem_append.1 hy with hy|hy
    · obtain ⟨e,he,rfl⟩:=List.mem_map.1 hy
      exact List.mem_append_left _ (List.mem_map_of_mem (h2 e he))
    · exact List.mem_append_right _ hy) (fun hm=>by
    rcases List.mem_append.1 hm with hm|hm
    · exact h5 hm
    exact Vj hrx (List.mem_append_right _ hm))
   simp [hxj,h6] at h4
   simp at h5
   obtain ⟨y,hy,e⟩:=h4
   exact absurd e (h5 y hy)
  obtain ⟨e,he,rfl⟩:=List.mem_map.1 hxf
  have hxS:e.i∉V5 S:=fun hm=>Vj hrx (List.mem_append_left _ hm)
  refine Ri a hR h1 h2 hn ag fa s he hxS hox fun g tm' w' k1 k2 k3 k4 k5 k6=> ?_
  refine ⟨((hL.sub fun y hy=>(Us.1 hy).1).le (Wu q _)).sl k6,?_⟩
  exact WA.mono _ (fun y hy=>(Us.1 hy).1) (ih ((e,g)::S) tm' w' k1 k2 (by simp;omega) k3 k4 k5 k6)
end
end Wx
namespace Wx
open Go Go.RowKit
section
variable {P:Program}{G:World}{p:PE}{q r:List HP}{d:Option Tmp}{ty':TypeId}{pos:String}{af:Array Edge}{gd:Option (Nat×Bool)}{x y:Operand}{a b:Option Addr}{c c':Nat}{t t2 e:TypeId}
theorem Ef.copyL {α:Type}{f:α→Value}{l m:List α}{z:Value}{bytes:Nat}(ht:P.underlying t=some (.slice e))(hi:(P.info? e).map (fun i=>(i.zero,i.size,i.bytes))=some (some z,1,bytes))
 (hx:evp p x=some (.slice a l.length c)) (hy:evp p y=some (.slice b m.length c')) (hq:Le q (Wx.lsH f e a c l::r)) (hs:Sees q b (m.map f)) (h1: ∀ u,(f u).oneCell'=true) (hml:m.length≤l.length):
 Ef P G p q ⟨d,.call ⟨.builtin .copy, [x,y].toArray, [t,t2].toArray⟩,ty',pos,af,gd⟩ fun v q'=>v= .int .i64 m.length∧q'=Wx.lsH f e a c (m++l.drop m.length)::r:=by
 obtain ⟨I,hI,e1,e2,e3⟩:=info_parts hi
 intro tm w ag s
 have hev:evl p [x,y]=some [.slice a l.length c,.slice b m.length c']:=by simp [evl,hx,hy]
 have hex:=Js (d:=d) (ty:=ty') (pos:=pos) (af:=af) (gd:=gd) (bi:= .copy) (ats:= [t,t2].toArray) ag hev
 rw [hex]
 have hrun: ∀ v w',(Builtin.copy_ #[t,t2] ty' #[.slice a l.length c,.slice b m.length c']).run P w= .ok v w'→(builtin .copy [t,t2].toArray ty' ([x,y].toArray.map fun| .const _=>true|_=>false) [.slice a l.length c,.slice b m.length c'].toArray).run P w= .ok (.value v) w':=by
  intro v w' h;simp [builtin,h]
 have hmin:Nat.min m.length l.length=m.length:=Nat.min_eq_left hml
 rcases Mc (m:=m.length) (sz:=1) (hs G w s) (by simp) Nat.one_pos with ⟨h0,_⟩|⟨ad,rfl,hc⟩
 · obtain rfl:=List.eq_nil_of_length_eq_zero h0
   refine ⟨.int .i64 0,w,_,.inl (hrun _ _ ?_),?_,rfl,rfl⟩
   · cases b<;>cases a<;>simp [Builtin.copy_,run_underlying ht,Go.sizeOf,typeInfo,hI,Builtin.lenOf,Builtin.firstCells,loadCells,loadCellsFrom,storeCells,goInt]
   simpa using s.le hq
 have hsl:=s.le hq
 unfold Wx.lsH at hsl
 obtain ⟨hlen,hcase⟩:=hsl.slH_elim
 rcases hcase with ⟨rfl,rfl,h0,s'⟩|⟨g,cur,rfl,hnc,hcm,hcs,htk,s'⟩
 · have hm0:m= []:=List.eq_nil_of_length_eq_zero (by omega)
   have hl0:l= []:=List.eq_nil_of_length_eq_zero h0
   subst hm0;subst hl0
   refine ⟨.int .i64 0,w,_,.inl (hrun _ _ ?_),?_,rfl,rfl⟩
   · simp [Builtin.copy_,run_underlying ht,Go.sizeOf,typeInfo,hI,Builtin.lenOf,Builtin.firstCells,loadCells,loadCellsFrom,storeCells,goInt]
   simpa using s.le hq
 have hg:w.heap[g]? =some (.cells cur e (0,0)):=s'.has (Has.pto _ _ _)
 have hfit:0+(m.map f).length≤cur.size:=by rw [List.length_map,hcs];omega
 have hld:=run_loadCells_list (P:=P) w ad (m.map f) hc
 rw [List.length_map] at hld
 have hst:=run_storeCells_at P g 0 e (m.map f) 0 cur w hg (by simpa using hfit) (fun v hv=>by obtain ⟨u,_,rfl⟩:=List.mem_map.1 hv;exact h1 u)
 refine ⟨.int .i64 m.length,w.setRow g (m.map f++cur.toList.drop m.length).toArray,_,.inl (hrun _ _ ?_),?_,rfl,rfl⟩
 · simp [Builtin.copy_,run_underlying ht,Go.sizeOf,typeInfo,hI,e2,Builtin.lenOf,Builtin.firstCells,hmin,hld,goInt]
   have hst2:(storeCells ⟨g,0,none⟩ (m.map f)).run P w= .ok () (w.setRow g (m.map f++cur.toList.drop m.length).toArray):=by simpa using hst
   rw [hst2];simp
 have s2:=s'.put (o':= .cells (m.map f++cur.toList.drop m.length).toArray e (0,0)) (setRow_heap w g cur _ e (0,0) hg) (fun j hj=>setRow_other w g j _ hj) (by simp) rfl rfl rfl
 unfold Wx.lsH
 rw [show (m++l.drop m.length).length=l.length by simp;omega]
 refine s2.le (W3 hnc hcm ?_ ?_ r)
 · simp only [List.size_toArray,List.length_append,List.length_map,List.length_drop,Array.length_toList];omega
 rw [Nat.mul_one] at htk⊢
 rw [List.take_append,List.length_map,List.take_of_length_le (by rw [List.length_map];exact hml),List.map_append,List.map_drop,←htk,List.drop_take]
end
end Wx
namespace Wx
open Go Go.RowKit
section
variable {P:Program}{G:World}{p:PE}{q:List HP}{d:Option Tmp}{ty:TypeId}{pos:String}{af:Array Edge}{gd:Option (Nat×Bool)}{x y:Operand}{t e:TypeId}{kd:IntKind}
theorem Cj {n sz:Nat}{ps:List (Nat×Operand)}{us:List Value}{z cells:Array Value}(hz: ∀ w,(zeroValue t).run P w= .ok (.agg z) w)(ht:P.underlying t=some (.array n e))(hs: ∀ w,(Go.sizeOf e).run P w= .ok sz w)
 (hv:evl p (ps.map (·.2))=some us) (hb:Instr.fill (fun i=>some (i*sz,sz)) z ((ps.map (·.1)).zip us)=some cells):Pu P p ⟨d,.build t ps.toArray,ty,pos,af,gd⟩ (.agg cells):=fun tm w ag=>by
 have h2:=Hw ag hv
 have hps:(ps.toArray.map fun (i,x)=>(i,evA tm x)).toList=(ps.map (·.1)).zip us:=by
  rw [←h2];exact Sa ps _
 simp only [execOp,Instr.build,Sem.run_bind,hz,Result.andThen_ok,run_underlying ht,hs,Value.cells,hps,hb]
 rfl
theorem Wz {n:Nat}{i:Int}{l:List Value}{v:Value}(hx:evp p x=some (.agg l.toArray))(hy:evp p y=some (.int kd i))(ht:P.underlying t=some (.array n e))(hs: ∀ w,(Go.sizeOf e).run P w= .ok 1 w)(ha: ∀ w,(isAgg e).run P w= .ok false w)
 (h0:0≤i) (h1:i<n) (hv:nth l i.toNat=some v):Pu P p ⟨d,.index t x y,ty,pos,af,gd⟩ v:=fun tm w ag=>by
 have hc:0≤i∧i<(n:Int):=⟨h0,h1⟩
 rw [Vm] at hv
 simp [execOp,Zd ag hx,Zd ag hy,Instr.index,asIntOf,run_underlying ht,hc,hs,part,ha,hv]
end
section
variable {P:Program}{G:World}{f:Fc}{Q:Y3}{ops:List Oper}{k:List Item}{p:PE}{ds:List Deferred}{cs:List Frame}{q:List HP}{v:Value}
variable {pk:PE}{L:Rds}{n:Nat}{done:List Nat}{args:List Operand}{ats:Array TypeId}{ty:TypeId}{pos:String}{af:Array Edge}{gd:Option (Nat×Bool)}{vs:List Value}{pre:List HP}{R:Value→List HP→Prop}{Rp:List PanicEntry→List HP→Prop}{d:Tmp}{fo:Operand}{fv:Value}
theorem Ah (i:Nat)(hq:Le q pre)(hc:CallV P G fv vs pre (RP R Rp))(xp: ∀ ch q',Rp ch q'→Q (.panic ch) pk ds cs q')
 (K: ∀ v q',R v q'→HL q' (cut ⟨some d,.call ⟨.value fo,args.toArray,ats⟩,ty,pos,af,gd⟩ L)∧XD P G f Q ops k pk (cut ⟨some d,.call ⟨.value fo,args.toArray,ats⟩,ty,pos,af,gd⟩ L) n (i::done) ((d,v)::p) ds cs q')
 (hpk:SubP pk p) (ho:ops[i]? =some ⟨some d,.call ⟨.value fo,args.toArray,ats⟩,ty,pos,af,gd⟩:=by rfl) (hf:evp p fo=some fv:=by rfl) (hv:evl p args=some vs:=by rfl)
 (h1:Uc ops done i=true:=by rfl) (hr:rdy ops done i=true:=by rfl) (hw:Wt ops p ⟨some d,.call ⟨.value fo,args.toArray,ats⟩,ty,pos,af,gd⟩=some true:=by rfl) (hd:Nat.blt d f.n=true:=by rfl):XD P G f Q ops k pk L (n+1) done p ds cs q:=
 .one (R:=fun e q''=>RP R Rp e q'') i ho (fun tm w ag s=>by
  rw [N9 ag hf hv]
  exact (hc [] w ((s.le hq).le (Qy pre))).mono fun e w' _ ⟨q',hR,s'⟩=>⟨q',hR,by rw [List.append_nil] at s';exact s'⟩)
  (fun v q'' h=>by rcases h with ⟨_,e,r⟩|⟨_,e,_⟩<;>cases e;exact K v q'' r) (fun ch q'' h=>by rcases h with ⟨_,e,_⟩|⟨_,e,r⟩<;>cases e;exact ⟨xp ch q'' r,hpk⟩) h1 hr hw hd
end
end Wx
namespace Wx
open Go Go.RowKit
section
variable {P:Program}{G:World}{f:Fc}{Q:Y3}{ops:List Oper}{k:List Item}{pk p:PE}{ds:List Deferred}{cs:List Frame}{q:List HP}{n:Nat}{done:List Nat}{L:Rds}{o:Oper}{v:Value}{fl:List FlE}
def EfA (P:Program)(G:World)(p:PE)(q:List HP)(o:Oper)(R:Value→List HP→Prop):Prop:= ∀ tm w,Agr tm p→St G w q→Ap P (execOp (evA tm) o) w fun e w'=> ∃ q',Ret R e q'∧St G w' q'
def StepA (P:Program)(G:World)(f:Fc)(Q:Y3)(ops:List Oper)(k:List Item)(pk:PE)(fl:List FlE)(L:Rds)(n:Nat)(done:List Nat)(p:PE)(ds:List Deferred)(cs:List Frame)(q:List HP)(j:Nat):Prop:=
 ∃ (oj:Oper) (R:Value→List HP→Prop),ops[j]? =some oj∧(∀ E,EfA P G p (q++E) oj fun v q'=> ∃ q1,R v q1∧q'=q1++E)∧(∀ v q1,R v q1→HL q1 (cut oj L)∧XF P G f Q ops k pk fl (cut oj L) n (j::done) (Qv p oj.dst v) ds cs q1)∧
  (fl.map (·.i)).contains j=false∧rdy ops done j=true∧Wt ops p oj=some true∧dOk f.n oj.dst=true
theorem XF.anyA (js:List Nat)(hR:FlR P G f ops done p fl)(hj0:js≠ [])(hJ: ∀ j∈js,StepA P G f Q ops k pk fl L n done p ds cs q j)(hL:HL q L)
 (hon:onlyJ ops (fl.map (·.i)) done js=true) (hlen:Nat.ble fl.length n=true):XF P G f Q ops k pk fl L (n+1) done p ds cs q:=by
 intro a b S m
 induction m generalizing S with
 |zero=>
  intro tm w h1 h2 h3 hn ag fa s
  exfalso
  have hle:S.length≤fl.length:=by
   have h4:(V5 S).length≤(fl.map (·.i)).length:=by
    refine List.Nodup.length_le_of_subset h1 fun x hx=> ?_
    obtain ⟨e,he,rfl⟩:=List.mem_map.1 hx
    exact List.mem_map_of_mem (h2 e he)
   simpa [V5] using h4
  have:fl.length≤n:=by simpa using hlen
  omega
 |succ m ih=>
  intro tm w h1 h2 h3 hn ag fa s
  have nS: ∀ j,(fl.map (·.i)).contains j=false→j∉V5 S:=fun j hjf hm=>by
   obtain ⟨e,he,e'⟩:=List.mem_map.1 hm
   have:j∈fl.map (·.i):=by rw [←e'];exact List.mem_map_of_mem (h2 e he)
   simp [this] at hjf
  refine ⟨fun hnone=> ?_,fun x ox hox hrx=> ?_⟩
  · obtain ⟨j,r,rfl⟩:=List.exists_cons_of_ne_nil hj0
    obtain ⟨_,_,_,_,_,hjf,hr,_⟩:=hJ j (List.mem_cons_self ..)
    exact absurd (Nz hr (nS j hjf)) (by simp [hnone j])
  by_cases hxj:x∈js
  · obtain ⟨oj,R,ho,hE,K,hjf,hr,hw,hd⟩:=hJ x hxj
    have hjS:=nS x hjf
    rw [ho] at hox;cases hox
    unfold OW
    rw [if_pos (Ya ag hw)]
    refine (hE (fCh S) tm w ag s).mono fun en w' _ hh=> ?_
    obtain ⟨q',⟨v,rfl,q1,hv,rfl⟩,s'⟩:=hh
    refine ⟨((K v q1 hv).1.le (Wu q1 (fCh S))).sl s',?_⟩
    refine WA.congr _ (done:=V5 S++(x::done)) (fun y=>by simp only [List.mem_append,List.mem_cons];exact ⟨fun h=>by rcases h with h|h|h<;>simp [h],fun h=>by rcases h with h|h|h<;>simp [h]⟩) ?_
    refine (K v q1 hv).2 a b S m _ w' h1 h2 (by omega) (by rw [Yg];exact hn) (ag.put (hn ▸ hd)) ?_ s'
    intro e he
    obtain ⟨o2,ho2,hd2,hr2,_,_,_,_⟩:=hR.get (h2 e he)
    have hne:e.1.i≠x:=fun e'=>hjS (by rw [←e'];exact List.mem_map_of_mem he)
    have hdd:=Fp a ho2 ho hne hr2 hr (Vj hr) (Vj hr2) hd2
    have:=fa e he
    cases hdo:ox.dst with
    |none=>simpa [Wh] using this
    |some d=>
     have hdne:d≠e.1.d:=fun e'=>hdd (by rw [hdo,e'])
     simpa [Wh,Array.getElem?_setIfInBounds,hdne] using this
  have hxl:x<ops.length:=(List.getElem?_eq_some_iff.1 hox).1
  have hxf:x∈fl.map (·.i):=by
   have h4:=List.all_eq_true.1 hon x (by simpa using hxl)
   rcases Decidable.em (x∈fl.map (·.i)) with h5|h5
   · exact h5
   have h6:rdy ops (fl.map (·.i)++done) x=true:=Dl hrx (fun y hy=>by
    rcases List.mem_append.1 hy with hy|hy
    · obtain ⟨e,he,rfl⟩:=List.mem_map.1 hy
      exact List.mem_append_left _ (List.mem_map_of_mem (h2 e he))
    · exact List.mem_append_right _ hy) (fun hm=>by
    rcases List.mem_append.1 hm with hm|hm
    · exact h5 hm
    exact Vj hrx (List.mem_append_right _ hm))
   simp [hxj,h6] at h4
   simp at h5
   obtain ⟨y,hy,e⟩:=h4
   exact absurd e (h5 y hy)
  obtain ⟨e,he,rfl⟩:=List.mem_map.1 hxf
  have hxS:e.i∉V5 S:=fun hm=>Vj hrx (List.mem_append_left _ hm)
  refine Ri a hR h1 h2 hn ag fa s he hxS hox fun g tm' w' k1 k2 k3 k4 k5 k6=> ?_
  refine ⟨((hL.sub fun y hy=>(Us.1 hy).1).le (Wu q _)).sl k6,?_⟩
  exact WA.mono _ (fun y hy=>(Us.1 hy).1) (ih ((e,g)::S) tm' w' k1 k2 (by simp;omega) k3 k4 k5 k6)
theorem EfA.callF {d:Option Tmp}{fn:FuncId}{args:List Operand}{ats:Array TypeId}{ty:TypeId}{pos:String}{af:Array Edge}{gd:Option (Nat×Bool)}{vs:List Value}{pre F:List HP}{R:Value→List HP→Prop}
 (hcf: ∀ args w,(callFunc fn args).run P w= .ok (.enter fn args) w) (hc:CallF P G fn vs pre (Ret R)) (hv:evl p args=some vs) (hq:Le q (pre++F)) (E:List HP):
 EfA P G p (q++E) ⟨d,.call ⟨.value (.func fn),args.toArray,ats⟩,ty,pos,af,gd⟩ fun v q'=> ∃ q1,(∃ q0,R v q0∧q1=q0++F)∧q'=q1++E:=by
 intro tm w ag s
 rw [N9 ag (show evp p (.func fn)=some (.func (.func fn) #[] #[]) from rfl) hv]
 have s2:St G w (pre++(F++E)):=by rw [←List.append_assoc];exact s.le (hq.liftR E)
 have hcv:CallV P G (.func (.func fn) #[] #[]) vs pre (Ret R):=Ys (a:= []) (b:= []) hcf (by simpa using hc)
 refine (hcv (F++E) w s2).mono fun e w' _ hh=> ?_
 obtain ⟨q',⟨v,he,hR⟩,s'⟩:=hh
 exact ⟨q'++F++E,⟨v,he,q'++F,⟨q',hR,rfl⟩,rfl⟩,by rw [List.append_assoc];exact s'⟩
theorem Jr (i:Nat){d:Tmp}{fn:FuncId}{args:List Operand}{ats:Array TypeId}{ty:TypeId}{pos:String}{af:Array Edge}{gd:Option (Nat×Bool)}{vs:List Value}{pre:List HP}{R:Value→List HP→Prop}
 (hR:FlR P G f ops done p fl) (hcf: ∀ args w,(callFunc fn args).run P w= .ok (.enter fn args) w) (hq:Le q pre) (hc:CallF P G fn vs pre (Ret R))
 (K: ∀ v q',R v q'→HL q' (cut ⟨some d,.call ⟨.value (.func fn),args.toArray,ats⟩,ty,pos,af,gd⟩ L)∧XF P G f Q ops k pk fl (cut ⟨some d,.call ⟨.value (.func fn),args.toArray,ats⟩,ty,pos,af,gd⟩ L) n (i::done) ((d,v)::p) ds cs q')
 (ho:ops[i]? =some ⟨some d,.call ⟨.value (.func fn),args.toArray,ats⟩,ty,pos,af,gd⟩:=by rfl) (hv:evl p args=some vs:=by rfl) (hL:HL q L:=by exact hlA)
 (hon:onlyJ ops (fl.map (·.i)) done [i]=true:=by rfl) (hif:(fl.map (·.i)).contains i=false:=by rfl) (hr:rdy ops done i=true:=by rfl) (hw:Wt ops p ⟨some d,.call ⟨.value (.func fn),args.toArray,ats⟩,ty,pos,af,gd⟩=some true:=by rfl)
 (hd:Nat.blt d f.n=true:=by rfl) (hlen:Nat.ble fl.length n=true:=by rfl):XF P G f Q ops k pk fl L (n+1) done p ds cs q:=
 XF.anyA [i] hR (by simp) (fun x hx=>by
  rw [List.mem_singleton.1 hx]
  exact ⟨_,_,ho,EfA.callF hcf hc hv (hq.trans (Qy pre)),fun v q1 ⟨q0,h,e⟩=>by rw [List.append_nil] at e;subst e;exact K v _ h,hif,hr,hw,hd⟩) hL hon hlen
end
end Wx
namespace Wx
open Go Go.RowKit
section
variable {P:Program}
def PartV (P:Program)(xs:List Value)(t:TypeId)(o:Nat)(x:Value):Prop:= ∀ w,(part t xs.toArray o).run P w= .ok x w
theorem PartV.one {xs:List Value}{t:TypeId}{o:Nat}{x:Value}(h:nth xs o=some x)(ha: ∀ w,(isAgg t).run P w= .ok false w):PartV P xs t o x:=fun w=>by
 rw [Vm] at h
 simp [part,ha w,h]
theorem PartV.sub {xs:List Value}{t:TypeId}{o sz:Nat}(ha: ∀ w,(isAgg t).run P w= .ok true w)(hs: ∀ w,(Go.sizeOf t).run P w= .ok sz w):PartV P xs t o (.agg (Wx.sub xs o sz).toArray):=fun w=>by
 simp [part,ha w,hs w,Wx.sub,List.extract]
def EqG (P:Program)(k:Nat)(xs ys:List Value):List (TypeId×Nat)→Bool→Prop
 | [],b=>b=true
 |(t,o)::r,b=> ∃ x y b1 b2,PartV P xs t o x∧PartV P ys t o y∧EqV P k t x y b1∧EqG P k xs ys r b2∧b=(b1 && b2)
theorem EqG.run {k:Nat}{xs ys:List Value}{w:World}: ∀ {fs : List Field} {b : Bool}, fs.all (fun f => f.name != "_") = true → EqG P k xs ys (fs.map fun f => (f.type, f.offset)) b → (Op.eqFields k xs.toArray ys.toArray fs).run P w = .ok b w
 | [],b,_,h=>by cases h;rfl
 |f::fs,b,hn,h=>by
  obtain ⟨x,y,b1,b2,hx,hy,he,hr,rfl⟩:=h
  simp only [List.all_cons,Bool.and_eq_true,bne_iff_ne,ne_eq] at hn
  have ih:=EqG.run (w:=w) hn.2 hr
  have he':=he w
  have hx':=hx w
  have hy':=hy w
  simp only [Op.eqFields,ne_eq,hn.1,not_false_eq_true,if_true,Sem.run_bind,hx',hy',Result.andThen_ok,he']
  cases b1
  · simp
  simp [ih]
theorem Sc {k : Nat}{t : TypeId}{xs ys : List Value}{b : Bool}{fs : List Field}(hu : P.underlying t = some (.struct fs.toArray))(hp : P.stoodInHeld t = false)(hn : fs.all (fun f => f.name != "_") = true)(h : EqG P k xs ys (fs.map fun f => (f.type, f.offset)) b):
 EqV P (k+1) t (.agg xs.toArray) (.agg ys.toArray) b:=fun w=>by
 have hf:P.fieldsOf t=fs.toArray:=by simp [Program.fieldsOf,hu]
 rw [run_equalIn_struct w k t _ _ (by rw [hf];exact hu) hp,hf]
 exact h.run hn
end
end Wx
namespace Wx
open Go Go.RowKit
section
variable {P:Program}{G:World}{f:Fc}{Q:Y3}{ops:List Oper}{k:List Item}{p:PE}{ds:List Deferred}{cs:List Frame}{q:List HP}{rest:List Oper}{v:Value}{T:Tr}
variable {d:Tmp}{t ty:TypeId}{pos:String}{af:Array Edge}{gd:Option (Nat×Bool)}{x y:Operand}{A:Addr}
def Tr.lf (T:Tr)(t:TypeId):Bool:=match T.get t with|some x=> !x.agg|none=>false
def Tr.ag (T:Tr)(t:TypeId):Option Nat:=match T.get t with|some x=>bif x.agg then some x.sz else none|none=>none
def Tr.s1 (T:Tr)(t:TypeId):Bool:=match T.get t with|some x=>Nat.beq x.sz 1|none=>false
theorem L7 (hT:T.ok P id)(h:T.lf t=true)(w:World):(isAgg t).run P w= .ok false w:=by
 unfold Tr.lf at h
 split at h
 · rename_i x hx
   have:=(Zs hT hx).2.1 w
   rw [show x.agg=false by simpa using h] at this;exact this
 cases h
theorem Jx {n:Nat}(hT:T.ok P id)(h:T.ag t=some n):(∀ w,(isAgg t).run P w= .ok true w)∧ ∀ w,(Go.sizeOf t).run P w= .ok n w:=by
 unfold Tr.ag at h
 split at h
 · rename_i x hx
   have h1:=(Zs hT hx).2.1
   have h2:=(Zs hT hx).2.2.1
   cases hb:x.agg with
   |true=>rw [hb] at h h1;simp only [cond_true,Option.some.injEq] at h;subst h;exact ⟨h1,h2⟩
   |false=>rw [hb] at h;simp at h
 cases h
theorem L0 (hT:T.ok P id)(h:T.s1 t=true)(w:World):(Go.sizeOf t).run P w= .ok 1 w:=by
 unfold Tr.s1 at h
 split at h
 · rename_i x hx
   have:=(Zs hT hx).2.2.1 w
   rw [Nat.eq_of_beq_eq_true h] at this;exact this
 cases h
theorem Zm {z:Value}(hz: ∀ w,(zeroValue t).run P w= .ok z w)(K: ∀ n,XO P G f Q ops.toArray k rest ((d,.pointer (some ⟨n,0,none⟩))::p) ds cs (pto n (.cells z.cells t (0,0))::q))
 (hw:Wt ops p ⟨some d,.alloc t,ty,pos,af,gd⟩=some true:=by rfl) (hd:Nat.blt d f.n=true:=by rfl):XO P G f Q ops.toArray k (⟨some d,.alloc t,ty,pos,af,gd⟩::rest) p ds cs q:=
 .ef (Ef.alloc hz) (by rintro _ _ ⟨n,rfl,rfl⟩;exact K n) hw hd
theorem Zl (K: ∀ n,XO P G f Q ops.toArray k rest ((d,.pointer (some ⟨n,0,none⟩))::p) ds cs (pto n (.cells v.cells t (0,0))::q))(hx:evp p x=some v:=by rfl)
 (hw:Wt ops p ⟨some d,.box t x,ty,pos,af,gd⟩=some true:=by rfl) (hd:Nat.blt d f.n=true:=by rfl):XO P G f Q ops.toArray k (⟨some d,.box t x,ty,pos,af,gd⟩::rest) p ds cs q:=
 .ef (Ef.box hx) (by rintro _ _ ⟨n,rfl,rfl⟩;exact K n) hw hd
theorem XO.st {b o:Nat}{l:List Value}{t':TypeId}{r:List HP}(hT:T.ok P id)(hs:T.s1 t=true)(K:XO P G f Q ops.toArray k rest p ds cs (pto b (.cells (R7 l o v).toArray t' (0,0))::r))
 (hx:evp p x=some (.pointer (some ⟨b,o,none⟩)):=by rfl) (hy:evp p y=some v:=by rfl)
 (hv:v.cells= #[v]:=by rfl) (h1:v.oneCell'=true:=by rfl) (hq:Le q (pto b (.cells l.toArray t' (0,0))::r):=by exact Zj) (ho:Nat.blt o l.length=true:=by rfl)
 (hw:Wt ops p ⟨none,.store t x y,ty,pos,af,gd⟩=some true:=by rfl):XO P G f Q ops.toArray k (⟨none,.store t x y,ty,pos,af,gd⟩::rest) p ds cs q:=
 .ef0 (Ef.st (L0 hT hs) hx hy hv h1 hq ho) (by rintro _ _ ⟨rfl,rfl⟩;exact K) hw
theorem XO.stA {b o sz:Nat}{l vs:List Value}{t':TypeId}{r:List HP}(hT:T.ok P id)(hs:T.ag t=some sz)(K:XO P G f Q ops.toArray k rest p ds cs (pto b (.cells (Hq l o vs).toArray t' (0,0))::r))
 (hx:evp p x=some (.pointer (some ⟨b,o,none⟩)):=by rfl) (hy:evp p y=some (.agg vs.toArray):=by rfl)
 (hl:vs.length=sz:=by rfl) (h1:vs.all (·.oneCell')=true:=by rfl) (hq:Le q (pto b (.cells l.toArray t' (0,0))::r):=by exact Zj) (ho:Nat.ble (o+sz) l.length=true:=by rfl)
 (hw:Wt ops p ⟨none,.store t x y,ty,pos,af,gd⟩=some true:=by rfl):XO P G f Q ops.toArray k (⟨none,.store t x y,ty,pos,af,gd⟩::rest) p ds cs q:=
 .ef0 (Ef.stA (Jx hT hs).2 hx hy hl h1 hq ho) (by rintro _ _ ⟨rfl,rfl⟩;exact K) hw
variable {pk:PE}{L:Rds}{n:Nat}{done:List Nat}
theorem XD.bx (i:Nat)(K: ∀ n',XD P G f Q ops k pk (cut ⟨some d,.box t x,ty,pos,af,gd⟩ L) n (i::done) ((d,.pointer (some ⟨n',0,none⟩))::p) ds cs (pto n' (.cells v.cells t (0,0))::q))
 (ho:ops[i]? =some ⟨some d,.box t x,ty,pos,af,gd⟩:=by rfl) (hx:evp p x=some v:=by rfl) (hh: ∀ n',HL (pto n' (.cells v.cells t (0,0))::q) (cut ⟨some d,.box t x,ty,pos,af,gd⟩ L):=by intro _;exact hlA)
 (h1:Uc ops done i=true:=by rfl) (hr:rdy ops done i=true:=by rfl) (hw:Wt ops p ⟨some d,.box t x,ty,pos,af,gd⟩=some true:=by rfl) (hd:Nat.blt d f.n=true:=by rfl):XD P G f Q ops k pk L (n+1) done p ds cs q:=
 .ef i ho (Ef.box hx) (by rintro _ _ ⟨n',rfl,rfl⟩;exact ⟨hh n',K n'⟩) h1 hr hw hd
theorem XD.st (i:Nat){b o:Nat}{l:List Value}{t':TypeId}{r:List HP}(hT:T.ok P id)(hs:T.s1 t=true)(K:XD P G f Q ops k pk (cut ⟨none,.store t x y,ty,pos,af,gd⟩ L) n (i::done) p ds cs (pto b (.cells (R7 l o v).toArray t' (0,0))::r))
 (ho:ops[i]? =some ⟨none,.store t x y,ty,pos,af,gd⟩:=by rfl) (hx:evp p x=some (.pointer (some ⟨b,o,none⟩)):=by rfl) (hy:evp p y=some v:=by rfl)
 (hv:v.cells= #[v]:=by rfl) (h1:v.oneCell'=true:=by rfl) (hq:Le q (pto b (.cells l.toArray t' (0,0))::r):=by exact Zj) (ho2:Nat.blt o l.length=true:=by rfl)
 (hh:HL (pto b (.cells (R7 l o v).toArray t' (0,0))::r) (cut ⟨none,.store t x y,ty,pos,af,gd⟩ L):=by exact hlA)
 (h2:Uc ops done i=true:=by rfl) (hr:rdy ops done i=true:=by rfl) (hw:Wt ops p ⟨none,.store t x y,ty,pos,af,gd⟩=some true:=by rfl):XD P G f Q ops k pk L (n+1) done p ds cs q:=
 .ef0 i ho (Ef.st (L0 hT hs) hx hy hv h1 hq ho2) (by rintro _ _ ⟨rfl,rfl⟩;exact ⟨hh,K⟩) h2 hr hw
theorem XD.stA (i:Nat){b o sz:Nat}{l vs:List Value}{t':TypeId}{r:List HP}(hT:T.ok P id)(hs:T.ag t=some sz)(K:XD P G f Q ops k pk (cut ⟨none,.store t x y,ty,pos,af,gd⟩ L) n (i::done) p ds cs (pto b (.cells (Hq l o vs).toArray t' (0,0))::r))
 (ho:ops[i]? =some ⟨none,.store t x y,ty,pos,af,gd⟩:=by rfl) (hx:evp p x=some (.pointer (some ⟨b,o,none⟩)):=by rfl) (hy:evp p y=some (.agg vs.toArray):=by rfl)
 (hl:vs.length=sz:=by rfl) (h1:vs.all (·.oneCell')=true:=by rfl) (hq:Le q (pto b (.cells l.toArray t' (0,0))::r):=by exact Zj) (ho2:Nat.ble (o+sz) l.length=true:=by rfl)
 (hh:HL (pto b (.cells (Hq l o vs).toArray t' (0,0))::r) (cut ⟨none,.store t x y,ty,pos,af,gd⟩ L):=by exact hlA)
 (h2:Uc ops done i=true:=by rfl) (hr:rdy ops done i=true:=by rfl) (hw:Wt ops p ⟨none,.store t x y,ty,pos,af,gd⟩=some true:=by rfl):XD P G f Q ops k pk L (n+1) done p ds cs q:=
 .ef0 i ho (Ef.stA (Jx hT hs).2 hx hy hl h1 hq ho2) (by rintro _ _ ⟨rfl,rfl⟩;exact ⟨hh,K⟩) h2 hr hw
theorem kw {b c:Bool}(h:b=c:=by first|rfl|exact decide_eq_true (by omega)|exact decide_eq_false (by omega)|(rw [beq_iff_eq];omega)|(rw [beq_eq_false_iff_ne];omega)|(rw [bne_iff_ne];omega)|(rw [bne_eq_false_iff_eq];omega)|(simp;done)|(simp;omega)|(rw [beq_iff_eq];assumption)|(rw [beq_eq_false_iff_ne];assumption)):b=c:=h
section
variable {b:Bool}{todo:List Item}{l:List Oper}
theorem X.kt (s:Nat)(K:X P G f Q todo ((s,.bool true)::p) ds cs q)(h:lkp p s=some (.bool b):=by rfl)(e:b=true:=by exact kw):X P G f Q todo p ds cs q:= .know s _ h (congrArg Value.bool e) K
theorem W0 (s:Nat)(K:X P G f Q todo ((s,.bool false)::p) ds cs q)(h:lkp p s=some (.bool b):=by rfl)(e:b=false:=by exact kw):X P G f Q todo p ds cs q:= .know s _ h (congrArg Value.bool e) K
theorem XO.kt (s:Nat)(K:XO P G f Q ops.toArray k l ((s,.bool true)::p) ds cs q)(h:lkp p s=some (.bool b):=by rfl)(e:b=true:=by exact kw):XO P G f Q ops.toArray k l p ds cs q:= .know s _ h (congrArg Value.bool e) K
theorem Y4 (s:Nat)(K:XO P G f Q ops.toArray k l ((s,.bool false)::p) ds cs q)(h:lkp p s=some (.bool b):=by rfl)(e:b=false:=by exact kw):XO P G f Q ops.toArray k l p ds cs q:= .know s _ h (congrArg Value.bool e) K
theorem XD.kt (s:Nat)(K:XD P G f Q ops k pk L n done ((s,.bool true)::p) ds cs q)(h:lkp p s=some (.bool b):=by rfl)(e:b=true:=by exact kw):XD P G f Q ops k pk L n done p ds cs q:= .know s _ h (congrArg Value.bool e) K
end
end
end Wx
