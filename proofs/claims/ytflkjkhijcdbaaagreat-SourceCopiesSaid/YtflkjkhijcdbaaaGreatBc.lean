/- Contracts of functions, proved by walking their code. -/
import Derived.Test.YtflkjkhijcdbaaaGreatBb
import Derived.ChangeKeysEq
import Derived.MapKept
import Derived.LaidEqlPtr
set_option linter.unusedVariables false
set_option linter.unusedSimpArgs false
namespace Wx
open Go Go.RowKit
structure FlE where
 i:Nat
 d:Nat
 V:Nat→Value
 A:Nat→HP
abbrev FlS:=List (FlE×Nat)
def Vd (S:FlS):List Nat:=S.map (·.1.i)
def fCh (S:FlS):List HP:=S.map fun e=>e.1.A e.2
def fAgr (tm:Array Value)(S:FlS):Prop:= ∀ e∈S,tm.getD e.1.d undef=e.1.V e.2
def Nu (p:PE)(d:Nat):Bool:=p.all fun x=> !(x.1==d)
theorem Gs {p:PE}{d:Nat}(h:Nu p d=true):lkp p d=none:=by
 induction p with
 |nil=>rfl
 |cons x r ih=>
  obtain ⟨y,z⟩:=x
  simp only [Nu,List.all_cons,Bool.and_eq_true] at h
  simp only [lkp]
  have:Nat.beq y d=false:=by
   cases hb:Nat.beq y d with
   |false=>rfl
   |true=>rw [Nat.eq_of_beq_eq_true hb] at h;simp at h
  rw [this];exact ih h.2
theorem Agr.put_free {tm:Array Value}{p:PE}{d:Nat}{v:Value}(h:Nu p d=true)(a:Agr tm p):Agr (Ww tm (some d) v) p:=by
 intro t u e
 have hne:d≠t:=by rintro rfl;rw [Gs h] at e;cases e
 have:=a t u e
 simpa [Ww,Array.getElem?_setIfInBounds,hne] using this
theorem HL.le {q q':List HP}(l:Le q q'): ∀ {L:Rds},HL q' L→HL q L
 | [],_=>trivial
 |(_,_,_,_)::_,h=>⟨fun G w s=>h.1 G w (s.le l),HL.le l h.2⟩
theorem HL.sub {q:List HP}: ∀ {L L':Rds},(∀ e∈L',e∈L)→HL q L→HL q L':=by
 intro L L' hs h
 have mem: ∀ {L:Rds},HL q L→ ∀ e∈L,Cl q ⟨e.2.1,e.2.2.1,none⟩ e.2.2.2:=by
  intro L
  induction L with
  |nil=>intro _ e he;cases he
  |cons x r ih=>intro h e he;rcases List.mem_cons.1 he with rfl|he;exact h.1;exact ih h.2 e he
 induction L' with
 |nil=>trivial
 |cons x r ih=>exact ⟨mem h x (hs x (List.mem_cons_self ..)),ih fun e he=>hs e (List.mem_cons_of_mem _ he)⟩
theorem Wi {ops:List Oper}{done:List Nat}{j:Nat}(h:rdy ops done j=true):j∉done:=by
 intro hm;unfold rdy at h;simp [hm] at h
theorem Hw {ops:List Oper}{done E:List Nat}{j:Nat}(h:rdy ops done j=true)(hn:j∉E):rdy ops (E++done) j=true:=by
 induction E with
 |nil=>exact h
 |cons x r ih=>exact Ha (ih fun hm=>hn (List.mem_cons_of_mem _ hm)) (fun e=>hn (e ▸ List.mem_cons_self ..))
theorem Rg {ops:List Oper}{done done':List Nat}{j:Nat}(h:rdy ops done j=true)(hs: ∀ x∈done,x∈done')(hn:j∉done'):rdy ops done' j=true:=by
 unfold rdy at*
 simp only [Bool.and_eq_true,Bool.not_eq_true'] at h⊢
 refine ⟨by simpa using hn,?_⟩
 cases ho:ops[j]? with
 |none=>rw [ho] at h;simp at h
 |some o=>
  rw [ho] at h
  have h2:=h.2
  simp only [I5,List.all_eq_true] at h2⊢
  intro e he
  have:=h2 e he
  simp only [Bool.or_eq_true] at this⊢
  rcases this with x|x
  · exact .inl x
  right;simp at x⊢;exact hs _ x
section
variable {P:Program}{G:World}{f:Fc}{Q:Yr}{ops:List Oper}{k:List Item}{pk p:PE}{ds:List Deferred}{cs:List Frame}{q:List HP}{n:Nat}{done:List Nat}{L:Rds}{o:Oper}{v:Value}{fl:List FlE}
def XF (P:Program)(G:World)(f:Fc)(Q:Yr)(ops:List Oper)(k:List Item)(pk:PE)(fl:List FlE)(L:Rds)(n:Nat)(done:List Nat)(p:PE)(ds:List Deferred)(cs:List Frame)(q:List HP):Prop:=
 okR ops=true→Tx ops pk=true→ ∀ (S:FlS) m tm w,(Vd S).Nodup→(∀ e∈S,e.1∈fl)→m+S.length=n→tm.size=f.n→Agr tm p→fAgr tm S→St G w (q++fCh S)→
  WA P ops (Ke' P G f Q k ds cs) (Kp' G Q f.n pk ds cs) m L (Vd S++done) tm w
def FlR (P:Program)(G:World)(f:Fc)(ops:List Oper)(done:List Nat)(p:PE):List FlE→Prop
 | []=>True
 |e::r=>(∃ o,ops[e.i]? =some o∧o.dst=some e.d∧rdy ops done e.i=true∧Wt ops p o=some true∧Nat.blt e.d f.n=true∧Nu p e.d=true∧ ∀ q,Ef P G p q o fun v q'=> ∃ g,v=e.V g∧q'=e.A g::q)∧FlR P G f ops done p r
theorem FlR.get {e:FlE}: ∀ {fl:List FlE},FlR P G f ops done p fl→e∈fl→ ∃ o,ops[e.i]? =some o∧o.dst=some e.d∧rdy ops done e.i=true∧Wt ops p o=some true∧Nat.blt e.d f.n=true∧Nu p e.d=true∧ ∀ q,Ef P G p q o fun v q'=> ∃ g,v=e.V g∧q'=e.A g::q
 |x::r,⟨h,h2⟩,hm=>by
  rcases List.mem_cons.1 hm with rfl|hm
  · exact h
  exact h2.get hm
theorem Ix (A:HP)(q E:List HP):Le (A::(q++E)) (q++(A::E)):=by
 induction q with
 |nil=>exact Le.refl _
 |cons B r ih=>exact (Le.swap A B _).trans (ih.cons B)
theorem Le.midB (A:HP)(q E:List HP):Le (q++(A::E)) (A::(q++E)):=by
 induction q with
 |nil=>exact Le.refl _
 |cons B r ih=>exact (ih.cons B).trans (Le.swap B A _)
theorem Bl (hok:okR ops=true){i j:Nat}{x y:Oper}(hx:ops[i]? =some x)(hy:ops[j]? =some y)(hne:i≠j){D D':List Nat}(hi:rdy ops D i=true)(hj:rdy ops D' j=true)(hiD:j∉D)(hjD:i∉D'){d:Nat}(hd:x.dst=some d):y.dst≠some d:=by
 rcases Gn hok hx hy hne with h|h|h
 · exact absurd (Bj hx hi h) hiD
 · exact absurd (Bj hy hj h) hjD
 exact ((Be h).1 d hd).2
theorem Na (hok:okR ops=true)(hR:FlR P G f ops done p fl){S:FlS}{tm:Array Value}{w:World}(h1:(Vd S).Nodup)(h2: ∀ e∈S,e.1∈fl)(hn:tm.size=f.n)(ag:Agr tm p)(fa:fAgr tm S)(s:St G w (q++fCh S))
 {e:FlE} (he:e∈fl) (hx:e.i∉Vd S) {oe:Oper} (ho:ops[e.i]? =some oe) {K:Array Value→World→Prop} {Kp:List PanicEntry→Array Value→World→Prop}
 (hK: ∀ g tm' w',(Vd ((e,g)::S)).Nodup→(∀ x∈(e,g)::S,x.1∈fl)→tm'.size=f.n→Agr tm' p→fAgr tm' ((e,g)::S)→St G w' (q++fCh ((e,g)::S))→K tm' w'):OW P ops oe tm w K Kp:=by
 obtain ⟨o,ho',hd,hr,hw,hlt,hkf,hE⟩:=hR.get he
 rw [ho] at ho';cases ho'
 unfold OW
 rw [if_pos (Yu ag hw)]
 refine ((hE _).ap tm w ag s).mono fun en w' _ hh=> ?_
 obtain ⟨q',⟨v,rfl,g,rfl,rfl⟩,s'⟩:=hh
 have hsz:e.d<tm.size:=by rw [hn];simpa [Nat.blt_eq] using hlt
 refine hK g _ w' ?_ ?_ ?_ ?_ ?_ ?_
 · exact List.nodup_cons.2 ⟨hx,h1⟩
 · intro x hx;rcases List.mem_cons.1 hx with rfl|hx;exact he;exact h2 x hx
 · rw [Yw];exact hn
 · rw [hd];exact ag.put_free hkf
 · intro x hxm
   rw [hd]
   rcases List.mem_cons.1 hxm with rfl|hxm
   · simp [Ww,hsz]
   obtain ⟨o2,ho2,hd2,hr2,_,_,_,_⟩:=hR.get (h2 x hxm)
   have hne:e.i≠x.1.i:=fun e'=>hx (by rw [e'];exact List.mem_map_of_mem hxm)
   have hdd:=Bl hok ho ho2 hne hr hr2 (Wi hr2) (Wi hr) hd
   rw [hd2] at hdd
   have hdne:e.d≠x.1.d:=fun e'=>hdd (by rw [e'])
   have:=fa x hxm
   simpa [Ww,Array.getElem?_setIfInBounds,hdne] using this
 exact s'.le (Ix _ _ _)
theorem Y3 (h:XF P G f Q ops k pk fl L n done p ds cs q):XD P G f Q ops k pk L n done p ds cs q:=fun a b tm w hn ag s hs=>by
 have:=h a b [] n tm w (by simp [Vd]) (by simp) (by simp) hn ag (by intro e he;cases he) (by simpa [fCh] using s)
 simpa [Vd] using this
theorem XF.back (h:XD P G f Q ops k pk L n done p ds cs q)(hL:HL q L:=by exact hlA):XF P G f Q ops k pk [] L n done p ds cs q:=fun a b S m tm w h1 h2 h3 hn ag fa s=>by
 cases S with
 |nil=>
  have e:m=n:=by simpa using h3
  subst e
  have s':St G w q:=by simpa [fCh] using s
  exact h a b tm w hn ag s' (hL.sl s')
 |cons x r=>exact absurd (h2 x (List.mem_cons_self ..)) (by simp)
def onlyF (ops:List Oper)(fl done:List Nat)(i:Nat):Bool:=(List.range ops.length).all fun j=>j==i||fl.contains j|| !rdy ops (fl++done) j
theorem XF.step {R:Value→List HP→Prop}(j:Nat){oj:Oper}(hR:FlR P G f ops done p fl)(ho:ops[j]? =some oj)(hE: ∀ E,Ef P G p (q++E) oj fun v q'=> ∃ q1,R v q1∧q'=q1++E)(hL:HL q L)
 (K: ∀ v q1,R v q1→XF P G f Q ops k pk fl (cut oj L) n (j::done) (Up p oj.dst v) ds cs q1)
 (hon:onlyF ops (fl.map (·.i)) done j=true) (hjf:(fl.map (·.i)).contains j=false) (hr:rdy ops done j=true) (hw:Wt ops p oj=some true) (hd:dOk f.n oj.dst=true) (hlen:Nat.ble fl.length n=true) (hKL: ∀ v q1,R v q1→HL q1 (cut oj L)):
 XF P G f Q ops k pk fl L (n+1) done p ds cs q:=by
 intro a b S m
 induction m generalizing S with
 |zero=>
  intro tm w h1 h2 h3 hn ag fa s
  exfalso
  have hle:S.length≤fl.length:=by
   have h4:(Vd S).length≤(fl.map (·.i)).length:=by
    refine List.Nodup.length_le_of_subset h1 fun x hx=> ?_
    obtain ⟨e,he,rfl⟩:=List.mem_map.1 hx
    exact List.mem_map_of_mem (h2 e he)
   simpa [Vd] using h4
  have:fl.length≤n:=by simpa using hlen
  omega
 |succ m ih=>
  intro tm w h1 h2 h3 hn ag fa s
  have hjS:j∉Vd S:=fun hm=>by
   obtain ⟨e,he,e'⟩:=List.mem_map.1 hm
   have:j∈fl.map (·.i):=by rw [←e'];exact List.mem_map_of_mem (h2 e he)
   simp [this] at hjf
  have hrj:=Hw hr hjS
  refine ⟨fun hnone=>absurd hrj (by simp [hnone j]),fun x ox hox hrx=> ?_⟩
  by_cases hxj:x=j
  · subst hxj
    rw [ho] at hox;cases hox
    unfold OW
    rw [if_pos (Yu ag hw)]
    refine ((hE (fCh S)).ap tm w ag s).mono fun en w' _ hh=> ?_
    obtain ⟨q',⟨v,rfl,q1,hv,rfl⟩,s'⟩:=hh
    refine ⟨((hKL v q1 hv).le (Y6 q1 (fCh S))).sl s',?_⟩
    refine WA.congr _ (done:=Vd S++(x::done)) (fun y=>by simp only [List.mem_append,List.mem_cons];exact ⟨fun h=>by rcases h with h|h|h<;>simp [h],fun h=>by rcases h with h|h|h<;>simp [h]⟩) ?_
    refine K v q1 hv a b S m _ w' h1 h2 (by omega) (by rw [Yw];exact hn) (ag.put (hn ▸ hd)) ?_ s'
    intro e he
    obtain ⟨o2,ho2,hd2,hr2,_,_,_,_⟩:=hR.get (h2 e he)
    have hne:e.1.i≠x:=fun e'=>hjS (by rw [←e'];exact List.mem_map_of_mem he)
    have hdd:=Bl a ho2 ho hne hr2 hr (Wi hr) (Wi hr2) hd2
    have:=fa e he
    cases hdo:oj.dst with
    |none=>simpa [Ww] using this
    |some d=>
     have hdne:d≠e.1.d:=fun e'=>hdd (by rw [hdo,e'])
     simpa [Ww,Array.getElem?_setIfInBounds,hdne] using this
  have hxl:x<ops.length:=(List.getElem?_eq_some_iff.1 hox).1
  have hxf:x∈fl.map (·.i):=by
   have h4:=List.all_eq_true.1 hon x (by simpa using hxl)
   rcases Decidable.em (x∈fl.map (·.i)) with h5|h5
   · exact h5
   have h6:rdy ops (fl.map (·.i)++done) x=true:=Rg hrx (fun y hy=>by
    rcases List.mem_append.1 hy with hy|hy
    · obtain ⟨e,he,rfl⟩:=List.mem_map.1 hy
      exact List.mem_append_left _ (List.mem_map_of_mem (h2 e he))
    · exact List.mem_append_right _ hy) (fun hm=>by
    rcases List.mem_append.1 hm with hm|hm
    · exact h5 hm
    exact Wi hrx (List.mem_append_right _ hm))
   simp [hxj,h6] at h4
   simp at h5
   obtain ⟨y,hy,e⟩:=h4
   exact absurd e (h5 y hy)
  obtain ⟨e,he,rfl⟩:=List.mem_map.1 hxf
  have hxS:e.i∉Vd S:=fun hm=>Wi hrx (List.mem_append_left _ hm)
  refine Na a hR h1 h2 hn ag fa s he hxS hox fun g tm' w' k1 k2 k3 k4 k5 k6=> ?_
  refine ⟨((hL.sub fun y hy=>(V7.1 hy).1).le (Y6 q _)).sl k6,?_⟩
  exact WA.mono _ (fun y hy=>(V7.1 hy).1) (ih ((e,g)::S) tm' w' k1 k2 (by simp;omega) k3 k4 k5 k6)
theorem XF.absorb (i:Nat){e0:FlE}(he0:fl.find? (fun e=>e.i==i)=some e0)(hR:FlR P G f ops done p fl)(hL:HL q L)
 (K: ∀ g,XF P G f Q ops k pk (fl.filter fun e=> !(e.i==i)) L n (i::done) ((e0.d,e0.V g)::p) ds cs (e0.A g::q))
 (hnd:(fl.map (·.i)).Nodup) (hon:((List.range ops.length).all fun j=>(fl.map (·.i)).contains j|| !rdy ops (((fl.filter fun e=> !(e.i==i)).map (·.i))++done) j)=true) (hlen:Nat.ble fl.length (n+1)=true):
 XF P G f Q ops k pk fl L (n+1) done p ds cs q:=by
 have hm0:e0∈fl:=List.mem_of_find?_eq_some he0
 have hi0:e0.i=i:=by have:=List.find?_some he0;simpa using this
 have uniq: ∀ e∈fl,e.i=i→e=e0:=by
  intro e he hei
  have h1:=List.mem_iff_getElem.1 he
  have h2:=List.mem_iff_getElem.1 hm0
  obtain ⟨x,hx,rfl⟩:=h1
  obtain ⟨y,hy,rfl⟩:=h2
  have:x=y:=by
   have h3:(fl.map (·.i))[x]'(by simpa using hx)=(fl.map (·.i))[y]'(by simpa using hy):=by simp [hei,hi0]
   exact (List.getElem_inj hnd).1 h3
  subst this;rfl
 intro a b
 have inS: ∀ (S:FlS) m tm w g,(e0,g)∈S→(Vd S).Nodup→(∀ e∈S,e.1∈fl)→m+S.length=n+1→tm.size=f.n→Agr tm p→fAgr tm S→St G w (q++fCh S)→WA P ops (Ke' P G f Q k ds cs) (Kp' G Q f.n pk ds cs) m L (Vd S++done) tm w:=by
  intro S m tm w g hg h1 h2 h3 hn ag fa s
  obtain ⟨S1,S2,rfl⟩:=List.append_of_mem hg
  have hnd1:(Vd (S1++S2)).Nodup∧i∉Vd (S1++S2):=by
   unfold Vd at h1⊢
   rw [List.map_append,List.map_cons,←hi0] at*
   have h4:=List.perm_middle.nodup_iff.1 h1
   exact ⟨(List.nodup_cons.1 h4).2,(List.nodup_cons.1 h4).1⟩
  have:=K g a b (S1++S2) m tm w hnd1.1 (fun e he=>by
   have hef:e.1∈fl:=h2 e (by rcases List.mem_append.1 he with he|he<;>simp [he])
   refine List.mem_filter.2 ⟨hef,?_⟩
   have:e.1.i≠i:=fun e'=>hnd1.2 (by rw [←e'];exact List.mem_map_of_mem he)
   simp [this]) (by simp at h3⊢;omega) hn (by
   intro t u hu
   simp only [lkp] at hu
   cases hb:Nat.beq e0.d t with
   |true=>
    rw [hb] at hu
    have:=Nat.eq_of_beq_eq_true hb
    subst this
    simp at hu;subst hu
    exact fa (e0,g) hg
   |false=>rw [hb] at hu;exact ag t u (by simpa using hu)) (fun e he=>fa e (by rcases List.mem_append.1 he with he|he<;>simp [he])) (s.le (by
   unfold fCh
   rw [List.map_append,List.map_cons,List.map_append]
   rw [←List.append_assoc]
   refine (Le.midB _ _ _).trans ?_
   rw [List.append_assoc]
   exact Le.refl _))
  refine this.congr _ fun y=> ?_
  unfold Vd
  simp only [List.map_append,List.map_cons,List.mem_append,List.mem_cons,hi0]
  exact ⟨fun h=>by rcases h with (h|h)|h|h<;>simp [h],fun h=>by rcases h with (h|h|h)|h<;>simp [h]⟩
 intro S m
 induction m generalizing S with
 |zero=>
  intro tm w h1 h2 h3 hn ag fa s
  by_cases hg: ∃ g,(e0,g)∈S
  · obtain ⟨g,hg⟩:=hg;exact inS S 0 tm w g hg h1 h2 h3 hn ag fa s
  exfalso
  have h4:(e0.i::Vd S).length≤(fl.map (·.i)).length:=by
   refine List.Nodup.length_le_of_subset (List.nodup_cons.2 ⟨fun hm=> ?_,h1⟩) fun x hx=> ?_
   · obtain ⟨e,he,e'⟩:=List.mem_map.1 hm
     have:=uniq e.1 (h2 e he) (e'.trans hi0)
     exact hg ⟨e.2,by rw [←this];exact he⟩
   rcases List.mem_cons.1 hx with rfl|hx
   · exact List.mem_map_of_mem hm0
   obtain ⟨e,he,rfl⟩:=List.mem_map.1 hx
   exact List.mem_map_of_mem (h2 e he)
  have:fl.length≤n+1:=by simpa using hlen
  simp [Vd] at h4
  omega
 |succ m ih=>
  intro tm w h1 h2 h3 hn ag fa s
  by_cases hg: ∃ g,(e0,g)∈S
  · obtain ⟨g,hg⟩:=hg;exact inS S (m+1) tm w g hg h1 h2 h3 hn ag fa s
  have hiS:i∉Vd S:=fun hm=>by
   obtain ⟨e,he,e'⟩:=List.mem_map.1 hm
   have:=uniq e.1 (h2 e he) e'
   exact hg ⟨e.2,by rw [←this];exact he⟩
  obtain ⟨oi,hoi,hdi,hri,_⟩:=hR.get hm0
  rw [hi0] at hoi hri
  have hri':=Hw hri hiS
  refine ⟨fun hnone=>absurd hri' (by simp [hnone i]),fun x ox hox hrx=> ?_⟩
  have hxl:x<ops.length:=(List.getElem?_eq_some_iff.1 hox).1
  have hxf:x∈fl.map (·.i):=by
   have h4:=List.all_eq_true.1 hon x (by simpa using hxl)
   rcases Decidable.em (x∈fl.map (·.i)) with h5|h5
   · exact h5
   have h6:rdy ops ((fl.filter fun e=> !(e.i==i)).map (·.i)++done) x=true:=Rg hrx (fun y hy=>by
    rcases List.mem_append.1 hy with hy|hy
    · have hyi:y≠i:=fun e=>hiS (e ▸ hy)
      obtain ⟨e,he,rfl⟩:=List.mem_map.1 hy
      exact List.mem_append_left _ (List.mem_map_of_mem (List.mem_filter.2 ⟨h2 e he,by simpa using hyi⟩))
    · exact List.mem_append_right _ hy) (fun hm=>by
    rcases List.mem_append.1 hm with hm|hm
    · obtain ⟨e,he,rfl⟩:=List.mem_map.1 hm
      exact h5 (List.mem_map_of_mem (List.mem_filter.1 he).1)
    exact Wi hrx (List.mem_append_right _ hm))
   simp only [Bool.or_eq_true,Bool.not_eq_true'] at h4
   rcases h4 with h4|h4
   · exact absurd (by simpa using h4) h5
   rw [h6] at h4;cases h4
  obtain ⟨e,he,rfl⟩:=List.mem_map.1 hxf
  have hxS:e.i∉Vd S:=fun hm=>Wi hrx (List.mem_append_left _ hm)
  refine Na a hR h1 h2 hn ag fa s he hxS hox fun g tm' w' k1 k2 k3 k4 k5 k6=> ?_
  refine ⟨((hL.sub fun y hy=>(V7.1 hy).1).le (Y6 q _)).sl k6,?_⟩
  exact WA.mono _ (fun y hy=>(V7.1 hy).1) (ih ((e,g)::S) tm' w' k1 k2 (by simp;omega) k3 k4 k5 k6)
theorem Fe: ∀ a b:List HP,Le (a++b) (b++a)
 | [],b=>by rw [List.append_nil];exact Le.refl _
 |A::a,b=>((Fe a b).cons A).trans (Ix A b a)
theorem Le.liftR {q q':List HP}(h:Le q q')(E:List HP):Le (q++E) (q'++E):=(Fe q E).trans ((Le.append_left E h).trans (Fe E q'))
theorem XF.pu_ (i:Nat)(hR:FlR P G f ops done p fl)(ho:ops[i]? =some o)(h:Pu P p o v)(hL:HL q L)(K:XF P G f Q ops k pk fl L n (i::done) (Up p o.dst v) ds cs q)
 (hif:(fl.map (·.i)).contains i=false) (hr:rdy ops done i=true) (hw:Wt ops p o=some true) (hd:dOk f.n o.dst=true) (hlen:Nat.ble fl.length n=true):XF P G f Q ops k pk fl L (n+1) done p ds cs q:=by
 intro a b S m tm w h1 h2 h3 hn ag fa s
 have hiS:i∉Vd S:=fun hm=>by
  obtain ⟨e,he,e'⟩:=List.mem_map.1 hm
  have:i∈fl.map (·.i):=by rw [←e'];exact List.mem_map_of_mem (h2 e he)
  simp [this] at hif
 have hle:S.length≤fl.length:=by
  have h4:(Vd S).length≤(fl.map (·.i)).length:=by
   refine List.Nodup.length_le_of_subset h1 fun x hx=> ?_
   obtain ⟨e,he,rfl⟩:=List.mem_map.1 hx
   exact List.mem_map_of_mem (h2 e he)
  simpa [Vd] using h4
 have h5:fl.length≤n:=by simpa using hlen
 obtain ⟨m,rfl⟩: ∃ m',m=m'+1:=⟨m - 1,by omega⟩
 have hS:=(hL.le (Y6 q (fCh S))).sl s
 refine WA.first (Li:= []) a ho (fun ch tm w=>Kp'.of_put b ho ch tm w) (fun e he=>by cases he) m L _ tm w (fun e he=>by cases he) (Hw hr hiS) (.inl ⟨Yu ag hw,fun w' _=>h tm w' ag⟩) hS ?_
 refine WA.congr _ (done:=Vd S++(i::done)) (fun y=>by simp only [List.mem_append,List.mem_cons];exact ⟨fun h=>by rcases h with h|h|h<;>simp [h],fun h=>by rcases h with h|h|h<;>simp [h]⟩) ?_
 refine K a b S m _ w h1 h2 (by omega) (by rw [Yw];exact hn) (ag.put (hn ▸ hd)) ?_ s
 intro e he
 obtain ⟨o2,ho2,hd2,hr2,_,_,_,_⟩:=hR.get (h2 e he)
 have hne:e.1.i≠i:=fun e'=>hiS (by rw [←e'];exact List.mem_map_of_mem he)
 have hdd:=Bl a ho2 ho hne hr2 hr (Wi hr) (Wi hr2) hd2
 have:=fa e he
 cases hdo:o.dst with
 |none=>simpa [Ww] using this
 |some d=>
  have hdne:d≠e.1.d:=fun e'=>hdd (by rw [hdo,e'])
  simpa [Ww,Array.getElem?_setIfInBounds,hdne] using this
section
variable {d:Tmp}{op:Op}{ty:TypeId}{pos:String}{af:Array Edge}{gd:Option (Nat×Bool)}
theorem Qu (i:Nat)(hR:FlR P G f ops done p fl)(h:Pu P p ⟨some d,op,ty,pos,af,gd⟩ v)(K:XF P G f Q ops k pk fl L n (i::done) ((d,v)::p) ds cs q)(ho:ops[i]? =some ⟨some d,op,ty,pos,af,gd⟩:=by rfl)(hL:HL q L:=by exact hlA)
 (hif:(fl.map (·.i)).contains i=false:=by rfl) (hr:rdy ops done i=true:=by rfl) (hw:Wt ops p ⟨some d,op,ty,pos,af,gd⟩=some true:=by rfl) (hd:Nat.blt d f.n=true:=by rfl) (hlen:Nat.ble fl.length n=true:=by rfl):XF P G f Q ops k pk fl L (n+1) done p ds cs q:=
 .pu_ i hR ho h hL K hif hr hw hd hlen
theorem Vj (i:Nat){e0:FlE}(hR:FlR P G f ops done p fl)(K: ∀ g,XF P G f Q ops k pk (fl.filter fun e=> !(e.i==i)) L n (i::done) ((e0.d,e0.V g)::p) ds cs (e0.A g::q))(he0:fl.find? (fun e=>e.i==i)=some e0:=by rfl)(hL:HL q L:=by exact hlA)
 (hnd:(fl.map (·.i)).Nodup:=by decide) (hon:((List.range ops.length).all fun j=>(fl.map (·.i)).contains j|| !rdy ops (((fl.filter fun e=> !(e.i==i)).map (·.i))++done) j)=true:=by rfl) (hlen:Nat.ble fl.length (n+1)=true:=by rfl):
 XF P G f Q ops k pk fl L (n+1) done p ds cs q:= .absorb i he0 hR hL K hnd hon hlen
theorem XF.ef (i:Nat){R:Value→List HP→Prop}(hR:FlR P G f ops done p fl)(hE: ∀ E,Ef P G p (q++E) ⟨some d,op,ty,pos,af,gd⟩ fun v q'=> ∃ q1,R v q1∧q'=q1++E)
 (K: ∀ v q1,R v q1→HL q1 (cut ⟨some d,op,ty,pos,af,gd⟩ L)∧XF P G f Q ops k pk fl (cut ⟨some d,op,ty,pos,af,gd⟩ L) n (i::done) ((d,v)::p) ds cs q1)
 (ho:ops[i]? =some ⟨some d,op,ty,pos,af,gd⟩:=by rfl) (hL:HL q L:=by exact hlA) (hon:onlyF ops (fl.map (·.i)) done i=true:=by rfl) (hif:(fl.map (·.i)).contains i=false:=by rfl) (hr:rdy ops done i=true:=by rfl) (hw:Wt ops p ⟨some d,op,ty,pos,af,gd⟩=some true:=by rfl) (hd:Nat.blt d f.n=true:=by rfl) (hlen:Nat.ble fl.length n=true:=by rfl):
 XF P G f Q ops k pk fl L (n+1) done p ds cs q:= .step i hR ho hE hL (fun v q1 h=>(K v q1 h).2) hon hif hr hw hd hlen (fun v q1 h=>(K v q1 h).1)
end
theorem Jr {α:Type}{r:List HP}{fe:α→Value}{a b:Option Addr}{c c':Nat}{l m:List α}{e:TypeId}{d:Option Tmp}{ty':TypeId}{pos:String}{af:Array Edge}{gd:Option (Nat×Bool)}{x y:Operand}{t:TypeId}{z:Value}{bytes:Nat}(ht:P.underlying t=some (.slice e))(hi:(P.info? e).map (fun i=>(i.zero,i.size,i.bytes))=some (some z,1,bytes))(hz:z.cells.size=1)
 (hx:evp p x=some (.slice a l.length c)) (hy:evp p y=some (.slice b m.length c')) (hq:Le q (Wx.lsH fe e a c l::r)) (hs:Sees q b (m.map fe)) (h1: ∀ u,(fe u).oneCell'=true)
 (h63:l.length+m.length≤9223372036854775807) (hby:(l.length+m.length)*bytes≤140737488355328) (E:List HP):
 Ef P G p (q++E) ⟨d,.call ⟨.builtin .append, [x,y].toArray, [t,t].toArray⟩,ty',pos,af,gd⟩ fun v q'=> ∃ q1,(∃ a' c',v= .slice a' (l++m).length c'∧q1=Wx.lsH fe e a' c' (l++m)::r)∧q'=q1++E:=by
 intro tm w ag s
 obtain ⟨v,w',q',h1',h2',a',c'',h3,h4⟩:=Yb (P:=P) (G:=G) (d:=d) (ty':=ty') (pos:=pos) (af:=af) (gd:=gd) (r:=r++E) ht hi hz hx hy (hq.liftR E) (hs.le (Y6 q E)) h1 h63 hby tm w ag s
 exact ⟨v,w',q',h1',h2',_,⟨a',c'',h3,rfl⟩,h4⟩
end
end Wx
namespace Wx
open Go Go.RowKit
section
variable {P:Program}{G:World}{f:Fc}{Q:Yr}{ops:List Oper}{k:List Item}{pk p:PE}{ds:List Deferred}{cs:List Frame}{q r:List HP}{n:Nat}{done:List Nat}{L:Rds}{v:Value}{fl:List FlE}{op:Op}{ty:TypeId}{pos:String}{af:Array Edge}{gd:Option (Nat×Bool)}{t:TypeId}{x y:Operand}
theorem Ef.stE {b o:Nat}{l:List Value}{t':TypeId}{d:Option Tmp}(hs: ∀ w,(Go.sizeOf t).run P w= .ok 1 w)(hx:evp p x=some (.pointer (some ⟨b,o,none⟩)))(hy:evp p y=some v)
 (hv:v.cells= #[v]) (h1:v.oneCell'=true) (hq:Le q (pto b (.cells l.toArray t' (0,0))::r)) (ho:Nat.blt o l.length=true) (E:List HP):
 Ef P G p (q++E) ⟨d,.store t x y,ty,pos,af,gd⟩ fun z q'=> ∃ q1,(z=undef∧q1=pto b (.cells (Nb l o v).toArray t' (0,0))::r)∧q'=q1++E:=by
 intro tm w ag s
 obtain ⟨z,w',q',h1',h2',h3,h4⟩:=Ef.store (P:=P) (G:=G) (d:=d) (ty:=ty) (pos:=pos) (af:=af) (gd:=gd) (r:=r++E) hx hy hs hv h1 (hq.liftR E) ho tm w ag s
 exact ⟨z,w',q',h1',h2',_,⟨h3,rfl⟩,h4⟩
end
end Wx
namespace Wx
open Go Go.RowKit
section
variable {P:Program}{p:PE}{d:Option Tmp}{ty:TypeId}{pos:String}{af:Array Edge}{gd:Option (Nat×Bool)}{x y:Operand}{t t':TypeId}
theorem Lk {P:Program}{p:PE}{d:Option Tmp}{ty:TypeId}{pos:String}{af:Array Edge}{gd:Option (Nat×Bool)}{x y z:Operand}{t e:TypeId}{a:Option Addr}{n c sz:Nat}{kd kd':IntKind}{h m:Int}(hx:evp p x=some (.slice a n c))(hy:evp p y=some (.int kd h))(hm:evp p z=some (.int kd' m))(ht:P.underlying t=some (.slice e))(hs: ∀ w,(Go.sizeOf e).run P w= .ok sz w)(h0:0≤h)(h1:h≤m)(h2:m≤c):
 Pu P p ⟨d,.slice t x none (some y) (some z),ty,pos,af,gd⟩ (.slice a h.toNat m.toNat):=fun tm w ag=>by
 have hc:0≤h∧h≤m:=⟨h0,h1⟩
 have hm':0≤m∧m≤(c:Int):=⟨by omega,h2⟩
 have hz:a.map (fun x:Addr=>x.add 0)=a:=by cases a<;>simp [Addr.add]
 simp [execOp,Zu ag hx,Zu ag hy,Zu ag hm,Instr.sliceAt,Instr.slice,run_underlying ht,Instr.sliceBounds,Instr.sliceBound,asIntOf,hc,hm',hs,hz]
 intro hh;omega
theorem Pu.cap {P:Program}{p:PE}{d:Option Tmp}{ty:TypeId}{pos:String}{af:Array Edge}{gd:Option (Nat×Bool)}{x:Operand}{t e:TypeId}{A:Option Addr}{n m:Nat}{ats:List TypeId}(hx:evp p x=some (.slice A n m))(ht:P.underlying t=some (.slice e)):Pu P p ⟨d,.call ⟨.builtin .cap, [x].toArray,(t::ats).toArray⟩,ty,pos,af,gd⟩ (.int .i64 m):=
 fun tm w ag=>by simp [execOp,resolve,invoke,builtin,Zu ag hx,Builtin.cap_,run_underlying ht,goInt]
end
end Wx
namespace Wx
open Go Go.RowKit
inductive TD where
 |ptr|fn|ifc|bool|str|other
 |slc (e:Nat)
 |int (k:IntKind)
 |strct (fs:List (Nat×Nat))
structure TF where
 d:TD
 agg:Bool
 sz:Nat
 bz:Option (List (Nat×Nat)×List Value):=none
inductive Tr where
 |e
 |n (v:Option TF) (l r:Tr)
def Tr.get:Tr→Nat→Option TF
 | .e,_=>none
 | .n v l r,t=>bif Nat.beq t 0 then v else bif Nat.beq (t % 2) 1 then l.get (t / 2) else r.get (t / 2 - 1)
def TD.ok (P:Program)(t:TypeId):TD→Prop
 | .ptr=> ∃ e,P.underlying t=some (.pointer e)
 | .fn=> ∃ u r b,P.underlying t=some (.func u r b)
 | .ifc=> ∃ m,P.underlying t=some (.interface m)
 | .bool=>P.underlying t=some .bool
 | .str=>P.underlying t=some .string
 | .other=> ∃ D,P.underlying t=some D∧(match D with| .interface _=>false|_=>true)=true
 | .slc e=>P.underlying t=some (.slice e)
 | .int k=>P.underlying t=some (.int k)
 | .strct l=> ∃ fs,P.underlying t=some (.struct fs)∧fs.toList.map (fun F=>(F.type,F.offset))=l
def TF.ok (P:Program)(t:TypeId)(x:TF):Prop:=
 x.d.ok P t∧(∀ w,(isAgg t).run P w= .ok x.agg w)∧(∀ w,(Go.sizeOf t).run P w= .ok x.sz w)∧
 match x.bz with
 |none=>True
 |some (pl,z)=>(∀ w,(zeroValue t).run P w= .ok (.agg z.toArray) w)∧ ∃ fs,P.underlying t=some (.struct fs)∧fs.toList.mapM (fun f=>(P.info? f.type).map fun i=>(f.offset,i.size))=some pl
def Tr.ok (P:Program):Tr→(Nat→Nat)→Prop
 | .e,_=>True
 | .n v l r,f=>(match v with|none=>True|some x=>x.ok P (f 0))∧l.ok P (fun i=>f (2*i+1))∧r.ok P (fun i=>f (2*i+2))
theorem Za {P:Program}: ∀ {T:Tr} {f:Nat→Nat} {t:Nat} {x:TF},T.ok P f→T.get t=some x→x.ok P (f t)
 | .e,_,_,_,_,h=>by simp [Tr.get] at h
 | .n v l r,f,t,x,⟨h1,h2,h3⟩,h=>by
  unfold Tr.get at h
  cases hb:Nat.beq t 0 with
  |true=>
   have:=Nat.eq_of_beq_eq_true hb;subst this
   rw [hb] at h;simp only [cond_true] at h;subst h;exact h1
  |false=>
   have h0:=Nat.ne_of_beq_eq_false hb
   rw [hb] at h;simp only [cond_false] at h
   cases hc:Nat.beq (t % 2) 1 with
   |true=>
    have:=Nat.eq_of_beq_eq_true hc
    rw [hc] at h;simp only [cond_true] at h
    have:=Za h2 h
    have e:2*(t / 2)+1=t:=by omega
    simpa only [e] using this
   |false=>
    have:=Nat.ne_of_beq_eq_false hc
    rw [hc] at h;simp only [cond_false] at h
    have:=Za h3 h
    have e:2*(t / 2 - 1)+2=t:=by omega
    simpa only [e] using this
def Gk:List Value→Nat→List Value→Option (List Value)
 |l,_, []=>some l
 | [],_,_=>none
 |_::l,0,v::vs=>match Gk l 0 vs with
  |some r=>some (v::r)
  |none=>none
 |x::l,n+1,vs=>match Gk l n vs with
  |some r=>some (x::r)
  |none=>none
theorem Es: ∀ {l:List Value} {n:Nat} {vs r:List Value},Gk l n vs=some r→spl l n vs=r∧n+vs.length≤l.length∨vs= []∧r=l
 |l,n, [],r,h=>by right;cases l<;>cases n<;>simp [Gk] at h<;>simp [h]
 | [],n,v::vs,r,h=>by cases n<;>simp [Gk] at h
 |x::l,0,v::vs,r,h=>by
  simp only [Gk] at h
  split at h
  · rename_i r' hr
    cases h
    left
    rcases Es hr with ⟨e,e2⟩|⟨rfl,rfl⟩
    · exact ⟨by simp [spl,e],by simp;omega⟩
    exact ⟨by cases r'<;>simp [spl],by simp⟩
  cases h
 |x::l,n+1,v::vs,r,h=>by
  simp only [Gk] at h
  split at h
  · rename_i r' hr
    cases h
    left
    rcases Es hr with ⟨e,e2⟩|⟨h,_⟩
    · exact ⟨by simp [spl,e],by simp at e2⊢;omega⟩
    cases h
  cases h
def Pr:Value→Option (List Value)
 | .agg ⟨l⟩=>some l
 | .tuple _=>none
 |v=>some [v]
theorem Oc {v:Value}{l:List Value}(h:Pr v=some l):v.cells.toList=l:=by
 unfold Pr at h
 split at h
 · cases h;rfl
 · cases h
 rename_i h1 h2
 cases h
 cases v<;>first|rfl|exact absurd rfl (h2 _)|(rename_i a;exact absurd rfl (h1 a.toList))
def bldF (pl:List (Nat×Nat))(p:PE):List Value→List (Nat×Operand)→Option (List Value)
 |cs, []=>some cs
 |cs,(i,x)::r=>match Da pl i,evp p x with
  |some (off,sz),some v=>match Pr v with
   |some vs=>match Nat.beq vs.length sz && Nat.ble (off+sz) cs.length with
    |true=>match Gk cs off vs with
     |some cs'=>bldF pl p cs' r
     |none=>none
    |false=>none
   |none=>none
  |_,_=>none
theorem evl_cons {p:PE}{x:Operand}{l:List Operand}{v:Value}{vs:List Value}(h:evp p x=some v)(k:evl p l=some vs):evl p (x::l)=some (v::vs):=by simp [evl,h,k]
theorem S6 {pl:List (Nat×Nat)}{p:PE}: ∀ {ps:List (Nat×Operand)} {cs r:List Value},bldF pl p cs ps=some r→ ∃ us,evl p (ps.map (·.2))=some us∧Bc pl cs ((ps.map (·.1)).zip us)=some r
 | [],cs,r,h=>by simp only [bldF] at h;cases h;exact ⟨[],rfl,by cases pl<;>rfl⟩
 |(i,x)::ps,cs,r,h=>by
  simp only [bldF] at h
  split at h
  · rename_i off sz v h1 h2
    split at h
    · rename_i vs h3
      split at h
      · rename_i h4
        split at h
        · rename_i cs' h5
          obtain ⟨us,e1,e2⟩:=S6 h
          refine ⟨v::us,evl_cons h2 e1,?_⟩
          have e3:=Oc h3
          have h4':=h4
          simp only [Bool.and_eq_true] at h4'
          simp only [List.map_cons,List.zip_cons_cons,Bc,h1,e3,h4,cond_true]
          have e4:=Nat.le_of_ble_eq_true h4'.2
          have e5:=Nat.eq_of_beq_eq_true h4'.1
          have e6:spl cs off vs=cs':=by
           rcases Es h5 with ⟨e,_⟩|⟨rfl,rfl⟩
           · exact e
           cases cs'<;>cases off<;>rfl
          rw [e6];exact e2
        cases h
      cases h
    cases h
  cases h
abbrev SR:=Option (Value×Option Prop)
def bin (op:BinOp)(T:Tr)(t:TypeId):Value→Value→SR
 | .int kd m,.int kd' n=>match decide (kd=kd') with
  |true=>match op with
   | .eql=>some (.bool (m==n),none)
   | .neq=>some (.bool (m !=n),none)
   | .lss=>some (.bool (decide (m<n)),none)
   | .leq=>some (.bool (decide (m≤n)),none)
   | .gtr=>some (.bool (decide (n<m)),none)
   | .geq=>some (.bool (decide (n≤m)),none)
   | .add=>match kd with
    | .i64=>some (.int .i64 (m+n),some (-9223372036854775808≤m+n∧m+n≤9223372036854775807))
    |k=>some (.int k (k.wrap (m+n)),none)
   | .sub=>match kd with
    | .i64=>some (.int .i64 (m - n),some (-9223372036854775808≤m - n∧m - n≤9223372036854775807))
    |k=>some (.int k (k.wrap (m - n)),none)
   | .mul=>match kd with
    | .i64=>some (.int .i64 (m*n),some (-9223372036854775808≤m*n∧m*n≤9223372036854775807))
    |k=>some (.int k (k.wrap (m*n)),none)
   | .rem=>some (.int kd (m.tmod n),some (n≠0))
   | .quo=>some (.int kd (kd.wrap (m.tdiv n)),some (n≠0))
   | .shr=>some (.int kd (m.fdiv (2 ^ min n.toNat kd.bits)),some (0≤n))
   | .shl=>some (.int kd (kd.wrap (m*2 ^ min n.toNat kd.bits)),some (0≤n))
   | .and=>some (.int kd (kd.wrap ((BitVec.ofInt kd.bits m &&& BitVec.ofInt kd.bits n).toNat:Int)),none)
   | .or=>some (.int kd (kd.wrap ((BitVec.ofInt kd.bits m|||BitVec.ofInt kd.bits n).toNat:Int)),none)
   |_=>none
  |false=>match op with
   | .shr=>some (.int kd (m.fdiv (2 ^ min n.toNat kd.bits)),some (0≤n))
   | .shl=>some (.int kd (kd.wrap (m*2 ^ min n.toNat kd.bits)),some (0≤n))
   |_=>none
 | .bool a,.bool b=>match op,T.get t with
  | .eql,some ⟨.bool,_,_,_⟩=>some (.bool (a==b),none)
  | .neq,some ⟨.bool,_,_,_⟩=>some (.bool (a !=b),none)
  |_,_=>none
 | .string a,.string b=>match op with
  | .eql=>some (.bool (a.toList==b.toList),none)
  | .neq=>some (.bool (!(a.toList==b.toList)),none)
  |_=>none
 |_,_=>none
def nilc (op:BinOp)(T:Tr)(t:TypeId):Value→Value→SR
 | .pointer A,.pointer none=>match op,T.get t with
  | .eql,some ⟨.ptr,_,_,_⟩=>some (.bool A.isNone,none)
  | .neq,some ⟨.ptr,_,_,_⟩=>some (.bool A.isSome,none)
  |_,_=>none
 | .slice A _ _,.slice none 0 0=>match op,T.get t with
  | .eql,some ⟨.slc _,_,_,_⟩=>some (.bool A.isNone,none)
  | .neq,some ⟨.slc _,_,_,_⟩=>some (.bool A.isSome,none)
  |_,_=>none
 |_,_=>none
def sxO (T:Tr)(p:PE):Op→SR
 | .move x=>match evp p x with
  |some v=>some (v,none)
  |none=>none
 | .assign x=>match evp p x with
  |some v=>some (v,none)
  |none=>none
 | .pick c a b=>match evp p c with
  |some (.bool true)=>match evp p a with
   |some v=>some (v,none)
   |none=>none
  |some (.bool false)=>match evp p b with
   |some v=>some (v,none)
   |none=>none
  |_=>none
 | .extract x n=>match evp p x with
  |some (.tuple ⟨vs⟩)=>match nth vs n with
   |some v=>some (v,none)
   |none=>none
  |_=>none
 | .makeFunc fn ⟨l⟩ ⟨m⟩=>match evl p l,evl p m with
  |some fs,some ms=>some (.func fn fs.toArray ms.toArray,none)
  |_,_=>none
 | .makeInterface t x=>match evp p x,T.get t with
  |some v,some ⟨d,_,_,_⟩=>match d with
   | .ifc=>none
   |_=>some (.iface t v,none)
  |_,_=>none
 | .nilCheck x=>match evp p x with
  |some (.pointer (some A))=>some (.pointer (some A),none)
  |some (.func (.func f) l m)=>some (.func (.func f) l m,none)
  |_=>none
 | .unOp .not _ x=>match evp p x with
  |some (.bool true)=>some (.bool false,none)
  |some (.bool false)=>some (.bool true,none)
  |_=>none
 | .unOp .neg _ x=>match evp p x with
  |some (.int kd n)=>some (.int kd (kd.wrap (0 - n)),none)
  |_=>none
 | .convert s t x=>match evp p x,T.get s,T.get t with
  |some (.int _ n),some ⟨.int _,_,_,_⟩,some ⟨.int kd,_,_,_⟩=>match kd with
   | .i64=>some (.int .i64 n,some (-9223372036854775808≤n∧n≤9223372036854775807))
   |k=>some (.int k (k.wrap n),none)
  |_,_,_=>none
 | .fieldAddr t x n=>match evp p x,T.get t with
  |some (.pointer (some ⟨b,o,none⟩)),some ⟨.strct l,_,_,_⟩=>match Da l n with
   |some (ft,off)=>match T.get ft with
    |some ⟨_,_,_+1,_⟩=>some (.pointer (some ⟨b,o+off,none⟩),none)
    |_=>none
   |none=>none
  |_,_=>none
 | .field t x n=>match evp p x,T.get t with
  |some (.agg ⟨vs⟩),some ⟨.strct l,_,_,_⟩=>match Da l n with
   |some (ft,off)=>match T.get ft with
    |some ⟨_,false,_,_⟩=>match nth vs off with
     |some v=>some (v,none)
     |none=>none
    |some ⟨_,true,sz,_⟩=>some (.agg (Wx.sub vs off sz).toArray,none)
    |none=>none
   |none=>none
  |_,_=>none
 | .indexAddr t x i=>match evp p x,evp p i,T.get t with
  |some (.slice (some ⟨b,o,none⟩) n _),some (.int _ j),some ⟨.slc e,_,_,_⟩=>match T.get e with
   |some ⟨_,_,sz,_⟩=>some (.pointer (some ⟨b,o+j.toNat*sz,none⟩),some (0≤j∧j<n))
   |none=>none
  |_,_,_=>none
 | .slice t x none (some h) none=>match evp p x,evp p h,T.get t with
  |some (.slice a _ c),some (.int _ j),some ⟨.slc e,_,_,_⟩=>match T.get e with
   |some _=>some (.slice a j.toNat c,some (0≤j∧j≤c))
   |none=>none
  |_,_,_=>none
 | .slice t x none (some h) (some m)=>match evp p x,evp p h,evp p m,T.get t with
  |some (.slice a _ c),some (.int _ j),some (.int _ m),some ⟨.slc e,_,_,_⟩=>match T.get e with
   |some _=>some (.slice a j.toNat m.toNat,some (0≤j∧j≤m∧m≤c))
   |none=>none
  |_,_,_,_=>none
 | .slice t x (some h) none none=>match evp p x,evp p h,T.get t with
  |some (.slice a n c),some (.int _ j),some ⟨.slc e,_,_,_⟩=>match T.get e with
   |some ⟨_,_,sz,_⟩=>some (.slice (Ea a c j.toNat sz) (n - j.toNat) (c - j.toNat),some (0≤j∧j≤n))
   |none=>none
  |_,_,_=>none
 | .build t ⟨ps⟩=>match T.get t with
  |some ⟨_,_,_,some (pl,z)⟩=>match bldF pl p z ps with
   |some cells=>some (.agg cells.toArray,none)
   |none=>none
  |_=>none
 | .call ⟨.builtin .len,⟨[x]⟩,⟨t::_⟩⟩=>match evp p x,T.get t with
  |some (.slice _ n _),some ⟨.slc _,_,_,_⟩=>some (.int .i64 n,none)
  |some (.string s),some ⟨.str,_,_,_⟩=>some (.int .i64 s.size,none)
  |_,_=>none
 | .call ⟨.builtin .cap,⟨[x]⟩,⟨t::_⟩⟩=>match evp p x,T.get t with
  |some (.slice _ _ c),some ⟨.slc _,_,_,_⟩=>some (.int .i64 c,none)
  |_,_=>none
 | .call ⟨.builtin .max,⟨[x,y]⟩,_⟩=>match evp p x,evp p y with
  |some (.int kd m),some (.int _ n)=>some (.int kd (max m n),none)
  |_,_=>none
 | .call ⟨.builtin .min,⟨[x,y]⟩,_⟩=>match evp p x,evp p y with
  |some (.int kd m),some (.int _ n)=>some (.int kd (min m n),none)
  |_,_=>none
 | .binOp op t x y _=>match y with
  | .const (.pointer none)=>match evp p x with
   |some v=>nilc op T t v (.pointer none)
   |none=>none
  | .const (.slice none 0 0)=>match evp p x with
   |some v=>nilc op T t v (.slice none 0 0)
   |none=>none
  |y=>match evp p x,evp p y with
   |some v,some u=>bin op T t v u
   |_,_=>none
 |_=>none
section sound
variable {P:Program}{T:Tr}{p:PE}{v:Value}{c:Option Prop}{d:Option Tmp}{ty:TypeId}{pos:String}{af:Array Edge}{gd:Option (Nat×Bool)}
theorem kd_of {a b:IntKind}(h:decide (a=b)=true):b=a:=(of_decide_eq_true h).symm
theorem bin_ok {op:BinOp}{t t':TypeId}{x y:Operand}{a b:Value}(hT:T.ok P id)(hx:evp p x=some a)(hy:evp p y=some b)(h:bin op T t a b=some (v,c))(hc: ∀ φ,c=some φ→φ):
 Pu P p ⟨d,.binOp op t x y t',ty,pos,af,gd⟩ v:=by
 unfold bin at h
 split at h
 · split at h
   · rename_i hd
     have:=kd_of hd;subst this
     split at h<;>try (split at h)
     all_goals first
      |cases h
      |skip
     all_goals first
      |exact Pu.eql hx hy
      |exact Pu.neq hx hy
      |exact Pu.lss hx hy
      |exact Pu.leq hx hy
      |exact Pu.gtr hx hy
      |exact Pu.geq hx hy
      |exact Pu.add hx hy (hc _ rfl).1 (hc _ rfl).2
      |exact Iv hx hy
      |exact Pu.sub hx hy (hc _ rfl).1 (hc _ rfl).2
      |exact Ij hx hy
      |exact Pu.mul hx hy (hc _ rfl).1 (hc _ rfl).2
      |exact Ik hx hy
      |exact Pu.rem hx hy (hc _ rfl)
      |exact Fr hx hy (hc _ rfl)
      |exact Pu.shr hx hy (hc _ rfl)
      |exact Pu.shl hx hy (hc _ rfl)
      |exact Pu.and hx hy
      |exact Pu.or hx hy
   split at h<;>cases h
   · exact Pu.shr hx hy (hc _ rfl)
   exact Pu.shl hx hy (hc _ rfl)
 · split at h<;>first|(cases h;done)|skip
   · rename_i hg
     cases h;exact Pu.eqlB hx hy (Za hT hg).1
   rename_i hg
   cases h;exact Pu.neqB hx hy (Za hT hg).1
 · split at h<;>cases h
   · exact Pu.eqlS hx hy
   exact Pu.neqS hx hy
 cases h
theorem Sr {op:BinOp}{t t':TypeId}{x:Operand}{a b:Value}(hT:T.ok P id)(hx:evp p x=some a)(h:nilc op T t a b=some (v,c)):
 Pu P p ⟨d,.binOp op t x (.const b) t',ty,pos,af,gd⟩ v:=by
 unfold nilc at h
 split at h
 · split at h
   · rename_i hg
     obtain ⟨⟨e,he⟩,_⟩:=Za hT hg
     cases h;exact O6 hx he
   · rename_i hg
     obtain ⟨⟨e,he⟩,_⟩:=Za hT hg
     cases h;exact O4 hx he
   cases h
 · split at h
   · rename_i hg
     have he:=(Za hT hg).1
     cases h;exact Lx hx he
   · rename_i hg
     have he:=(Za hT hg).1
     cases h;exact Lw hx he
   cases h
 cases h
theorem TD.some {t:TypeId}{D:TD}(h:D.ok P t): ∃ E,P.underlying t=some E∧((∀ _:D= .ifc,False)→(match E with| .interface _=>false|_=>true)=true):=by
 cases D with
 |ptr=>obtain ⟨e,he⟩:=h;exact ⟨_,he,fun _=>rfl⟩
 |fn=>obtain ⟨u,r,b,he⟩:=h;exact ⟨_,he,fun _=>rfl⟩
 |ifc=>obtain ⟨u,he⟩:=h;exact ⟨_,he,fun k=>(k rfl).elim⟩
 |bool=>exact ⟨_,h,fun _=>rfl⟩
 |str=>exact ⟨_,h,fun _=>rfl⟩
 |other=>obtain ⟨E,he,hk⟩:=h;exact ⟨E,he,fun _=>hk⟩
 |slc e=>exact ⟨_,h,fun _=>rfl⟩
 |int k=>exact ⟨_,h,fun _=>rfl⟩
 |strct l=>obtain ⟨u,he,_⟩:=h;exact ⟨_,he,fun _=>rfl⟩
theorem fld {l:List (Nat×Nat)}{n:Nat}{ft off:Nat}{fs:Array Field}(h:fs.toList.map (fun F=>(F.type,F.offset))=l)(k:Da l n=some (ft,off)):(fs[n]?).map (fun F=>(F.type,F.offset))=some (ft,off):=by
 rw [Sc,←h] at k
 simpa using k
theorem sxO_ok {op:Op}(hT:T.ok P id)(h:sxO T p op=some (v,c))(hc: ∀ φ,c=some φ→φ):Pu P p ⟨d,op,ty,pos,af,gd⟩ v:=by
 unfold sxO at h
 split at h
 · split at h<;>cases h;exact Pu.move ‹_›
 · split at h<;>cases h;exact Pu.assign ‹_›
 · split at h
   · split at h<;>cases h;exact Pu.pickT ‹_› ‹_›
   · split at h<;>cases h;exact Pu.pickF ‹_› ‹_›
   cases h
 · split at h
   · split at h<;>cases h;exact Pu.extract ‹_› ‹_›
   cases h
 · split at h<;>cases h;exact Pu.makeFunc ‹_› ‹_›
 · split at h
   · rename_i hx hg
     obtain ⟨E,he,hk⟩:=TD.some (Za hT hg).1
     split at h
     · cases h
     rename_i hn
     cases h;refine Pu.makeInterface hx he ?_;have hk':=hk fun e=>hn e;clear hk;revert hk';cases E<;>exact fun e=>e
   cases h
 · split at h<;>cases h
   · exact Pu.nilCheck ‹_›
   exact Fi ‹_›
 · split at h<;>cases h
   · exact Pu.not (z:=true) ‹_›
   exact Pu.not (z:=false) ‹_›
 · split at h<;>cases h;exact Pu.negW ‹_›
 · split at h
   · rename_i hx hs ht
     have h1:=(Za hT hs).1
     have h2:=(Za hT ht).1
     split at h<;>cases h
     · exact Pu.conv hx h1 h2 (Uk (hc _ rfl).1 (hc _ rfl).2)
     exact C0 hx h1 h2
   cases h
 · split at h
   · rename_i hx ht
     obtain ⟨⟨fs,h1,h2⟩,_⟩:=Za hT ht
     split at h
     · rename_i hn
       split at h<;>cases h
       rename_i hf
       exact Pu.fieldAddr _ _ _ hx h1 (fld h2 hn) (Za hT hf).2.2.1
     cases h
   cases h
 · split at h
   · rename_i hx ht
     obtain ⟨⟨fs,h1,h2⟩,_⟩:=Za hT ht
     split at h
     · rename_i hn
       split at h
       · rename_i hf
         split at h<;>cases h
         exact Pu.field _ _ hx h1 (fld h2 hn) (Za hT hf).2.1 ‹_›
       · rename_i hf
         cases h
         exact O5 _ _ hx h1 (fld h2 hn) (Za hT hf).2.1 (Za hT hf).2.2.1
       cases h
     cases h
   cases h
 · split at h
   · rename_i hx hy ht
     split at h<;>cases h
     rename_i he
     exact Pu.indexAddr hx hy (Za hT ht).1 (Za hT he).2.2.1 (hc _ rfl).1 (hc _ rfl).2
   cases h
 · split at h
   · rename_i hx hy ht
     split at h<;>cases h
     rename_i he
     exact Lj hx hy (Za hT ht).1 (Za hT he).2.2.1 (hc _ rfl).1 (hc _ rfl).2
   cases h
 · split at h
   · rename_i hx hy hm ht
     split at h<;>cases h
     rename_i he
     exact Lk hx hy hm (Za hT ht).1 (Za hT he).2.2.1 (hc _ rfl).1 (hc _ rfl).2.1 (hc _ rfl).2.2
   cases h
 · split at h
   · rename_i hx hy ht
     split at h<;>cases h
     rename_i he
     exact Lz hx hy (Za hT ht).1 (Za hT he).2.2.1 (hc _ rfl).1 (hc _ rfl).2
   cases h
 · split at h
   · rename_i ht
     obtain ⟨_,_,_,h1,fs,h2,h3⟩:=Za hT ht
     split at h<;>cases h
     rename_i hb
     obtain ⟨us,e1,e2⟩:=S6 hb
     exact Pu.build _ h1 h2 h3 e1 e2
   cases h
 · split at h
   · rename_i hx ht
     cases h;exact Pu.len hx (Za hT ht).1
   · rename_i hx ht
     cases h;exact Pu.lenS hx (Za hT ht).1
   cases h
 · split at h
   · rename_i hx ht
     cases h;exact Pu.cap hx (Za hT ht).1
   cases h
 · split at h<;>cases h;exact Pu.max2 ‹_› ‹_›
 · split at h<;>cases h;exact Pu.min2 ‹_› ‹_›
 · split at h
   · split at h
     · exact Sr hT ‹_› h
     cases h
   · split at h
     · exact Sr hT ‹_› h
     cases h
   split at h
   · exact bin_ok hT ‹_› ‹_› h hc
   cases h
 cases h
end sound
inductive Md where
 |code
 |ops (ops l:List Oper)
def Y (P:Program)(G:World)(f:Fc)(Q:Yr)(md:Md)(k:List Item)(p:PE)(ds:List Deferred)(cs:List Frame)(q:List HP):Prop:=
 match md with
 | .code=>X P G f Q k p ds cs q
 | .ops ops l=>XO P G f Q ops.toArray k l p ds cs q
structure Sta where
 md:Md
 k:List Item
 p:PE
 c:List Prop
def Jx:List Prop→Prop
 | []=>True
 |φ::r=>φ∧Jx r
def opS (T:Tr)(ops:List Oper)(p:PE)(o:Oper):SR:=
 match Wt ops p o with
 |some true=>sxO T p o.op
 |some false=>some (undef,none)
 |none=>none
def putO (n:Nat)(p:PE)(v:Value):Option Tmp→Option PE
 |none=>some p
 |some d=>match Nat.blt d n with
  |true=>some ((d,v)::p)
  |false=>none
def Se:Op→Bool
 | .defer _=>true
 |_=>false
def st1 (T:Tr)(n:Nat):Md→List Item→PE→List Prop→Option Sta
 | .ops ops [],k,p,c=>some ⟨.code,k,p,c⟩
 | .ops ops (o::l),k,p,c=>match opS T ops p o with
  |some (v,φ)=>match putO n p v o.dst,Se o.op with
   |some p',false=>match φ with
    |none=>some ⟨.ops ops l,k,p',c⟩
    |some φ=>some ⟨.ops ops l,k,p',φ::c⟩
   |_,_=>none
  |none=>none
 | .code,.code (.seq a b)::k,p,c=>some ⟨.code,.code a:: .code b::k,p,c⟩
 | .code,.code .skip::k,p,c=>some ⟨.code,k,p,c⟩
 | .code,.code (.label _)::k,p,c=>some ⟨.code,k,p,c⟩
 | .code,.inBlock _::k,p,c=>some ⟨.code,k,p,c⟩
 | .code,.inScope _::k,p,c=>some ⟨.code,k,p,c⟩
 | .code,.code (.block i b)::k,p,c=>some ⟨.code,.code b:: .inBlock i::k,p,c⟩
 | .code,.code (.scope b)::k,p,c=>some ⟨.code,.code b:: .inScope b::k,p,c⟩
 | .code,.code (.exit i)::k,p,c=>match exitTo i k with
  |some k'=>some ⟨.code,k',p,c⟩
  |none=>none
 | .code,.code (.region _ ⟨ops⟩ false)::k,p,c=>some ⟨.ops ops ops,k,p,c⟩
 | .code,.code (.cond x a b)::k,p,c=>match evp p x with
  |some (.bool true)=>some ⟨.code,.code a::k,p,c⟩
  |some (.bool false)=>some ⟨.code,.code b::k,p,c⟩
  |_=>none
 |_,_,_,_=>none
def stn (T:Tr)(n:Nat):Nat→Md→List Item→PE→List Prop→Option Sta
 |0,md,k,p,c=>some ⟨md,k,p,c⟩
 |m+1,md,k,p,c=>match st1 T n md k p c with
  |some ⟨md',k',p',c'⟩=>stn T n m md' k' p' c'
  |none=>none
section
variable {P:Program}{G:World}{f:Fc}{Q:Yr}{T:Tr}{md:Md}{k:List Item}{p:PE}{c:List Prop}{ds:List Deferred}{cs:List Frame}{q:List HP}
theorem opS_ok {ops:List Oper}{o:Oper}{v:Value}{φ:Option Prop}(hT:T.ok P id)(h:opS T ops p o=some (v,φ))(hc: ∀ ψ,φ=some ψ→ψ):
 (Wt ops p o=some true∧Pu P p o v)∨(Wt ops p o=some false∧v=undef):=by
 unfold opS at h
 split at h
 · rename_i hw
   exact .inl ⟨hw,sxO_ok hT h hc⟩
 · rename_i hw
   cases h;exact .inr ⟨hw,rfl⟩
 cases h
theorem Sm {n:Nat}{v:Value}{d:Option Tmp}{p':PE}(h:putO n p v d=some p'):dOk n d=true∧p'=Up p d v:=by
 unfold putO at h
 split at h
 · cases h;exact ⟨rfl,rfl⟩
 split at h
 · rename_i hb;cases h;exact ⟨hb,rfl⟩
 cases h
theorem st1_ok {s:Sta}(hT:T.ok P id)(h:st1 T f.n md k p c=some s)(hc:Jx s.c)(K:Y P G f Q s.md s.k s.p ds cs q):Y P G f Q md k p ds cs q∧Jx c:=by
 unfold st1 at h
 split at h
 · cases h;exact ⟨XO.nil K,hc⟩
 · rename_i ops o l
   split at h
   · rename_i v φ hop
     split at h
     · rename_i p' hp hd
       have hdf: ∀ c,o.op≠ .defer c:=by
        intro c e;rw [e] at hd;simp [Se] at hd
       obtain ⟨h1,h2⟩:=Sm hp
       subst h2
       have key: ∀ (φ':Option Prop),φ=φ'→(∀ ψ,φ'=some ψ→ψ)→XO P G f Q ops.toArray k l (Up p o.dst v) ds cs q→XO P G f Q ops.toArray k (o::l) p ds cs q:=by
        rintro _ rfl hψ K
        rcases opS_ok hT hop hψ with ⟨hw,hpu⟩|⟨hw,rfl⟩
        · exact .pu_ hpu K hw h1 hdf
        exact .pass_ hw h1 K
       split at h
       · cases h;exact ⟨key _ rfl (fun _ e=>by cases e) K,hc⟩
       rename_i ψ
       cases h;exact ⟨key _ rfl (fun _ e=>by cases e;exact hc.1) K,hc.2⟩
     cases h
   cases h
 · cases h;exact ⟨X.seq K,hc⟩
 · cases h;exact ⟨X.skip K,hc⟩
 · cases h;exact ⟨X.label K,hc⟩
 · cases h;exact ⟨X.inBlock K,hc⟩
 · cases h;exact ⟨X.inScope K,hc⟩
 · cases h;exact ⟨X.block K,hc⟩
 · cases h;exact ⟨X.scope K,hc⟩
 · split at h
   · cases h;exact ⟨X.exit ‹_› K,hc⟩
   cases h
 · cases h;exact ⟨X.region K,hc⟩
 · split at h
   · cases h;exact ⟨X.condT ‹_› K,hc⟩
   · cases h;exact ⟨X.condF ‹_› K,hc⟩
   cases h
 cases h
theorem Rs (hT:T.ok P id): ∀ {m:Nat} {md:Md} {k:List Item} {p:PE} {c:List Prop} {s:Sta},stn T f.n m md k p c=some s→Jx s.c→Y P G f Q s.md s.k s.p ds cs q→Y P G f Q md k p ds cs q∧Jx c
 |0,md,k,p,c,s,h,hc,K=>by cases h;exact ⟨K,hc⟩
 |m+1,md,k,p,c,s,h,hc,K=>by
  simp only [stn] at h
  split at h
  · rename_i md' k' p' c' h1
    obtain ⟨K',hc'⟩:=Rs hT h hc K
    exact st1_ok hT h1 hc' K'
  cases h
variable {k':List Item}{p':PE}{ops l ops' l':List Oper}
theorem stXX (hT:T.ok P id)(m:Nat)(h:stn T f.n m .code k p []=some ⟨.code,k',p',c⟩)(hc:Jx c)(K:X P G f Q k' p' ds cs q):X P G f Q k p ds cs q:=(Rs (Q:=Q) (q:=q) (ds:=ds) (cs:=cs) hT h hc K).1
theorem stXO (hT:T.ok P id)(m:Nat)(h:stn T f.n m .code k p []=some ⟨.ops ops' l',k',p',c⟩)(hc:Jx c)(K:XO P G f Q ops'.toArray k' l' p' ds cs q):X P G f Q k p ds cs q:=(Rs (Q:=Q) (q:=q) (ds:=ds) (cs:=cs) hT h hc K).1
theorem stOX (hT:T.ok P id)(m:Nat)(h:stn T f.n m (.ops ops l) k p []=some ⟨.code,k',p',c⟩)(hc:Jx c)(K:X P G f Q k' p' ds cs q):XO P G f Q ops.toArray k l p ds cs q:=(Rs (Q:=Q) (q:=q) (ds:=ds) (cs:=cs) hT h hc K).1
theorem stOO (hT:T.ok P id)(m:Nat)(h:stn T f.n m (.ops ops l) k p []=some ⟨.ops ops' l',k',p',c⟩)(hc:Jx c)(K:XO P G f Q ops'.toArray k' l' p' ds cs q):XO P G f Q ops.toArray k l p ds cs q:=(Rs (Q:=Q) (q:=q) (ds:=ds) (cs:=cs) hT h hc K).1
end
structure StD where
 n:Nat
 done:List Nat
 p:PE
 c:List Prop
def sdn (T:Tr)(fn:Nat)(ops:List Oper):List Nat→Nat→List Nat→PE→List Prop→Option StD
 | [],n,done,p,c=>some ⟨n,done,p,c⟩
 |i::r,n,done,p,c=>match n,ops[i]?,rdy ops done i with
  |m+1,some o,true=>match opS T ops p o with
   |some (v,φ)=>match putO fn p v o.dst with
    |some p'=>match φ with
     |none=>sdn T fn ops r m (i::done) p' c
     |some φ=>sdn T fn ops r m (i::done) p' (φ::c)
    |none=>none
   |none=>none
  |_,_,_=>none
section
variable {P:Program}{G:World}{f:Fc}{Q:Yr}{T:Tr}{ops:List Oper}{k:List Item}{pk:PE}{L:Rds}{ds:List Deferred}{cs:List Frame}{q:List HP}
theorem Al (hT:T.ok P id): ∀ {is:List Nat} {n:Nat} {done:List Nat} {p:PE} {c:List Prop} {s:StD},sdn T f.n ops is n done p c=some s→Jx s.c→XD P G f Q ops k pk L s.n s.done s.p ds cs q→XD P G f Q ops k pk L n done p ds cs q∧Jx c
 | [],n,done,p,c,s,h,hc,K=>by cases h;exact ⟨K,hc⟩
 |i::r,n,done,p,c,s,h,hc,K=>by
  simp only [sdn] at h
  split at h
  · rename_i m o ho hr
    split at h
    · rename_i v φ hop
      split at h
      · rename_i p' hp
        obtain ⟨h1,h2⟩:=Sm hp
        subst h2
        have key: ∀ (φ':Option Prop),φ=φ'→(∀ ψ,φ'=some ψ→ψ)→XD P G f Q ops k pk L m (i::done) (Up p o.dst v) ds cs q→XD P G f Q ops k pk L (m+1) done p ds cs q:=by
         rintro _ rfl hψ K
         rcases opS_ok hT hop hψ with ⟨hw,hpu⟩|⟨hw,rfl⟩
         · exact .pu_ i ho hpu K hr hw h1
         exact .pass_ i ho K hr hw h1
        split at h
        · obtain ⟨K',hc'⟩:=Al hT h hc K
          exact ⟨key _ rfl (fun _ e=>by cases e) K',hc'⟩
        obtain ⟨K',hc'⟩:=Al hT h hc K
        exact ⟨key _ rfl (fun _ e=>by cases e;exact hc'.1) K',hc'.2⟩
      cases h
    cases h
  cases h
variable {n n':Nat}{done done':List Nat}{p p':PE}{c:List Prop}
theorem stDD (hT:T.ok P id)(is:List Nat)(h:sdn T f.n ops is n done p []=some ⟨n',done',p',c⟩)(hc:Jx c)(K:XD P G f Q ops k pk L n' done' p' ds cs q):XD P G f Q ops k pk L n done p ds cs q:=(Al (Q:=Q) (q:=q) (ds:=ds) (cs:=cs) hT h hc K).1
end
def D6:List Nat→PE→Option PE
 | [],_=>some []
 |d::r,p=>match lkp p d,D6 r p with
  |some v,some p'=>some ((d,v)::p')
  |_,_=>none
theorem Ng: ∀ {l:List Nat} {p p':PE},D6 l p=some p'→SubP p' p
 | [],p,p',h=>by cases h;trivial
 |d::r,p,p',h=>by
  simp only [D6] at h
  split at h
  · cases h;exact ⟨‹_›,Ng ‹_›⟩
  cases h
theorem Zd {p p':PE}(h:SubP p' p:=by repeat (first|exact trivial|refine ⟨(by first|rfl|exact congrArg some (congrArg (Value.int _) (by omega))|(show some _=some _;simp;done)|(show some _=some _;simp;omega)),?_⟩)):SubP p' p:=h
theorem X.sb {P:Program}{G:World}{f:Fc}{Q:Yr}{todo:List Item}{p p':PE}{ds:List Deferred}{cs:List Frame}{q:List HP}(l:List Nat)(x:X P G f Q todo p' ds cs q)(h:D6 l p=some p':=by exact rfl):X P G f Q todo p ds cs q:=x.sub (Ng h)
theorem Zm {P:Program}{G:World}{f:Fc}{Q:Yr}{ops:List Oper}{k:List Item}{p p':PE}{ds:List Deferred}{cs:List Frame}{q:List HP}{r:List Oper}(l:List Nat)(x:XO P G f Q ops.toArray k r p' ds cs q)(h:D6 l p=some p':=by exact rfl):XO P G f Q ops.toArray k r p ds cs q:=x.sub (Ng h)
theorem Vl {φ:Prop}{r:List Prop}(h:φ)(k:Jx r):Jx (φ::r):=⟨h,k⟩
end Wx
namespace Wx
open Go Go.RowKit
theorem sp {φ ψ:Prop}(h:φ)(e:φ→ψ:=by intro h;(try simp only [decide_eq_true_eq,decide_eq_false_iff_not,bne_iff_ne,beq_iff_eq,ne_eq,bne_eq_false_iff_eq,beq_eq_false_iff_ne,Bool.not_eq_true',Bool.not_eq_false',Int.not_lt,Int.not_le,Bool.not_not,Bool.and_eq_true,Bool.and_eq_false_iff,Bool.true_and,Bool.and_true,beq_self_eq_true,Bool.or_eq_true,Bool.or_eq_false_iff] at h);exact h):ψ:=e h
theorem B4 {P:Program}{G:World}{f:Fc}{Q:Yr}{ops:List Oper}{k:List Item}{pk p p':PE}{L:Rds}{n:Nat}{done:List Nat}{ds:List Deferred}{cs:List Frame}{q:List HP}(l:List Nat)(x:XD P G f Q ops k pk L n done p' ds cs q)(h:D6 l p=some p':=by exact rfl):XD P G f Q ops k pk L n done p ds cs q:=x.sub (Ng h)
theorem Zw {p p':PE}(h:SubP p' p:=by repeat (first|exact trivial|refine ⟨(by first|rfl|exact congrArg (fun x=>some (Value.bool x)) (Eq.symm (by assumption))),?_⟩)):SubP p' p:=h
theorem Rd.ef {P:Program}{G:World}{p:PE}{q:List HP}{o:Oper}{v:Value}(h:Rd P G p q o v):Ef P G p q o fun u q'=>u=v∧q'=q:=fun tm w ag s=>⟨v,w,q,.inl (h tm w ag s),s,rfl,rfl⟩
section
variable {P:Program}{G:World}{f:Fc}{Q:Yr}{ops:List Oper}{k:List Item}{p:PE}{ds:List Deferred}{cs:List Frame}{q:List HP}{rest:List Oper}{args:List Operand}{ats:Array TypeId}{ty:TypeId}{pos:String}{af:Array Edge}{gd:Option (Nat×Bool)}{vs:List Value}{pre:List HP}{R:Value→List HP→Prop}{d:Tmp}{fo:Operand}{fv:Value}
theorem XO.cVX (hq:Le q pre)(hc:CallV P G fv vs pre (Ret R))(x: ∀ v q',R v q'→XO P G f Q ops.toArray k rest ((d,v)::p) ds cs q')(hf:evp p fo=some fv:=by rfl)(hv:evl p args=some vs:=by rfl)
 (hw:Wt ops p ⟨some d,.call ⟨.value fo,args.toArray,ats⟩,ty,pos,af,gd⟩=some true:=by rfl) (hd:Nat.blt d f.n=true:=by rfl):
 XO P G f Q ops.toArray k (⟨some d,.call ⟨.value fo,args.toArray,ats⟩,ty,pos,af,gd⟩::rest) p ds cs q:=
 .cV (F:= []) hc (fun v q' r q'' e=>by rw [List.append_nil] at e;rw [e];exact x v q' r) hf hv (by rw [List.append_nil];exact hq) hw hd
end
end Wx
namespace Wx
open Go Go.RowKit
end Wx
namespace Wx
open Go Go.RowKit
section
variable {P:Program}{G:World}{f:Fc}{Q:Yr}{ops:List Oper}{k:List Item}{p:PE}{ds:List Deferred}{cs:List Frame}{q:List HP}{rest:List Oper}{args:List Operand}{ats:Array TypeId}{ty:TypeId}{pos:String}{af:Array Edge}{gd:Option (Nat×Bool)}{vs:List Value}{u:Value}{d:Tmp}{fo:Operand}{fv:Value}
theorem XO.cRV (hc:CallV P G fv vs q (Ret fun v q'=>v=u∧q'=q))(x:XO P G f Q ops.toArray k rest ((d,u)::p) ds cs q)(hf:evp p fo=some fv:=by rfl)(hv:evl p args=some vs:=by rfl)
 (hw:Wt ops p ⟨some d,.call ⟨.value fo,args.toArray,ats⟩,ty,pos,af,gd⟩=some true:=by rfl) (hd:Nat.blt d f.n=true:=by rfl):
 XO P G f Q ops.toArray k (⟨some d,.call ⟨.value fo,args.toArray,ats⟩,ty,pos,af,gd⟩::rest) p ds cs q:=
 .cVX (Le.refl _) hc (fun v q' h=>by obtain ⟨rfl,rfl⟩:=h;exact x) hf hv hw hd
theorem Cl.le {q q':List HP}{A:Addr}{v:Value}(h:Cl q' A v)(l:Le q q'):Cl q A v:=fun G w s=>h G w (s.le l)
def Rdr {α:Type}(P:Program)(G:World)(fv:Value)(E:α→Value)(u:α→Value)(q:List HP)(l:List α):Prop:=
 ∀ q1,Le q1 q→ ∀ x∈l,CallV P G fv [E x] q1 (Ret fun v q'=>v=u x∧q'=q1)
theorem Rdr.le {α:Type}{E:α→Value}{u:α→Value}{q q':List HP}{l:List α}(h:Rdr P G fv E u q l)(k:Le q' q):Rdr P G fv E u q' l:=fun q1 h1=>h q1 (h1.trans k)
end
end Wx
namespace Wx
open Go Go.RowKit
section
variable {P:Program}{G:World}{p:PE}{q r:List HP}{d:Option Tmp}{ty:TypeId}{pos:String}{af:Array Edge}{gd:Option (Nat×Bool)}{x y z:Operand}{t t' kt et:TypeId}{kd:IntKind}{v u:Value}{k:Int}{b clock:Nat}{es:List MapEntry}
theorem St.setObjM {G w:World}{b clock:Nat}{es:Array MapEntry}{o:Obj}{q:List HP}(s:St G w (pto b (.map es clock)::q)):St G { w with heap:=w.heap.setIfInBounds b o } (pto b o::q):=s.setObj
theorem Ef.insert (ht:P.underlying t=some (.map kt et))(hk:P.underlying kt=some (.int kd))(hx:evp p x=some (.map (some b)))(hy:evp p y=some (.int kd k))(hz:evp p z=some v)(hq:Le q (pto b (.map es.toArray clock)::r))
 (hf:Instr.findNow (.int kd) (.int kd k) es 0=some none):Ef P G p q ⟨d,.insert t x y z,ty,pos,af,gd⟩ fun u q'=>u=undef∧q'=pto b (.map (es++ [({ key:= .int kd k,val:=v,born:=clock } :MapEntry)]).toArray (clock+1))::r:=
 fun tm w ag s=>by
  have s':=s.le hq
  have hb:=s'.has (Has.pto _ _ _)
  have hkey:MapKept.IsKey (.int kd) (.int kd k):=by first|trivial|exact rfl|simp [MapKept.IsKey]
  refine ⟨undef,_,_,.inr ⟨rfl,?_⟩,s'.setObjM (o:= .map (es.toArray.push { key:= .int kd k,val:=v,born:=clock }) (clock+1)),rfl,by simp⟩
  simp [execOp,Zu ag hx,Zu ag hy,Zu ag hz,Instr.mapUpdate,run_underlying ht,MapKept.run_getObj_map hb,MapKept.run_checkKey hk hkey,MapKept.run_findKey hk hf,MapKept.run_setObj_map _ hb,Result.andThen]
theorem Rd.lookup {zv:Value}(ht:P.underlying t=some (.map kt et))(hk:P.underlying kt=some (.int kd))(hx:evp p x=some (.map (some b)))(hy:evp p y=some (.int kd k))(hq:Le q (pto b (.map es.toArray clock)::r))(hz: ∀ w,(zeroValue et).run P w= .ok zv w)
 {a:Option (Nat×Value)} (hf:Instr.findNow (.int kd) (.int kd k) es 0=some a):Rd P G p q ⟨d,.lookup t x y false,ty,pos,af,gd⟩ (match a with|some (_,v)=>v|none=>zv):=
 fun tm w ag s=>by
  have hb:=(s.le hq).has (Has.pto _ _ _)
  have hkey:MapKept.IsKey (.int kd) (.int kd k):=by first|trivial|exact rfl|simp [MapKept.IsKey]
  cases a with
  |none=>simp [execOp,Zu ag hx,Zu ag hy,Instr.lookup,run_underlying ht,MapKept.run_getObj_map hb,MapKept.run_checkKey hk hkey,MapKept.run_findKey hk hf,hz,Result.andThen]
  |some y=>obtain ⟨i,v⟩:=y;simp [execOp,Zu ag hx,Zu ag hy,Instr.lookup,run_underlying ht,MapKept.run_getObj_map hb,MapKept.run_checkKey hk hkey,MapKept.run_findKey hk hf,Result.andThen]
theorem Ta {kd:IntKind}{c:Int}: ∀ (l:List (Int×Value×Nat)) (i:Nat),∃ a,Instr.findNow (.int kd) (.int kd c) (l.map fun e=>({ key:= .int kd e.1,val:=e.2.1,born:=e.2.2 } :MapEntry)) i=some a∧
 ((a=none∧ ∀ e∈l,e.1≠c)∨ ∃ j e,a=some (j,e.2.1)∧e∈l∧e.1=c)
 | [],i=>⟨none,rfl,.inl ⟨rfl,by simp⟩⟩
 |e::l,i=>by
  by_cases h:c=e.1
  · exact ⟨some (i,e.2.1),by simp [Instr.findNow,Instr.sameNow,h],.inr ⟨i,e,rfl,List.mem_cons_self ..,h.symm⟩⟩
  obtain ⟨a,h1,h2⟩:=Ta (kd:=kd) (c:=c) l (i+1)
  refine ⟨a,by simp only [List.map_cons,Instr.findNow,Instr.sameNow,if_true];rw [show (c==e.1)=false from beq_eq_false_iff_ne.2 h];exact h1,?_⟩
  rcases h2 with ⟨h3,h4⟩|⟨j,e',h3,h4,h5⟩
  · exact .inl ⟨h3,fun y hy=>by rcases List.mem_cons.1 hy with rfl|hy;exact fun k=>h k.symm;exact h4 y hy⟩
  exact .inr ⟨j,e',h3,List.mem_cons_of_mem _ h4,h5⟩
end
def CellsAt (q:List HP)(b o:Nat)(vs:List Value):Prop:= ∀ k v,vs[k]? =some v→Cl q ⟨b,o+k,none⟩ v
theorem CellsAt.le {q q':List HP}{b o:Nat}{vs:List Value}(h:CellsAt q' b o vs)(l:Le q q'):CellsAt q b o vs:=fun k v e=>(h k v e).le l
theorem CellsAt.of {q:List HP}{b:Nat}{l:List Value}{t:TypeId}{fz:Nat×Nat}(h:Has q b (.cells l.toArray t fz)):CellsAt q b 0 l:=fun k v e=>Cl.of h (by rw [Ve];simpa using e)
theorem CellsAt.row {α:Type}{f:α→List Value}{sz bk o n:Nat}{j:Int}{l:List α}{q q0:List HP}(h:Sees q0 (some ⟨bk,o,none⟩) (l.flatMap f))(hq:Le q q0)(hf: ∀ x,(f x).length=sz)(hn:n<l.length)(hj:j=n):CellsAt q bk (o+j.toNat*sz) (f l[n]):=
 fun k v e=>Cl.row h hq hf hn hj k v e
end Wx
namespace Wx
open Go Go.RowKit
theorem Ys: ∀ a b c:List HP,Le (a++(b++c)) (b++(a++c))
 | [],_,_=>Le.refl _
 |A::a,b,c=>by
  refine Le.trans (Le.cons A (Ys a b c)) ?_
  have go: ∀ (b d:List HP),Le (A::(b++d)) (b++(A::d)):=by
   intro b d
   induction b with
   |nil=>exact Le.refl _
   |cons B b ih=>exact Le.trans (Le.swap A B (b++d)) (Le.cons B ih)
  exact go b (a++c)
end Wx
namespace Wx
open Go Go.RowKit
theorem C5 {α:Type}(f:α→Value)(ty:TypeId)(a:Option Addr)(c:Nat)(l:List α)(n:Nat)(q:List HP):Le (lsH f ty a c l::q) (lsH f ty a c (l.take n)::q):=by
 refine .one fun M h p=> ?_
 obtain ⟨p1,p2⟩:=p
 refine ⟨by simp,?_⟩
 rcases p2 with ⟨ha,hc,hn⟩|⟨g,cur,q1,q2,q3,q4,q5,q6⟩
 · left;exact ⟨ha,hc,by have:=List.eq_nil_of_length_eq_zero hn;subst this;simp⟩
 right
 refine ⟨g,cur,q1,?_,q3,q4,?_,q6⟩
 · have:=List.length_take_le n l;have:=List.length_take (i:=n) (l:=l);omega
 rw [List.map_take,←q5,List.take_take]
 congr 1
 have:=List.length_take (i:=n) (l:=l)
 omega
theorem St.lsCap {G w:World}{q:List HP}{α:Type}{f:α→Value}{ty:TypeId}{a:Option Addr}{c:Nat}{l:List α}(s:St G w (Wx.lsH f ty a c l::q)):l.length≤c:=by
 obtain ⟨_,M,h,_,_,_,_,_,h₁,h₂,_,_,_,p,_⟩:=s
 rcases p.2 with ⟨_,rfl,h⟩|⟨g,cur,q1,q2,q3,q4,q5,q6⟩
 · omega
 exact q2
theorem X.lscap {P:Program}{G:World}{f:Fc}{Q:Yr}{todo:List Item}{p:PE}{ds:List Deferred}{cs:List Frame}{q r:List HP}{α:Type}{fl:α→Value}{ty:TypeId}{a:Option Addr}{c:Nat}{l:List α}(x:l.length≤c→X P G f Q todo p ds cs q)(hq:Le q (lsH fl ty a c l::r):=by exact Zk):X P G f Q todo p ds cs q:=
 .fact (fun w s=>(s.le hq).lsCap) fun h=>x h
end Wx
namespace Wx
open Go Go.RowKit
theorem St.lsMax {G w:World}{q:List HP}{α:Type}{f:α→Value}{ty:TypeId}{a:Option Addr}{c:Nat}{l:List α}(s:St G w (Wx.lsH f ty a c l::q)):l.length≤maxLen:=by
 obtain ⟨_,M,h,_,_,_,_,_,h₁,h₂,_,_,_,p,_⟩:=s
 rcases p.2 with ⟨_,_,h⟩|⟨g,cur,q1,q2,q3,q4,q5,q6⟩
 · rw [h];exact Nat.zero_le _
 exact Nat.le_trans q2 q3
theorem X.lsmax {P:Program}{G:World}{f:Fc}{Q:Yr}{todo:List Item}{p:PE}{ds:List Deferred}{cs:List Frame}{q r:List HP}{α:Type}{fl:α→Value}{ty:TypeId}{a:Option Addr}{c:Nat}{l:List α}(x:l.length≤9223372036854775807→X P G f Q todo p ds cs q)(hq:Le q (Wx.lsH fl ty a c l::r):=by exact Zk):X P G f Q todo p ds cs q:=
 .fact (fun w s=>Nat.le_trans (St.lsMax (s.le hq)) (by decide)) fun h=>x h
end Wx
namespace Wx
open Go Go.RowKit
end Wx
namespace Wx
open Go Go.RowKit
section
variable {P:Program}{G:World}{f:Fc}{Q:Yr}{ops:List Oper}{k:List Item}{pk p:PE}{ds:List Deferred}{cs:List Frame}{q:List HP}{n:Nat}{done:List Nat}{L:Rds}{o:Oper}{v:Value}{fl:List FlE}
def StepOk (P:Program)(G:World)(f:Fc)(Q:Yr)(ops:List Oper)(k:List Item)(pk:PE)(fl:List FlE)(L:Rds)(n:Nat)(done:List Nat)(p:PE)(ds:List Deferred)(cs:List Frame)(q:List HP)(j:Nat):Prop:=
 ∃ (oj:Oper) (R:Value→List HP→Prop),ops[j]? =some oj∧(∀ E,Ef P G p (q++E) oj fun v q'=> ∃ q1,R v q1∧q'=q1++E)∧(∀ v q1,R v q1→HL q1 (cut oj L)∧XF P G f Q ops k pk fl (cut oj L) n (j::done) (Up p oj.dst v) ds cs q1)∧
  (fl.map (·.i)).contains j=false∧rdy ops done j=true∧Wt ops p oj=some true∧dOk f.n oj.dst=true
def Sd (ops:List Oper)(fl done js:List Nat):Bool:=(List.range ops.length).all fun j=>js.contains j||fl.contains j|| !rdy ops (fl++done) j
theorem XF.any (js:List Nat)(hR:FlR P G f ops done p fl)(hj0:js≠ [])(hJ: ∀ j∈js,StepOk P G f Q ops k pk fl L n done p ds cs q j)(hL:HL q L)
 (hon:Sd ops (fl.map (·.i)) done js=true) (hlen:Nat.ble fl.length n=true):XF P G f Q ops k pk fl L (n+1) done p ds cs q:=by
 intro a b S m
 induction m generalizing S with
 |zero=>
  intro tm w h1 h2 h3 hn ag fa s
  exfalso
  have hle:S.length≤fl.length:=by
   have h4:(Vd S).length≤(fl.map (·.i)).length:=by
    refine List.Nodup.length_le_of_subset h1 fun x hx=> ?_
    obtain ⟨e,he,rfl⟩:=List.mem_map.1 hx
    exact List.mem_map_of_mem (h2 e he)
   simpa [Vd] using h4
  have:fl.length≤n:=by simpa using hlen
  omega
 |succ m ih=>
  intro tm w h1 h2 h3 hn ag fa s
  have nS: ∀ j,(fl.map (·.i)).contains j=false→j∉Vd S:=fun j hjf hm=>by
   obtain ⟨e,he,e'⟩:=List.mem_map.1 hm
   have:j∈fl.map (·.i):=by rw [←e'];exact List.mem_map_of_mem (h2 e he)
   simp [this] at hjf
  refine ⟨fun hnone=> ?_,fun x ox hox hrx=> ?_⟩
  · obtain ⟨j,r,rfl⟩:=List.exists_cons_of_ne_nil hj0
    obtain ⟨_,_,_,_,_,hjf,hr,_⟩:=hJ j (List.mem_cons_self ..)
    exact absurd (Hw hr (nS j hjf)) (by simp [hnone j])
  by_cases hxj:x∈js
  · obtain ⟨oj,R,ho,hE,K,hjf,hr,hw,hd⟩:=hJ x hxj
    have hjS:=nS x hjf
    rw [ho] at hox;cases hox
    unfold OW
    rw [if_pos (Yu ag hw)]
    refine ((hE (fCh S)).ap tm w ag s).mono fun en w' _ hh=> ?_
    obtain ⟨q',⟨v,rfl,q1,hv,rfl⟩,s'⟩:=hh
    refine ⟨((K v q1 hv).1.le (Y6 q1 (fCh S))).sl s',?_⟩
    refine WA.congr _ (done:=Vd S++(x::done)) (fun y=>by simp only [List.mem_append,List.mem_cons];exact ⟨fun h=>by rcases h with h|h|h<;>simp [h],fun h=>by rcases h with h|h|h<;>simp [h]⟩) ?_
    refine (K v q1 hv).2 a b S m _ w' h1 h2 (by omega) (by rw [Yw];exact hn) (ag.put (hn ▸ hd)) ?_ s'
    intro e he
    obtain ⟨o2,ho2,hd2,hr2,_,_,_,_⟩:=hR.get (h2 e he)
    have hne:e.1.i≠x:=fun e'=>hjS (by rw [←e'];exact List.mem_map_of_mem he)
    have hdd:=Bl a ho2 ho hne hr2 hr (Wi hr) (Wi hr2) hd2
    have:=fa e he
    cases hdo:ox.dst with
    |none=>simpa [Ww] using this
    |some d=>
     have hdne:d≠e.1.d:=fun e'=>hdd (by rw [hdo,e'])
     simpa [Ww,Array.getElem?_setIfInBounds,hdne] using this
  have hxl:x<ops.length:=(List.getElem?_eq_some_iff.1 hox).1
  have hxf:x∈fl.map (·.i):=by
   have h4:=List.all_eq_true.1 hon x (by simpa using hxl)
   rcases Decidable.em (x∈fl.map (·.i)) with h5|h5
   · exact h5
   have h6:rdy ops (fl.map (·.i)++done) x=true:=Rg hrx (fun y hy=>by
    rcases List.mem_append.1 hy with hy|hy
    · obtain ⟨e,he,rfl⟩:=List.mem_map.1 hy
      exact List.mem_append_left _ (List.mem_map_of_mem (h2 e he))
    · exact List.mem_append_right _ hy) (fun hm=>by
    rcases List.mem_append.1 hm with hm|hm
    · exact h5 hm
    exact Wi hrx (List.mem_append_right _ hm))
   simp [hxj,h6] at h4
   simp at h5
   obtain ⟨y,hy,e⟩:=h4
   exact absurd e (h5 y hy)
  obtain ⟨e,he,rfl⟩:=List.mem_map.1 hxf
  have hxS:e.i∉Vd S:=fun hm=>Wi hrx (List.mem_append_left _ hm)
  refine Na a hR h1 h2 hn ag fa s he hxS hox fun g tm' w' k1 k2 k3 k4 k5 k6=> ?_
  refine ⟨((hL.sub fun y hy=>(V7.1 hy).1).le (Y6 q _)).sl k6,?_⟩
  exact WA.mono _ (fun y hy=>(V7.1 hy).1) (ih ((e,g)::S) tm' w' k1 k2 (by simp;omega) k3 k4 k5 k6)
theorem XF.two (i j:Nat)(hR:FlR P G f ops done p fl)(h1:StepOk P G f Q ops k pk fl L n done p ds cs q i)(h2:StepOk P G f Q ops k pk fl L n done p ds cs q j)(hL:HL q L:=by exact hlA)
 (hon:Sd ops (fl.map (·.i)) done [i,j]=true:=by rfl) (hlen:Nat.ble fl.length n=true:=by rfl):XF P G f Q ops k pk fl L (n+1) done p ds cs q:=
 XF.any [i,j] hR (by simp) (fun x hx=>by
  rcases List.mem_cons.1 hx with rfl|hx
  · exact h1
  rw [List.mem_singleton.1 hx];exact h2) hL hon hlen
end
end Wx
namespace Wx
open Go Go.RowKit
section
variable {P:Program}{G:World}{p:PE}{q r:List HP}{d:Option Tmp}{ty':TypeId}{pos:String}{af:Array Edge}{gd:Option (Nat×Bool)}{x y:Operand}{a b:Option Addr}{c c':Nat}{t t2 e:TypeId}
theorem Ef.copyL {α:Type}{f:α→Value}{l m:List α}{z:Value}{bytes:Nat}(ht:P.underlying t=some (.slice e))(hi:(P.info? e).map (fun i=>(i.zero,i.size,i.bytes))=some (some z,1,bytes))
 (hx:evp p x=some (.slice a l.length c)) (hy:evp p y=some (.slice b m.length c')) (hq:Le q (Wx.lsH f e a c l::r)) (hs:Sees q b (m.map f)) (h1: ∀ u,(f u).oneCell'=true) (hml:m.length≤l.length):
 Ef P G p q ⟨d,.call ⟨.builtin .copy, [x,y].toArray, [t,t2].toArray⟩,ty',pos,af,gd⟩ fun v q'=>v= .int .i64 m.length∧q'=Wx.lsH f e a c (m++l.drop m.length)::r:=by
 obtain ⟨I,hI,e1,e2,e3⟩:=info_parts hi
 intro tm w ag s
 have hev:evl p [x,y]=some [.slice a l.length c,.slice b m.length c']:=by simp [evl,hx,hy]
 have hex:=Qr (d:=d) (ty:=ty') (pos:=pos) (af:=af) (gd:=gd) (bi:= .copy) (ats:= [t,t2].toArray) ag hev
 rw [hex]
 have hrun: ∀ v w',(Builtin.copy_ #[t,t2] ty' #[.slice a l.length c,.slice b m.length c']).run P w= .ok v w'→(builtin .copy [t,t2].toArray ty' ([x,y].toArray.map fun| .const _=>true|_=>false) [.slice a l.length c,.slice b m.length c'].toArray).run P w= .ok (.value v) w':=by
  intro v w' h;simp [builtin,h]
 have hmin:Nat.min m.length l.length=m.length:=Nat.min_eq_left hml
 rcases K0 (m:=m.length) (sz:=1) (hs G w s) (by simp) Nat.one_pos with ⟨h0,_⟩|⟨ad,rfl,hc⟩
 · obtain rfl:=List.eq_nil_of_length_eq_zero h0
   refine ⟨.int .i64 0,w,_,.inl (hrun _ _ ?_),?_,rfl,rfl⟩
   · cases b<;>cases a<;>simp [Builtin.copy_,run_underlying ht,Go.sizeOf,typeInfo,hI,Builtin.lenOf,Builtin.firstCells,loadCells,loadCellsFrom,storeCells,goInt]
   simpa using s.le hq
 have hsl:=s.le hq
 unfold Wx.lsH at hsl
 obtain ⟨hlen,hcase⟩:=hsl.slH_elim
 rcases hcase with ⟨rfl,rfl,h0,s'⟩|⟨g,cur,rfl,hnc,hcm,hcs,htk,s'⟩
 · have hm0:m= []:=List.eq_nil_of_length_eq_zero (by omega)
   have hl0:l= []:=List.eq_nil_of_length_eq_zero h0
   subst hm0;subst hl0
   refine ⟨.int .i64 0,w,_,.inl (hrun _ _ ?_),?_,rfl,rfl⟩
   · simp [Builtin.copy_,run_underlying ht,Go.sizeOf,typeInfo,hI,Builtin.lenOf,Builtin.firstCells,loadCells,loadCellsFrom,storeCells,goInt]
   simpa using s.le hq
 have hg:w.heap[g]? =some (.cells cur e (0,0)):=s'.has (Has.pto _ _ _)
 have hfit:0+(m.map f).length≤cur.size:=by rw [List.length_map,hcs];omega
 have hld:=run_loadCells_list (P:=P) w ad (m.map f) hc
 rw [List.length_map] at hld
 have hst:=run_storeCells_at P g 0 e (m.map f) 0 cur w hg (by simpa using hfit) (fun v hv=>by obtain ⟨u,_,rfl⟩:=List.mem_map.1 hv;exact h1 u)
 refine ⟨.int .i64 m.length,w.setRow g (m.map f++cur.toList.drop m.length).toArray,_,.inl (hrun _ _ ?_),?_,rfl,rfl⟩
 · simp [Builtin.copy_,run_underlying ht,Go.sizeOf,typeInfo,hI,e2,Builtin.lenOf,Builtin.firstCells,hmin,hld,goInt]
   have hst2:(storeCells ⟨g,0,none⟩ (m.map f)).run P w= .ok () (w.setRow g (m.map f++cur.toList.drop m.length).toArray):=by simpa using hst
   rw [hst2];simp
 have s2:=s'.put (o':= .cells (m.map f++cur.toList.drop m.length).toArray e (0,0)) (setRow_heap w g cur _ e (0,0) hg) (fun j hj=>setRow_other w g j _ hj) (by simp) rfl rfl rfl
 unfold Wx.lsH
 rw [show (m++l.drop m.length).length=l.length by simp;omega]
 refine s2.le (Wk hnc hcm ?_ ?_ r)
 · simp only [List.size_toArray,List.length_append,List.length_map,List.length_drop,Array.length_toList];omega
 rw [Nat.mul_one] at htk⊢
 rw [List.take_append,List.length_map,List.take_of_length_le (by rw [List.length_map];exact hml),List.map_append,List.map_drop,←htk,List.drop_take]
end
end Wx
namespace Wx
open Go Go.RowKit
section
variable {P:Program}{G:World}{f:Fc}{Q:Yr}{ops:List Oper}{k:List Item}{p:PE}{ds:List Deferred}{cs:List Frame}{q:List HP}{v:Value}
variable {pk:PE}{L:Rds}{n:Nat}{done:List Nat}{args:List Operand}{ats:Array TypeId}{ty:TypeId}{pos:String}{af:Array Edge}{gd:Option (Nat×Bool)}{vs:List Value}{pre:List HP}{R:Value→List HP→Prop}{Rp:List PanicEntry→List HP→Prop}{d:Tmp}{fo:Operand}{fv:Value}
theorem XD.cVP (i:Nat)(hq:Le q pre)(hc:CallV P G fv vs pre (RP R Rp))(xp: ∀ ch q',Rp ch q'→Q (.panic ch) pk ds cs q')
 (K: ∀ v q',R v q'→HL q' (cut ⟨some d,.call ⟨.value fo,args.toArray,ats⟩,ty,pos,af,gd⟩ L)∧XD P G f Q ops k pk (cut ⟨some d,.call ⟨.value fo,args.toArray,ats⟩,ty,pos,af,gd⟩ L) n (i::done) ((d,v)::p) ds cs q')
 (hpk:SubP pk p) (ho:ops[i]? =some ⟨some d,.call ⟨.value fo,args.toArray,ats⟩,ty,pos,af,gd⟩:=by rfl) (hf:evp p fo=some fv:=by rfl) (hv:evl p args=some vs:=by rfl)
 (h1:Uw ops done i=true:=by rfl) (hr:rdy ops done i=true:=by rfl) (hw:Wt ops p ⟨some d,.call ⟨.value fo,args.toArray,ats⟩,ty,pos,af,gd⟩=some true:=by rfl) (hd:Nat.blt d f.n=true:=by rfl):XD P G f Q ops k pk L (n+1) done p ds cs q:=
 .one (R:=fun e q''=>RP R Rp e q'') i ho (fun tm w ag s=>by
  rw [H1 ag hf hv]
  exact (hc [] w ((s.le hq).le (Qk pre))).mono fun e w' _ ⟨q',hR,s'⟩=>⟨q',hR,by rw [List.append_nil] at s';exact s'⟩)
  (fun v q'' h=>by rcases h with ⟨_,e,r⟩|⟨_,e,_⟩<;>cases e;exact K v q'' r) (fun ch q'' h=>by rcases h with ⟨_,e,_⟩|⟨_,e,r⟩<;>cases e;exact ⟨xp ch q'' r,hpk⟩) h1 hr hw hd
end
end Wx
namespace Wx
open Go Go.RowKit
section
variable {P:Program}{G:World}{f:Fc}{Q:Yr}{ops:List Oper}{k:List Item}{pk p:PE}{ds:List Deferred}{cs:List Frame}{q:List HP}{n:Nat}{done:List Nat}{L:Rds}{o:Oper}{v:Value}{fl:List FlE}
def EfA (P:Program)(G:World)(p:PE)(q:List HP)(o:Oper)(R:Value→List HP→Prop):Prop:= ∀ tm w,Agr tm p→St G w q→Ap P (execOp (evA tm) o) w fun e w'=> ∃ q',Ret R e q'∧St G w' q'
def StepA (P:Program)(G:World)(f:Fc)(Q:Yr)(ops:List Oper)(k:List Item)(pk:PE)(fl:List FlE)(L:Rds)(n:Nat)(done:List Nat)(p:PE)(ds:List Deferred)(cs:List Frame)(q:List HP)(j:Nat):Prop:=
 ∃ (oj:Oper) (R:Value→List HP→Prop),ops[j]? =some oj∧(∀ E,EfA P G p (q++E) oj fun v q'=> ∃ q1,R v q1∧q'=q1++E)∧(∀ v q1,R v q1→HL q1 (cut oj L)∧XF P G f Q ops k pk fl (cut oj L) n (j::done) (Up p oj.dst v) ds cs q1)∧
  (fl.map (·.i)).contains j=false∧rdy ops done j=true∧Wt ops p oj=some true∧dOk f.n oj.dst=true
theorem XF.anyA (js:List Nat)(hR:FlR P G f ops done p fl)(hj0:js≠ [])(hJ: ∀ j∈js,StepA P G f Q ops k pk fl L n done p ds cs q j)(hL:HL q L)
 (hon:Sd ops (fl.map (·.i)) done js=true) (hlen:Nat.ble fl.length n=true):XF P G f Q ops k pk fl L (n+1) done p ds cs q:=by
 intro a b S m
 induction m generalizing S with
 |zero=>
  intro tm w h1 h2 h3 hn ag fa s
  exfalso
  have hle:S.length≤fl.length:=by
   have h4:(Vd S).length≤(fl.map (·.i)).length:=by
    refine List.Nodup.length_le_of_subset h1 fun x hx=> ?_
    obtain ⟨e,he,rfl⟩:=List.mem_map.1 hx
    exact List.mem_map_of_mem (h2 e he)
   simpa [Vd] using h4
  have:fl.length≤n:=by simpa using hlen
  omega
 |succ m ih=>
  intro tm w h1 h2 h3 hn ag fa s
  have nS: ∀ j,(fl.map (·.i)).contains j=false→j∉Vd S:=fun j hjf hm=>by
   obtain ⟨e,he,e'⟩:=List.mem_map.1 hm
   have:j∈fl.map (·.i):=by rw [←e'];exact List.mem_map_of_mem (h2 e he)
   simp [this] at hjf
  refine ⟨fun hnone=> ?_,fun x ox hox hrx=> ?_⟩
  · obtain ⟨j,r,rfl⟩:=List.exists_cons_of_ne_nil hj0
    obtain ⟨_,_,_,_,_,hjf,hr,_⟩:=hJ j (List.mem_cons_self ..)
    exact absurd (Hw hr (nS j hjf)) (by simp [hnone j])
  by_cases hxj:x∈js
  · obtain ⟨oj,R,ho,hE,K,hjf,hr,hw,hd⟩:=hJ x hxj
    have hjS:=nS x hjf
    rw [ho] at hox;cases hox
    unfold OW
    rw [if_pos (Yu ag hw)]
    refine (hE (fCh S) tm w ag s).mono fun en w' _ hh=> ?_
    obtain ⟨q',⟨v,rfl,q1,hv,rfl⟩,s'⟩:=hh
    refine ⟨((K v q1 hv).1.le (Y6 q1 (fCh S))).sl s',?_⟩
    refine WA.congr _ (done:=Vd S++(x::done)) (fun y=>by simp only [List.mem_append,List.mem_cons];exact ⟨fun h=>by rcases h with h|h|h<;>simp [h],fun h=>by rcases h with h|h|h<;>simp [h]⟩) ?_
    refine (K v q1 hv).2 a b S m _ w' h1 h2 (by omega) (by rw [Yw];exact hn) (ag.put (hn ▸ hd)) ?_ s'
    intro e he
    obtain ⟨o2,ho2,hd2,hr2,_,_,_,_⟩:=hR.get (h2 e he)
    have hne:e.1.i≠x:=fun e'=>hjS (by rw [←e'];exact List.mem_map_of_mem he)
    have hdd:=Bl a ho2 ho hne hr2 hr (Wi hr) (Wi hr2) hd2
    have:=fa e he
    cases hdo:ox.dst with
    |none=>simpa [Ww] using this
    |some d=>
     have hdne:d≠e.1.d:=fun e'=>hdd (by rw [hdo,e'])
     simpa [Ww,Array.getElem?_setIfInBounds,hdne] using this
  have hxl:x<ops.length:=(List.getElem?_eq_some_iff.1 hox).1
  have hxf:x∈fl.map (·.i):=by
   have h4:=List.all_eq_true.1 hon x (by simpa using hxl)
   rcases Decidable.em (x∈fl.map (·.i)) with h5|h5
   · exact h5
   have h6:rdy ops (fl.map (·.i)++done) x=true:=Rg hrx (fun y hy=>by
    rcases List.mem_append.1 hy with hy|hy
    · obtain ⟨e,he,rfl⟩:=List.mem_map.1 hy
      exact List.mem_append_left _ (List.mem_map_of_mem (h2 e he))
    · exact List.mem_append_right _ hy) (fun hm=>by
    rcases List.mem_append.1 hm with hm|hm
    · exact h5 hm
    exact Wi hrx (List.mem_append_right _ hm))
   simp [hxj,h6] at h4
   simp at h5
   obtain ⟨y,hy,e⟩:=h4
   exact absurd e (h5 y hy)
  obtain ⟨e,he,rfl⟩:=List.mem_map.1 hxf
  have hxS:e.i∉Vd S:=fun hm=>Wi hrx (List.mem_append_left _ hm)
  refine Na a hR h1 h2 hn ag fa s he hxS hox fun g tm' w' k1 k2 k3 k4 k5 k6=> ?_
  refine ⟨((hL.sub fun y hy=>(V7.1 hy).1).le (Y6 q _)).sl k6,?_⟩
  exact WA.mono _ (fun y hy=>(V7.1 hy).1) (ih ((e,g)::S) tm' w' k1 k2 (by simp;omega) k3 k4 k5 k6)
theorem EfA.callF {d:Option Tmp}{fn:FuncId}{args:List Operand}{ats:Array TypeId}{ty:TypeId}{pos:String}{af:Array Edge}{gd:Option (Nat×Bool)}{vs:List Value}{pre F:List HP}{R:Value→List HP→Prop}
 (hcf: ∀ args w,(callFunc fn args).run P w= .ok (.enter fn args) w) (hc:CallF P G fn vs pre (Ret R)) (hv:evl p args=some vs) (hq:Le q (pre++F)) (E:List HP):
 EfA P G p (q++E) ⟨d,.call ⟨.value (.func fn),args.toArray,ats⟩,ty,pos,af,gd⟩ fun v q'=> ∃ q1,(∃ q0,R v q0∧q1=q0++F)∧q'=q1++E:=by
 intro tm w ag s
 rw [H1 ag (show evp p (.func fn)=some (.func (.func fn) #[] #[]) from rfl) hv]
 have s2:St G w (pre++(F++E)):=by rw [←List.append_assoc];exact s.le (hq.liftR E)
 have hcv:CallV P G (.func (.func fn) #[] #[]) vs pre (Ret R):=Vv (a:= []) (b:= []) hcf (by simpa using hc)
 refine (hcv (F++E) w s2).mono fun e w' _ hh=> ?_
 obtain ⟨q',⟨v,he,hR⟩,s'⟩:=hh
 exact ⟨q'++F++E,⟨v,he,q'++F,⟨q',hR,rfl⟩,rfl⟩,by rw [List.append_assoc];exact s'⟩
theorem B3 (i:Nat){d:Tmp}{fn:FuncId}{args:List Operand}{ats:Array TypeId}{ty:TypeId}{pos:String}{af:Array Edge}{gd:Option (Nat×Bool)}{vs:List Value}{pre:List HP}{R:Value→List HP→Prop}
 (hR:FlR P G f ops done p fl) (hcf: ∀ args w,(callFunc fn args).run P w= .ok (.enter fn args) w) (hq:Le q pre) (hc:CallF P G fn vs pre (Ret R))
 (K: ∀ v q',R v q'→HL q' (cut ⟨some d,.call ⟨.value (.func fn),args.toArray,ats⟩,ty,pos,af,gd⟩ L)∧XF P G f Q ops k pk fl (cut ⟨some d,.call ⟨.value (.func fn),args.toArray,ats⟩,ty,pos,af,gd⟩ L) n (i::done) ((d,v)::p) ds cs q')
 (ho:ops[i]? =some ⟨some d,.call ⟨.value (.func fn),args.toArray,ats⟩,ty,pos,af,gd⟩:=by rfl) (hv:evl p args=some vs:=by rfl) (hL:HL q L:=by exact hlA)
 (hon:Sd ops (fl.map (·.i)) done [i]=true:=by rfl) (hif:(fl.map (·.i)).contains i=false:=by rfl) (hr:rdy ops done i=true:=by rfl) (hw:Wt ops p ⟨some d,.call ⟨.value (.func fn),args.toArray,ats⟩,ty,pos,af,gd⟩=some true:=by rfl)
 (hd:Nat.blt d f.n=true:=by rfl) (hlen:Nat.ble fl.length n=true:=by rfl):XF P G f Q ops k pk fl L (n+1) done p ds cs q:=
 XF.anyA [i] hR (by simp) (fun x hx=>by
  rw [List.mem_singleton.1 hx]
  exact ⟨_,_,ho,EfA.callF hcf hc hv (hq.trans (Qk pre)),fun v q1 ⟨q0,h,e⟩=>by rw [List.append_nil] at e;subst e;exact K v _ h,hif,hr,hw,hd⟩) hL hon hlen
end
end Wx
namespace Wx
open Go Go.RowKit
end Wx
namespace Wx
open Go Go.RowKit
section
variable {P:Program}{G:World}{f:Fc}{Q:Yr}{ops:List Oper}{k:List Item}{p:PE}{ds:List Deferred}{cs:List Frame}{q:List HP}{rest:List Oper}{v:Value}{T:Tr}
variable {d:Tmp}{t ty:TypeId}{pos:String}{af:Array Edge}{gd:Option (Nat×Bool)}{x y:Operand}{A:Addr}
def Tr.lf (T:Tr)(t:TypeId):Bool:=match T.get t with|some x=> !x.agg|none=>false
def Tr.ag (T:Tr)(t:TypeId):Option Nat:=match T.get t with|some x=>bif x.agg then some x.sz else none|none=>none
def Tr.s1 (T:Tr)(t:TypeId):Bool:=match T.get t with|some x=>Nat.beq x.sz 1|none=>false
theorem Cc (hT:T.ok P id)(h:T.lf t=true)(w:World):(isAgg t).run P w= .ok false w:=by
 unfold Tr.lf at h
 split at h
 · rename_i x hx
   have:=(Za hT hx).2.1 w
   rw [show x.agg=false by simpa using h] at this;exact this
 cases h
theorem Qx {n:Nat}(hT:T.ok P id)(h:T.ag t=some n):(∀ w,(isAgg t).run P w= .ok true w)∧ ∀ w,(Go.sizeOf t).run P w= .ok n w:=by
 unfold Tr.ag at h
 split at h
 · rename_i x hx
   have h1:=(Za hT hx).2.1
   have h2:=(Za hT hx).2.2.1
   cases hb:x.agg with
   |true=>rw [hb] at h h1;simp only [cond_true,Option.some.injEq] at h;subst h;exact ⟨h1,h2⟩
   |false=>rw [hb] at h;simp at h
 cases h
theorem Cd (hT:T.ok P id)(h:T.s1 t=true)(w:World):(Go.sizeOf t).run P w= .ok 1 w:=by
 unfold Tr.s1 at h
 split at h
 · rename_i x hx
   have:=(Za hT hx).2.2.1 w
   rw [Nat.eq_of_beq_eq_true h] at this;exact this
 cases h
theorem XO.al {z:Value}(hz: ∀ w,(zeroValue t).run P w= .ok z w)(K: ∀ n,XO P G f Q ops.toArray k rest ((d,.pointer (some ⟨n,0,none⟩))::p) ds cs (pto n (.cells z.cells t (0,0))::q))
 (hw:Wt ops p ⟨some d,.alloc t,ty,pos,af,gd⟩=some true:=by rfl) (hd:Nat.blt d f.n=true:=by rfl):XO P G f Q ops.toArray k (⟨some d,.alloc t,ty,pos,af,gd⟩::rest) p ds cs q:=
 .ef (Ef.alloc hz) (by rintro _ _ ⟨n,rfl,rfl⟩;exact K n) hw hd
theorem Y8 (K: ∀ n,XO P G f Q ops.toArray k rest ((d,.pointer (some ⟨n,0,none⟩))::p) ds cs (pto n (.cells v.cells t (0,0))::q))(hx:evp p x=some v:=by rfl)
 (hw:Wt ops p ⟨some d,.box t x,ty,pos,af,gd⟩=some true:=by rfl) (hd:Nat.blt d f.n=true:=by rfl):XO P G f Q ops.toArray k (⟨some d,.box t x,ty,pos,af,gd⟩::rest) p ds cs q:=
 .ef (Ef.box hx) (by rintro _ _ ⟨n,rfl,rfl⟩;exact K n) hw hd
theorem XO.st {b o:Nat}{l:List Value}{t':TypeId}{r:List HP}(hT:T.ok P id)(hs:T.s1 t=true)(K:XO P G f Q ops.toArray k rest p ds cs (pto b (.cells (Nb l o v).toArray t' (0,0))::r))
 (hx:evp p x=some (.pointer (some ⟨b,o,none⟩)):=by rfl) (hy:evp p y=some v:=by rfl)
 (hv:v.cells= #[v]:=by rfl) (h1:v.oneCell'=true:=by rfl) (hq:Le q (pto b (.cells l.toArray t' (0,0))::r):=by exact Zk) (ho:Nat.blt o l.length=true:=by rfl)
 (hw:Wt ops p ⟨none,.store t x y,ty,pos,af,gd⟩=some true:=by rfl):XO P G f Q ops.toArray k (⟨none,.store t x y,ty,pos,af,gd⟩::rest) p ds cs q:=
 .ef0 (Ef.st (Cd hT hs) hx hy hv h1 hq ho) (by rintro _ _ ⟨rfl,rfl⟩;exact K) hw
theorem XO.stA {b o sz:Nat}{l vs:List Value}{t':TypeId}{r:List HP}(hT:T.ok P id)(hs:T.ag t=some sz)(K:XO P G f Q ops.toArray k rest p ds cs (pto b (.cells (U1 l o vs).toArray t' (0,0))::r))
 (hx:evp p x=some (.pointer (some ⟨b,o,none⟩)):=by rfl) (hy:evp p y=some (.agg vs.toArray):=by rfl)
 (hl:vs.length=sz:=by rfl) (h1:vs.all (·.oneCell')=true:=by rfl) (hq:Le q (pto b (.cells l.toArray t' (0,0))::r):=by exact Zk) (ho:Nat.ble (o+sz) l.length=true:=by rfl)
 (hw:Wt ops p ⟨none,.store t x y,ty,pos,af,gd⟩=some true:=by rfl):XO P G f Q ops.toArray k (⟨none,.store t x y,ty,pos,af,gd⟩::rest) p ds cs q:=
 .ef0 (Ef.stA (Qx hT hs).2 hx hy hl h1 hq ho) (by rintro _ _ ⟨rfl,rfl⟩;exact K) hw
variable {pk:PE}{L:Rds}{n:Nat}{done:List Nat}
theorem XD.bx (i:Nat)(K: ∀ n',XD P G f Q ops k pk (cut ⟨some d,.box t x,ty,pos,af,gd⟩ L) n (i::done) ((d,.pointer (some ⟨n',0,none⟩))::p) ds cs (pto n' (.cells v.cells t (0,0))::q))
 (ho:ops[i]? =some ⟨some d,.box t x,ty,pos,af,gd⟩:=by rfl) (hx:evp p x=some v:=by rfl) (hh: ∀ n',HL (pto n' (.cells v.cells t (0,0))::q) (cut ⟨some d,.box t x,ty,pos,af,gd⟩ L):=by intro _;exact hlA)
 (h1:Uw ops done i=true:=by rfl) (hr:rdy ops done i=true:=by rfl) (hw:Wt ops p ⟨some d,.box t x,ty,pos,af,gd⟩=some true:=by rfl) (hd:Nat.blt d f.n=true:=by rfl):XD P G f Q ops k pk L (n+1) done p ds cs q:=
 .ef i ho (Ef.box hx) (by rintro _ _ ⟨n',rfl,rfl⟩;exact ⟨hh n',K n'⟩) h1 hr hw hd
theorem XD.st (i:Nat){b o:Nat}{l:List Value}{t':TypeId}{r:List HP}(hT:T.ok P id)(hs:T.s1 t=true)(K:XD P G f Q ops k pk (cut ⟨none,.store t x y,ty,pos,af,gd⟩ L) n (i::done) p ds cs (pto b (.cells (Nb l o v).toArray t' (0,0))::r))
 (ho:ops[i]? =some ⟨none,.store t x y,ty,pos,af,gd⟩:=by rfl) (hx:evp p x=some (.pointer (some ⟨b,o,none⟩)):=by rfl) (hy:evp p y=some v:=by rfl)
 (hv:v.cells= #[v]:=by rfl) (h1:v.oneCell'=true:=by rfl) (hq:Le q (pto b (.cells l.toArray t' (0,0))::r):=by exact Zk) (ho2:Nat.blt o l.length=true:=by rfl)
 (hh:HL (pto b (.cells (Nb l o v).toArray t' (0,0))::r) (cut ⟨none,.store t x y,ty,pos,af,gd⟩ L):=by exact hlA)
 (h2:Uw ops done i=true:=by rfl) (hr:rdy ops done i=true:=by rfl) (hw:Wt ops p ⟨none,.store t x y,ty,pos,af,gd⟩=some true:=by rfl):XD P G f Q ops k pk L (n+1) done p ds cs q:=
 .ef0 i ho (Ef.st (Cd hT hs) hx hy hv h1 hq ho2) (by rintro _ _ ⟨rfl,rfl⟩;exact ⟨hh,K⟩) h2 hr hw
theorem XD.stA (i:Nat){b o sz:Nat}{l vs:List Value}{t':TypeId}{r:List HP}(hT:T.ok P id)(hs:T.ag t=some sz)(K:XD P G f Q ops k pk (cut ⟨none,.store t x y,ty,pos,af,gd⟩ L) n (i::done) p ds cs (pto b (.cells (U1 l o vs).toArray t' (0,0))::r))
 (ho:ops[i]? =some ⟨none,.store t x y,ty,pos,af,gd⟩:=by rfl) (hx:evp p x=some (.pointer (some ⟨b,o,none⟩)):=by rfl) (hy:evp p y=some (.agg vs.toArray):=by rfl)
 (hl:vs.length=sz:=by rfl) (h1:vs.all (·.oneCell')=true:=by rfl) (hq:Le q (pto b (.cells l.toArray t' (0,0))::r):=by exact Zk) (ho2:Nat.ble (o+sz) l.length=true:=by rfl)
 (hh:HL (pto b (.cells (U1 l o vs).toArray t' (0,0))::r) (cut ⟨none,.store t x y,ty,pos,af,gd⟩ L):=by exact hlA)
 (h2:Uw ops done i=true:=by rfl) (hr:rdy ops done i=true:=by rfl) (hw:Wt ops p ⟨none,.store t x y,ty,pos,af,gd⟩=some true:=by rfl):XD P G f Q ops k pk L (n+1) done p ds cs q:=
 .ef0 i ho (Ef.stA (Qx hT hs).2 hx hy hl h1 hq ho2) (by rintro _ _ ⟨rfl,rfl⟩;exact ⟨hh,K⟩) h2 hr hw
theorem kw {b c:Bool}(h:b=c:=by first|rfl|exact decide_eq_true (by omega)|exact decide_eq_false (by omega)|(rw [beq_iff_eq];omega)|(rw [beq_eq_false_iff_ne];omega)|(rw [bne_iff_ne];omega)|(rw [bne_eq_false_iff_eq];omega)|(simp;done)|(simp;omega)|(rw [beq_iff_eq];assumption)|(rw [beq_eq_false_iff_ne];assumption)):b=c:=h
section
variable {b:Bool}{todo:List Item}{l:List Oper}
theorem X.kt (s:Nat)(K:X P G f Q todo ((s,.bool true)::p) ds cs q)(h:lkp p s=some (.bool b):=by rfl)(e:b=true:=by exact kw):X P G f Q todo p ds cs q:= .know s _ h (congrArg Value.bool e) K
theorem Wy (s:Nat)(K:X P G f Q todo ((s,.bool false)::p) ds cs q)(h:lkp p s=some (.bool b):=by rfl)(e:b=false:=by exact kw):X P G f Q todo p ds cs q:= .know s _ h (congrArg Value.bool e) K
theorem XO.kt (s:Nat)(K:XO P G f Q ops.toArray k l ((s,.bool true)::p) ds cs q)(h:lkp p s=some (.bool b):=by rfl)(e:b=true:=by exact kw):XO P G f Q ops.toArray k l p ds cs q:= .know s _ h (congrArg Value.bool e) K
theorem Mw (s:Nat)(K:XO P G f Q ops.toArray k l ((s,.bool false)::p) ds cs q)(h:lkp p s=some (.bool b):=by rfl)(e:b=false:=by exact kw):XO P G f Q ops.toArray k l p ds cs q:= .know s _ h (congrArg Value.bool e) K
theorem XD.kt (s:Nat)(K:XD P G f Q ops k pk L n done ((s,.bool true)::p) ds cs q)(h:lkp p s=some (.bool b):=by rfl)(e:b=true:=by exact kw):XD P G f Q ops k pk L n done p ds cs q:= .know s _ h (congrArg Value.bool e) K
theorem XD.kf (s:Nat)(K:XD P G f Q ops k pk L n done ((s,.bool false)::p) ds cs q)(h:lkp p s=some (.bool b):=by rfl)(e:b=false:=by exact kw):XD P G f Q ops k pk L n done p ds cs q:= .know s _ h (congrArg Value.bool e) K
end
end
end Wx
namespace Wx
open Go Go.RowKit
abbrev Bs:=List UInt8
def bs (s:ByteArray):Bs:=s.data.toList
def ba (l:Bs):ByteArray:=⟨l.toArray⟩
def em:ByteArray:=⟨#[]⟩
theorem Ud (l:Bs):bs (ba l)=l:=rfl
theorem ba_bs (s:ByteArray):ba (bs s)=s:=by cases s;rfl
theorem Kg (s:ByteArray):(bs s).length=s.size:=rfl
theorem Aa (a b:ByteArray):(a.toList==b.toList)=(bs a==bs b):=by rw [ByteArray.toList_eq,ByteArray.toList_eq];rfl
def s8 (s:ByteArray)(n:Nat):Int:=(((bs s).getD n 0).toNat:Int)
section
variable {P:Program}{p:PE}{d:Option Tmp}{ty:TypeId}{pos:String}{af:Array Edge}{gd:Option (Nat×Bool)}{x y z:Operand}{t:TypeId}{kd kd':IntKind}{s:ByteArray}{i j:Int}
theorem Wh (hx:evp p x=some (.string s))(hy:evp p y=some (.int kd i))(ht:P.underlying t=some .string)(h0:0≤i)(h1:i.toNat<s.size):Pu P p ⟨d,.index t x y,ty,pos,af,gd⟩ (.int .u8 (s8 s i.toNat)):=fun tm w ag=>by
 have e:s[i.toNat]? =some s[i.toNat]:=getElem?_pos s i.toNat h1
 have e2:s8 s i.toNat=(s[i.toNat].toNat:Int):=by
  have h1':i.toNat<s.data.toList.length:=h1
  unfold s8 bs
  have h3:s.data.toList[i.toNat]? =some s.data.toList[i.toNat]:=List.getElem?_eq_getElem h1'
  unfold List.getD
  rw [h3];rfl
 rw [e2]
 simp [execOp,Zu ag hx,Zu ag hy,Instr.index,asIntOf,run_underlying ht,h0,e]
theorem En (hx:evp p x=some (.string s))(hy:evp p y=some (.int kd i))(hz:evp p z=some (.int kd' j))(ht:P.underlying t=some .string)(h0:0≤i)(h1:i≤j)(h2:j.toNat≤s.size):Pu P p ⟨d,.slice t x (some y) (some z) none,ty,pos,af,gd⟩ (.string (s.extract i.toNat j.toNat)):=fun tm w ag=>by
 have h3:0≤j∧j≤(s.size:Int):=⟨by omega,by omega⟩
 have h4:0≤i∧i≤(j.toNat:Int):=⟨h0,by omega⟩
 simp [execOp,Zu ag hx,Zu ag hy,Zu ag hz,Instr.sliceAt,Instr.slice,Instr.sliceBounds,Instr.sliceBound,asIntOf,run_underlying ht,h3,h4]
 intro h;omega
end
theorem Pa (s:ByteArray)(i j:Nat):bs (s.extract i j)=((bs s).drop i).take (j - i):=by
 simp [bs,ByteArray.data_extract,Array.toList_extract,List.extract_eq_take_drop]
def Kn (q:List HP)(φ:Hp→Prop):Prop:= ∀ M h,(stars q).p M h→φ M
def lst (φ:Hp→Prop)(mono: ∀ {M M':Hp},Hle M M'→φ M→φ M'):HP:=⟨fun M _=>φ M,fun e _ p=>mono e p⟩
section
variable {P:Program}{G w:World}{f:Fc}{Q:Yr}{ops:List Oper}{k:List Item}{l:List Oper}{p:PE}{ds:List Deferred}{cs:List Frame}{q q0:List HP}{φ ψ:Hp→Prop}{mn: ∀ {M M':Hp},Hle M M'→φ M→φ M'}{A:HP}
theorem Kn.le (h:Kn q0 φ)(k:Le q q0:=by exact leA):Kn q φ:=fun M x p=>h M x (k M x p)
theorem Kn.here:Kn (lst φ mn::q) φ:=fun _ _ ⟨_,_,_,_,_,p,_⟩=>p
theorem Kn.there (h:Kn q φ):Kn (A::q) φ:=h.le (Le.drop A q)
theorem Kn.imp (h:Kn q φ)(k: ∀ M,φ M→ψ M):Kn q ψ:=fun M x p=>k M (h M x p)
theorem Kn.and (h:Kn q φ)(k:Kn q ψ):Kn q fun M=>φ M∧ψ M:=fun M x p=>⟨h M x p,k M x p⟩
theorem Kn.add (h:Kn q φ):Le q (lst φ mn::q):=fun M x p=>⟨fun _=>none,x,fun _=> .inl rfl,fun _ _ e=>by simp at e,.refl _,h M x p,p⟩
def SeesZ (M:Hp)(a:Option Addr)(vs:List Value):Prop:= ∀ i u,vs[i]? =some u→ ∃ b o cur ty,a=some ⟨b,o,none⟩∧M b=some (.cells cur ty (0,0))∧cur[o+i]? =some u
theorem SeesZ.mono {M M':Hp}{a:Option Addr}{vs:List Value}(e:Hle M M')(h:SeesZ M a vs):SeesZ M' a vs:=fun i u hu=>
 let ⟨b,o,cur,ty,e1,e2,e3⟩:=h i u hu;⟨b,o,cur,ty,e1,e _ _ e2,e3⟩
theorem Kn.sees {a:Option Addr}{vs:List Value}(h:Kn q fun M=>SeesZ M a vs):Sees q a vs:=by
 rintro G w ⟨_,M,x,x1,_,_,_,_,p⟩ i u hu
 obtain ⟨b,o,cur,ty,e1,e2,e3⟩:=h M x p i u hu
 have e4:w.heap[b]? =some (.cells cur ty (0,0)):=x1 _ _ e2
 exact ⟨b,o,e1,by simp [World.cell?,e4,e3]⟩
theorem Kn.fact {χ:Prop}(h:Kn q φ)(k: ∀ M,φ M→χ)(s:St G w q):χ:=let ⟨_,M,x,_,_,_,_,_,p⟩:=s;k M (h M x p)
theorem knA {m: ∀ {M M':Hp},Hle M M'→φ M→φ M'}(h:Le q (lst φ m::q0):=by exact Zk):Kn q φ:=Kn.here.le h
def SlAt (M:Hp)(a:Option Addr)(c n:Nat)(vs:List Value):Prop:=n≤c∧c≤maxLen∧SeesZ M a vs
theorem SlAt.mono {M M':Hp}{a:Option Addr}{c n:Nat}{vs:List Value}(e:Hle M M')(h:SlAt M a c n vs):SlAt M' a c n vs:=⟨h.1,h.2.1,h.2.2.mono e⟩
theorem Ia {a:Option Addr}{c ty sz n:Nat}{vs:List Value}{h:Hp}(p:slP a c ty sz n vs h):SeesZ h a vs:=by
 obtain ⟨p1,p2⟩:=p
 intro i u hu
 rcases p2 with ⟨rfl,rfl,rfl⟩|⟨g,cur,q1,q2,q3,q4,q5,q6⟩
 · have:vs= []:=List.eq_nil_of_length_eq_zero (by omega)
   subst this;simp at hu
 refine ⟨g,0,cur,ty,q1,q6,?_⟩
 rw [←q5] at hu
 rw [List.getElem?_take] at hu
 split at hu
 · rw [Nat.zero_add];simpa using hu
 cases hu
theorem slP.at {a:Option Addr}{c ty sz n:Nat}{vs:List Value}{M:Hp}(p:slP a c ty sz n vs M):SlAt M a c n vs:=by
 have hs:=Ia p
 refine ⟨?_,?_,hs⟩
 · rcases p.2 with ⟨_,rfl,h⟩|⟨g,cur,q1,q2,q3,q4,q5,q6⟩
   · rw [h];exact Nat.le_refl _
   exact q2
 rcases p.2 with ⟨_,rfl,h⟩|⟨g,cur,q1,q2,q3,q4,q5,q6⟩
 · simp [maxLen]
 exact q3
theorem SlAt.nil (M:Hp):SlAt M none 0 0 []:=⟨Nat.le_refl _,by simp [maxLen],fun i u h=>by simp at h⟩
theorem Kn.slM {a:Option Addr}{c ty sz n:Nat}{vs:List Value}:Kn (slM a c ty sz n vs::q) fun M=>SlAt M a c n vs:=fun _ _ ⟨_,_,_,_,_,p,_⟩=>slP.at p
theorem frz {a:Option Addr}{c ty sz n:Nat}{vs:List Value}(hq:Le q (slH a c ty sz n vs::q0):=by exact Zk)(h:Kn (lst (fun M=>SlAt M a c n vs) SlAt.mono::q0) φ)(s:St G w q):St G w (lst φ mn::q0):=by
 have s1:=(s.le hq).slFreeze
 have s2:=s1.le (Kn.add (mn:=SlAt.mono) Kn.slM)
 have s3:=s2.le (Le.trans (Le.swap _ _ _) (Le.drop _ _))
 exact (s3.le (Kn.add h)).le (Le.trans (Le.swap _ _ _) (Le.drop _ _))
theorem X.frz {todo:List Item}{a:Option Addr}{c ty sz n:Nat}{vs:List Value}(h:Kn (lst (fun M=>SlAt M a c n vs) SlAt.mono::q0) φ)(x:X P G f Q todo p ds cs (lst φ mn::q0))(hq:Le q (slH a c ty sz n vs::q0):=by exact Zk):X P G f Q todo p ds cs q:= .turn (fun w=>Wx.frz hq h) x
end
end Wx
namespace Wx
open Go Go.RowKit
section
variable {α:Type}{P:Program}{G:World}{fr:Fc}{Q:Yr}{k:List Item}{p:PE}{ds:List Deferred}{cs:List Frame}{q q0 r:List HP}{ops lo:List Oper}{f:α→List Value}{sz ty:Nat}{a b:Option Addr}{c c':Nat}{l m:List α}
section
variable {d:Option Tmp}{ty':TypeId}{pos:String}{af:Array Edge}{gd:Option (Nat×Bool)}{x y:Operand}{t:TypeId}{z:Value}{bytes i:Nat}
theorem G7 (off:Nat): ∀ (us:List Value) (n:Nat) (pre post:List Value),pre.length=off+n→us.length≤post.length→(us.zipIdx n).foldl (fun cs (c,i)=>cs.setIfInBounds (off+i) c) (pre++post).toArray=(pre++us++post.drop us.length).toArray:=by
 intro us
 induction us with
 |nil=>intro n pre post _ h;simp
 |cons u r ih=>
  intro n pre post hp h
  obtain ⟨x,post,rfl⟩: ∃ x l,post=x::l:=by cases post with
   |nil=>cases h
   |cons x l=>exact ⟨x,l,rfl⟩
  rw [List.zipIdx_cons,List.foldl_cons]
  have:=ih (n+1) (pre++ [u]) post (by simp;omega) (by simpa using h)
  simp only [List.append_assoc,List.singleton_append] at this
  simpa [←hp] using this
theorem Ef.litR2 {u v:α}(f:α→List Value)(ht:P.underlying t=some (.slice ty))(hi:(P.info? ty).map (fun i=>(i.zero,i.size,i.bytes))=some (some z,sz,bytes))(h0:Nat.ble (2*sz) 16777216=true)(hn:Nat.blt 0 sz=true)
 (hf: ∀ x,(f x).length=sz) (hx:evp p x=some (.agg (f u).toArray)) (hy:evp p y=some (.agg (f v).toArray)):
 Ef P G p q ⟨d,.buildSlice t 2 [(0,x),(1,y)].toArray,ty',pos,af,gd⟩ fun w q'=> ∃ g,w= .slice (some ⟨g,0,none⟩) 2 2∧q'=Wx.rsH f sz ty (some ⟨g,0,none⟩) 2 [u,v]::q:=by
 have hc: ∀ u,(Value.agg (f u).toArray).cells=(f u).toArray:=fun _=>rfl
 have hfill:Instr.fill (fun i=>some (i*sz,sz)) ((Array.range (2*sz)).map (z.cells[· % z.cells.size]!)) (([(0,x),(1,y)].map (·.1)).zip [Value.agg (f u).toArray,Value.agg (f v).toArray])=some (f u++f v).toArray:=by
  obtain ⟨A,hA,hl⟩: ∃ A:List Value,(Array.range (2*sz)).map (z.cells[· % z.cells.size]!)=A.toArray∧A.length=2*sz:=⟨((Array.range (2*sz)).map (z.cells[· % z.cells.size]!)).toList,Array.toArray_toList.symm,by rw [Array.length_toList,Array.size_map,Array.size_range]⟩
  have k1:=G7 (0*sz) (f u) 0 [] A (by simp) (by rw [hf];omega)
  have k2:=G7 (1*sz) (f v) 0 (f u) (A.drop (f u).length) (by rw [hf];omega) (by rw [List.length_drop,hf,hf];omega)
  rw [List.nil_append,List.nil_append] at k1
  have e1: ∀ (off:Nat) (us:List Value) (A:Array Value),(us.toArray.zipIdx).foldl (fun cs (c,i)=>cs.setIfInBounds (off+i) c) A=(us.zipIdx 0).foldl (fun cs (c,i)=>cs.setIfInBounds (off+i) c) A:=by intro off us A;simp
  have h2:=(e1 (0*sz) (f u) A.toArray).trans k1
  have h3:=(e1 (1*sz) (f v) (f u++A.drop (f u).length).toArray).trans k2
  rw [hA]
  simp only [List.map_cons,List.map_nil,List.zip_cons_cons,List.zip_nil_left,List.zip_nil_right,Instr.fill,hc]
  rw [if_neg (by simp [hf];omega),h2,if_neg (by simp [hf];omega),h3]
  congr 2
  rw [List.drop_eq_nil_of_le (by rw [List.length_drop,hf,hf];omega),List.append_nil]
 have:=Ef.buildSlice (P:=P) (G:=G) (p:=p) (q:=q) (d:=d) (ty:=ty') (pos:=pos) (af:=af) (gd:=gd) (ps:= [(0,x),(1,y)]) (len:=2) ht hi (us:= [.agg (f u).toArray,.agg (f v).toArray]) (by simp [evl,hx,hy]) (by simpa using h0) (by have h:=hn;simp [Nat.blt_eq] at h⊢;omega) hfill (by simp [hf];omega)
 simpa [Wx.rsH] using this
end
variable {φ:Hp→Prop}{mn: ∀ {M M':Hp},Hle M M'→φ M→φ M'}
theorem X.frzR {todo:List Item}(h:Kn (lst (fun M=>SlAt M a c l.length (l.flatMap f)) SlAt.mono::q0) φ)(x:X P G fr Q todo p ds cs (lst φ mn::q0))(hq:Le q (rsH f sz ty a c l::q0):=by exact Zk):X P G fr Q todo p ds cs q:= .frz h x hq
end
end Wx
namespace Wx
open Go Go.RowKit
end Wx
namespace Wx
open Go Go.RowKit
def Brn (w:World)(a:Addr):Prop:= ∃ cs ty,w.heap[a.block]? =some (.cells cs ty (0,0))
def Wf (e:Addr×Value×Nat):MapEntry:= { key:= .pointer (some e.1),val:=e.2.1,born:=e.2.2 }
section
variable {P:Program}{G:World}{f:Fc}{Q:Yr}{ops:List Oper}{k:List Item}{rest:List Oper}{ds:List Deferred}{cs:List Frame}{p:PE}{q r:List HP}{d:Option Tmp}{ty:TypeId}{pos:String}{af:Array Edge}{gd:Option (Nat×Bool)}{x y z:Operand}{t t' kt et te:TypeId}{kd:IntKind}{v u:Value}{b clock:Nat}{es:List (Addr×Value×Nat)}{a:Addr}{j:TypeInfo}
theorem Mj {w:World}{c:Addr}(hp:P.underlying kt=some (.pointer te))(hte:P.info? te=some j)(hsz:j.size≠0)(hne:a≠c)(ha:Brn w a)(hb:Brn w c):
 (Op.equal kt (.pointer (some a)) (.pointer (some c))).run P w= .ok false w:=by
 obtain ⟨ca,ta,ha⟩:=ha
 obtain ⟨cb,tb,hb⟩:=hb
 have h: ∀ d:Nat,(Op.equalIn (d+1) kt (.pointer (some a)) (.pointer (some c))).run P w= .ok false w:=fun d=>by
  simp [Op.equalIn,run_underlying hp,Go.sizeOf,typeInfo,hte,hsz,run_sameAddr_other w hne ha hb]
 simp [Op.equal,Op.maxDepth,h 9999]
theorem Ee {w:World}(hp:P.underlying kt=some (.pointer te))(hte:P.info? te=some j):(Op.equal kt (.pointer (some a)) (.pointer (some a))).run P w= .ok true w:=by
 have h: ∀ d:Nat,(Op.equalIn (d+1) kt (.pointer (some a)) (.pointer (some a))).run P w= .ok true w:=fun d=>by
  simp [Op.equalIn,run_underlying hp,Go.sizeOf,typeInfo,hte,run_sameAddr_same]
 simp [Op.equal,Op.maxDepth,h 9999]
theorem Hh {w:World}(hp:P.underlying kt=some (.pointer te))(hte:P.info? te=some j)(hsz:j.size≠0)(ha:Brn w a): ∀ (es:List (Addr×Value×Nat)) (i:Nat),(∀ e∈es,a≠e.1∧Brn w e.1)→
 (Instr.findAsking kt (.pointer (some a)) (es.map Wf) i).run P w= .ok none w
 | [],i,_=>by simp [Instr.findAsking]
 |e::es,i,h=>by
  have h1:=h e (List.mem_cons_self ..)
  simp [Instr.findAsking,Wf,Mj hp hte hsz h1.1 ha h1.2,Hh hp hte hsz ha es (i+1) (fun y hy=>h y (List.mem_cons_of_mem _ hy)),Result.andThen]
theorem Te {w:World}{v:Value}{n:Nat}(hp:P.underlying kt=some (.pointer te))(hte:P.info? te=some j)(hsz:j.size≠0)(ha:Brn w a): ∀ (es:List (Addr×Value×Nat)) (i:Nat),(∀ e∈es,a≠e.1∧Brn w e.1)→
 (Instr.findAsking kt (.pointer (some a)) ((es++ [(a,v,n)]).map Wf) i).run P w= .ok (some (i+es.length,v)) w
 | [],i,_=>by simp [Instr.findAsking,Wf,Ee hp hte,Result.andThen]
 |e::es,i,h=>by
  have h1:=h e (List.mem_cons_self ..)
  have h2:=Te (v:=v) (n:=n) hp hte hsz ha es (i+1) (fun y hy=>h y (List.mem_cons_of_mem _ hy))
  rw [show i+1+es.length=i+(e::es).length by simp;omega] at h2
  simp only [List.cons_append,List.map_cons,Instr.findAsking,Wf,Sem.run_bind,Mj hp hte hsz h1.1 ha h1.2,Result.andThen]
  simpa [Wf] using h2
theorem Fk {w:World}{es:List MapEntry}{o:Option (Nat×Value)}(hp:P.underlying kt=some (.pointer te))(h:(Instr.findAsking kt (.pointer (some a)) es 0).run P w= .ok o w):(Instr.findKey kt (.pointer (some a)) es).run P w= .ok o w:=by
 unfold Instr.findKey
 cases es with
 |nil=>simp [run_underlying hp,Instr.findNow,Result.andThen];simpa [Instr.findAsking] using h
 |cons e es=>simp [run_underlying hp,Instr.findNow,Instr.sameNow,Result.andThen,h]
theorem Re {w:World}(hp:P.underlying kt=some (.pointer te))(e:Bool)(n:Nat):(Instr.checkKey e (n+1) kt (.pointer (some a))).run P w= .ok () w:=by
 unfold Instr.checkKey
 simp [run_underlying hp,Result.andThen]
def KeysAt (q:List HP)(a:Addr)(es:List (Addr×Value×Nat)):Prop:= ∀ G w,St G w q→Brn w a∧ ∀ e∈es,a≠e.1∧Brn w e.1
theorem KeysAt.le {q':List HP}(h:KeysAt q' a es)(l:Le q q'):KeysAt q a es:=fun G w s=>h G w (s.le l)
theorem Ed (ht:P.underlying t=some (.map kt et))(hp:P.underlying kt=some (.pointer te))(hte:P.info? te=some j)(hsz:j.size≠0)(hx:evp p x=some (.map (some b)))(hy:evp p y=some (.pointer (some a)))(hz:evp p z=some v)(hK:KeysAt q a es)
 (hq:Le q (pto b (.map (es.map Wf).toArray clock)::r)):Ef P G p q ⟨d,.mapUpdate t x y z,ty,pos,af,gd⟩ fun u q'=>u=undef∧q'=pto b (.map ((es++ [(a,v,clock)]).map Wf).toArray (clock+1))::r:=
 fun tm w ag s=>by
  obtain ⟨hb1,hb2⟩:=hK G w s
  have s':=s.le hq
  have hb:=s'.has (Has.pto _ _ _)
  have hf:=Fk (P:=P) (w:=w) hp (Hh hp hte hsz hb1 es 0 hb2)
  refine ⟨undef,_,_,.inr ⟨rfl,?_⟩,s'.setObjM (o:= .map ((es.map Wf).toArray.push { key:= .pointer (some a),val:=v,born:=clock }) (clock+1)),rfl,by simp [Wf]⟩
  simp [execOp,Zu ag hx,Zu ag hy,Zu ag hz,Instr.mapUpdate,run_underlying ht,MapKept.run_getObj_map hb,Re hp,hf,MapKept.run_setObj_map _ hb,Result.andThen]
theorem Dj {zv:Value}(ht:P.underlying t=some (.map kt et))(hp:P.underlying kt=some (.pointer te))(hte:P.info? te=some j)(hsz:j.size≠0)(hx:evp p x=some (.map (some b)))(hy:evp p y=some (.pointer (some a)))(hK:KeysAt q a es)
 (hq:Le q (pto b (.map (es.map Wf).toArray clock)::r)) (hz: ∀ w,(zeroValue et).run P w= .ok zv w):Rd P G p q ⟨d,.lookup t x y true,ty,pos,af,gd⟩ (.tuple [zv,.bool false].toArray):=
 fun tm w ag s=>by
  obtain ⟨hb1,hb2⟩:=hK G w s
  have hb:=(s.le hq).has (Has.pto _ _ _)
  have hf:=Fk (P:=P) (w:=w) hp (Hh hp hte hsz hb1 es 0 hb2)
  simp [execOp,Zu ag hx,Zu ag hy,Instr.lookup,run_underlying ht,MapKept.run_getObj_map hb,Re hp,hf,hz,Result.andThen]
def dfDel (ats:Array TypeId)(ty:TypeId)(cst:Array Bool)(b:Nat)(a:Addr):Deferred:= { target:= .builtin .delete ats ty cst,args:= #[.map (some b),.pointer (some a)] }
theorem XO.dfDel {ats:Array TypeId}{m y:Operand}(K: ∀ cst,XO P G f Q ops.toArray k rest (Up p d undef) (Wx.dfDel ats ty cst b a::ds) cs q)(hm:evp p m=some (.map (some b)):=by rfl)(hy:evp p y=some (.pointer (some a)):=by rfl)(hro:f.round=none:=by rfl)(hd:dOk f.n d=true:=by rfl)
 (hw:Wt ops p ⟨d,.defer ⟨.builtin .delete, [m,y].toArray,ats⟩,ty,pos,af,gd⟩=some true:=by rfl):
 XO P G f Q ops.toArray k (⟨d,.defer ⟨.builtin .delete, [m,y].toArray,ats⟩,ty,pos,af,gd⟩::rest) p ds cs q:=by
 intro is h tm w n a_ s
 cases is with
 |nil=>simp at h
 |cons i r=>
  obtain ⟨ho,hr'⟩:=List.cons.inj h
  have h1:=Zu a_ hm
  have h2:=Zu a_ hy
  have hres: ∃ cst,∀ w,(resolve (evA tm) ⟨.builtin .delete, [m,y].toArray,ats⟩ ty).run P w= .ok (Wx.dfDel ats ty cst b a) w:=⟨_,fun w=>by simp [resolve,h1,h2,Wx.dfDel];rfl⟩
  obtain ⟨cst,hres⟩:=hres
  obtain ⟨o',tm',p',ds',cs'',w',q',hQ,hn,ha,hs,arr⟩:=K cst r hr' (Ww tm d undef) w (by rw [Yw];exact n) (a_.put (n ▸ hd)) s
  refine ⟨o',tm',p',ds',cs'',w',q',hQ,hn,ha,hs,arr.head (.one (step_lone_go ?_))⟩
  have hfin:=Vi f tm (Wx.dfDel ats ty cst b a::ds) _ i r k undef ho
  simp only at hfin
  rw [←hfin]
  have he:(f.fr tm ds (.inRegion ops.toArray (i::r)::k)).eval=evA tm:=funext fun x=>Q7 ..
  simp only [Fc.fr,hro] at he
  have hww:=Yu a_ hw
  simp only [stepG,stepG.exec,stepG.oper,Frame.oper?,Fc.fr,ho,hww,he,Option.map_some,Option.getD_some,if_true,hro]
  simp [stepG.apply,execOp,hres,Fc.fr]
theorem Gz {P:Program}{fr:Frame}{cs:List Frame}{w w':World}{bi:Builtin}{ats:Array TypeId}{tt:TypeId}{cst:Array Bool}{args:Array Value}{ds:List Deferred}{v:Value}(hm:fr.mode≠ .run)(hd:fr.defers= { target:= .builtin bi ats tt cst,args:=args } ::ds)
 (hi:(invoke (.builtin bi ats tt cst) args).run P w= .ok (.value v) w'):step P (lone fr cs w)= .next (lone { fr with defers:=ds } cs w'):=by
 refine step_lone_go ?_
 cases hmode:fr.mode with
 |run=>exact absurd hmode hm
 |returning=>simp [stepG,unwind,callDeferred,hmode,hd,hi]
 |panicking chain=>simp [stepG,unwind,callDeferred,hmode,hd,hi]
theorem Lv.del {fn:FuncId}{R:Ug}{F:List HP}{ats:Array TypeId}{ty:TypeId}{cst:Array Bool}{mt:TypeId}{n:Nat}{v:Value}(hat:ats[0]? =some mt)(ht:P.underlying mt=some (.map kt et))(hp:P.underlying kt=some (.pointer te))(hte:P.info? te=some j)(hsz:j.size≠0)(hK:KeysAt q a es)
 (hq:Le q (pto b (.map ((es++ [(a,v,n)]).map Wf).toArray clock)::r)) (K:Lv P G fn R F ds .returning p (pto b (.map (es.map Wf).toArray clock)::r)):Lv P G fn R F (Wx.dfDel ats ty cst b a::ds) .returning p q:=by
 intro tm w fr cs h1 h2 h3 h4 h5 ag s
 obtain ⟨hb1,hb2⟩:=hK G w s
 have s':=s.le hq
 have hb:=s'.has (Has.pto _ _ _)
 have hf:=Fk (P:=P) (w:=w) hp (Te (v:=v) (n:=n) hp hte hsz hb1 es 0 hb2)
 rw [Nat.zero_add] at hf
 have s2:=s'.setObjM (o:= .map (es.map Wf).toArray clock)
 have her2:(es.map Wf++ [Wf (a,v,n)]).eraseIdx es.length=es.map Wf:=by
  rw [List.eraseIdx_append_of_length_le (by simp)];simp
 have hf':=hf
 rw [List.map_append] at hf'
 have her:(((es++ [(a,v,n)]).map Wf).toArray).eraseIdxIfInBounds es.length=(es.map Wf).toArray:=by
  apply Array.toList_inj.1
  simp [Array.eraseIdxIfInBounds,List.eraseIdx_append_of_length_le]
 have hi:(invoke (.builtin .delete ats ty cst) #[.map (some b),.pointer (some a)]).run P w= .ok (.value (.tuple #[])) { w with heap:=w.heap.setIfInBounds b (.map (es.map Wf).toArray clock) } :=by
  simp only [invoke,builtin,Builtin.delete_,hat]
  simp [run_underlying ht,MapKept.run_getObj_map hb,Re hp,show (Instr.findKey kt (.pointer (some a)) (es.map Wf++ [Wf (a,v,n)])).run P w= .ok (some (es.length,v)) w from hf',Result.andThen,MapKept.run_setObj_map _ hb,her2]
 have st:=Gz (P:=P) (cs:=cs) (w:=w) (fr:=fr) (ds:=ds) (by rw [h4];intro h;cases h) h3 hi
 obtain ⟨e,w'',fr',q',hR,hne,hs',hst,hfn,hl⟩:=K tm _ { fr with defers:=ds } cs h1 h2 rfl h4 h5 ag s2
 exact ⟨e,w'',fr',q',hR,hne,hs',Steps.head st hst,hfn,hl⟩
end
end Wx
namespace Wx
open Go Go.RowKit
def IterR {τ:Type}(P:Program)(G:World)(gv:Value)(R:τ→List Value→HP→Prop)(xs:List τ)(pre:List HP):Prop:=
 ∀ (l:Nat) (J:Nat→HP) (Jf:HP→Prop),
  (∀ i (h:i<xs.length) vs A,R xs[i] vs A→CallV P G (.func (.yield l) #[] #[]) vs (J i::A::pre) (Ret fun v q=>(v= .bool true∧q=J (i+1)::pre)∨(v= .bool false∧ ∃ B,Jf B∧q=B::pre)))→
  CallV P G gv [.func (.yield l) #[] #[]] (J 0::pre) (Ret fun _ q=>q=J xs.length::pre∨ ∃ B,Jf B∧q=B::pre)
section
variable {P:Program}{G:World}{f:Fc}{Q:Yr}{k:List Item}{p:PE}{ds:List Deferred}{cs:List Frame}{q:List HP}
theorem X.rangeR {τ:Type}{g:Operand}{ps:List Tmp}{as bd:Code}{gv:Value}{R:τ→List Value→HP→Prop}{xs:List τ}{F:List HP}(pre:List HP)(Inv:Nat→List HP)(Jmp:Code→List HP→Prop)(hI:IterR P G gv R xs pre)(hg:evp p g=some gv)(hq:Le q (Inv 0++(pre++F)))
 (hxs: ∀ x vs A,R x vs A→vs.length=ps.length) (hps:ps.all (Nat.blt · f.n)=true) (hf:(P.funcs[f.fn]?).isSome=true) (hro:f.round=none)
 (round: ∀ i (h:i<xs.length) vs A,R xs[i] vs A→ ∀ l rec F₀ cs₀,X P G ⟨f.fn,f.n,.normal,some l⟩ (RQ cs₀ rec l (Inv (i+1)) Jmp (pre++F₀)) [.code as,.beginRound,.code bd] (Aw ps vs p) [] cs₀ (lp rec l .ready none::(Inv i++(A::(pre++F₀)))))
 (cont: ∀ r,X P G f Q k p (markD r::ds) cs (pto r (.deferred (some []))::(Inv xs.length++(pre++F))))
 (contJ: ∀ r c qs,Jmp c qs→X P G f Q (.code c::k) p (markD r::ds) cs (pto r (.deferred (some []))::(qs++(pre++F)))):
 X P G f Q (.code (.rangeFunc g ps.toArray as bd)::k) p ds cs q:=by
 refine X.rangeFunc (pre:=Inv 0++pre) (F:=F) (R':=fun pend q1=>(pend=none∧q1=Inv xs.length++pre)∨ ∃ c qs,pend=some c∧Jmp c qs∧q1=qs++pre) hro hg (by rw [List.append_assoc];exact hq) (fun l rec hrec=> ?_) (fun r pend q1 h=> ?_)
 · have key:=hI l (fun i=>stars (lp rec l .ready none::Inv i)) (fun A=> ∃ c qs,Jmp c qs∧A=stars (lp rec l .done (some c)::qs)) (fun i h vs A hR=> ?_)
   · refine CallV.conv (pre':=stars (lp rec l .ready none::Inv 0)::pre) ?_ key ?_
     · rw [show lp rec l .ready none::(Inv 0++pre)=(lp rec l .ready none::Inv 0)++pre from rfl]
       exact Z5 _ _
     rintro e q' ⟨v,rfl,rfl|⟨A,⟨c,qs,hJ,rfl⟩,rfl⟩⟩
     · exact ⟨lp rec l .ready none::(Inv xs.length++pre),⟨v,rfl,.ready,none,_,by simp,rfl,.inl ⟨rfl,rfl⟩⟩,Zs _ _⟩
     exact ⟨lp rec l .done (some c)::(qs++pre),⟨v,rfl,.done,some c,_,by simp,rfl,.inr ⟨c,qs,rfl,hJ,rfl⟩⟩,Zs _ _⟩
   refine CallV.conv (pre':=lp rec l .ready none::(Inv i++(A::pre))) (Zs (lp rec l .ready none::Inv i) (A::pre))
    (CallV.yield (R:=Ret fun v q=>(v= .bool true∧q=lp rec l .ready none::(Inv (i+1)++pre))∨(v= .bool false∧ ∃ c qs,Jmp c qs∧q=lp rec l .done (some c)::(qs++pre))) hrec hps (by simpa using hxs _ _ _ hR) hf (fun F₀ cs₀=> ?_)) ?_
   · intro tm w hn ha s
     obtain ⟨o,tm',p',ds',cs',w',q',⟨hcs,hds,ho⟩,h1,h2,h3,h4⟩:=round i h vs A hR l rec F₀ cs₀ tm w hn ha (by rw [List.append_assoc] at s;exact s)
     refine ⟨o,tm',p',ds',cs',w',q',⟨hcs,hds,?_⟩,h1,h2,h3,h4⟩
     cases o with
     |fall=>exact ⟨Inv (i+1)++pre,⟨_,rfl,.inl ⟨rfl,rfl⟩⟩,by rw [List.append_assoc];exact ho⟩
     |jump c=>obtain ⟨qs,hJ,hle⟩:=ho;exact ⟨qs++pre,⟨_,rfl,.inr ⟨rfl,c,qs,hJ,rfl⟩⟩,by rw [List.append_assoc];exact hle⟩
     |panic ch=>exact ho.elim
   rintro e q' ⟨v,rfl,⟨rfl,rfl⟩|⟨rfl,c,qs,hJ,rfl⟩⟩
   · exact ⟨stars (lp rec l .ready none::Inv (i+1))::pre,⟨_,rfl,.inl ⟨rfl,rfl⟩⟩,Z5 (lp rec l .ready none::Inv (i+1)) pre⟩
   exact ⟨stars (lp rec l .done (some c)::qs)::pre,⟨_,rfl,.inr ⟨rfl,_,⟨c,qs,hJ,rfl⟩,rfl⟩⟩,Z5 (lp rec l .done (some c)::qs) pre⟩
 rcases h with ⟨rfl,rfl⟩|⟨c,qs,rfl,hJ,rfl⟩
 · have:=cont r;rw [←List.append_assoc] at this;exact this
 have:=contJ r c qs hJ;rw [←List.append_assoc] at this;exact this
end
end Wx
namespace Wx
open Go Go.RowKit
section
variable {P:Program}{G:World}{f:Fc}{Q:Yr}{ops:List Oper}{k:List Item}{rest:List Oper}{ds:List Deferred}{cs:List Frame}{p:PE}{q r:List HP}{ty:TypeId}{pos:String}{af:Array Edge}{gd:Option (Nat×Bool)}{x y:Operand}{t:TypeId}
theorem Rd.loadC {d:Option Tmp}{b o sz:Nat}{us:List Value}(hx:evp p x=some (.pointer (some ⟨b,o,none⟩)))(ht: ∀ w,(isAgg t).run P w= .ok true w)(hs: ∀ w,(Go.sizeOf t).run P w= .ok sz w)(hl:us.length=sz)
 (hc:CellsAt q b o us):Rd P G p q ⟨d,.load t x,ty,pos,af,gd⟩ (.agg us.toArray):=fun tm w ag s=>by
 have hc:=run_loadCells_list (P:=P) w ⟨b,o,none⟩ us (fun j u hj=>by rw [W1];exact hc j u hj G w s)
 rw [hl] at hc
 simp [execOp,Zu ag hx,Instr.loadAt,Instr.sureAddr,loadVar,ht,hs,hc]
theorem XO.ldC {d:Tmp}{b o sz:Nat}{us:List Value}(ht: ∀ w,(isAgg t).run P w= .ok true w)(hs: ∀ w,(Go.sizeOf t).run P w= .ok sz w)(hl:us.length=sz)(hc:CellsAt q b o us)(K:XO P G f Q ops.toArray k rest ((d,.agg us.toArray)::p) ds cs q)
 (hx:evp p x=some (.pointer (some ⟨b,o,none⟩)):=by rfl) (hw:Wt ops p ⟨some d,.load t x,ty,pos,af,gd⟩=some true:=by rfl) (hd:Nat.blt d f.n=true:=by rfl):
 XO P G f Q ops.toArray k (⟨some d,.load t x,ty,pos,af,gd⟩::rest) p ds cs q:= .rd (Rd.loadC hx ht hs hl hc) K hw hd
theorem Rd.efE {o:Oper}{v:Value}(h:Rd P G p q o v)(E:List HP):Ef P G p (q++E) o fun v' q'=> ∃ q1,(v'=v∧q1=q)∧q'=q1++E:=fun tm w ag s=>
 ⟨v,w,q++E,.inl (h tm w ag (s.le (Y6 q E))),s,q,⟨rfl,rfl⟩,rfl⟩
theorem Av {α:Type}{fl:α→List Value}{l:List α}{a:Option Addr}{c sz et:Nat}{u:α}{n g:Nat}{j:Int}{d:Option Tmp}(hx:evp p x=some (.pointer (some ⟨g,0+j.toNat*sz,none⟩)))(hy:evp p y=some (.agg (fl u).toArray))(hsz: ∀ w,(Go.sizeOf t).run P w= .ok sz w)(hf: ∀ x,(fl x).length=sz)
 (hj:j=n) (hn:n<l.length) (h1:(fl u).all (·.oneCell')=true) (hq:Le q (Wx.rsH fl sz et (some ⟨g,0,none⟩) c l::r)):
 Ef P G p q ⟨d,.store t x y,ty,pos,af,gd⟩ fun z q'=>z=undef∧q'=Wx.rsH fl sz et (some ⟨g,0,none⟩) c (l.set n u)::r:=by
 subst hj
 rw [Int.toNat_natCast,Nat.zero_add] at hx
 intro tm w ag s
 obtain ⟨h0,h2|⟨g',cur,q1,q2,q3,q4,q5,s'⟩⟩:=(s.le hq).slH_elim
 · obtain ⟨_,_,h3,_⟩:=h2;omega
 cases q1
 have hlt:n*sz+sz≤l.length*sz:=by
  have:=Nat.mul_le_mul_right sz (show n+1≤l.length from hn)
  rw [Nat.add_mul,Nat.one_mul] at this;omega
 have hc:n*sz+sz≤cur.size:=by rw [q4];exact Nat.le_trans hlt (Nat.mul_le_mul_right _ q2)
 obtain ⟨z,w',q',hr,hs,rfl,rfl⟩:=Ef.storeA (G:=G) (d:=d) (ty:=ty) (pos:=pos) (af:=af) (gd:=gd) (q:=pto g (.cells cur.toList.toArray et (0,0))::r) hx hy hsz (hf u) h1 (Le.here _ _) (by simpa [Nat.ble_eq] using hc) tm w ag (by simpa using s')
 refine ⟨_,w',_,hr,?_,rfl,rfl⟩
 have hl:(l.set n u).length=l.length:=by simp
 unfold Wx.rsH
 rw [hl]
 have hcl:cur.toList.length=c*sz:=by simpa using q4
 have hsp:(U1 cur.toList (n*sz) (fl u)).length=cur.toList.length:=by
  unfold U1;rw [List.length_append,List.length_append,List.length_take,List.length_drop,hf];omega
 refine hs.le (Wk q2 q3 (by rw [List.size_toArray,hsp,hcl]) ?_ r)
 rw [List.toList_toArray]
 have e1:(l.set n u).flatMap fl=(l.flatMap fl).take (n*sz)++fl u++(l.flatMap fl).drop (n*sz+sz):=by
  rw [Kb hf,show n*sz+sz=(n+1)*sz by rw [Nat.add_mul];omega,Fj hf,List.set_eq_take_append_cons_drop,if_pos hn,List.flatMap_append,List.flatMap_cons,List.append_assoc]
 rw [e1,←q5]
 unfold U1
 rw [hf]
 have hA:(cur.toList.take (n*sz)).length=n*sz:=by rw [List.length_take];omega
 apply List.ext_getElem?
 intro i
 simp only [List.getElem?_take,List.getElem?_append,List.length_append,List.length_take,List.getElem?_drop,hf,hA]
 have hm:min (n*sz) (l.length*sz)=n*sz:=by omega
 have hm2:min (n*sz) cur.toList.length=n*sz:=by omega
 have hm3:min (n*sz) (min (l.length*sz) cur.size)=n*sz:=by omega
 by_cases c1:i<n*sz
 · simp [c1,hm3,show i<l.length*sz by omega,show i<n*sz+sz by omega]
 by_cases c2:i<n*sz+sz
 · simp [c1,c2,hm3,show i<l.length*sz by omega]
 by_cases c3:i<l.length*sz
 · simp [c1,c2,c3,hm3,show n*sz+sz+(i - (n*sz+sz))=i by omega]
 simp [c1,c2,c3,hm3,show n*sz+sz+(i - (n*sz+sz))=i by omega]
end
end Wx
namespace Wx
open Go Go.RowKit
section
variable {P:Program}{G:World}{f:Fc}{Q:Yr}{ops:List Oper}{k:List Item}{pk p:PE}{fl:List FlE}{L:Rds}{n:Nat}{done:List Nat}{ds:List Deferred}{cs:List Frame}{q r:List HP}{op:Op}{ty:TypeId}{pos:String}{af:Array Edge}{gd:Option (Nat×Bool)}{x y:Operand}{t:TypeId}
theorem B7 (j:Nat){R:Value→List HP→Prop}(hE: ∀ E,Ef P G p (q++E) ⟨none,op,ty,pos,af,gd⟩ fun v q'=> ∃ q1,R v q1∧q'=q1++E)
 (K: ∀ v q1,R v q1→HL q1 (cut ⟨none,op,ty,pos,af,gd⟩ L)∧XF P G f Q ops k pk fl (cut ⟨none,op,ty,pos,af,gd⟩ L) n (j::done) p ds cs q1)
 (ho:ops[j]? =some ⟨none,op,ty,pos,af,gd⟩:=by rfl) (hif:(fl.map (·.i)).contains j=false:=by rfl) (hr:rdy ops done j=true:=by rfl) (hw:Wt ops p ⟨none,op,ty,pos,af,gd⟩=some true:=by rfl):StepOk P G f Q ops k pk fl L n done p ds cs q j:=
 ⟨_,R,ho,hE,K,hif,hr,hw,rfl⟩
theorem Xq {α:Type}{fl:α→List Value}{l:List α}{c sz et:Nat}{u:α}{n g:Nat}{j:Int}{d:Option Tmp}(hx:evp p x=some (.pointer (some ⟨g,0+j.toNat*sz,none⟩)))(hy:evp p y=some (.agg (fl u).toArray))(hsz: ∀ w,(Go.sizeOf t).run P w= .ok sz w)(hf: ∀ x,(fl x).length=sz)
 (hj:j=n) (hn:n<l.length) (h1:(fl u).all (·.oneCell')=true) (hq:Le q (Wx.rsH fl sz et (some ⟨g,0,none⟩) c l::r)) (E:List HP):
 Ef P G p (q++E) ⟨d,.store t x y,ty,pos,af,gd⟩ fun z q'=> ∃ q1,(z=undef∧q1=Wx.rsH fl sz et (some ⟨g,0,none⟩) c (l.set n u)::r)∧q'=q1++E:=by
 intro tm w ag s
 obtain ⟨v,w',q',h1',h2',h3,h4⟩:=Av (P:=P) (G:=G) (d:=d) (ty:=ty) (pos:=pos) (af:=af) (gd:=gd) (a:=none) (r:=r++E) hx hy hsz hf hj hn h1 (hq.liftR E) tm w ag s
 exact ⟨v,w',q',h1',h2',_,⟨h3,rfl⟩,h4⟩
theorem Kn.im {b:Nat}{o:Obj}:Kn (Wx.im b o::q) fun M=>M b=some o:=fun _ _ ⟨_,_,_,_,_,p,_⟩=>p
end
end Wx
