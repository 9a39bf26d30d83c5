/- Contracts of functions, proved by walking their code. -/
import Derived.Test.YtflkjkhijcdbaaaGreatBa
import Derived.Defers
import Derived.Recover
import Derived.ChangeArms
import Derived.OpenShut
import Derived.DataReads
import Derived.Laws.IdiomStrings
import Derived.Laws.MakeOwn
import Derived.WideShapes
set_option linter.unusedVariables false
set_option linter.unusedSimpArgs false
namespace Wx
open Go Go.RowKit
def CallD (P:Program)(G:World)(fn:FuncId)(vs:List Value)(u:FrameMode)(pre:List HP)(R:Ending→FrameMode→List HP→Prop):Prop:=
 ∀ (F:List HP) w,St G w (pre++F)→CallsD P fn vs.toArray u w fun e u' w'=>e≠ .outgrown∧ ∃ q,R e u' q∧St G w' (q++F)
def DQ (P:Program)(G:World)(fd:Func)(c₀:Frame)(cs₀:List Frame)(R:Ending→FrameMode→List HP→Prop)(F:List HP):Yr:=fun o p ds cs q=>
 ds= []∧ ∃ u',cs= { c₀ with mode:=u' } ::cs₀∧match o with
 | .fall| .jump .ret=> ∃ v q',(∀ tm w,Agr tm p→St G w q→(results fd tm).run P w= .ok v w)∧R (.returned v) u' q'∧Le q (q'++F)
 | .panic ch=> ∃ q',R (.panicked ch) u' q'∧Le q (q'++F)
 |_=>False
section
variable {P:Program}{G:World}{fn:FuncId}{R:Ug}{F:List HP}
theorem Lv.defer {fv:Fn}{cap args:Array Value}{f:FuncId}{vs:List Value}{ds:List Deferred}{u:FrameMode}{p:PE}{q pre F₀:List HP}{R₀:Ending→FrameMode→List HP→Prop}(hu:u≠ .run)
 (hi: ∀ w,(invoke (.fn fv cap) args).run P w= .ok (.enter f vs.toArray) w) (hc:CallD P G f vs u pre R₀) (hq:Le q (pre++F₀)) {fd:Func} (hf:P.funcs[fn]? =some fd)
 (hr: ∀ v u' q',R₀ (.returned v) u' q'→Lv P G fn R F ds (settle u') p (q'++F₀)) (hp: ∀ ch u' q',R₀ (.panicked ch) u' q'→Lv P G fn R F ds (raised u' ch) p (q'++F₀)):
 Lv P G fn R F ({ target:= .fn fv cap,args:=args } ::ds) u p q:=by
 intro tm w fr cs h1 h2 h3 h4 h5 ag s
 have hs1:=step_defer (P:=P) (cs:=cs) (w:=w) (fr:=fr) (d:= { target:= .fn fv cap,args:=args }) (ds:=ds) (h4 ▸ hu) h3 rfl (hi w)
 obtain ⟨e,u',w',frX,⟨hne,q',hR,hs'⟩,hcom,hk,hgo⟩:=hc F₀ w (s.le hq) { fr with defers:=ds } cs h4
 cases e with
 |returned v=>
  have h2':=step_going_returned (c:= { { fr with defers:=ds } with mode:=u' }) (cs:=cs) hk hgo
  obtain ⟨e',w'',fr',q'',hR',hne',hs'',hst,hfn,hl⟩:=hr v u' q' hR tm w' { { { fr with defers:=ds } with mode:=u' } with mode:=settle u' } cs h1 h2 rfl rfl h5 ag hs'
  exact ⟨e',w'',fr',q'',hR',hne',hs'',(Steps.head hs1 (Steps.trans hcom (.one h2'))).trans hst,hfn,hl⟩
 |panicked ch=>
  have h2':=step_going_panicked (c:= { { fr with defers:=ds } with mode:=u' }) (cs:=cs) hgo
  obtain ⟨e',w'',fr',q'',hR',hne',hs'',hst,hfn,hl⟩:=hp ch u' q' hR tm w' { { { fr with defers:=ds } with mode:=u' } with mode:=raised u' ch } cs h1 h2 rfl rfl h5 ag hs'
  exact ⟨e',w'',fr',q'',hR',hne',hs'',(Steps.head hs1 (Steps.trans hcom (.one h2'))).trans hst,hfn,hl⟩
 |outgrown=>exact absurd rfl hne
theorem CallD.of {fd:Func}{c:Code}{n:Nat}{vs:List Value}{pre:List HP}{u:FrameMode}{R:Ending→FrameMode→List HP→Prop}(hf:P.funcs[fn]? =some fd)(hn:fd.ntmps=n)(hb:fd.body=some c)
 (h: ∀ F c₀ cs₀,c₀.mode=u→X P G ⟨fn,n,.deferred,none⟩ (DQ P G fd c₀ cs₀ R F) [.code c] (E4 0 vs) [] (c₀::cs₀) (pre++F)) (hl:Nat.ble vs.length n=true:=by rfl):CallD P G fn vs u pre R:=by
 intro F w s c₀ cs₀ hu
 subst hn
 have hl':vs.length≤fd.ntmps:=by simpa using hl
 obtain ⟨o,tm',p',ds',cs',w',q',⟨rfl,u',rfl,hQ⟩,hn',ha,hs,arr⟩:=h F c₀ cs₀ hu (vs.toArray++Array.replicate (fd.ntmps - vs.length) undef) w (by simp;omega) (Cf vs _) s
 have henter:Frame.enter P fn vs.toArray .deferred=Fc.fr ⟨fn,fd.ntmps,.deferred,none⟩ (vs.toArray++Array.replicate (fd.ntmps - vs.length) undef) [] [.code c]:=by
  simp [Frame.enter,Fc.fr,hf,hb]
 rw [←henter] at arr
 cases o with
 |fall=>
  obtain ⟨v,q'',hr,hR,hq⟩:=hQ
  have h1:step P (lone (Fc.fr ⟨fn,fd.ntmps,.deferred,none⟩ tm' [] []) ({ c₀ with mode:=u' } ::cs₀) w')= .next (lone { Fc.fr ⟨fn,fd.ntmps,.deferred,none⟩ tm' [] [] with mode:= .returning } ({ c₀ with mode:=u' } ::cs₀) w'):=
   step_lone_go (by simp [stepG,stepG.exec,Fc.fr])
  exact ⟨.returned v,u',w',_,⟨by simp,q'',hR,hs.le hq⟩,arr.trans (.one h1),rfl,rfl,rfl,fd,hf,hr tm' w' ha hs⟩
 |jump c'=>
  obtain ⟨k,g,arr⟩:=arr
  cases c' with
  |ret=>
   obtain ⟨v,q'',hr,hR,hq⟩:=hQ
   have h1:step P (lone (Fc.fr ⟨fn,fd.ntmps,.deferred,none⟩ tm' [] (.code .ret::k)) ({ c₀ with mode:=u' } ::cs₀) w')= .next (lone { Fc.fr ⟨fn,fd.ntmps,.deferred,none⟩ tm' [] (.code .ret::k) with mode:= .returning } ({ c₀ with mode:=u' } ::cs₀) w'):=
    step_lone_go (by simp [stepG,stepG.exec,Fc.fr])
   exact ⟨.returned v,u',w',_,⟨by simp,q'',hR,hs.le hq⟩,arr.trans (.one h1),rfl,rfl,rfl,fd,hf,hr tm' w' ha hs⟩
  |_=>exact hQ.elim
 |panic ch=>
  obtain ⟨k,arr⟩:=arr
  obtain ⟨q'',hR,hq⟩:=hQ
  exact ⟨.panicked ch,u',w',_,⟨by simp,q'',hR,hs.le hq⟩,arr,rfl,rfl,rfl,fd,hf⟩
end
section
variable {P:Program}{G:World}{f:Fc}{Q:Yr}{ops:List Oper}{k:List Item}{p:PE}{ds:List Deferred}{cs:List Frame}{q:List HP}{rest:List Oper}{d:Option Tmp}{ty:TypeId}{pos:String}{af:Array Edge}{gd:Option (Nat×Bool)}{x:Operand}
theorem Pn.panic {t:TypeId}{v:Value}(hx:evp p x=some (.iface t v)):Pn P G p q ⟨d,.panic x,ty,pos,af,gd⟩ (.iface t v):=fun tm w ag s=>
 ⟨w,by simp [execOp,Zu ag hx,Instr.panic,goPanic],s⟩
theorem XO.recover_ {ats:Array TypeId}{v:Value}{cs':List Frame}(hk:f.kind= .deferred)(hro:f.round=none)(hrec:(recoverD cs).getD (.nilIface,cs)=(v,cs'))(hd:dOk f.n d=true)
 (x:XO P G f Q ops.toArray k rest (Up p d v) ds cs' q) (hw:Wt ops p ⟨d,.call ⟨.builtin .recover,#[],ats⟩,ty,pos,af,gd⟩=some true:=by rfl):
 XO P G f Q ops.toArray k (⟨d,.call ⟨.builtin .recover,#[],ats⟩,ty,pos,af,gd⟩::rest) p ds cs q:=by
 intro is h tm w n a s
 cases is with
 |nil=>simp at h
 |cons i r=>
  obtain ⟨ho,hr'⟩:=List.cons.inj h
  obtain ⟨o',tm',p',ds',cs'',w',q',hQ,hn,ha,hs,arr⟩:=x r hr' (Ww tm d v) w (by rw [Yw];exact n) (a.put (n ▸ hd)) s
  refine ⟨o',tm',p',ds',cs'',w',q',hQ,hn,ha,hs,arr.head (.one (step_lone_go ?_))⟩
  rw [U0 f tm ds cs w _ i r k ho (Yu a hw) (by intro _ h;cases h)]
  have hfin:=Vi f tm ds _ i r k v ho
  have htr:tryRecover (f.fr tm ds (.inRegion ops.toArray (i::r)::k)) cs=recoverD cs:=tryRecover_deferred hk cs
  have hro':(f.fr tm ds (.inRegion ops.toArray (i::r)::k)).roundOf=none:=hro
  have hex:(execOp (evA tm) ⟨d,.call ⟨.builtin .recover,#[],ats⟩,ty,pos,af,gd⟩).run P w= .ok .recover w:=by simp [execOp,resolve,invoke,builtin]
  simp only at hfin
  rw [←hfin]
  cases hc:recoverD cs with
  |none=>
   rw [hc] at hrec htr
   simp at hrec
   obtain ⟨rfl,rfl⟩:=hrec
   simp [stepG.apply,hex,htr,hro']
  |some y=>
   rw [hc] at hrec htr
   simp at hrec
   subst hrec
   simp [stepG.apply,hex,htr,hro']
theorem XO.defer_ {fo:Operand}{args:List Operand}{ats:Array TypeId}{fv:Value}{vs:List Value}{D:Deferred}(hro:f.round=none)(hf:evp p fo=some fv)(hv:evl p args=some vs)(hD: ∀ w,(Deferred.ofValue fv vs.toArray).run P w= .ok D w)(hd:dOk f.n d=true)
 (x:XO P G f Q ops.toArray k rest (Up p d undef) (D::ds) cs q) (hw:Wt ops p ⟨d,.defer ⟨.value fo,args.toArray,ats⟩,ty,pos,af,gd⟩=some true:=by rfl):
 XO P G f Q ops.toArray k (⟨d,.defer ⟨.value fo,args.toArray,ats⟩,ty,pos,af,gd⟩::rest) p ds cs q:=by
 intro is h tm w n a s
 cases is with
 |nil=>simp at h
 |cons i r=>
  obtain ⟨ho,hr'⟩:=List.cons.inj h
  obtain ⟨o',tm',p',ds',cs'',w',q',hQ,hn,ha,hs,arr⟩:=x r hr' (Ww tm d undef) w (by rw [Yw];exact n) (a.put (n ▸ hd)) s
  refine ⟨o',tm',p',ds',cs'',w',q',hQ,hn,ha,hs,arr.head (.one (step_lone_go ?_))⟩
  have hfin:=Vi f tm (D::ds) _ i r k undef ho
  simp only at hfin
  rw [←hfin]
  have h1:=Zu a hf
  have h2:args.toArray.map (evA tm)=vs.toArray:=by rw [←Hf a hv];simp
  have he:(f.fr tm ds (.inRegion ops.toArray (i::r)::k)).eval=evA tm:=funext fun x=>Q7 ..
  simp only [Fc.fr,hro] at he
  have hww:=Yu a hw
  simp only [stepG,stepG.exec,stepG.oper,Frame.oper?,Fc.fr,ho,hww,he,Option.map_some,Option.getD_some,if_true,hro]
  simp [stepG.apply,execOp,resolve,h1,h2,hD,Fc.fr]
end
end Wx
namespace Wx
open Go Go.RowKit
def old (G₀:World):HP:=⟨fun M _=>Hle (wh G₀) M,fun h _ p=>fun b o e=>h b o (p b o e)⟩
theorem St.old (G:World):St G G [Wx.old G]:=
 ⟨.refl _ _,wh G,fun _=>none,.refl _,fun _ _ e=>by simp at e,fun _ _ e=>by simp at e,fun _=> .inr rfl,.refl _,
  fun _=>none,fun _=>none,fun _=> .inl rfl,fun _ _ e=>by simp at e,fun _ _ e=>by simp at e,.refl _,trivial⟩
inductive Sh where
 |bool
 |int (k:IntKind)
 |str
 |slice (e:Sh)
 |nil
 |cons (a b:Sh)
structure SlV (α:Type) where
 a:Option Addr
 c:Nat
 l:List α
@[reducible] def Sh.T:Sh→Type
 | .bool=>Bool
 | .int _=>Int
 | .str=>ByteArray
 | .slice e=>SlV e.T
 | .nil=>Unit
 | .cons a b=>a.T×b.T
def Sh.sz:Sh→Nat
 | .bool=>1
 | .int _=>1
 | .str=>1
 | .slice _=>1
 | .nil=>0
 | .cons a b=>a.sz+b.sz
def Sh.cells:(s:Sh)→s.T→List Value
 | .bool,b=> [.bool b]
 | .int k,n=> [.int k n]
 | .str,s=> [.string s]
 | .slice _,x=> [.slice x.a x.l.length x.c]
 | .nil,_=> []
 | .cons a b,x=>a.cells x.1++b.cells x.2
theorem N0 (s:Sh)(v:s.T):(s.cells v).length=s.sz:=by
 induction s with
 |cons a b iha ihb=>simp [Sh.cells,Sh.sz,iha,ihb]
 |_=>simp [Sh.cells,Sh.sz]
def SeesW (w:World)(a:Option Addr)(vs:List Value):Prop:= ∀ i u,vs[i]? =some u→ ∃ b o,a=some ⟨b,o,none⟩∧w.cell? ⟨b,o+i,none⟩=some u
def Sh.ok (w:World):(s:Sh)→s.T→Prop
 | .bool,_=>True
 | .int k,n=>(Lit.int k n).wf=true
 | .str,s=>s.size≤maxLen
 | .slice e,x=>x.l.length≤x.c∧x.c≤maxLen∧(x.a=none→x.c=0)∧SeesW w x.a (x.l.flatMap e.cells)∧ ∀ y∈x.l,e.ok w y
 | .nil,_=>True
 | .cons a b,x=>a.ok w x.1∧b.ok w x.2
def Sh.okQ (q:List HP):(s:Sh)→s.T→Prop
 | .bool,_=>True
 | .int k,n=>(Lit.int k n).wf=true
 | .str,s=>s.size≤maxLen
 | .slice e,x=>x.l.length≤x.c∧x.c≤maxLen∧(x.a=none→x.c=0)∧Sees q x.a (x.l.flatMap e.cells)∧ ∀ y∈x.l,e.okQ q y
 | .nil,_=>True
 | .cons a b,x=>a.okQ q x.1∧b.okQ q x.2
theorem SeesW.sees {G₀:World}{a:Option Addr}{vs:List Value}(h:SeesW G₀ a vs)(q:List HP):Sees (Wx.old G₀::q) a vs:=by
 intro G w s i u hu
 obtain ⟨b,o,ha,hc⟩:=h i u hu
 refine ⟨b,o,ha,?_⟩
 obtain ⟨_,M,h,hM,_,_,_,_,h₁,h₂,_,_,_,p,_⟩:=s
 have p':Hle (wh G₀) M:=p
 have hob: ∃ ob,G₀.heap[b]? =some ob∧(match ob with| .cells c _ _=>c[o+i]? =some u|_=>False):=by
  simp only [World.cell?] at hc
  split at hc
  · rename_i c e z hh;exact ⟨_,hh,by simpa using hc⟩
  cases hc
 obtain ⟨ob,h1,h2⟩:=hob
 have h3:w.heap[b]? =some ob:=hM _ _ (p' _ _ h1)
 cases ob with
 |cells c e z=>simp [World.cell?,h3];exact h2
 |_=>exact h2.elim
theorem Sh.ok.okQ {G₀:World}(q:List HP): ∀ {s:Sh} {v:s.T},s.ok G₀ v→s.okQ (Wx.old G₀::q) v:=by
 intro s
 induction s with
 |slice e ih=>exact fun ⟨h1,h2,h3,h4,h5⟩=>⟨h1,h2,h3,h4.sees q,fun y hy=>ih (h5 y hy)⟩
 |cons a b iha ihb=>exact fun ⟨h1,h2⟩=>⟨iha h1,ihb h2⟩
 |_=>exact fun h=>h
def Sh.fits (P:Program):Sh→(TypeId ⊕ List Field×Nat)→Bool
 | .bool,.inl t=>match P.underlying t with|some .bool=>true|_=>false
 | .int k,.inl t=>match P.underlying t with|some (.int k')=>decide (k'=k)|_=>false
 | .str,.inl t=>match P.underlying t with|some .string=>true|_=>false
 | .slice e,.inl t=>match P.underlying t with|some (.slice e')=>e.fits P (.inl e') && Nat.beq (P.cellsOf e') e.sz|_=>false
 | .nil,.inl t=>match P.underlying t with|some (.struct fs)=>fs.toList.isEmpty && Nat.beq (P.cellsOf t) 0|_=>false
 | .nil,.inr (fs,_)=>fs.isEmpty
 | .cons a b,.inl t=>match P.underlying t with
  |some (.struct fs)=>Nat.beq (P.cellsOf t) (a.sz+b.sz) && match fs.toList with
   |f::r=>Nat.beq f.offset 0 && a.fits P (.inl f.type) && Nat.beq (P.cellsOf f.type) a.sz && b.fits P (.inr (r,a.sz))
   | []=>false
  |_=>false
 | .cons a b,.inr (fs,o)=>match fs with
  |f::r=>Nat.beq f.offset o && a.fits P (.inl f.type) && Nat.beq (P.cellsOf f.type) a.sz && b.fits P (.inr (r,o+a.sz))
  | []=>false
 |_,.inr _=>false
theorem G8 {α:Type}{n:Nat}{Q:Nat→α→Prop}(h: ∀ i,i<n→ ∃ y,Q i y): ∃ l:List α,l.length=n∧ ∀ i u,l[i]? =some u→Q i u:=by
 induction n with
 |zero=>exact ⟨[],rfl,by simp⟩
 |succ n ih=>
  obtain ⟨l,hl,hq⟩:=ih fun i hi=>h i (by omega)
  obtain ⟨y,hy⟩:=h n (by omega)
  refine ⟨l++ [y],by simp [hl],fun i u hu=> ?_⟩
  rcases Nat.lt_or_ge i l.length with hi|hi
  · rw [List.getElem?_append_left hi] at hu;exact hq i u hu
  rw [List.getElem?_append_right hi] at hu
  have:i=n:=by
   rcases Nat.eq_or_lt_of_le (show n≤i by omega) with e|e
   · exact e.symm
   have:i - l.length=(i - l.length - 1)+1:=by omega
   rw [this] at hu;simp at hu
  subst this
  simp [hl] at hu;subst hu;exact hy
theorem G5 {α β:Type}{f:α→List β}{sz:Nat}(hf: ∀ x,(f x).length=sz): ∀ (l:List α) (i:Nat) (u:β),(l.flatMap f)[i]? =some u→
 ∃ j k x,i=j*sz+k∧k<sz∧l[j]? =some x∧(f x)[k]? =some u:=by
 intro l
 induction l with
 |nil=>intro i u h;simp at h
 |cons y r ih=>
  intro i u h
  rw [List.flatMap_cons] at h
  rcases Nat.lt_or_ge i sz with hi|hi
  · rw [List.getElem?_append_left (by rw [hf];exact hi)] at h
    exact ⟨0,i,y,by simp,hi,rfl,h⟩
  rw [List.getElem?_append_right (by rw [hf];exact hi),hf] at h
  obtain ⟨j,k,x,e,hk,hx,hu⟩:=ih _ _ h
  exact ⟨j+1,k,x,by rw [Nat.add_mul];omega,hk,by simpa using hx,hu⟩
theorem Hb {α β:Type}{f:α→List β}{sz:Nat}(hf: ∀ x,(f x).length=sz): ∀ (l:List α) (j k:Nat) (x:α),k<sz→l[j]? =some x→(l.flatMap f)[j*sz+k]? =(f x)[k]? :=by
 intro l
 induction l with
 |nil=>intro j k x _ h;simp at h
 |cons y r ih=>
  intro j k x hk h
  rw [List.flatMap_cons]
  cases j with
  |zero=>simp at h;subst h;rw [List.getElem?_append_left (by rw [hf];omega)];simp
  |succ j=>
   have e:(j+1)*sz+k=j*sz+k+sz:=by rw [Nat.add_mul];omega
   rw [List.getElem?_append_right (by rw [hf];omega),hf,e,Nat.add_sub_cancel]
   exact ih j k x hk (by simpa using h)
theorem open_sh {H:Type}{enc:TypeId×Value→H}{P:Program}{w:World}{base:Nat}{spare:Nat→Bool}{held:Bool}: ∀ (s:Sh),
 (∀ {t:TypeId} {fuel:Nat} {cs:List Value} {x:DataW H×List MemPlace},s.fits P (.inl t)=true→DataW.trod enc P w base spare held fuel t cs=some x→ ∃ v,cs=s.cells v∧s.ok w v)∧
 (∀ {fs:List Field} {off n:Nat} {cs:List Value},s.fits P (.inr (fs,off))=true→cs.length=off+s.sz→
  (∀ (i:Nat) (f:Field),fs[i]? =some f→ ∃ y,DataW.trod enc P w base spare held n f.type ((cs.drop f.offset).take (P.cellsOf f.type))=some y)→ ∃ v,cs.drop off=s.cells v∧s.ok w v):=by
 intro s
 induction s with
 |bool=>
  refine ⟨fun {t fuel cs x} hf h=> ?_,fun hf=>by simp [Sh.fits] at hf⟩
  simp only [Sh.fits] at hf
  split at hf
  · obtain ⟨b,rfl,_⟩:=DataW.trod_bool (by assumption) h;exact ⟨b,rfl,trivial⟩
  cases hf
 |int k=>
  refine ⟨fun {t fuel cs x} hf h=> ?_,fun hf=>by simp [Sh.fits] at hf⟩
  simp only [Sh.fits] at hf
  split at hf
  · rename_i k' hu
    have:k'=k:=of_decide_eq_true hf
    subst this
    obtain ⟨n,rfl,_,hw⟩:=DataW.trod_int hu h;exact ⟨n,rfl,hw⟩
  cases hf
 |str=>
  refine ⟨fun {t fuel cs x} hf h=> ?_,fun hf=>by simp [Sh.fits] at hf⟩
  simp only [Sh.fits] at hf
  split at hf
  · obtain ⟨b,rfl,_,hs⟩:=DataW.trod_string (by assumption) h;exact ⟨b,rfl,hs⟩
  cases hf
 |nil=>
  refine ⟨fun {t fuel cs x} hf h=> ?_,fun {fs off n cs} hf hl _=>⟨(),?_,trivial⟩⟩
  · simp only [Sh.fits] at hf
    split at hf
    · rename_i fs hu
      obtain ⟨xs,n,_,_,hl,_⟩:=DataW.trod_struct hu h
      simp at hf
      refine ⟨(),?_,trivial⟩
      rw [hf.2] at hl
      exact List.eq_nil_of_length_eq_zero hl
    cases hf
  simp [Sh.sz] at hl;simp [Sh.cells,hl]
 |slice e ih=>
  refine ⟨fun {t fuel cs x} hf h=> ?_,fun hf=>by simp [Sh.fits] at hf⟩
  simp only [Sh.fits] at hf
  split at hf
  · rename_i e' hu
    simp only [Bool.and_eq_true,Nat.beq_eq] at hf
    obtain ⟨hfe,hsz⟩:=hf
    rcases DataW.trod_slice hu h with ⟨rfl,_⟩|⟨a,len,cap,elems,rest,n,rfl,rfl,_,_,hlc,hcm,hel,hget,_,_⟩
    · exact ⟨⟨none,0, []⟩,rfl,by simp,by simp,by simp,by intro i u hu;simp at hu,by simp⟩
    have key: ∀ i,i<len→ ∃ y:e.T,w.cells? base (a.add (i*e.sz)) e.sz=some (e.cells y)∧e.ok w y:=by
     intro i hi
     have hg:=hget i hi
     rw [hsz] at hg
     have hlt:i<elems.length:=by omega
     rw [List.getElem?_eq_getElem hlt,Option.bind_eq_some_iff] at hg
     obtain ⟨cs,h1,h2⟩:=hg
     obtain ⟨y,rfl,hy⟩:=ih.1 hfe h2
     exact ⟨y,h1,hy⟩
    obtain ⟨l,hl,hq⟩:=G8 key
    refine ⟨⟨some a,cap,l⟩,by simp [Sh.cells,hl],by simp [hl,hlc],by simpa using hcm,by simp,?_,?_⟩
    · intro i u hu
      obtain ⟨j,k,y,rfl,hk,hy,hc⟩:=G5 (N0 e) l i u hu
      obtain ⟨h1,_⟩:=hq j y hy
      obtain ⟨_,_,h2⟩:=World.cells?_some h1
      have h3:=h2 k hk
      rw [hc] at h3
      have hspot:a.spot=none:=by
       have hl0:0<l.length:=by
        have:=(List.getElem?_eq_some_iff.1 hy).1;omega
       obtain ⟨y0,hy0⟩: ∃ y0,l[0]? =some y0:=⟨l[0],by simp⟩
       obtain ⟨_,_,h4⟩:=World.cells?_some (hq 0 y0 hy0).1
       have h5:=h4 0 (by omega)
       have h6:(e.cells y0)[0]? =some ((e.cells y0)[0]'(by rw [N0];omega)):=by simp
       rw [h6] at h5
       simpa [Addr.add] using World.cell?_spot h5
      obtain ⟨b,o,spot⟩:=a
      simp only at hspot
      subst hspot
      exact ⟨b,o,rfl,by rw [W1,W1] at h3;rw [←Nat.add_assoc];exact h3⟩
    intro y hy
    obtain ⟨j,hj⟩:=List.getElem?_of_mem hy
    exact (hq j y hj).2
  cases hf
 |cons a b iha ihb=>
  have B: ∀ {fs:List Field} {off n:Nat} {cs:List Value},(Sh.cons a b).fits P (.inr (fs,off))=true→cs.length=off+(Sh.cons a b).sz→
   (∀ (i:Nat) (f:Field),fs[i]? =some f→ ∃ y,DataW.trod enc P w base spare held n f.type ((cs.drop f.offset).take (P.cellsOf f.type))=some y)→ ∃ v,cs.drop off=(Sh.cons a b).cells v∧(Sh.cons a b).ok w v:=by
   intro fs off n cs hf hl hx
   cases fs with
   |nil=>simp [Sh.fits] at hf
   |cons f r=>
    simp only [Sh.fits,Bool.and_eq_true,Nat.beq_eq] at hf
    obtain ⟨⟨⟨ho,ha⟩,hs⟩,hb⟩:=hf
    obtain ⟨y,hy⟩:=hx 0 f rfl
    obtain ⟨v1,h1,k1⟩:=iha.1 ha hy
    obtain ⟨v2,h2,k2⟩:=ihb.2 hb (by rw [hl];simp [Sh.sz];omega) (fun i f hf=>hx (i+1) f (by simpa using hf))
    refine ⟨(v1,v2),?_,k1,k2⟩
    rw [hs,ho] at h1
    simp only [Sh.cells]
    rw [←h1,←h2,←List.drop_drop,List.take_append_drop]
  refine ⟨fun {t fuel cs x} hf h=> ?_,B⟩
  simp only [Sh.fits] at hf
  split at hf
  · rename_i fs hu
    simp only [Bool.and_eq_true,Nat.beq_eq] at hf
    obtain ⟨hs,hf⟩:=hf
    obtain ⟨xs,n,_,_,hl,hxl,hx⟩:=DataW.trod_struct hu h
    have:=B (fs:=fs.toList) (off:=0) (n:=n) (cs:=cs) (by
     cases hfs:fs.toList with
     |nil=>rw [hfs] at hf;cases hf
     |cons f r=>rw [hfs] at hf;simpa [Sh.fits] using hf) (by rw [hl,hs];simp [Sh.sz]) (fun i f hif=>by
      have hif':fs[i]? =some f:=by simpa using hif
      have h3:=hx i f hif'
      have hlt:i<xs.length:=by
       rw [hxl];exact (Array.getElem?_eq_some_iff.1 hif').1
      rw [List.getElem?_eq_getElem hlt] at h3
      exact ⟨_,h3⟩)
    simpa using this
  cases hf
theorem open_arg {H:Type}{enc:TypeId×Value→H}{P:Program}{w:World}{base:Nat}{spare:Nat→Bool}{held:Bool}{t:TypeId}{v:Value}{d:DataW H}{p:List MemPlace}(s:Sh)(hf:s.fits P (.inl t)=true)
 (h:DataW.Trod enc P w base spare held t v d p): ∃ x:s.T,v.cells.toList=s.cells x∧s.ok w x:=by
 obtain ⟨fuel,h⟩:=h
 exact (open_sh s).1 hf h
end Wx
namespace Wx
open Go Go.RowKit
section
variable {α:Type}{P:Program}{G:World}{fr:Fc}{Q:Yr}{k:List Item}{p:PE}{ds:List Deferred}{cs:List Frame}{q q0 r:List HP}{ops lo:List Oper}{f:α→List Value}{sz ty:Nat}{a b:Option Addr}{c c':Nat}{l m:List α}
def rsH (f:α→List Value)(sz ty:Nat)(a:Option Addr)(c:Nat)(l:List α):HP:=slH a c ty sz l.length (l.flatMap f)
theorem Zv (hf: ∀ x,(f x).length=sz)(l:List α):(l.flatMap f).length=l.length*sz:=by
 induction l with
 |nil=>simp
 |cons x r ih=>rw [List.flatMap_cons,List.length_append,hf,ih,List.length_cons,Nat.add_mul];omega
theorem Kb (hf: ∀ x,(f x).length=sz)(l:List α)(i:Nat):(l.flatMap f).take (i*sz)=(l.take i).flatMap f:=by
 induction l generalizing i with
 |nil=>simp
 |cons x r ih=>
  cases i with
  |zero=>simp
  |succ i=>
   rw [List.flatMap_cons,List.take_succ_cons,List.flatMap_cons,←ih,Nat.add_mul,Nat.one_mul,Nat.add_comm,List.take_append,hf,List.take_of_length_le (by rw [hf];omega)]
   congr 2;omega
theorem Fj (hf: ∀ x,(f x).length=sz)(l:List α)(i:Nat):(l.flatMap f).drop (i*sz)=(l.drop i).flatMap f:=by
 induction l generalizing i with
 |nil=>simp
 |cons x r ih=>
  cases i with
  |zero=>simp
  |succ i=>
   rw [List.flatMap_cons,List.drop_succ_cons,←ih,Nat.add_mul,Nat.one_mul,Nat.add_comm,List.drop_append,hf,List.drop_of_length_le (by rw [hf];omega)]
   simp
theorem G4 (hf: ∀ x,(f x).length=sz)(l:List α)(n k:Nat)(u:α)(v:Value)(hk:k<sz)(hn:n<l.length)(hu:(f l[n]).set k v=f u):(l.flatMap f).set (n*sz+k) v=(l.set n u).flatMap f:=by
 induction l generalizing n with
 |nil=>simp at hn
 |cons x r ih=>
  cases n with
  |zero=>
   rw [List.flatMap_cons,List.set_cons_zero,List.flatMap_cons,Nat.zero_mul,Nat.zero_add,List.set_append_left _ _ (by rw [hf];exact hk)]
   simp at hu;rw [hu]
  |succ n=>
   rw [List.flatMap_cons,List.set_cons_succ,List.flatMap_cons,List.set_append_right _ _ (by rw [hf,Nat.add_mul];omega),hf,←ih n (by simpa using hn) (by simpa using hu)]
   congr 2;rw [Nat.add_mul];omega
theorem Sees.rsH (q:List HP):Sees (Wx.rsH f sz ty a c l::q) a (l.flatMap f):=Sees.slH q
theorem Zl (f:α→List Value)(sz ty:Nat)(q:List HP):Le q (Wx.rsH f sz ty none 0 []::q):=Ka _ _ _
theorem St.rsAddr {w:World}(s:St G w (Wx.rsH f sz ty a c l::q))(h:0<l.length): ∃ g,a=some ⟨g,0,none⟩:=by
 obtain ⟨h0,h1|⟨g,cur,q1,_⟩⟩:=s.slH_elim
 · obtain ⟨_,_,h3,_⟩:=h1;omega
 exact ⟨g,q1⟩
theorem nth_lt {l:List Value}{k:Nat}{v:Value}(h:nth l k=some v):k<l.length:=by
 rw [Ve] at h;exact (List.getElem?_eq_some_iff.1 h).1
theorem Cl.el {bk o n k:Nat}{j:Int}{v:Value}(h:Sees q0 (some ⟨bk,o,none⟩) (l.flatMap f))(hq:Le q q0)(hf: ∀ x,(f x).length=sz)(hn:n<l.length)(hj:j=n)(hk:nth (f l[n]) k=some v):Cl q ⟨bk,o+j.toNat*sz+k,none⟩ v:=by
 subst hj
 have hk':=nth_lt hk
 rw [Int.toNat_natCast,Nat.add_assoc]
 refine (h.le hq).cl ?_
 rw [Hb hf l n k l[n] (by rw [hf] at hk';exact hk') (by simp [hn]),←Ve]
 exact hk
theorem Cl.elp {bk o n k:Nat}{v:Value}(h:Sees q0 (some ⟨bk,o,none⟩) (l.flatMap f))(hq:Le q q0)(hf: ∀ x,(f x).length=sz)(h0:0<n)(hn:n<l.length)(hk:nth (f (l[n - 1]'(Nat.lt_of_le_of_lt (Nat.sub_le _ _) hn))) k=some v):Cl q ⟨bk,o+((n:Int) - 1).toNat*sz+k,none⟩ v:=
 Cl.el h hq hf _ (by omega) hk
theorem Cl.elz {bk o k:Nat}{v:Value}(h:Sees q0 (some ⟨bk,o,none⟩) (l.flatMap f))(hq:Le q q0)(hf: ∀ x,(f x).length=sz)(h0:0<l.length)(hk:nth (f (l[l.length - 1]'(Nat.sub_lt h0 Nat.one_pos))) k=some v):Cl q ⟨bk,o+((l.length:Int) - 1).toNat*sz+k,none⟩ v:=
 Cl.el h hq hf _ (by omega) hk
theorem Cl.e1z {g:α→Value}{bk o:Nat}(h:Sees q0 (some ⟨bk,o,none⟩) (l.map g))(hq:Le q q0)(h0:0<l.length):Cl q ⟨bk,o+((l.length:Int) - 1).toNat*1,none⟩ (g (l[l.length - 1]'(Nat.sub_lt h0 Nat.one_pos))):=(h.le hq).at (by omega) _
theorem Cl.e1 {g:α→Value}{bk o n:Nat}{j:Int}(h:Sees q0 (some ⟨bk,o,none⟩) (l.map g))(hq:Le q q0)(hn:n<l.length)(hj:j=n):Cl q ⟨bk,o+j.toNat*1,none⟩ (g l[n]):=(h.le hq).at hj hn
theorem Cl.e1p {g:α→Value}{bk o n:Nat}(h:Sees q0 (some ⟨bk,o,none⟩) (l.map g))(hq:Le q q0)(h0:0<n)(hn:n<l.length):Cl q ⟨bk,o+((n:Int) - 1).toNat*1,none⟩ (g (l[n - 1]'(Nat.lt_of_le_of_lt (Nat.sub_le _ _) hn))):=(h.le hq).at (by omega) _
theorem Cl.row {bk o n:Nat}{j:Int}(h:Sees q0 (some ⟨bk,o,none⟩) (l.flatMap f))(hq:Le q q0)(hf: ∀ x,(f x).length=sz)(hn:n<l.length)(hj:j=n)(k:Nat)(v:Value)(hk:(f l[n])[k]? =some v):Cl q ⟨bk,o+j.toNat*sz+k,none⟩ v:=
 Cl.el h hq hf hn hj (by rw [Ve];exact hk)
section
variable {d:Option Tmp}{ty':TypeId}{pos:String}{af:Array Edge}{gd:Option (Nat×Bool)}{x y:Operand}{t:TypeId}{z:Value}{bytes i:Nat}
theorem Rd.loadCs {A:Addr}{us:List Value}{sz:Nat}(hx:evp p x=some (.pointer (some A)))(ht: ∀ w,(isAgg t).run P w= .ok true w)(hs: ∀ w,(Go.sizeOf t).run P w= .ok sz w)
 (hl:us.length=sz) (hc: ∀ (k:Nat) (v:Value),us[k]? =some v→Cl q (A.add k) v):Rd P G p q ⟨d,.load t x,ty',pos,af,gd⟩ (.agg us.toArray):=fun tm w ag s=>by
 have hc:=run_loadCells_list (P:=P) w A us (fun j u hj=>hc j u hj G w s)
 rw [hl] at hc
 simp [execOp,Zu ag hx,Instr.loadAt,Instr.sureAddr,loadVar,ht,hs,hc]
theorem Rd.loadS {bk o n:Nat}{j:Int}(hx:evp p x=some (.pointer (some ⟨bk,o+j.toNat*sz,none⟩)))(ht: ∀ w,(isAgg t).run P w= .ok true w)(hs: ∀ w,(Go.sizeOf t).run P w= .ok sz w)
 (h:Sees q0 (some ⟨bk,o,none⟩) (l.flatMap f)) (hf: ∀ x,(f x).length=sz) (hn:n<l.length) (hj:j=n) (hq:Le q q0):Rd P G p q ⟨d,.load t x,ty',pos,af,gd⟩ (.agg (f l[n]).toArray):=
 .loadCs hx ht hs (hf _) fun k v hk=>by rw [W1];exact Cl.row h hq hf hn hj k v hk
theorem oneCells {us:List Value}(h:us.all (·.oneCell')=true): ∀ u∈us,u.oneCell'=true:=fun u hu=>by simpa using (List.all_eq_true.1 h) u hu
theorem Ef.appR (ht:P.underlying t=some (.slice ty))(hi:(P.info? ty).map (fun i=>(i.zero,i.size,i.bytes))=some (some z,sz,bytes))(hz:z.cells.size=sz)(hsz:Nat.blt 0 sz=true)(hf: ∀ x,(f x).length=sz)
 (hx:evp p x=some (.slice a i c)) (hy:evp p y=some (.slice b m.length c')) (hq:Le q (Wx.rsH f sz ty a c l::r)) (hin:i≤l.length) (hs:Sees q b (m.flatMap f)) (h1: ∀ x,(f x).all (·.oneCell')=true)
 (h63:i+m.length≤9223372036854775807) (hby:(i+m.length)*bytes≤140737488355328):
 Ef P G p q ⟨d,.call ⟨.builtin .append, [x,y].toArray, [t,t].toArray⟩,ty',pos,af,gd⟩ fun v q'=> ∃ a' c',v= .slice a' (l.take i++m).length c'∧q'=Wx.rsH f sz ty a' c' (l.take i++m)::r:=by
 have h:=Ef.append (P:=P) (G:=G) (d:=d) (ty:=ty') (pos:=pos) (af:=af) (gd:=gd) ht hi hz hsz hx hy hq hin hs (Zv hf m) (by intro u hu;obtain ⟨w,_,hw⟩:=List.mem_flatMap.1 hu;exact oneCells (h1 w) u hw) h63 hby
 intro tm w ag s
 obtain ⟨v,w',q',h1,h2,a',c',rfl,rfl⟩:=h tm w ag s
 have hl:(l.take i++m).length=i+m.length:=by simp;omega
 refine ⟨_,w',_,h1,?_,a',c',by rw [hl],rfl⟩
 unfold Wx.rsH
 rw [hl,List.flatMap_append,←Kb hf]
 simpa using h2
theorem Yq (ht:P.underlying t=some (.slice ty))(hi:(P.info? ty).map (fun i=>(i.zero,i.size,i.bytes))=some (some z,sz,bytes))(hz:z.cells.size=sz)(hsz:Nat.blt 0 sz=true)(hf: ∀ x,(f x).length=sz)
 (hx:evp p x=some (.slice a l.length c)) (hy:evp p y=some (.slice b m.length c')) (hq:Le q (Wx.rsH f sz ty a c l::r)) (hs:Sees q b (m.flatMap f)) (h1: ∀ x,(f x).all (·.oneCell')=true)
 (h63:l.length+m.length≤9223372036854775807) (hby:(l.length+m.length)*bytes≤140737488355328):
 Ef P G p q ⟨d,.call ⟨.builtin .append, [x,y].toArray, [t,t].toArray⟩,ty',pos,af,gd⟩ fun v q'=> ∃ a' c',v= .slice a' (l++m).length c'∧q'=Wx.rsH f sz ty a' c' (l++m)::r:=by
 have h:=Ef.appR (P:=P) (G:=G) (d:=d) (ty':=ty') (pos:=pos) (af:=af) (gd:=gd) ht hi hz hsz hf hx hy hq (Nat.le_refl _) hs h1 h63 hby
 simpa using h
theorem Yj {u:α}(f:α→List Value)(ht:P.underlying t=some (.slice ty))(hi:(P.info? ty).map (fun i=>(i.zero,i.size,i.bytes))=some (some z,sz,bytes))(h0:Nat.ble sz 16777216=true)(hn:Nat.blt 0 sz=true)
 (hf: ∀ x,(f x).length=sz) (hx:evp p x=some (.agg (f u).toArray)):
 Ef P G p q ⟨d,.buildSlice t 1 [(0,x)].toArray,ty',pos,af,gd⟩ fun v q'=> ∃ g,v= .slice (some ⟨g,0,none⟩) 1 1∧q'=Wx.rsH f sz ty (some ⟨g,0,none⟩) 1 [u]::q:=by
 have hc:(Value.agg (f u).toArray).cells=(f u).toArray:=rfl
 have key: ∀ (us:List Value) (n:Nat) (pre post:List Value),pre.length=n→post.length=us.length→(us.zipIdx n).foldl (fun cs (c,i)=>cs.setIfInBounds (0*sz+i) c) (pre++post).toArray=(pre++us).toArray:=by
  intro us
  induction us with
  |nil=>intro n pre post _ h;have:=List.eq_nil_of_length_eq_zero h;subst this;simp
  |cons u r ih=>
   intro n pre post hp h
   obtain ⟨x,post,rfl⟩: ∃ x l,post=x::l:=by cases post with
    |nil=>cases h
    |cons x l=>exact ⟨x,l,rfl⟩
   subst hp
   rw [List.zipIdx_cons,List.foldl_cons]
   have:=ih (pre.length+1) (pre++ [u]) post (by simp) (by simpa using h)
   simp only [List.append_assoc,List.singleton_append] at this
   simpa using this
 have hfill:Instr.fill (fun i=>some (i*sz,sz)) ((Array.range (1*sz)).map (z.cells[· % z.cells.size]!)) (([(0,x)].map (·.1)).zip [Value.agg (f u).toArray])=some (f u).toArray:=by
  have:=key (f u) 0 [] ((Array.range (1*sz)).map (z.cells[· % z.cells.size]!)).toList rfl (by simp [hf])
  simp only [List.nil_append,Array.toArray_toList] at this
  simp only [List.map_cons,List.map_nil,List.zip_cons_cons,List.zip_nil_left,List.zip_nil_right,Instr.fill,hc]
  rw [if_neg (by simp [hf])]
  congr 1
  refine Eq.trans ?_ this
  simp
 have:=Ef.buildSlice (P:=P) (G:=G) (p:=p) (q:=q) (d:=d) (ty:=ty') (pos:=pos) (af:=af) (gd:=gd) (ps:= [(0,x)]) (len:=1) ht hi (us:= [.agg (f u).toArray]) (by simp [evl,hx]) (by simpa using h0) (by simpa using hn) hfill (by simp [hf])
 simpa [Wx.rsH] using this
theorem Qg (f:α→List Value)(ht:P.underlying t=some (.slice ty))(hi:(P.info? ty).map (fun i=>(i.zero,i.size,i.bytes))=some (some z,sz,bytes)):
 Ef P G p q ⟨d,.buildSlice t 0 #[],ty',pos,af,gd⟩ fun v q'=> ∃ g,v= .slice (some ⟨g,0,none⟩) 0 0∧q'=Wx.rsH f sz ty (some ⟨g,0,none⟩) 0 []::q:=
 Hi ht hi
theorem Ye {v:Value}{u:α}{n g k:Nat}{j:Int}(hx:evp p x=some (.pointer (some ⟨g,0+j.toNat*sz+k,none⟩)))(hy:evp p y=some v)(hsz: ∀ w,(Go.sizeOf t).run P w= .ok 1 w)(hf: ∀ x,(f x).length=sz)
 (hj:j=n) (hn:n<l.length) (hk:Nat.blt k sz=true) (hu:(f l[n]).set k v=f u) (hv:v.cells= #[v]) (h1:v.oneCell'=true) (hq:Le q (Wx.rsH f sz ty (some ⟨g,0,none⟩) c l::r)):
 Ef P G p q ⟨d,.store t x y,ty',pos,af,gd⟩ fun z q'=>z=undef∧q'=Wx.rsH f sz ty (some ⟨g,0,none⟩) c (l.set n u)::r:=by
 subst hj
 rw [Int.toNat_natCast,Nat.zero_add] at hx
 have hk':k<sz:=by simpa [Nat.blt_eq] using hk
 intro tm w ag s
 obtain ⟨h0,h2|⟨g',cur,q1,q2,q3,q4,q5,s'⟩⟩:=(s.le hq).slH_elim
 · obtain ⟨_,_,h3,_⟩:=h2;omega
 cases q1
 have hlt:n*sz+k<l.length*sz:=by
  have:=Nat.mul_le_mul_right sz (show n+1≤l.length from hn)
  rw [Nat.add_mul,Nat.one_mul] at this;omega
 have hc:n*sz+k<cur.size:=by rw [q4];exact Nat.lt_of_lt_of_le hlt (Nat.mul_le_mul_right _ q2)
 obtain ⟨z,w',q',hr,hs,rfl,rfl⟩:=Ef.store (G:=G) (d:=d) (ty:=ty') (pos:=pos) (af:=af) (gd:=gd) (q:=pto g (.cells cur.toList.toArray ty (0,0))::r) hx hy hsz hv h1 (Le.here _ _) (by simpa [Nat.blt_eq] using hc) tm w ag (by simpa using s')
 refine ⟨_,w',_,hr,?_,rfl,rfl⟩
 have hl:(l.set n u).length=l.length:=by simp
 unfold Wx.rsH
 rw [hl]
 refine hs.le (Wk q2 q3 (by simp [Ny,q4]) ?_ r)
 rw [Ny,←G4 hf l n k u v hk' hn hu,←q5]
 simp [List.take_set]
end
end
section
variable {P:Program}{G:World}{p:PE}{q:List HP}{d:Option Tmp}{ty:TypeId}{pos:String}{af:Array Edge}{gd:Option (Nat×Bool)}{x y:Operand}{kd ky:IntKind}{m n:Int}{t t':TypeId}
theorem Pu.and (hx:evp p x=some (.int kd m))(hy:evp p y=some (.int kd n)):Pu P p ⟨d,.binOp .and t x y t',ty,pos,af,gd⟩ (.int kd (kd.wrap ((BitVec.ofInt kd.bits m &&& BitVec.ofInt kd.bits n).toNat:Int))):= .int hx hy (fun w=>by simp [Go.binOp,Op.intBits])
theorem Pu.or (hx:evp p x=some (.int kd m))(hy:evp p y=some (.int kd n)):Pu P p ⟨d,.binOp .or t x y t',ty,pos,af,gd⟩ (.int kd (kd.wrap ((BitVec.ofInt kd.bits m|||BitVec.ofInt kd.bits n).toNat:Int))):= .int hx hy (fun w=>by simp [Go.binOp,Op.intBits])
theorem Pu.shl (hx:evp p x=some (.int kd m))(hy:evp p y=some (.int ky n))(h0:0≤n):Pu P p ⟨d,.binOp .shl t x y t',ty,pos,af,gd⟩ (.int kd (kd.wrap (m*2 ^ min n.toNat kd.bits))):=
 fun tm w ag=>by
  have h1: ¬n<0:=by omega
  simp [execOp,Zu ag hx,Zu ag hy,eqGuard,Go.binOp,Op.shift,h1]
theorem Pu.eqlS {a b:ByteArray}(hx:evp p x=some (.string a))(hy:evp p y=some (.string b)):Pu P p ⟨d,.binOp .eql t x y t',ty,pos,af,gd⟩ (.bool (a.toList==b.toList)):=fun tm w ag=>by
 simp [execOp,Zu ag hx,Zu ag hy,eqGuard,Go.binOp,Op.stringOp]
theorem Pu.neqS {a b:ByteArray}(hx:evp p x=some (.string a))(hy:evp p y=some (.string b)):Pu P p ⟨d,.binOp .neq t x y t',ty,pos,af,gd⟩ (.bool !(a.toList==b.toList)):=fun tm w ag=>by
 simp [execOp,Zu ag hx,Zu ag hy,eqGuard,Go.binOp,Op.stringOp]
theorem Pu.lenS {s:ByteArray}{ats:List TypeId}(hx:evp p x=some (.string s))(ht:P.underlying t=some .string):Pu P p ⟨d,.call ⟨.builtin .len, [x].toArray,(t::ats).toArray⟩,ty,pos,af,gd⟩ (.int .i64 s.size):=
 fun tm w ag=>by simp [execOp,resolve,invoke,builtin,Zu ag hx,Builtin.len_,run_underlying ht,goInt]
end
end Wx
namespace Wx
open Go Go.RowKit
section
variable {α:Type}{P:Program}{G:World}{f:Fc}{Q:Yr}{ops:List Oper}{k:List Item}{p:PE}{ds:List Deferred}{cs:List Frame}{q:List HP}{rest:List Oper}{v:Value}
theorem ca (x:HP)(l m:List HP):(x::l)++m=x::(l++m):=rfl
theorem na (m:List HP):([]:List HP)++m=m:=rfl
theorem leA {q q':List HP}(h:Le q q':=by repeat (first|exact Le.refl _|exact Y6 _ _|exact Le.nil _|(apply Le.pick; · (repeat first|exact Le.here _ _|apply Le.there))|refine Le.lose ?_)):Le q q':=h
theorem clA {A:Addr}(h:Cl q A v:=by first
 |exact Cl.of (by repeat first|exact Has.pto _ _ _|exact Has.im _ _ _|refine Has.there ?_) (by rfl)
 |exact Cl.el (by assumption) leA (fun _=>rfl) (by first|assumption|omega) rfl rfl
 |exact Cl.e1 (by assumption) leA (by first|assumption|omega) rfl
 |exact Cl.elp (by assumption) leA (fun _=>rfl) (by omega) (by first|assumption|omega) rfl
 |exact Cl.e1p (by assumption) leA (by omega) (by first|assumption|omega)
 |exact Cl.elz (by assumption) leA (fun _=>rfl) (by first|assumption|omega) rfl
 |exact Cl.e1z (by assumption) leA (by first|assumption|omega)
 |assumption):Cl q A v:=h
theorem Qt {b:Nat}{o:Obj}(h:Has q b o:=by repeat first|exact Has.pto _ _ _|exact Has.im _ _ _|refine Has.there ?_):Has q b o:=h
theorem Zk {A:HP}{r:List HP}(h:Le q (A::r):=by repeat first|exact Le.here _ _|apply Le.there):Le q (A::r):=h
theorem hlA {L:Rds}(h:HL q L:=by repeat first|exact trivial|refine ⟨clA,?_⟩):HL q L:=h
theorem Qz {bk o k:Nat}{j:Int}{v:Value}{sz:Nat}{α:Type}{f:α→List Value}{l:List α}{q0:List HP}(h:Sees q0 (some ⟨bk,o,none⟩) (l.flatMap f))(hq:Le q q0)(hf: ∀ x,(f x).length=sz)(h0:0≤j)(hn:j.toNat<l.length)(hk:(f l[j.toNat])[k]? =some v):Cl q ⟨bk,o+j.toNat*sz+k,none⟩ v:=
 Cl.row h hq hf hn (by omega) k v hk
theorem Cl.e1A {bk o:Nat}{j:Int}{α:Type}{g:α→Value}{l:List α}{q0:List HP}(h:Sees q0 (some ⟨bk,o,none⟩) (l.map g))(hq:Le q q0)(h0:0≤j)(hn:j.toNat<l.length):Cl q ⟨bk,o+j.toNat*1,none⟩ (g l[j.toNat]):=Cl.e1 h hq hn (by omega)
theorem hlR {L:Rds}(h:HL q L:=by repeat first|exact trivial|refine ⟨clA,?_⟩|refine ⟨Cl.e1A (by assumption) leA (by omega) (by omega),?_⟩|refine ⟨Qz (k:=0) (by assumption) leA (fun _=>rfl) (by omega) (by omega) rfl,?_⟩|refine ⟨Qz (k:=1) (by assumption) leA (fun _=>rfl) (by omega) (by omega) rfl,?_⟩|refine ⟨Qz (k:=2) (by assumption) leA (fun _=>rfl) (by omega) (by omega) rfl,?_⟩|refine ⟨Qz (k:=3) (by assumption) leA (fun _=>rfl) (by omega) (by omega) rfl,?_⟩|refine ⟨Qz (k:=4) (by assumption) leA (fun _=>rfl) (by omega) (by omega) rfl,?_⟩|refine ⟨Qz (k:=5) (by assumption) leA (fun _=>rfl) (by omega) (by omega) rfl,?_⟩|refine ⟨Qz (k:=6) (by assumption) leA (fun _=>rfl) (by omega) (by omega) rfl,?_⟩|refine ⟨Qz (k:=7) (by assumption) leA (fun _=>rfl) (by omega) (by omega) rfl,?_⟩|refine ⟨Qz (k:=8) (by assumption) leA (fun _=>rfl) (by omega) (by omega) rfl,?_⟩|refine ⟨Qz (k:=9) (by assumption) leA (fun _=>rfl) (by omega) (by omega) rfl,?_⟩|refine ⟨Cl.e1A (Sees.lsH _) Zk (by omega) (by omega),?_⟩):HL q L:=h
section
variable {d:Tmp}{ty:TypeId}{pos:String}{af:Array Edge}{gd:Option (Nat×Bool)}{t:TypeId}{x y:Operand}{A:Addr}
theorem XO.ld (ht: ∀ w,(isAgg t).run P w= .ok false w)(K:XO P G f Q ops.toArray k rest ((d,v)::p) ds cs q)(hx:evp p x=some (.pointer (some A)):=by rfl)(hc:Cl q A v:=by exact clA)
 (hw:Wt ops p ⟨some d,.load t x,ty,pos,af,gd⟩=some true:=by rfl) (hd:Nat.blt d f.n=true:=by rfl):
 XO P G f Q ops.toArray k (⟨some d,.load t x,ty,pos,af,gd⟩::rest) p ds cs q:= .rd (Rd.load hx ht hc) K hw hd
theorem XO.ldA {b o sz:Nat}{l:List Value}{t':TypeId}{fz:Nat×Nat}(ht: ∀ w,(isAgg t).run P w= .ok true w)(hs: ∀ w,(Go.sizeOf t).run P w= .ok sz w)
 (K:XO P G f Q ops.toArray k rest ((d,.agg (Wx.sub l o sz).toArray)::p) ds cs q) (hx:evp p x=some (.pointer (some ⟨b,o,none⟩)):=by rfl) (hh:Has q b (.cells l.toArray t' fz):=by exact Qt) (hv:Nat.ble (o+sz) l.length=true:=by rfl)
 (hw:Wt ops p ⟨some d,.load t x,ty,pos,af,gd⟩=some true:=by rfl) (hd:Nat.blt d f.n=true:=by rfl):
 XO P G f Q ops.toArray k (⟨some d,.load t x,ty,pos,af,gd⟩::rest) p ds cs q:= .rd (Rd.loadA hx ht hs hh hv) K hw hd
theorem Q8 {α:Type}{fl:α→List Value}{l:List α}{q0:List HP}{bk o n sz:Nat}{j:Int}(ht: ∀ w,(isAgg t).run P w= .ok true w)(hs: ∀ w,(Go.sizeOf t).run P w= .ok sz w)
 (h:Sees q0 (some ⟨bk,o,none⟩) (l.flatMap fl)) (hn:n<l.length) (K:XO P G f Q ops.toArray k rest ((d,.agg (fl l[n]).toArray)::p) ds cs q) (hx:evp p x=some (.pointer (some ⟨bk,o+j.toNat*sz,none⟩)):=by rfl) (hj:j=n:=by first|rfl|omega) (hf: ∀ x,(fl x).length=sz:=by intro _;rfl) (hq:Le q q0:=by exact leA)
 (hw:Wt ops p ⟨some d,.load t x,ty,pos,af,gd⟩=some true:=by rfl) (hd:Nat.blt d f.n=true:=by rfl):
 XO P G f Q ops.toArray k (⟨some d,.load t x,ty,pos,af,gd⟩::rest) p ds cs q:= .rd (Rd.loadS hx ht hs h hf hn hj hq) K hw hd
theorem Ef.st {b o:Nat}{l:List Value}{t':TypeId}{r:List HP}{d:Option Tmp}(hs: ∀ w,(Go.sizeOf t).run P w= .ok 1 w)(hx:evp p x=some (.pointer (some ⟨b,o,none⟩)):=by rfl)(hy:evp p y=some v:=by rfl)
 (hv:v.cells= #[v]:=by rfl) (h1:v.oneCell'=true:=by rfl) (hq:Le q (pto b (.cells l.toArray t' (0,0))::r):=by exact Zk) (ho:Nat.blt o l.length=true:=by rfl):
 Ef P G p q ⟨d,.store t x y,ty,pos,af,gd⟩ fun z q'=>z=undef∧q'=pto b (.cells (Nb l o v).toArray t' (0,0))::r:= .store hx hy hs hv h1 hq ho
theorem Ef.stA {bk o sz:Nat}{l vs:List Value}{t':TypeId}{r:List HP}{d:Option Tmp}(hs: ∀ w,(Go.sizeOf t).run P w= .ok sz w)(hx:evp p x=some (.pointer (some ⟨bk,o,none⟩)):=by rfl)(hy:evp p y=some (.agg vs.toArray):=by rfl)
 (hl:vs.length=sz:=by rfl) (h1:vs.all (·.oneCell')=true:=by rfl) (hq:Le q (pto bk (.cells l.toArray t' (0,0))::r):=by exact Zk) (ho:Nat.ble (o+sz) l.length=true:=by rfl):
 Ef P G p q ⟨d,.store t x y,ty,pos,af,gd⟩ fun z q'=>z=undef∧q'=pto bk (.cells (U1 l o vs).toArray t' (0,0))::r:= .storeA hx hy hs hl h1 hq ho
end
section
variable {args:List Operand}{ats:Array TypeId}{ty:TypeId}{pos:String}{af:Array Edge}{gd:Option (Nat×Bool)}{vs:List Value}{pre F:List HP}{R:Value→List HP→Prop}{d:Tmp}{fn:FuncId}{fo:Operand}{fv:Value}
theorem Vz (hcf: ∀ args w,(callFunc fn args).run P w= .ok (.enter fn args) w)(hc:CallF P G fn vs pre (Ret R))(x: ∀ v q',R v q'→ ∀ q'',q''=q'++F→XO P G f Q ops.toArray k rest ((d,v)::p) ds cs q'')(hv:evl p args=some vs:=by rfl)(hq:Le q (pre++F):=by exact leA)
 (hw:Wt ops p ⟨some d,.call ⟨.value (.func fn),args.toArray,ats⟩,ty,pos,af,gd⟩=some true:=by rfl) (hd:Nat.blt d f.n=true:=by rfl):
 XO P G f Q ops.toArray k (⟨some d,.call ⟨.value (.func fn),args.toArray,ats⟩,ty,pos,af,gd⟩::rest) p ds cs q:= .callF hcf hc hv hq x hw hd
theorem XO.cV (hc:CallV P G fv vs pre (Ret R))(x: ∀ v q',R v q'→ ∀ q'',q''=q'++F→XO P G f Q ops.toArray k rest ((d,v)::p) ds cs q'')(hf:evp p fo=some fv:=by rfl)(hv:evl p args=some vs:=by rfl)(hq:Le q (pre++F):=by exact leA)
 (hw:Wt ops p ⟨some d,.call ⟨.value fo,args.toArray,ats⟩,ty,pos,af,gd⟩=some true:=by rfl) (hd:Nat.blt d f.n=true:=by rfl):
 XO P G f Q ops.toArray k (⟨some d,.call ⟨.value fo,args.toArray,ats⟩,ty,pos,af,gd⟩::rest) p ds cs q:= .call hf hv hc hq x hw hd
end
section
variable {pk:PE}{L:Rds}{n:Nat}{done:List Nat}{d:Tmp}{ty:TypeId}{pos:String}{af:Array Edge}{gd:Option (Nat×Bool)}{t:TypeId}{x y:Operand}
theorem XD.ld (i:Nat){b o:Nat}(ht: ∀ w,(isAgg t).run P w= .ok false w)(K:XD P G f Q ops k pk ((i,b,o,v)::L) n (i::done) ((d,v)::p) ds cs q)
 (ho:ops[i]? =some ⟨some d,.load t x,ty,pos,af,gd⟩:=by rfl) (hx:evp p x=some (.pointer (some ⟨b,o,none⟩)):=by rfl) (hc:Cl q ⟨b,o,none⟩ v:=by exact clA)
 (hr:rdy ops done i=true:=by rfl) (hw:Wt ops p ⟨some d,.load t x,ty,pos,af,gd⟩=some true:=by rfl) (hd:Nat.blt d f.n=true:=by rfl):XD P G f Q ops k pk L (n+1) done p ds cs q:= .load i ho hx ht hc K hr hw hd
theorem XD.rdCs (i:Nat){b o sz:Nat}{us:List Value}(ho:ops[i]? =some ⟨some d,.load t x,ty,pos,af,gd⟩)(hx:evp p x=some (.pointer (some ⟨b,o,none⟩)))(ht: ∀ w,(isAgg t).run P w= .ok true w)(hs: ∀ w,(Go.sizeOf t).run P w= .ok sz w)
 (hl:us.length=sz) (hc: ∀ (k:Nat) (v:Value),us[k]? =some v→Cl q ⟨b,o+k,none⟩ v) (K:XD P G f Q ops k pk (rdA i b o us++L) n (i::done) ((d,.agg us.toArray)::p) ds cs q)
 (hr:rdy ops done i=true:=by rfl) (hw:Wt ops p ⟨some d,.load t x,ty,pos,af,gd⟩=some true:=by rfl) (hd:Nat.blt d f.n=true:=by rfl):XD P G f Q ops k pk L (n+1) done p ds cs q:=by
 refine XD.rdL i ho (rdA i b o us) (E1 _ _ _ _) (HL.rdA hc) (fun tm w ag hS=> ?_) K hr hw hd
 have hc:=run_loadCells_list (P:=P) w ⟨b,o,none⟩ us (fun j u hj=>by
  rw [W1]
  exact hS _ (E0 hj))
 rw [hl] at hc
 simp [execOp,Zu ag hx,Instr.loadAt,Instr.sureAddr,loadVar,ht,hs,hc]
theorem XD.ldS (i:Nat){α:Type}{fl:α→List Value}{l:List α}{q0:List HP}{bk o m sz:Nat}{j:Int}(ht: ∀ w,(isAgg t).run P w= .ok true w)(hs: ∀ w,(Go.sizeOf t).run P w= .ok sz w)
 (h:Sees q0 (some ⟨bk,o,none⟩) (l.flatMap fl)) (hn:m<l.length) (K:XD P G f Q ops k pk (rdA i bk (o+j.toNat*sz) (fl l[m])++L) n (i::done) ((d,.agg (fl l[m]).toArray)::p) ds cs q)
 (ho:ops[i]? =some ⟨some d,.load t x,ty,pos,af,gd⟩:=by rfl) (hx:evp p x=some (.pointer (some ⟨bk,o+j.toNat*sz,none⟩)):=by rfl) (hj:j=m:=by first|rfl|omega) (hf: ∀ x,(fl x).length=sz:=by intro _;rfl) (hq:Le q q0:=by exact leA)
 (hr:rdy ops done i=true:=by rfl) (hw:Wt ops p ⟨some d,.load t x,ty,pos,af,gd⟩=some true:=by rfl) (hd:Nat.blt d f.n=true:=by rfl):XD P G f Q ops k pk L (n+1) done p ds cs q:=
 .rdCs i ho hx ht hs (hf _) (fun k v hk=>Cl.row h hq hf hn hj k v hk) K hr hw hd
section
variable {args:List Operand}{ats:Array TypeId}{vs:List Value}{pre F:List HP}{R:Value→List HP→Prop}{fn:FuncId}{fo:Operand}{fv:Value}
theorem Uy (i:Nat)(hcf: ∀ args w,(callFunc fn args).run P w= .ok (.enter fn args) w)(hc:CallF P G fn vs pre (Ret R))
 (K: ∀ v q',R v q'→ ∀ q'',q''=q'++F→HL q'' (cut ⟨some d,.call ⟨.value (.func fn),args.toArray,ats⟩,ty,pos,af,gd⟩ L)∧XD P G f Q ops k pk (cut ⟨some d,.call ⟨.value (.func fn),args.toArray,ats⟩,ty,pos,af,gd⟩ L) n (i::done) ((d,v)::p) ds cs q'')
 (ho:ops[i]? =some ⟨some d,.call ⟨.value (.func fn),args.toArray,ats⟩,ty,pos,af,gd⟩:=by rfl) (hv:evl p args=some vs:=by rfl) (hq:Le q (pre++F):=by exact leA)
 (h1:Uw ops done i=true:=by rfl) (hr:rdy ops done i=true:=by rfl) (hw:Wt ops p ⟨some d,.call ⟨.value (.func fn),args.toArray,ats⟩,ty,pos,af,gd⟩=some true:=by rfl) (hd:Nat.blt d f.n=true:=by rfl):XD P G f Q ops k pk L (n+1) done p ds cs q:=
 .callF i hcf hc ho hv hq K h1 hr hw hd
theorem XD.cV (i:Nat)(hc:CallV P G fv vs pre (Ret R))
 (K: ∀ v q',R v q'→ ∀ q'',q''=q'++F→HL q'' (cut ⟨some d,.call ⟨.value fo,args.toArray,ats⟩,ty,pos,af,gd⟩ L)∧XD P G f Q ops k pk (cut ⟨some d,.call ⟨.value fo,args.toArray,ats⟩,ty,pos,af,gd⟩ L) n (i::done) ((d,v)::p) ds cs q'')
 (ho:ops[i]? =some ⟨some d,.call ⟨.value fo,args.toArray,ats⟩,ty,pos,af,gd⟩:=by rfl) (hf:evp p fo=some fv:=by rfl) (hv:evl p args=some vs:=by rfl) (hq:Le q (pre++F):=by exact leA)
 (h1:Uw ops done i=true:=by rfl) (hr:rdy ops done i=true:=by rfl) (hw:Wt ops p ⟨some d,.call ⟨.value fo,args.toArray,ats⟩,ty,pos,af,gd⟩=some true:=by rfl) (hd:Nat.blt d f.n=true:=by rfl):XD P G f Q ops k pk L (n+1) done p ds cs q:=
 .call i ho hf hv hc hq K h1 hr hw hd
end
end
theorem Qk (q:List HP):Le q (q++ []):=by rw [List.append_nil];exact .refl _
section
variable {args:List Operand}{ats:Array TypeId}{ty:TypeId}{pos:String}{af:Array Edge}{gd:Option (Nat×Bool)}{vs:List Value}{u:Value}{d:Tmp}{fn:FuncId}{fo:Operand}{fv:Value}
theorem XO.cR (hcf: ∀ args w,(callFunc fn args).run P w= .ok (.enter fn args) w)(hc:CallF P G fn vs q (Ret fun v q'=>v=u∧q'=q))(x:XO P G f Q ops.toArray k rest ((d,u)::p) ds cs q)(hv:evl p args=some vs:=by rfl)
 (hw:Wt ops p ⟨some d,.call ⟨.value (.func fn),args.toArray,ats⟩,ty,pos,af,gd⟩=some true:=by rfl) (hd:Nat.blt d f.n=true:=by rfl):
 XO P G f Q ops.toArray k (⟨some d,.call ⟨.value (.func fn),args.toArray,ats⟩,ty,pos,af,gd⟩::rest) p ds cs q:=
 .callF hcf hc hv (Qk q) (fun v q' h q'' e=>by obtain ⟨rfl,rfl⟩:=h;rw [List.append_nil] at e;subst e;exact x) hw hd
theorem XD.cR {pk:PE}{L:Rds}{n:Nat}{done:List Nat}(i:Nat)(hcf: ∀ args w,(callFunc fn args).run P w= .ok (.enter fn args) w)(hc:CallF P G fn vs q (Ret fun v q'=>v=u∧q'=q))(hL:HL q (cut ⟨some d,.call ⟨.value (.func fn),args.toArray,ats⟩,ty,pos,af,gd⟩ L))
 (K:XD P G f Q ops k pk (cut ⟨some d,.call ⟨.value (.func fn),args.toArray,ats⟩,ty,pos,af,gd⟩ L) n (i::done) ((d,u)::p) ds cs q)
 (ho:ops[i]? =some ⟨some d,.call ⟨.value (.func fn),args.toArray,ats⟩,ty,pos,af,gd⟩:=by rfl) (hv:evl p args=some vs:=by rfl)
 (h1:Uw ops done i=true:=by rfl) (hr:rdy ops done i=true:=by rfl) (hw:Wt ops p ⟨some d,.call ⟨.value (.func fn),args.toArray,ats⟩,ty,pos,af,gd⟩=some true:=by rfl) (hd:Nat.blt d f.n=true:=by rfl):XD P G f Q ops k pk L (n+1) done p ds cs q:=
 .callF i hcf hc ho hv (Qk q) (fun v q' h q'' e=>by obtain ⟨rfl,rfl⟩:=h;rw [List.append_nil] at e;subst e;exact ⟨hL,K⟩) h1 hr hw hd
end
theorem Yx {todo:List Item}{q0:List HP}{a:Option Addr}{vs:List Value}(hs:Sees q0 a vs)(h:0<vs.length)(x: ∀ b o,a=some ⟨b,o,none⟩→X P G f Q todo p ds cs q)(hq:Le q q0:=by exact leA):X P G f Q todo p ds cs q:= .addr (hs.le hq) h x
theorem Kh {q0:List HP}{a:Option Addr}{vs:List Value}(hs:Sees q0 a vs)(h:0<vs.length)(x: ∀ b o,a=some ⟨b,o,none⟩→XO P G f Q ops.toArray k rest p ds cs q)(hq:Le q q0:=by exact leA):XO P G f Q ops.toArray k rest p ds cs q:= .addr (hs.le hq) h x
theorem Km {pk:PE}{L:Rds}{n:Nat}{done:List Nat}{q0:List HP}{a:Option Addr}{vs:List Value}(hs:Sees q0 a vs)(h:0<vs.length)(x: ∀ b o,a=some ⟨b,o,none⟩→XD P G f Q ops k pk L n done p ds cs q)(hq:Le q q0:=by exact leA):XD P G f Q ops k pk L n done p ds cs q:=
 .fact (fun w s=>(hs.le hq).addr h s) fun ⟨b,o,e⟩=>x b o e
theorem X.part {todo:List Item}(s:Nat){t:Bool}(h:lkp p s=some (.bool t))(ht:t=true→X P G f Q todo ((s,.bool true)::p) ds cs q)
 (hf:t=false→X P G f Q todo ((s,.bool false)::p) ds cs q):X P G f Q todo p ds cs q:=by
 cases t with
 |true=>exact X.know s (.bool true) h rfl (ht rfl)
 |false=>exact X.know s (.bool false) h rfl (hf rfl)
section
variable {fn:FuncId}{R:Ug}{F:List HP}{fd:Func}{q':List HP}{p':PE}
theorem Zq (q':List HP)(hf:P.funcs[fn]? =some fd)(hr: ∀ tm w,Agr tm p→St G w q→(results fd tm).run P w= .ok v w)(h:R (.returned v) q')(hq:Le q (q'++F):=by exact leA):
 X P G f (FQ P G fn cs R F) (.code .ret::k) p [] cs q:=X.ret ⟨rfl,Lv.ret hf hr h hq⟩
theorem Z7 (q':List HP)(hf:P.funcs[fn]? =some fd)(hr: ∀ tm w,Agr tm p→St G w q→(results fd tm).run P w= .ok v w)(h:R (.returned v) q')(hq:Le q (q'++F):=by exact leA):
 X P G f (FQ P G fn cs R F) [] p [] cs q:=X.fall ⟨rfl,Lv.ret hf hr h hq⟩
end
end
end Wx
namespace Wx
open Go Go.RowKit
section
variable {P:Program}{G:World}{p:PE}{q r:List HP}{d:Option Tmp}{ty:TypeId}{pos:String}{af:Array Edge}{gd:Option (Nat×Bool)}{x y:Operand}{t t' e:TypeId}{kd ky:IntKind}{m n:Int}
theorem wu8 (n:Int):IntKind.u8.wrap n=n % 256:=by simp [IntKind.wrap,IntKind.bits,IntKind.signed]
theorem Rr {z:Value}{bytes sz n:Nat}(hx:evp p x=some (.int kd n))(hy:evp p y=some (.int ky n))(ht:P.underlying t=some (.slice e))(hi:(P.info? e).map (fun i=>(i.zero,i.size,i.bytes))=some (some z,sz,bytes))(hz:z.cells.size=sz)(hsz:Nat.blt 0 sz=true)
 (hby:bytes*n≤140737488355328) (hn:n≤9223372036854775807):
 Ef P G p q ⟨d,.makeSlice t x y,ty,pos,af,gd⟩ fun v q'=> ∃ g,v= .slice (some ⟨g,0,none⟩) n n∧q'=slH (some ⟨g,0,none⟩) n e sz n ((List.replicate n z.cells.toList).flatten)::q:=by
 obtain ⟨I,hI,e1,e2,e3⟩:=info_parts hi
 subst e2;subst e3
 have hsz':0<I.size:=by simpa [Nat.blt_eq] using hsz
 intro tm w ag s
 have hr:=run_make (P:=P) w t e I z ht hI e1 kd ky (n:Int) (n:Int) (by omega) (Int.le_refl _) (by omega) (by omega)
 simp only [Int.toNat_natCast] at hr
 refine ⟨_,w.alloc (.cells (madeCells z.cells (n*I.size)) e),_,.inl ?_,?_,w.heap.size,rfl,rfl⟩
 · simp [execOp,Zu ag hx,Zu ag hy,hr]
 have s2:St G (w.alloc (.cells (madeCells z.cells (n*I.size)) e)) (pto w.heap.size (.cells (madeCells z.cells (n*I.size)) e (0,0))::q):=s.new rfl rfl rfl rfl
 refine s2.le (Wk (Nat.le_refl _) (by simpa [maxLen] using hn) (size_madeCells _ _) ?_ q)
 have:(madeCells z.cells (n*I.size)).toList=(List.replicate n z.cells.toList).flatten:=by
  apply List.ext_getElem?
  intro i
  have hlen:((List.replicate n z.cells.toList).flatten).length=n*I.size:=by simp [hz]
  rcases Nat.lt_or_ge i (n*I.size) with h|h
  · have hm:i % I.size<I.size:=Nat.mod_lt _ hsz'
    have hd:i / I.size<n:=by rw [Nat.div_lt_iff_lt_mul hsz'];exact h
    have h1:=Hb (f:=fun (l:List Value)=>z.cells.toList) (sz:=I.size) (fun _=>by simp [hz]) (List.replicate n ([]:List Value)) (i / I.size) (i % I.size) [] hm (by simp [hd])
    have h2:(List.replicate n ([]:List Value)).flatMap (fun _=>z.cells.toList)=(List.replicate n z.cells.toList).flatten:=by
     simp [List.flatMap,List.map_replicate]
    rw [h2,Nat.mul_comm,Nat.div_add_mod] at h1
    rw [h1]
    simp [madeCells,h,hz]
    rw [getElem!_pos z.cells _ (by rw [hz];exact hm)]
    simp [hm,hz]
  rw [List.getElem?_eq_none (by simp [madeCells];exact h),List.getElem?_eq_none (by rw [hlen];exact h)]
 rw [this,List.take_of_length_le (by simp [hz])]
theorem Ly {D:TypeDesc}{xt:TypeId}{v:Value}(hx:evp p x=some (.iface t v))(ht:P.underlying t=some D)(hD:(match D with| .interface _=>false|_=>true)=true):
 Pu P p ⟨d,.typeAssert x xt t true,ty,pos,af,gd⟩ (.tuple [v,.bool true].toArray):=fun tm w ag=>by
 simp only [execOp,Zu ag hx,Instr.typeAssert,Sem.run_bind,run_underlying ht,Result.andThen_ok]
 cases D<;>first|(cases hD;done)|simp
theorem Lb {D:TypeDesc}{xt:TypeId}{z:Value}(hx:evp p x=some .nilIface)(ht:P.underlying t=some D)(hD:(match D with| .interface _=>false|_=>true)=true)(hz: ∀ w,(zeroValue t).run P w= .ok z w):
 Pu P p ⟨d,.typeAssert x xt t true,ty,pos,af,gd⟩ (.tuple [z,.bool false].toArray):=fun tm w ag=>by
 simp only [execOp,Zu ag hx,Instr.typeAssert,Sem.run_bind,run_underlying ht,Result.andThen_ok]
 cases D<;>first|(cases hD;done)|simp [hz]
end
end Wx
namespace Wx
open Go Go.RowKit
def Ba:Nat→List Oper→List Oper
 |0,l=>l
 |_+1, []=> []
 |n+1,_::r=>Ba n r
section
variable {P:Program}{G:World}{f:Fc}{Q:Yr}{ops:List Oper}{k:List Item}{p:PE}{ds:List Deferred}{cs:List Frame}{q:List HP}{l:List Oper}
theorem Zp {r1:Bool}(n:Nat)(d s:Nat){b:Bool}(h:lkp p s=some (.bool b))
 (ht:b=true→XO P G f Q ops.toArray k (Ba n l) ((d,.bool (b && r1))::p) ds cs q→XO P G f Q ops.toArray k l ((s,.bool true)::p) ds cs q)
 (hf:b=false→XO P G f Q ops.toArray k (Ba n l) ((d,.bool (b && r1))::p) ds cs q→XO P G f Q ops.toArray k l ((s,.bool false)::p) ds cs q)
 (M:XO P G f Q ops.toArray k (Ba n l) ((d,.bool (b && r1))::p) ds cs q):XO P G f Q ops.toArray k l p ds cs q:=
 .part s h (fun e=>ht e M) (fun e=>hf e M)
theorem Zb {r1:Bool}(n:Nat)(d s:Nat){b:Bool}(h:lkp p s=some (.bool b))
 (hf:b=false→XO P G f Q ops.toArray k (Ba n l) ((d,.bool (b||r1))::p) ds cs q→XO P G f Q ops.toArray k l ((s,.bool false)::p) ds cs q)
 (ht:b=true→XO P G f Q ops.toArray k (Ba n l) ((d,.bool (b||r1))::p) ds cs q→XO P G f Q ops.toArray k l ((s,.bool true)::p) ds cs q)
 (M:XO P G f Q ops.toArray k (Ba n l) ((d,.bool (b||r1))::p) ds cs q):XO P G f Q ops.toArray k l p ds cs q:=
 .part s h (fun e=>ht e M) (fun e=>hf e M)
theorem Wz {b r:Bool}(h:b=true):some (Value.bool r)=some (Value.bool (b && r)):=by rw [h];rfl
theorem Wj {b r:Bool}(h:b=false):some (Value.bool false)=some (Value.bool (b && r)):=by rw [h];rfl
theorem orF {b r:Bool}(h:b=false):some (Value.bool r)=some (Value.bool (b||r)):=by rw [h];rfl
theorem orT {b r:Bool}(h:b=true):some (Value.bool true)=some (Value.bool (b||r)):=by rw [h];rfl
theorem Zz {p':PE}(M:XO P G f Q ops.toArray k l p' ds cs q)(h:SubP p' p):XO P G f Q ops.toArray k l p ds cs q:=XO.sub h M
variable {pk:PE}{L:Rds}{m:Nat}{done:List Nat}
def sameL (a b:List Nat):Bool:=a.all b.contains && b.all a.contains
theorem Uc {L:Rds}{done':List Nat}{p':PE}(M: ∀ L,XD P G f Q ops k pk L m done' p' ds cs q)(h:SubP p' p)(e:sameL done' done=true:=by rfl):XD P G f Q ops k pk L m done p ds cs q:=by
 have he: ∀ j,j∈done'↔j∈done:=by
  intro j
  simp only [sameL,Bool.and_eq_true,List.all_eq_true,List.contains_iff_mem] at e
  exact ⟨e.1 j,e.2 j⟩
 refine XD.sub h ?_;exact fun h1 h2 tm w hn ag s hs=>WA.congr m he (M L h1 h2 tm w hn ag s hs)
theorem H2 {r1:Bool}(n':Nat)(done':List Nat)(d s:Nat){b:Bool}(h:lkp p s=some (.bool b))
 (ht:b=true→(∀ L,XD P G f Q ops k pk L n' done' ((d,.bool (b && r1))::p) ds cs q)→XD P G f Q ops k pk L m done ((s,.bool true)::p) ds cs q)
 (hf:b=false→(∀ L,XD P G f Q ops k pk L n' done' ((d,.bool (b && r1))::p) ds cs q)→XD P G f Q ops k pk L m done ((s,.bool false)::p) ds cs q)
 (M: ∀ L,XD P G f Q ops k pk L n' done' ((d,.bool (b && r1))::p) ds cs q):XD P G f Q ops k pk L m done p ds cs q:=
 .part s h (fun e=>ht e M) (fun e=>hf e M)
theorem B5 {r1:Bool}(n':Nat)(done':List Nat)(d s:Nat){b:Bool}(h:lkp p s=some (.bool b))
 (hf:b=false→(∀ L,XD P G f Q ops k pk L n' done' ((d,.bool (b||r1))::p) ds cs q)→XD P G f Q ops k pk L m done ((s,.bool false)::p) ds cs q)
 (ht:b=true→(∀ L,XD P G f Q ops k pk L n' done' ((d,.bool (b||r1))::p) ds cs q)→XD P G f Q ops k pk L m done ((s,.bool true)::p) ds cs q)
 (M: ∀ L,XD P G f Q ops k pk L n' done' ((d,.bool (b||r1))::p) ds cs q):XD P G f Q ops k pk L m done p ds cs q:=
 .part s h (fun e=>ht e M) (fun e=>hf e M)
end
end Wx
namespace Wx
open Go Go.RowKit
def RP (R:Value→List HP→Prop)(Rp:List PanicEntry→List HP→Prop):Ug:=fun e q=>(∃ v,e= .returned v∧R v q)∨(∃ ch,e= .panicked ch∧Rp ch q)
section
variable {P:Program}{G:World}{f:Fc}{Q:Yr}{ops:List Oper}{k:List Item}{p:PE}{ds:List Deferred}{cs:List Frame}{q:List HP}{rest:List Oper}{v:Value}
section
variable {α:Type}{fl:α→List Value}{sz ty:Nat}{a:Option Addr}{c:Nat}{l:List α}{r:List HP}
theorem Yz {todo:List Item}(h:0<l.length)(x: ∀ g,a=some ⟨g,0,none⟩→X P G f Q todo p ds cs q)(hq:Le q (rsH fl sz ty a c l::r):=by exact Zk):X P G f Q todo p ds cs q:=
 .fact (fun w s=>(s.le hq).rsAddr h) fun ⟨g,e⟩=>x g e
theorem Cg (h:0<l.length)(x: ∀ g,a=some ⟨g,0,none⟩→XO P G f Q ops.toArray k rest p ds cs q)(hq:Le q (rsH fl sz ty a c l::r):=by exact Zk):XO P G f Q ops.toArray k rest p ds cs q:=
 .fact (fun w s=>(s.le hq).rsAddr h) fun ⟨g,e⟩=>x g e
theorem V9 {todo:List Item}{fl:α→Value}(h:0<l.length)(x: ∀ g,a=some ⟨g,0,none⟩→X P G f Q todo p ds cs q)(hq:Le q (lsH fl ty a c l::r):=by exact Zk):X P G f Q todo p ds cs q:=
 .fact (fun w s=>(s.le hq).lsAddr h) fun ⟨g,e⟩=>x g e
theorem XO.lsadr {fl:α→Value}(h:0<l.length)(x: ∀ g,a=some ⟨g,0,none⟩→XO P G f Q ops.toArray k rest p ds cs q)(hq:Le q (lsH fl ty a c l::r):=by exact Zk):XO P G f Q ops.toArray k rest p ds cs q:=
 .fact (fun w s=>(s.le hq).lsAddr h) fun ⟨g,e⟩=>x g e
theorem Cm {pk:PE}{L:Rds}{n:Nat}{done:List Nat}(h:0<l.length)(x: ∀ g,a=some ⟨g,0,none⟩→XD P G f Q ops k pk L n done p ds cs q)(hq:Le q (rsH fl sz ty a c l::r):=by exact Zk):XD P G f Q ops k pk L n done p ds cs q:=
 .fact (fun w s=>(s.le hq).rsAddr h) fun ⟨g,e⟩=>x g e
end
section
variable {args:List Operand}{ats:Array TypeId}{ty:TypeId}{pos:String}{af:Array Edge}{gd:Option (Nat×Bool)}{vs:List Value}{pre:List HP}{R:Value→List HP→Prop}{Rp:List PanicEntry→List HP→Prop}{d:Tmp}{fn:FuncId}{fo:Operand}{fv:Value}
theorem S5 {sp:Ug}(hcf: ∀ args w,(callFunc fn args).run P w= .ok (.enter fn args) w)(hc:CallF P G fn vs pre sp):CallV P G (.func (.func fn) #[] #[]) vs pre sp:=
 Vv (a:= []) (b:= []) hcf (by simpa using hc)
theorem Zf (hcf: ∀ args w,(callFunc fn args).run P w= .ok (.enter fn args) w)(hq:Le q pre)(hc:CallF P G fn vs pre (Ret R))(x: ∀ v q',R v q'→XO P G f Q ops.toArray k rest ((d,v)::p) ds cs q')(hv:evl p args=some vs:=by rfl)
 (hw:Wt ops p ⟨some d,.call ⟨.value (.func fn),args.toArray,ats⟩,ty,pos,af,gd⟩=some true:=by rfl) (hd:Nat.blt d f.n=true:=by rfl):
 XO P G f Q ops.toArray k (⟨some d,.call ⟨.value (.func fn),args.toArray,ats⟩,ty,pos,af,gd⟩::rest) p ds cs q:=
 .callF hcf hc hv (hq.trans (Qk pre)) (fun v q' h q'' e=>by rw [List.append_nil] at e;rw [e];exact x v q' h) hw hd
theorem Vh (hcf: ∀ args w,(callFunc fn args).run P w= .ok (.enter fn args) w)(hq:Le q pre)(hc:CallF P G fn vs pre (RP R Rp))(xp: ∀ ch q',Rp ch q'→Q (.panic ch) p ds cs q')(x: ∀ v q',R v q'→XO P G f Q ops.toArray k rest ((d,v)::p) ds cs q')(hv:evl p args=some vs:=by rfl)
 (hw:Wt ops p ⟨some d,.call ⟨.value (.func fn),args.toArray,ats⟩,ty,pos,af,gd⟩=some true:=by rfl) (hd:Nat.blt d f.n=true:=by rfl):
 XO P G f Q ops.toArray k (⟨some d,.call ⟨.value (.func fn),args.toArray,ats⟩,ty,pos,af,gd⟩::rest) p ds cs q:=
 .callE hw hd rfl hv (S5 hcf hc) (hq.trans (Qk pre))
  (fun v q' h=>by rcases h with ⟨_,h,r⟩|⟨_,h,_⟩<;>cases h;rw [List.append_nil];exact x v q' r)
  (fun ch q' h=>by rcases h with ⟨_,h,r⟩|⟨_,h,r⟩<;>cases h;rw [List.append_nil];exact xp ch q' r)
end
section
variable {fn:FuncId}{pre:List HP}{sp:Ug}
theorem CallV.c11 {x0 c0:Value}(hcf: ∀ args w,(callFunc fn args).run P w= .ok (.enter fn args) w)(h:CallF P G fn [x0,c0] pre sp):CallV P G (.func (.func fn) [].toArray [c0].toArray) [x0] pre sp:=Vv (a:= []) (b:= [c0]) hcf h
theorem Yd {x0 x1:Value}(hcf: ∀ args w,(callFunc fn args).run P w= .ok (.enter fn args) w)(h:CallF P G fn [x0,x1] pre sp):CallV P G (.func (.func fn) [].toArray [].toArray) [x0,x1] pre sp:=Vv (a:= []) (b:= []) hcf h
end
theorem FQ.panic {fn:FuncId}{R:Ug}{F q':List HP}{fd:Func}{ch:List PanicEntry}(hf:P.funcs[fn]? =some fd)(h:R (.panicked ch) q')(hq:Le q (q'++F):=by exact leA):FQ P G fn cs R F (.panic ch) p [] cs q:=⟨rfl,Lv.panic hf h hq⟩
theorem RP.ret {R:Value→List HP→Prop}{Rp:List PanicEntry→List HP→Prop}{q':List HP}(h:R v q'):RP R Rp (.returned v) q':= .inl ⟨v,rfl,h⟩
theorem RP.thr {R:Value→List HP→Prop}{Rp:List PanicEntry→List HP→Prop}{q':List HP}{ch:List PanicEntry}(h:Rp ch q'):RP R Rp (.panicked ch) q':= .inr ⟨ch,rfl,h⟩
end
end Wx
namespace Wx
open Go Go.RowKit
section
variable {P:Program}{G:World}{f:Fc}{Q:Yr}{ops:List Oper}{k:List Item}{p:PE}{ds:List Deferred}{cs:List Frame}{q:List HP}{rest:List Oper}{v:Value}
section
variable {pk:PE}{L:Rds}{n:Nat}{done:List Nat}{args:List Operand}{ats:Array TypeId}{ty:TypeId}{pos:String}{af:Array Edge}{gd:Option (Nat×Bool)}{vs:List Value}{pre:List HP}{R:Value→List HP→Prop}{Rp:List PanicEntry→List HP→Prop}{d:Tmp}{fn:FuncId}
theorem Eb (i:Nat)(hcf: ∀ args w,(callFunc fn args).run P w= .ok (.enter fn args) w)(hq:Le q pre)(hc:CallF P G fn vs pre (RP R Rp))(xp: ∀ ch q',Rp ch q'→Q (.panic ch) pk ds cs q')
 (K: ∀ v q',R v q'→HL q' (cut ⟨some d,.call ⟨.value (.func fn),args.toArray,ats⟩,ty,pos,af,gd⟩ L)∧XD P G f Q ops k pk (cut ⟨some d,.call ⟨.value (.func fn),args.toArray,ats⟩,ty,pos,af,gd⟩ L) n (i::done) ((d,v)::p) ds cs q')
 (hpk:SubP pk p) (ho:ops[i]? =some ⟨some d,.call ⟨.value (.func fn),args.toArray,ats⟩,ty,pos,af,gd⟩:=by rfl) (hv:evl p args=some vs:=by rfl)
 (h1:Uw ops done i=true:=by rfl) (hr:rdy ops done i=true:=by rfl) (hw:Wt ops p ⟨some d,.call ⟨.value (.func fn),args.toArray,ats⟩,ty,pos,af,gd⟩=some true:=by rfl) (hd:Nat.blt d f.n=true:=by rfl):XD P G f Q ops k pk L (n+1) done p ds cs q:=
 .one (R:=fun e q''=>RP R Rp e q'') i ho (fun tm w ag s=>by
  rw [H1 ag (show evp p (.func fn)=some (.func (.func fn) #[] #[]) from rfl) hv]
  exact ((S5 hcf hc) [] w ((s.le hq).le (Qk pre))).mono fun e w' _ ⟨q',hR,s'⟩=>⟨q',hR,by rw [List.append_nil] at s';exact s'⟩)
  (fun v q'' h=>by rcases h with ⟨_,e,r⟩|⟨_,e,_⟩<;>cases e;exact K v q'' r) (fun ch q'' h=>by rcases h with ⟨_,e,_⟩|⟨_,e,r⟩<;>cases e;exact ⟨xp ch q'' r,hpk⟩) h1 hr hw hd
end
section
variable {pk:PE}{L:Rds}{n:Nat}{done:List Nat}{args:List Operand}{ats:Array TypeId}{ty:TypeId}{pos:String}{af:Array Edge}{gd:Option (Nat×Bool)}{vs:List Value}{pre:List HP}{R:Value→List HP→Prop}{d:Tmp}{fn:FuncId}
theorem Y5 (i:Nat)(hcf: ∀ args w,(callFunc fn args).run P w= .ok (.enter fn args) w)(hq:Le q pre)(hc:CallF P G fn vs pre (Ret R))
 (K: ∀ v q',R v q'→HL q' (cut ⟨some d,.call ⟨.value (.func fn),args.toArray,ats⟩,ty,pos,af,gd⟩ L)∧XD P G f Q ops k pk (cut ⟨some d,.call ⟨.value (.func fn),args.toArray,ats⟩,ty,pos,af,gd⟩ L) n (i::done) ((d,v)::p) ds cs q')
 (ho:ops[i]? =some ⟨some d,.call ⟨.value (.func fn),args.toArray,ats⟩,ty,pos,af,gd⟩:=by rfl) (hv:evl p args=some vs:=by rfl)
 (h1:Uw ops done i=true:=by rfl) (hr:rdy ops done i=true:=by rfl) (hw:Wt ops p ⟨some d,.call ⟨.value (.func fn),args.toArray,ats⟩,ty,pos,af,gd⟩=some true:=by rfl) (hd:Nat.blt d f.n=true:=by rfl):XD P G f Q ops k pk L (n+1) done p ds cs q:=
 .callF i hcf hc ho hv (hq.trans (Qk pre)) (fun v q' h q'' e=>by rw [List.append_nil] at e;rw [e];exact K v q' h) h1 hr hw hd
end
def dfr (fn:FuncId)(cl:List Value):Deferred:= { target:= .fn (.func fn) cl.toArray,args:= #[] }
theorem XO.dfr {fo:Operand}{ats:Array TypeId}{fn:FuncId}{cl:List Value}{d:Option Tmp}{ty:TypeId}{pos:String}{af:Array Edge}{gd:Option (Nat×Bool)}(x:XO P G f Q ops.toArray k rest (Up p d undef) (Wx.dfr fn cl::ds) cs q)
 (hf:evp p fo=some (.func (.func fn) [].toArray cl.toArray):=by rfl) (hro:f.round=none:=by rfl) (hd:dOk f.n d=true:=by rfl)
 (hw:Wt ops p ⟨d,.defer ⟨.value fo, [].toArray,ats⟩,ty,pos,af,gd⟩=some true:=by rfl):
 XO P G f Q ops.toArray k (⟨d,.defer ⟨.value fo, [].toArray,ats⟩,ty,pos,af,gd⟩::rest) p ds cs q:=
 .defer_ hro hf rfl (fun w=>by simp [Deferred.ofValue,Wx.dfr]) hd x hw
def Quiet (P:Program)(G:World)(fn:FuncId)(cl:List Value):Prop:=CallD P G fn cl .returning [] fun e u q=>(∃ v,e= .returned v)∧u= .returning∧q= []
def Catches (P:Program)(G:World)(fn:FuncId)(cl:List Value)(E:PanicEntry)(pre post:List HP):Prop:=
 CallD P G fn cl (.panicking [E]) pre fun e u q=>(∃ v,e= .returned v)∧u= .panicking [{ E with recovered:=true }]∧q=post
section
variable {fn fn2:FuncId}{R:Ug}{F:List HP}{fd fd2:Func}{cl:List Value}{E:PanicEntry}{pre post F₀:List HP}
theorem C4 (hcf: ∀ args w,(callFunc fn2 args).run P w= .ok (.enter fn2 args) w)(hf:P.funcs[fn]? =some fd)(hc:Quiet P G fn2 cl)(h:Lv P G fn R F ds .returning p q):Lv P G fn R F (Wx.dfr fn2 cl::ds) .returning p q:=
 Lv.defer (vs:=cl) (F₀:=q) (by simp) (fun w=>by simp [invoke,hcf]) hc (.refl _) hf (fun v u' q' ⟨_,e1,e2⟩=>by subst e1;subst e2;exact h) (fun ch u' q' ⟨⟨v,e⟩,_⟩=>by cases e)
theorem Lv.catches (hcf: ∀ args w,(callFunc fn2 args).run P w= .ok (.enter fn2 args) w)(hf:P.funcs[fn]? =some fd)(hc:Catches P G fn2 cl E pre post)(hq:Le q (pre++F₀))(hg:E.goexit=false)(h:Lv P G fn R F [] .returning p (post++F₀)):Lv P G fn R F [Wx.dfr fn2 cl] (.panicking [E]) p q:=
 Lv.defer (vs:=cl) (F₀:=F₀) (by simp) (fun w=>by simp [invoke,hcf]) hc hq hf (fun v u' q' ⟨_,e1,e2⟩=>by subst e1;subst e2;exact h) (fun ch u' q' ⟨⟨v,e⟩,_⟩=>by cases e)
theorem Quiet.of {c:Code}{n:Nat}(hf:P.funcs[fn]? =some fd)(hn:fd.ntmps=n)(hb:fd.body=some c)(h: ∀ F c₀ cs₀,(recoverD (c₀::cs₀)).getD (.nilIface,c₀::cs₀)=(.nilIface,c₀::cs₀)→
 X P G ⟨fn,n,.deferred,none⟩ (fun o p ds cs q=>cs=c₀::cs₀∧ds= []∧(o= .fall∨o= .jump .ret)∧(∃ v,∀ tm w,Agr tm p→St G w q→(results fd tm).run P w= .ok v w)∧Le q F) [.code c] (E4 0 cl) [] (c₀::cs₀) F) (hl:Nat.ble cl.length n=true:=by rfl):Quiet P G fn cl:=by
 refine CallD.of hf hn hb (fun F c₀ cs₀ hm=> ?_) hl
 refine fun tm w hn ha s=> ?_
 obtain ⟨o,tm',p',ds',cs',w',q',⟨hcs,hds,ho,⟨v,hv⟩,hle⟩,h1,h2,h3,h4⟩:=h F c₀ cs₀ (by simp [recoverD,hm]) tm w hn ha s
 refine ⟨o,tm',p',ds',cs',w',q',⟨hds,.returning,?_,?_⟩,h1,h2,h3,h4⟩
 · rw [hcs,←hm]
 rcases ho with rfl|rfl<;>exact ⟨v, [],hv,⟨⟨v,rfl⟩,rfl,rfl⟩,hle⟩
theorem Catches.of {c:Code}{n:Nat}{ev:Value}(hf:P.funcs[fn]? =some fd)(hn:fd.ntmps=n)(hb:fd.body=some c)(hE:E= { v:=ev,recovered:=false })(h: ∀ F c₀ cs₀,(recoverD (c₀::cs₀)).getD (.nilIface,c₀::cs₀)=(ev, { c₀ with mode:= .panicking [{ E with recovered:=true }] } ::cs₀)→
 X P G ⟨fn,n,.deferred,none⟩ (fun o p ds cs q=>cs= { c₀ with mode:= .panicking [{ E with recovered:=true }] } ::cs₀∧ds= []∧(o= .fall∨o= .jump .ret)∧(∃ v,∀ tm w,Agr tm p→St G w q→(results fd tm).run P w= .ok v w)∧Le q (post++F)) [.code c] (E4 0 cl) [] (c₀::cs₀) (pre++F))
 (hl:Nat.ble cl.length n=true:=by rfl):Catches P G fn cl E pre post:=by
 refine CallD.of hf hn hb (fun F c₀ cs₀ hm=> ?_) hl
 refine fun tm w hn ha s=> ?_
 obtain ⟨o,tm',p',ds',cs',w',q',⟨hcs,hds,ho,⟨v,hv⟩,hle⟩,h1,h2,h3,h4⟩:=h F c₀ cs₀ (by simp [recoverD,hm,hE]) tm w hn ha s
 refine ⟨o,tm',p',ds',cs',w',q',⟨hds,_,hcs,?_⟩,h1,h2,h3,h4⟩
 rcases ho with rfl|rfl<;>exact ⟨v,post,hv,⟨⟨v,rfl⟩,rfl,rfl⟩,hle⟩
end
theorem XO.rcv {ats:Array TypeId}{v:Value}{cs':List Frame}{d:Tmp}{ty:TypeId}{pos:String}{af:Array Edge}{gd:Option (Nat×Bool)}(hrec:(recoverD cs).getD (.nilIface,cs)=(v,cs'))(x:XO P G f Q ops.toArray k rest ((d,v)::p) ds cs' q)
 (hk:f.kind= .deferred:=by rfl) (hro:f.round=none:=by rfl) (hd:Nat.blt d f.n=true:=by rfl) (hw:Wt ops p ⟨some d,.call ⟨.builtin .recover,#[],ats⟩,ty,pos,af,gd⟩=some true:=by rfl):
 XO P G f Q ops.toArray k (⟨some d,.call ⟨.builtin .recover,#[],ats⟩,ty,pos,af,gd⟩::rest) p ds cs q:= .recover_ hk hro hrec hd x hw
end
end Wx
namespace Wx
open Go Go.RowKit
section
variable {P:Program}{G:World}{f:Fc}{Q:Yr}{ops:List Oper}{k:List Item}{p:PE}{ds:List Deferred}{cs:List Frame}{q:List HP}{rest:List Oper}{d:Tmp}{ty:TypeId}{pos:String}{af:Array Edge}{gd:Option (Nat×Bool)}{x:Operand}{s e t:TypeId}{a:Option Addr}{c:Nat}{q0:List HP}
theorem HL.app {q:List HP}: ∀ {L L':Rds},HL q L→HL q L'→HL q (L++L')
 | [],_,_,h=>h
 |(_,_,_,_)::r,_,⟨h,k⟩,h'=>⟨h,HL.app k h'⟩
end
end Wx
namespace Wx
open Go Go.RowKit
section
variable {P:Program}{G:World}{f:Fc}{Q:Yr}{ops:List Oper}{k:List Item}{p:PE}{ds:List Deferred}{cs:List Frame}{q:List HP}{pk:PE}{L:Rds}{n:Nat}{done:List Nat}{args:List Operand}{ats:Array TypeId}{ty:TypeId}{pos:String}{af:Array Edge}{gd:Option (Nat×Bool)}{vs:List Value}{u:Value}{d:Tmp}{fn:FuncId}
theorem Ym (i:Nat)(hcf: ∀ args w,(callFunc fn args).run P w= .ok (.enter fn args) w)(hc:CallF P G fn vs q (Ret fun v q'=>v=u∧q'=q))
 (K:XD P G f Q ops k pk (cut ⟨some d,.call ⟨.value (.func fn),args.toArray,ats⟩,ty,pos,af,gd⟩ L) n (i::done) ((d,u)::p) ds cs q)
 (ho:ops[i]? =some ⟨some d,.call ⟨.value (.func fn),args.toArray,ats⟩,ty,pos,af,gd⟩:=by rfl) (hv:evl p args=some vs:=by rfl)
 (hL:HL q (cut ⟨some d,.call ⟨.value (.func fn),args.toArray,ats⟩,ty,pos,af,gd⟩ L):=by exact hlA)
 (h1:Uw ops done i=true:=by rfl) (hr:rdy ops done i=true:=by rfl) (hw:Wt ops p ⟨some d,.call ⟨.value (.func fn),args.toArray,ats⟩,ty,pos,af,gd⟩=some true:=by rfl) (hd:Nat.blt d f.n=true:=by rfl):XD P G f Q ops k pk L (n+1) done p ds cs q:= .cR i hcf hc hL K ho hv h1 hr hw hd
end
end Wx
namespace Wx
open Go Go.RowKit Go.WideShapes
theorem open_slice {H:Type}{enc:TypeId×Value→H}{P:Program}{w w2:World}{base base2:Nat}{r:Reach}{spare:Nat→Bool}{held:Bool}{t e:TypeId}{v:Value}{d:DataW H}{p:List MemPlace}(es:Sh)(ht:P.underlying t=some (.slice e))(hok:Value.okWide P w2 r base2 t v)
 (h:DataW.Trod enc P w base spare held t v d p) (hf:(Sh.slice es).fits P (.inl t)=true): ∃ x:SlV es.T,v= .slice x.a x.l.length x.c∧(Sh.slice es).ok w x:=by
 obtain ⟨a,len,cap,rfl⟩:=okWide_slice ht hok
 obtain ⟨x,hx,hk⟩:=open_arg (Sh.slice es) hf h
 refine ⟨x,?_,hk⟩
 simpa [Value.cells,Sh.cells] using hx
theorem wfi64 {n:Int}(h:(Lit.int .i64 n).wf=true): -9223372036854775808≤n∧n≤9223372036854775807:=wf64 h
theorem T5 {q:List HP}{k:IntKind}{x:SlV Int}(h:(Sh.slice (.int k)).okQ q x):x.l.length≤x.c∧x.c≤maxLen∧Sees q x.a (x.l.map (Value.int k))∧ ∀ n∈x.l,(Lit.int k n).wf=true:=by
 obtain ⟨h1,h2,_,h4,h5⟩:=h
 refine ⟨h1,h2,?_,h5⟩
 have:x.l.flatMap (Sh.cells (.int k))=x.l.map (Value.int k):=by
  induction x.l with
  |nil=>rfl
  |cons y r ih=>rw [List.flatMap_cons,ih];rfl
 rw [←this];exact h4
end Wx
namespace Wx
open Go Go.RowKit
def Iter (P:Program)(G:World)(gv:Value)(xs:List (List Value))(pre:List HP):Prop:=
 ∀ (l:Nat) (J:Nat→HP) (Jf:HP→Prop),
  (∀ i (h:i<xs.length),CallV P G (.func (.yield l) #[] #[]) xs[i] (J i::pre) (Ret fun v q=>(v= .bool true∧q=J (i+1)::pre)∨(v= .bool false∧ ∃ A,Jf A∧q=A::pre)))→
  CallV P G gv [.func (.yield l) #[] #[]] (J 0::pre) (Ret fun _ q=>q=J xs.length::pre∨ ∃ A,Jf A∧q=A::pre)
def RQ (cs₀:List Frame)(rec:Loop)(l:Nat)(next:List HP)(Jmp:Code→List HP→Prop)(R:List HP):Yr:=fun o p ds cs q=>cs=cs₀∧ds= []∧match o with
 | .fall=>Le q (lp rec l .busy none::(next++R))
 | .jump c=> ∃ qs,Jmp c qs∧Le q (lp rec l .busy none::(qs++R))
 | .panic _=>False
section
variable {P:Program}{G:World}{f:Fc}{Q:Yr}{k:List Item}{p:PE}{ds:List Deferred}{cs:List Frame}{q:List HP}
theorem X.range {g:Operand}{ps:List Tmp}{as bd:Code}{gv:Value}{xs:List (List Value)}{F:List HP}(pre:List HP)(Inv:Nat→List HP)(Jmp:Code→List HP→Prop)(hI:Iter P G gv xs pre)(hg:evp p g=some gv)(hq:Le q (Inv 0++(pre++F)))
 (hxs: ∀ x∈xs,x.length=ps.length) (hps:ps.all (Nat.blt · f.n)=true) (hf:(P.funcs[f.fn]?).isSome=true) (hro:f.round=none)
 (round: ∀ i (h:i<xs.length) l rec F₀ cs₀,X P G ⟨f.fn,f.n,.normal,some l⟩ (RQ cs₀ rec l (Inv (i+1)) Jmp (pre++F₀)) [.code as,.beginRound,.code bd] (Aw ps xs[i] p) [] cs₀ (lp rec l .ready none::(Inv i++(pre++F₀))))
 (cont: ∀ r,X P G f Q k p (markD r::ds) cs (pto r (.deferred (some []))::(Inv xs.length++(pre++F))))
 (contJ: ∀ r c qs,Jmp c qs→X P G f Q (.code c::k) p (markD r::ds) cs (pto r (.deferred (some []))::(qs++(pre++F)))):
 X P G f Q (.code (.rangeFunc g ps.toArray as bd)::k) p ds cs q:=by
 refine X.rangeFunc (pre:=Inv 0++pre) (F:=F) (R':=fun pend q1=>(pend=none∧q1=Inv xs.length++pre)∨ ∃ c qs,pend=some c∧Jmp c qs∧q1=qs++pre) hro hg (by rw [List.append_assoc];exact hq) (fun l rec hrec=> ?_) (fun r pend q1 h=> ?_)
 · have key:=hI l (fun i=>stars (lp rec l .ready none::Inv i)) (fun A=> ∃ c qs,Jmp c qs∧A=stars (lp rec l .done (some c)::qs)) (fun i h=> ?_)
   · refine CallV.conv (pre':=stars (lp rec l .ready none::Inv 0)::pre) ?_ key ?_
     · rw [show lp rec l .ready none::(Inv 0++pre)=(lp rec l .ready none::Inv 0)++pre from rfl]
       exact Z5 _ _
     rintro e q' ⟨v,rfl,rfl|⟨A,⟨c,qs,hJ,rfl⟩,rfl⟩⟩
     · exact ⟨lp rec l .ready none::(Inv xs.length++pre),⟨v,rfl,.ready,none,_,by simp,rfl,.inl ⟨rfl,rfl⟩⟩,Zs _ _⟩
     exact ⟨lp rec l .done (some c)::(qs++pre),⟨v,rfl,.done,some c,_,by simp,rfl,.inr ⟨c,qs,rfl,hJ,rfl⟩⟩,Zs _ _⟩
   refine CallV.conv (pre':=lp rec l .ready none::(Inv i++pre)) (Zs _ _)
    (CallV.yield (R:=Ret fun v q=>(v= .bool true∧q=lp rec l .ready none::(Inv (i+1)++pre))∨(v= .bool false∧ ∃ c qs,Jmp c qs∧q=lp rec l .done (some c)::(qs++pre))) hrec hps (by simpa using hxs _ (List.getElem_mem h)) hf (fun F₀ cs₀=> ?_)) ?_
   · intro tm w hn ha s
     obtain ⟨o,tm',p',ds',cs',w',q',⟨hcs,hds,ho⟩,h1,h2,h3,h4⟩:=round i h l rec F₀ cs₀ tm w hn ha (by rw [List.append_assoc] at s;exact s)
     refine ⟨o,tm',p',ds',cs',w',q',⟨hcs,hds,?_⟩,h1,h2,h3,h4⟩
     cases o with
     |fall=>exact ⟨Inv (i+1)++pre,⟨_,rfl,.inl ⟨rfl,rfl⟩⟩,by rw [List.append_assoc];exact ho⟩
     |jump c=>obtain ⟨qs,hJ,hle⟩:=ho;exact ⟨qs++pre,⟨_,rfl,.inr ⟨rfl,c,qs,hJ,rfl⟩⟩,by rw [List.append_assoc];exact hle⟩
     |panic ch=>exact ho.elim
   rintro e q' ⟨v,rfl,⟨rfl,rfl⟩|⟨rfl,c,qs,hJ,rfl⟩⟩
   · exact ⟨stars (lp rec l .ready none::Inv (i+1))::pre,⟨_,rfl,.inl ⟨rfl,rfl⟩⟩,Z5 (lp rec l .ready none::Inv (i+1)) pre⟩
   exact ⟨stars (lp rec l .done (some c)::qs)::pre,⟨_,rfl,.inr ⟨rfl,_,⟨c,qs,hJ,rfl⟩,rfl⟩⟩,Z5 (lp rec l .done (some c)::qs) pre⟩
 rcases h with ⟨rfl,rfl⟩|⟨c,qs,rfl,hJ,rfl⟩
 · have:=cont r;rw [←List.append_assoc] at this;exact this
 have:=contJ r c qs hJ;rw [←List.append_assoc] at this;exact this
theorem Db {fn:FuncId}{R:Ug}{F:List HP}{u:FrameMode}{p:PE}{q q':List HP}{r:Nat}(h:Lv P G fn R F ds u p q')(hu:u≠ .run:=by simp)(hq:Le q (pto r (.deferred (some []))::q'):=by exact Zk):Lv P G fn R F (markD r::ds) u p q:=Lv.mark hu hq h
end
end Wx
namespace Wx
open Go Go.RowKit
section
variable {α β:Type}{h:α→HP}{l:List α}{q:List HP}
theorem V5 (A:HP)(l:List HP)(q:List HP):Le (A::stars l::q) (stars (A::l)::q):=Le.fuse _ _ _
theorem Rv (A:HP)(l:List HP)(q:List HP):Le (stars (A::l)::q) (A::stars l::q):=Le.split _ _ _
theorem W5 (q:List HP):Le q (stars []::q):=fun _ k p=>⟨fun _=>none,k,fun _=> .inl rfl,fun _ _ e=>by simp at e,.refl _,trivial,p⟩
theorem Kl (a b:List HP)(q:List HP):Le (stars a::stars b::q) (stars (a++b)::q):=by
 refine (Zs a _).trans ?_;refine Le.trans (b:=a++(b++q)) (Le.append_left a (Zs b q)) ?_
 rw [←List.append_assoc];exact Z5 _ _
theorem Ht (a b:List HP)(q:List HP):Le (stars (a++b)::q) (stars a::stars b::q):=by
 refine (Zs (a++b) q).trans ?_
 rw [List.append_assoc]
 exact (Le.append_left a (Z5 b q)).trans (Z5 a _)
theorem Le.focus (h:α→HP){l:List α}{i:Nat}(hi:i<l.length)(q:List HP):Le (stars (l.map h)::q) (h l[i]::stars ((l.eraseIdx i).map h)::q):=by
 have e:l.map h=(l.take i).map h++(h l[i]::(l.drop (i+1)).map h):=by
  conv=>lhs;rw [←List.take_append_drop i l,List.drop_eq_getElem_cons hi]
  rw [List.map_append,List.map_cons]
 have e2:(l.eraseIdx i).map h=(l.take i).map h++(l.drop (i+1)).map h:=by rw [List.eraseIdx_eq_take_drop_succ,List.map_append]
 rw [e,e2]
 refine (Ht _ _ q).trans ?_;refine (Le.cons _ (Rv _ _ q)).trans ?_;exact (Le.swap _ _ _).trans (Le.cons _ (Kl _ _ q))
theorem Ms (h:α→HP){l:List α}{i:Nat}(hi:i<l.length)(x:α)(q:List HP):Le (h x::stars ((l.eraseIdx i).map h)::q) (stars ((l.set i x).map h)::q):=by
 have e:(l.set i x).map h=(l.take i).map h++(h x::(l.drop (i+1)).map h):=by
  rw [List.set_eq_take_append_cons_drop,if_pos hi];simp
 have e2:(l.eraseIdx i).map h=(l.take i).map h++(l.drop (i+1)).map h:=by rw [List.eraseIdx_eq_take_drop_succ,List.map_append]
 rw [e,e2]
 refine (Le.cons _ (Ht _ _ q)).trans ?_;refine (Le.swap _ _ _).trans ?_;exact (Le.cons _ (V5 _ _ q)).trans (Kl _ _ q)
theorem Le.stars_snoc (h:α→HP)(l:List α)(x:α)(q:List HP):Le (stars (l.map h)::h x::q) (stars ((l++ [x]).map h)::q):=by
 rw [List.map_append]
 refine Le.trans (Le.cons _ ?_) (Kl _ _ q);exact (Le.cons _ (W5 q)).trans (V5 _ _ q)
theorem Fo (h:α→HP)(x:α)(hx: ∀ q,Le q (h x::q))(n:Nat)(q:List HP):Le q (stars ((List.replicate n x).map h)::q):=by
 induction n with
 |zero=>exact W5 q
 |succ n ih=>
  rw [List.replicate_succ,List.map_cons]
  exact ih.trans ((hx _).trans (V5 _ _ q))
theorem Sees.star {h:α→HP}{l:List α}{i:Nat}(hi:i<l.length){a:Option Addr}{vs:List Value}(hs: ∀ q,Sees (h l[i]::q) a vs)(q:List HP):Sees (stars (l.map h)::q) a vs:=
 (hs _).le (Le.focus h hi q)
end
theorem X.turn {P:Program}{G:World}{f:Fc}{Q:Yr}{todo:List Item}{p:PE}{ds:List Deferred}{cs:List Frame}{q q':List HP}(h: ∀ w,St G w q→St G w q')(x:X P G f Q todo p ds cs q'):X P G f Q todo p ds cs q:=fun tm w hn ag s=>x tm w hn ag (h w s)
end Wx
