/- Contracts. -/
import Derived.Test.YtflkjkhijcdbaaaGreatNa
import Derived.Recover
import Derived.ChangeArms
import Derived.OpenShut
import Derived.DataReads
import Derived.Laws.IdiomStrings
import Derived.Laws.MakeOwn
import Derived.WideShapes
import Derived.ChangeKeysEq
import Derived.MapKept
import Derived.LaidEqlPtr
set_option maxHeartbeats 16000000
set_option linter.all false
namespace Wx
open Go Go.RowKit
section
variable {P:Program}{G:World}{q pre:List HP}{v:Value}{vs:List Value}{ds:List Deferred}{u:FrameMode}{p:PE}{fd:Func}
def CallD (P:Program)(G:World)(fn:FuncId)(vs:List Value)(u:FrameMode)(pre:List HP)(R:Ending->FrameMode->List HP->Prop):Prop:=
 ∀ (F:List HP) w,St G w (pre++F)->CallsD P fn vs.toArray u w fun e u' w'=>e≠ .outgrown/\ ∃ q,R e u' q/\St G w' (q++F)
def DQ (P:Program)(G:World)(fd:Func)(c₀:Frame)(cs₀:List Frame)(R:Ending->FrameMode->List HP->Prop)(F:List HP):Yn:=fun o p ds cs q=>
 ds= []/\ ∃ u',cs= { c₀ with mode:=u' } ::cs₀/\match o with
 | .fall| .jump .ret=> ∃ v q',(∀ tm w,Agr tm p->St G w q->(results fd tm).run P w= .ok v w)/\R (.returned v) u' q'/\Le q (q'++F)
 | .panic ch=> ∃ q',R (.panicked ch) u' q'/\Le q (q'++F)
 |_=>False
section
variable {fn:FuncId}{R:U5}{F:List HP}
theorem Lv.defer {fv:Fn}{cap args:Array Value}{f:FuncId}{F₀:List HP}{R₀:Ending->FrameMode->List HP->Prop}(hu:u≠ .run)
 (hi: ∀ w,(invoke (.fn fv cap) args).run P w= .ok (.enter f vs.toArray) w) (hc:CallD P G f vs u pre R₀) (hq:Le q (pre++F₀))  (hf:P.funcs[fn]? =some fd)
 (hr: ∀ v u' q',R₀ (.returned v) u' q'->Lv P G fn R F ds (settle u') p (q'++F₀)) (hp: ∀ ch u' q',R₀ (.panicked ch) u' q'->Lv P G fn R F ds (raised u' ch) p (q'++F₀)):
 Lv P G fn R F ({ target:= .fn fv cap,args:=args } ::ds) u p q:=by
 intro tm w fr cs h1 h2 h3 h4 h5 ag s;have o:=step_defer (P:=P) (cs:=cs) (w:=w) (fr:=fr) (d:= { target:= .fn fv cap,args:=args }) (ds:=ds) (h4 ▸ hu) h3 rfl (hi w);obtain ⟨e,u',w',a0,⟨x,q',hR,r⟩,g,hk,t⟩:=hc F₀ w (s.le hq) { fr with defers:=ds } cs h4
 cases e with
 |returned v=>
  have m:=step_going_returned (c:= { { fr with defers:=ds } with mode:=u' }) (cs:=cs) hk t;obtain ⟨z,h,n,i,l,b,a,j,k,y⟩:=hr v u' q' hR tm w' { { { fr with defers:=ds } with mode:=u' } with mode:=settle u' } cs h1 h2 rfl rfl h5 ag r;exact ⟨z,h,n,i,l,b,a,(Steps.head o (Steps.trans g (.one m))).trans j,k,y⟩
 |panicked ch=>
  have m:=step_going_panicked (c:= { { fr with defers:=ds } with mode:=u' }) (cs:=cs) t;obtain ⟨z,h,n,i,l,b,a,j,k,y⟩:=hp ch u' q' hR tm w' { { { fr with defers:=ds } with mode:=u' } with mode:=raised u' ch } cs h1 h2 rfl rfl h5 ag r;exact ⟨z,h,n,i,l,b,a,(Steps.head o (Steps.trans g (.one m))).trans j,k,y⟩
 |outgrown=>exact aR rfl x
theorem CallD.of {c:Code}{n:Nat}{R:Ending->FrameMode->List HP->Prop}(hf:P.funcs[fn]? =some fd)(hn:fd.ntmps=n)(hb:fd.body=some c)
 (h: ∀ F c₀ cs₀,c₀.mode=u->X P G ⟨fn,n,.deferred,none⟩ (DQ P G fd c₀ cs₀ R F) [.code c] (Gy 0 vs) [] (c₀::cs₀) (pre++F)) (hl:Nat.ble vs.length n=true:=by rfl):CallD P G fn vs u pre R:=by
 intro F w s c₀ cs₀ x;subst hn;have z:vs.length<=fd.ntmps:=by simpa using hl
 obtain ⟨o,b,p',a0,b0,e,q',⟨rfl,i,rfl,p⟩,y,t,j,a⟩:=h F c₀ cs₀ x (vs.toArray++Array.replicate (fd.ntmps - vs.length) undef) w (by simp;omega) (P3 vs _) s
 have f:Frame.enter P fn vs.toArray .deferred=Fc.fr ⟨fn,fd.ntmps,.deferred,none⟩ (vs.toArray++Array.replicate (fd.ntmps - vs.length) undef) [] [.code c]:=by
  simp [Frame.enter,Fc.fr,hf,hb]
 rw [<-f] at a
 cases o with
 |fall=>
  obtain ⟨v,d,q,m,l⟩:=p
  have r:step P (lone (Fc.fr ⟨fn,fd.ntmps,.deferred,none⟩ b [] []) ({ c₀ with mode:=i } ::cs₀) e)= .next (lone { Fc.fr ⟨fn,fd.ntmps,.deferred,none⟩ b [] [] with mode:= .returning } ({ c₀ with mode:=i } ::cs₀) e):=
   step_lone_go (by simp [stepG,stepG.exec,Fc.fr])
  exact ⟨.returned v,i,e,_,⟨by simp,d,m,j.le l⟩,a.trans (.one r),rfl,rfl,rfl,fd,hf,q b e t j⟩
 |jump c'=>
  obtain ⟨k,g,a⟩:=a
  cases c' with
  |ret=>
   obtain ⟨v,d,q,m,l⟩:=p
   have r:step P (lone (Fc.fr ⟨fn,fd.ntmps,.deferred,none⟩ b [] (.code .ret::k)) ({ c₀ with mode:=i } ::cs₀) e)= .next (lone { Fc.fr ⟨fn,fd.ntmps,.deferred,none⟩ b [] (.code .ret::k) with mode:= .returning } ({ c₀ with mode:=i } ::cs₀) e):=
    step_lone_go (by simp [stepG,stepG.exec,Fc.fr])
   exact ⟨.returned v,i,e,_,⟨by simp,d,m,j.le l⟩,a.trans (.one r),rfl,rfl,rfl,fd,hf,q b e t j⟩
  |_=>exact p.elim
 |panic ch=>
  obtain ⟨k,a⟩:=a;obtain ⟨d,m,l⟩:=p;exact ⟨.panicked ch,i,e,_,⟨by simp,d,m,j.le l⟩,a,rfl,rfl,rfl,fd,hf⟩
end
section
variable {f:Fc}{Q:Yn}{ops:List Oper}{k:List Item}{cs:List Frame}{rest:List Oper}{d:Option Tmp}{ty:TypeId}{pos:String}{af:Array Edge}{gd:Option (Nat×Bool)}{x:Operand}
theorem Pn.panic {t:TypeId}(hx:evp p x=some (.iface t v)):Pn P G p q ⟨d,.panic x,ty,pos,af,gd⟩ (.iface t v):=fun tm w a s=>
 ⟨w,by simp [execOp,Zh a hx,Instr.panic,goPanic],s⟩
theorem XO.recover_ {ats:Array TypeId}{cs':List Frame}(hk:f.kind= .deferred)(hro:f.round=none)(hrec:(recoverD cs).getD (.nilIface,cs)=(v,cs'))(hd:dOk f.n d=true)
 (x:XO P G f Q ops.toArray k rest (Uc p d v) ds cs' q) (hw:Wt ops p ⟨d,.call ⟨.builtin .recover,#[],ats⟩,ty,pos,af,gd⟩=some true:=by rfl):
 XO P G f Q ops.toArray k (⟨d,.call ⟨.builtin .recover,#[],ats⟩,ty,pos,af,gd⟩::rest) p ds cs q:=by
 intro is h tm w n a s
 cases is with
 |nil=>simp at h
 |cons i r=>
  obtain ⟨u,m⟩:=fV h;obtain ⟨o',l,p',o,j,z,q',hQ,hn,ha,hs,t⟩:=x r m (Y8 tm d v) w (by rw [Yk];exact n) (a.put (n ▸ hd)) s;refine ⟨o',l,p',o,j,z,q',hQ,hn,ha,hs,t.head (.one (step_lone_go ?_))⟩;rw [Qq f tm ds cs w _ i r k u (Yh a hw) (by intro _ h;cases h)];have e:=Ve f tm ds _ i r k v u;have b:tryRecover (f.fr tm ds (.inRegion ops.toArray (i::r)::k)) cs=recoverD cs:=tryRecover_deferred hk cs;have c:(f.fr tm ds (.inRegion ops.toArray (i::r)::k)).roundOf=none:=hro;have g:(execOp (evA tm) ⟨d,.call ⟨.builtin .recover,#[],ats⟩,ty,pos,af,gd⟩).run P w= .ok .recover w:=by simp [execOp,resolve,invoke,builtin]
  simp only at e;rw [<-e]
  cases hc:recoverD cs with
  |none=>
   rw [hc] at hrec b;simp at hrec;obtain ⟨rfl,rfl⟩:=hrec;simp [stepG.apply,g,b,c]
  |some y=>
   rw [hc] at hrec b;simp at hrec;subst hrec;simp [stepG.apply,g,b,c]
theorem XO.defer_ {fo:Operand}{args:List Operand}{ats:Array TypeId}{fv:Value}{D:Deferred}(hro:f.round=none)(hf:evp p fo=some fv)(hv:evl p args=some vs)(hD: ∀ w,(Deferred.ofValue fv vs.toArray).run P w= .ok D w)(hd:dOk f.n d=true)
 (x:XO P G f Q ops.toArray k rest (Uc p d undef) (D::ds) cs q) (hw:Wt ops p ⟨d,.defer ⟨.value fo,args.toArray,ats⟩,ty,pos,af,gd⟩=some true:=by rfl):
 XO P G f Q ops.toArray k (⟨d,.defer ⟨.value fo,args.toArray,ats⟩,ty,pos,af,gd⟩::rest) p ds cs q:=by
 intro y h tm w n a s
 cases y with
 |nil=>simp at h
 |cons i r=>
  obtain ⟨o,j⟩:=fV h;obtain ⟨v,e,p',l,c,u,q',hQ,hn,ha,z,m⟩:=x r j (Y8 tm d undef) w (by rw [Yk];exact n) (a.put (n ▸ hd)) s;refine ⟨v,e,p',l,c,u,q',hQ,hn,ha,z,m.head (.one (step_lone_go ?_))⟩;have b:=Ve f tm (D::ds) _ i r k undef o;simp only at b;rw [<-b];have h1:=Zh a hf;have h2:args.toArray.map (evA tm)=vs.toArray:=by rw [<-H0 a hv];simp
  have t:(f.fr tm ds (.inRegion ops.toArray (i::r)::k)).eval=evA tm:=funext fun x=>Jy ..
  simp only [Fc.fr,hro] at t;have g:=Yh a hw;simp only [stepG,stepG.exec,stepG.oper,Frame.oper?,Fc.fr,o,g,t,gJ,jO,if_true,hro];simp [stepG.apply,execOp,resolve,h1,h2,hD,Fc.fr]
end
end
section
variable {G₀ w:World}{base:Nat}{P:Program}{spare:Nat->Bool}{held:Bool}
def old (G₀:World):HP:=⟨fun M _=>Hle (wh G₀) M,fun h _ p=>fun b o e=>h b o (p b o e)⟩
theorem St.old (G:World):St G G [Wx.old G]:=
 ⟨.refl _ _,wh G,fun _=>none,.refl _,fun _ _ e=>by simp at e,fun _ _ e=>by simp at e,fun _=> .inr rfl,.refl _,
  fun _=>none,fun _=>none,fun _=> .inl rfl,fun _ _ e=>by simp at e,fun _ _ e=>by simp at e,.refl _,trivial⟩
inductive Sh where
 |bool
 |int (k:IntKind)
 |str
 |slice (e:Sh)
 |nil
 |cons (a b:Sh)
structure SlV (α:Type) where
 a:Option Addr
 c:Nat
 l:List α
@[reducible] def Sh.T:Sh->Type
 | .bool=>Bool
 | .int _=>Int
 | .str=>ByteArray
 | .slice e=>SlV e.T
 | .nil=>Unit
 | .cons a b=>a.T×b.T
def Sh.sz:Sh->Nat
 | .bool=>1
 | .int _=>1
 | .str=>1
 | .slice _=>1
 | .nil=>0
 | .cons a b=>a.sz+b.sz
def Sh.cells:(s:Sh)->s.T->List Value
 | .bool,b=> [.bool b]
 | .int k,n=> [.int k n]
 | .str,s=> [.string s]
 | .slice _,x=> [.slice x.a x.l.length x.c]
 | .nil,_=> []
 | .cons a b,x=>a.cells x.1++b.cells x.2
theorem Ty (s:Sh)(v:s.T):(s.cells v).length=s.sz:=by
 induction s with
 |cons a b iha ihb=>simp [Sh.cells,Sh.sz,iha,ihb]
 |_=>simp [Sh.cells,Sh.sz]
def SeesW (w:World)(a:Option Addr)(vs:List Value):Prop:= ∀ i u,vs[i]? =some u-> ∃ b o,a=some ⟨b,o,none⟩/\w.cell? ⟨b,o+i,none⟩=some u
def Sh.ok (w:World):(s:Sh)->s.T->Prop
 | .bool,_=>True
 | .int k,n=>(Lit.int k n).wf=true
 | .str,s=>s.size<=maxLen
 | .slice e,x=>x.l.length<=x.c/\x.c<=maxLen/\(x.a=none->x.c=0)/\SeesW w x.a (x.l.flatMap e.cells)/\ ∀ y∈x.l,e.ok w y
 | .nil,_=>True
 | .cons a b,x=>a.ok w x.1/\b.ok w x.2
def Sh.okQ (q:List HP):(s:Sh)->s.T->Prop
 | .bool,_=>True
 | .int k,n=>(Lit.int k n).wf=true
 | .str,s=>s.size<=maxLen
 | .slice e,x=>x.l.length<=x.c/\x.c<=maxLen/\(x.a=none->x.c=0)/\Sees q x.a (x.l.flatMap e.cells)/\ ∀ y∈x.l,e.okQ q y
 | .nil,_=>True
 | .cons a b,x=>a.okQ q x.1/\b.okQ q x.2
theorem SeesW.sees {a:Option Addr}{vs:List Value}(h:SeesW G₀ a vs)(q:List HP):Sees (Wx.old G₀::q) a vs:=by
 intro G w s i u m;obtain ⟨b,o,r,f⟩:=h i u m;refine ⟨b,o,r,?_⟩;obtain ⟨_,M,h,t,_,_,_,_,k,j,_,_,_,p,_⟩:=s;have p':Hle (wh G₀) M:=p
 have g: ∃ d,G₀.heap[b]? =some d/\(match d with| .cells c _ _=>c[o+i]? =some u|_=>False):=by
  simp only [World.cell?] at f;split at f
  . rename_i c e z n;exact ⟨_,n,by simpa using f⟩
  cases f
 obtain ⟨d,x,l⟩:=g;have v:w.heap[b]? =some d:=t _ _ (p' _ _ x)
 cases d with
 |cells c e z=>simp [World.cell?,v];exact l
 |_=>exact l.elim
theorem Sh.ok.okQ (q:List HP): ∀ {s:Sh} {v:s.T},s.ok G₀ v->s.okQ (Wx.old G₀::q) v:=by
 intro s
 induction s with
 |slice e ih=>exact fun ⟨d,c,j,i,g⟩=>⟨d,c,j,i.sees q,fun y f=>ih (g y f)⟩
 |cons a b iha ihb=>exact fun ⟨d,c⟩=>⟨iha d,ihb c⟩
 |_=>exact fun h=>h
def Sh.fits (P:Program):Sh->(TypeId ⊕ List Field×Nat)->Bool
 | .bool,.inl t=>match P.underlying t with|some .bool=>true|_=>false
 | .int k,.inl t=>match P.underlying t with|some (.int k')=>decide (k'=k)|_=>false
 | .str,.inl t=>match P.underlying t with|some .string=>true|_=>false
 | .slice e,.inl t=>match P.underlying t with|some (.slice e')=>e.fits P (.inl e') && Nat.beq (P.cellsOf e') e.sz|_=>false
 | .nil,.inl t=>match P.underlying t with|some (.struct fs)=>fs.toList.isEmpty && Nat.beq (P.cellsOf t) 0|_=>false
 | .nil,.inr (fs,_)=>fs.isEmpty
 | .cons a b,.inl t=>match P.underlying t with
  |some (.struct fs)=>Nat.beq (P.cellsOf t) (a.sz+b.sz) && match fs.toList with
   |f::r=>Nat.beq f.offset 0 && a.fits P (.inl f.type) && Nat.beq (P.cellsOf f.type) a.sz && b.fits P (.inr (r,a.sz))
   | []=>false
  |_=>false
 | .cons a b,.inr (fs,o)=>match fs with
  |f::r=>Nat.beq f.offset o && a.fits P (.inl f.type) && Nat.beq (P.cellsOf f.type) a.sz && b.fits P (.inr (r,o+a.sz))
  | []=>false
 |_,.inr _=>false
theorem Pd {α:Type}{n:Nat}{Q:Nat->α->Prop}(h: ∀ i,i<n-> ∃ y,Q i y): ∃ l:List α,l.length=n/\ ∀ i u,l[i]? =some u->Q i u:=by
 induction n with
 |zero=>exact ⟨[],rfl,by simp⟩
 |succ n ih=>
  obtain ⟨l,c,f⟩:=ih fun i b=>h i (by omega)
  obtain ⟨y,d⟩:=h n (by omega);refine ⟨l++ [y],by simp [c],fun i u a=> ?_⟩;rcases dQ i l.length with b|b
  . rw [dV b] at a;exact f i u a
  rw [cY b] at a
  have:i=n:=by
   rcases Nat.eq_or_lt_of_le (show n<=i by omega) with e|e
   . exact e.symm
   have:i - l.length=(i - l.length - 1)+1:=by omega
   rw [this] at a;simp at a
  subst this;simp [c] at a;subst a;exact d
theorem Ph {α β:Type}{f:α->List β}{sz:Nat}(hf: ∀ x,(f x).length=sz): ∀ (l:List α) (i:Nat) (u:β),(l.flatMap f)[i]? =some u->
 ∃ j k x,i=j*sz+k/\k<sz/\l[j]? =some x/\(f x)[k]? =some u:=by
 intro l
 induction l with
 |nil=>intro i u h;simp at h
 |cons y r ih=>
  intro i u h;rw [cH] at h;rcases dQ i sz with a|a
  . rw [dV (by rw [hf];exact a)] at h;exact ⟨0,i,y,by simp,a,rfl,h⟩
  rw [cY (by rw [hf];exact a),hf] at h;obtain ⟨j,k,x,e,d,b,c⟩:=ih _ _ h;exact ⟨j+1,k,x,by rw [eH];omega,d,by simpa using b,c⟩
theorem He {α β:Type}{f:α->List β}{sz:Nat}(hf: ∀ x,(f x).length=sz): ∀ (l:List α) (j k:Nat) (x:α),k<sz->l[j]? =some x->(l.flatMap f)[j*sz+k]? =(f x)[k]? :=by
 intro l
 induction l with
 |nil=>intro j k x _ h;simp at h
 |cons y r ih=>
  intro j k x a h;rw [cH]
  cases j with
  |zero=>simp at h;subst h;rw [dV (by rw [hf];omega)];simp
  |succ j=>
   have e:(j+1)*sz+k=j*sz+k+sz:=by rw [eH];omega
   rw [cY (by rw [hf];omega),hf,e,iT];exact ih j k x a (by simpa using h)
theorem Xf {H:Type}{enc:TypeId×Value->H}: ∀ (s:Sh),
 (∀ {t:TypeId} {fuel:Nat} {cs:List Value} {x:DataW H×List MemPlace},s.fits P (.inl t)=true->DataW.trod enc P w base spare held fuel t cs=some x-> ∃ v,cs=s.cells v/\s.ok w v)/\
 (∀ {fs:List Field} {off n:Nat} {cs:List Value},s.fits P (.inr (fs,off))=true->cs.length=off+s.sz->
  (∀ (i:Nat) (f:Field),fs[i]? =some f-> ∃ y,DataW.trod enc P w base spare held n f.type ((cs.drop f.offset).take (P.cellsOf f.type))=some y)-> ∃ v,cs.drop off=s.cells v/\s.ok w v):=by
 intro s
 induction s with
 |bool=>
  refine ⟨fun {t fuel cs x} c h=> ?_,fun c=>by simp [Sh.fits] at c⟩;simp only [Sh.fits] at c;split at c
  . obtain ⟨b,rfl,_⟩:=DataW.trod_bool (by assumption) h;exact ⟨b,rfl,trivial⟩
  cases c
 |int k=>
  refine ⟨fun {t fuel cs x} c h=> ?_,fun c=>by simp [Sh.fits] at c⟩;simp only [Sh.fits] at c;split at c
  . rename_i k' g;have:k'=k:=cW c;subst this;obtain ⟨n,rfl,_,hw⟩:=DataW.trod_int g h;exact ⟨n,rfl,hw⟩
  cases c
 |str=>
  refine ⟨fun {t fuel cs x} c h=> ?_,fun c=>by simp [Sh.fits] at c⟩;simp only [Sh.fits] at c;split at c
  . obtain ⟨b,rfl,_,hs⟩:=DataW.trod_string (by assumption) h;exact ⟨b,rfl,hs⟩
  cases c
 |nil=>
  refine ⟨fun {t fuel cs x} c h=> ?_,fun {fs off n cs} c d _=>⟨(),?_,trivial⟩⟩
  . simp only [Sh.fits] at c;split at c
    . rename_i fs g;obtain ⟨xs,n,_,_,d,_⟩:=DataW.trod_struct g h;simp at c;refine ⟨(),?_,trivial⟩;rw [c.2] at d;exact aK d
    cases c
  simp [Sh.sz] at d;simp [Sh.cells,d]
 |slice e ih=>
  refine ⟨fun {t fuel cs x} c h=> ?_,fun c=>by simp [Sh.fits] at c⟩;simp only [Sh.fits] at c;split at c
  . rename_i e' g;simp only [aI,Nat.beq_eq] at c;obtain ⟨j0,g0⟩:=c;rcases DataW.trod_slice g h with ⟨rfl,_⟩|⟨a,c0,l0,a0,rest,n,rfl,rfl,_,_,h0,k0,o0,b0,_,_⟩
    . exact ⟨⟨none,0, []⟩,rfl,by simp,by simp,by simp,by intro i u g;simp at g,by simp⟩
    have d0: ∀ i,i<c0-> ∃ y:e.T,w.cells? base (a.add (i*e.sz)) e.sz=some (e.cells y)/\e.ok w y:=by
     intro i hi;have hg:=b0 i hi;rw [g0] at hg;have z:i<a0.length:=by omega
     rw [aD z,Option.bind_eq_some_iff] at hg;obtain ⟨cs,h1,h2⟩:=hg;obtain ⟨y,rfl,p⟩:=ih.1 j0 h2;exact ⟨y,h1,p⟩
    obtain ⟨l,d,hq⟩:=Pd d0;refine ⟨⟨some a,l0,l⟩,by simp [Sh.cells,d],by simp [d,h0],by simpa using k0,by simp,?_,?_⟩
    . intro i u g;obtain ⟨j,k,y,rfl,hk,p,hc⟩:=Ph (Ty e) l i u g;obtain ⟨h1,_⟩:=hq j y p;obtain ⟨_,_,h2⟩:=World.cells?_some h1;have h3:=h2 k hk;rw [hc] at h3
      have m:a.spot=none:=by
       have n0:0<l.length:=by
        have:=(cI.1 p).1;omega
       obtain ⟨y0,e0⟩: ∃ y0,l[0]? =some y0:=⟨l[0],by simp⟩;obtain ⟨_,_,h4⟩:=World.cells?_some (hq 0 y0 e0).1;have h5:=h4 0 (by omega);have h6:(e.cells y0)[0]? =some ((e.cells y0)[0]'(by rw [Ty];omega)):=by simp
       rw [h6] at h5;simpa [Addr.add] using World.cell?_spot h5
      obtain ⟨b,o,m0⟩:=a;simp only at m;subst m;exact ⟨b,o,rfl,by rw [Wp,Wp] at h3;rw [<-eL];exact h3⟩
    intro y p;obtain ⟨j,hj⟩:=List.getElem?_of_mem p;exact (hq j y hj).2
  cases c
 |cons a b iha ihb=>
  have B: ∀ {fs:List Field} {off n:Nat} {cs:List Value},(Sh.cons a b).fits P (.inr (fs,off))=true->cs.length=off+(Sh.cons a b).sz->
   (∀ (i:Nat) (f:Field),fs[i]? =some f-> ∃ y,DataW.trod enc P w base spare held n f.type ((cs.drop f.offset).take (P.cellsOf f.type))=some y)-> ∃ v,cs.drop off=(Sh.cons a b).cells v/\(Sh.cons a b).ok w v:=by
   intro fs off n cs c d hx
   cases fs with
   |nil=>simp [Sh.fits] at c
   |cons f r=>
    simp only [Sh.fits,aI,Nat.beq_eq] at c;obtain ⟨⟨⟨ho,ha⟩,hs⟩,hb⟩:=c;obtain ⟨y,p⟩:=hx 0 f rfl;obtain ⟨v1,h1,k1⟩:=iha.1 ha p;obtain ⟨v2,h2,k2⟩:=ihb.2 hb (by rw [d];simp [Sh.sz];omega) (fun i f c=>hx (i+1) f (by simpa using c));refine ⟨(v1,v2),?_,k1,k2⟩;rw [hs,ho] at h1;simp only [Sh.cells];rw [<-h1,<-h2,<-fK,eS]
  refine ⟨fun {t fuel cs x} c h=> ?_,B⟩;simp only [Sh.fits] at c;split at c
  . rename_i fs g;simp only [aI,Nat.beq_eq] at c;obtain ⟨hs,c⟩:=c;obtain ⟨xs,n,_,_,d,f0,hx⟩:=DataW.trod_struct g h
    have:=B (fs:=fs.toList) (off:=0) (n:=n) (cs:=cs) (by
     cases hfs:fs.toList with
     |nil=>rw [hfs] at c;cases c
     |cons f r=>rw [hfs] at c;simpa [Sh.fits] using c) (by rw [d,hs];simp [Sh.sz]) (fun i f i0=>by
      have q:fs[i]? =some f:=by simpa using i0
      have h3:=hx i f q
      have z:i<xs.length:=by
       rw [f0];exact (iA.1 q).1
      rw [aD z] at h3;exact ⟨_,h3⟩)
    simpa using this
  cases c
theorem open_arg {H:Type}{enc:TypeId×Value->H}{t:TypeId}{v:Value}{d:DataW H}{p:List MemPlace}(s:Sh)(hf:s.fits P (.inl t)=true)
 (h:DataW.Trod enc P w base spare held t v d p): ∃ x:s.T,v.cells.toList=s.cells x/\s.ok w x:=by
 obtain ⟨a,h⟩:=h;exact (Xf s).1 hf h
end
section
variable {P:Program}{G:World}{p:PE}{q:List HP}{sz bk o n:Nat}{a b:ByteArray}{v:Value}{j:Int}{d:Option Tmp}{pos:String}{af:Array Edge}{gd:Option (Nat×Bool)}{x y:Operand}{us:List Value}
section
variable {α:Type}{fr:Fc}{Q:Yn}{k:List Item}{ds:List Deferred}{cs:List Frame}{q0 r:List HP}{ops lo:List Oper}{f:α->List Value}{ty:Nat}{a b:Option Addr}{c c':Nat}{l m:List α}
def rsH (f:α->List Value)(sz ty:Nat)(a:Option Addr)(c:Nat)(l:List α):HP:=slH a c ty sz l.length (l.flatMap f)
theorem Zx (hf: ∀ x,(f x).length=sz)(l:List α):(l.flatMap f).length=l.length*sz:=by
 induction l with
 |nil=>simp
 |cons x r ih=>rw [cH,aG,hf,ih,bG,eH];omega
theorem Ka (hf: ∀ x,(f x).length=sz)(l:List α)(i:Nat):(l.flatMap f).take (i*sz)=(l.take i).flatMap f:=by
 induction l generalizing i with
 |nil=>simp
 |cons x r ih=>
  cases i with
  |zero=>simp
  |succ i=>
   rw [cH,kF,cH,<-ih,eH,Nat.one_mul,jZ,List.take_append,hf,eO (by rw [hf];omega)];congr 2;omega
theorem Gu (hf: ∀ x,(f x).length=sz)(l:List α)(i:Nat):(l.flatMap f).drop (i*sz)=(l.drop i).flatMap f:=by
 induction l generalizing i with
 |nil=>simp
 |cons x r ih=>
  cases i with
  |zero=>simp
  |succ i=>
   rw [cH,List.drop_succ_cons,<-ih,eH,Nat.one_mul,jZ,List.drop_append,hf,List.drop_of_length_le (by rw [hf];omega)];simp
theorem Pg (hf: ∀ x,(f x).length=sz)(l:List α)(n k:Nat)(u:α)(v:Value)(hk:k<sz)(hn:n<l.length)(hu:(f l[n]).set k v=f u):(l.flatMap f).set (n*sz+k) v=(l.set n u).flatMap f:=by
 induction l generalizing n with
 |nil=>simp at hn
 |cons x r ih=>
  cases n with
  |zero=>
   rw [cH,List.set_cons_zero,cH,Nat.zero_mul,eC,List.set_append_left _ _ (by rw [hf];exact hk)];simp at hu;rw [hu]
  |succ n=>
   rw [cH,kK,cH,List.set_append_right _ _ (by rw [hf,eH];omega),hf,<-ih n (by simpa using hn) (by simpa using hu)];congr 2;rw [eH];omega
theorem Sees.rsH (q:List HP):Sees (Wx.rsH f sz ty a c l::q) a (l.flatMap f):=Sees.slH q
abbrev bE:=@Sees.rsH
theorem Zi (f:α->List Value)(sz ty:Nat)(q:List HP):Le q (Wx.rsH f sz ty none 0 []::q):=Hw _ _ _
theorem St.rsAddr {w:World}(s:St G w (Wx.rsH f sz ty a c l::q))(h:0<l.length): ∃ g,a=some ⟨g,0,none⟩:=by
 obtain ⟨j,d|⟨g,e,b,_⟩⟩:=s.slH_elim
 . obtain ⟨_,_,i,_⟩:=d;omega
 exact ⟨g,b⟩
theorem nth_lt {l:List Value}{k:Nat}(h:nth l k=some v):k<l.length:=by
 rw [Uy] at h;exact (cI.1 h).1
theorem Cl.el {k:Nat}(h:Sees q0 (some ⟨bk,o,none⟩) (l.flatMap f))(hq:Le q q0)(hf: ∀ x,(f x).length=sz)(hn:n<l.length)(hj:j=n)(hk:nth (f l[n]) k=some v):Cl q ⟨bk,o+j.toNat*sz+k,none⟩ v:=by
 subst hj;have a:=nth_lt hk;rw [fB,eL];refine (h.le hq).cl ?_;rw [He hf l n k l[n] (by rw [hf] at a;exact a) (by simp [hn]),<-Uy];exact hk
theorem Cl.elp {k:Nat}(h:Sees q0 (some ⟨bk,o,none⟩) (l.flatMap f))(hq:Le q q0)(hf: ∀ x,(f x).length=sz)(h0:0<n)(hn:n<l.length)(hk:nth (f (l[n - 1]'(Nat.lt_of_le_of_lt (Nat.sub_le _ _) hn))) k=some v):Cl q ⟨bk,o+((n:Int) - 1).toNat*sz+k,none⟩ v:=
 Cl.el h hq hf _ (by omega) hk
theorem Cl.elz {k:Nat}(h:Sees q0 (some ⟨bk,o,none⟩) (l.flatMap f))(hq:Le q q0)(hf: ∀ x,(f x).length=sz)(h0:0<l.length)(hk:nth (f (l[l.length - 1]'(Nat.sub_lt h0 Nat.one_pos))) k=some v):Cl q ⟨bk,o+((l.length:Int) - 1).toNat*sz+k,none⟩ v:=
 Cl.el h hq hf _ (by omega) hk
theorem Cl.e1z {g:α->Value}(h:Sees q0 (some ⟨bk,o,none⟩) (l.map g))(hq:Le q q0)(h0:0<l.length):Cl q ⟨bk,o+((l.length:Int) - 1).toNat*1,none⟩ (g (l[l.length - 1]'(Nat.sub_lt h0 Nat.one_pos))):=(h.le hq).at (by omega) _
theorem Cl.e1 {g:α->Value}(h:Sees q0 (some ⟨bk,o,none⟩) (l.map g))(hq:Le q q0)(hn:n<l.length)(hj:j=n):Cl q ⟨bk,o+j.toNat*1,none⟩ (g l[n]):=(h.le hq).at hj hn
abbrev jN:=@Cl.e1
theorem Cl.e1p {g:α->Value}(h:Sees q0 (some ⟨bk,o,none⟩) (l.map g))(hq:Le q q0)(h0:0<n)(hn:n<l.length):Cl q ⟨bk,o+((n:Int) - 1).toNat*1,none⟩ (g (l[n - 1]'(Nat.lt_of_le_of_lt (Nat.sub_le _ _) hn))):=(h.le hq).at (by omega) _
theorem Cl.row (h:Sees q0 (some ⟨bk,o,none⟩) (l.flatMap f))(hq:Le q q0)(hf: ∀ x,(f x).length=sz)(hn:n<l.length)(hj:j=n)(k:Nat)(v:Value)(hk:(f l[n])[k]? =some v):Cl q ⟨bk,o+j.toNat*sz+k,none⟩ v:=
 Cl.el h hq hf hn hj (by rw [Uy];exact hk)
abbrev cT:=@Cl.row
section
variable {ty':TypeId}{t:TypeId}{z:Value}{bytes i:Nat}
theorem Rd.loadCs {A:Addr}(hx:evp p x=some (.pointer (some A)))(ht: ∀ w,(isAgg t).run P w= .ok true w)(hs: ∀ w,(Go.sizeOf t).run P w= .ok sz w)
 (hl:us.length=sz) (hc: ∀ (k:Nat) (v:Value),us[k]? =some v->Cl q (A.add k) v):Rd P G p q ⟨d,.load t x,ty',pos,af,gd⟩ (.agg us.toArray):=fun tm w b s=>by
 have hc:=run_loadCells_list (P:=P) w A us (fun j u a=>hc j u a G w s);rw [hl] at hc;simp [execOp,Zh b hx,Instr.loadAt,Instr.sureAddr,loadVar,ht,hs,hc]
theorem Rd.loadS (hx:evp p x=some (.pointer (some ⟨bk,o+j.toNat*sz,none⟩)))(ht: ∀ w,(isAgg t).run P w= .ok true w)(hs: ∀ w,(Go.sizeOf t).run P w= .ok sz w)
 (h:Sees q0 (some ⟨bk,o,none⟩) (l.flatMap f)) (hf: ∀ x,(f x).length=sz) (hn:n<l.length) (hj:j=n) (hq:Le q q0):Rd P G p q ⟨d,.load t x,ty',pos,af,gd⟩ (.agg (f l[n]).toArray):=
 .loadCs hx ht hs (hf _) fun k v a=>by rw [Wp];exact cT h hq hf hn hj k v a
theorem oneCells (h:us.all (·.oneCell')=true): ∀ u∈us,u.oneCell'=true:=fun u a=>by simpa using (cC.1 h) u a
theorem Ef.appR (ht:P.underlying t=some (.slice ty))(hi:(P.info? ty).map (fun i=>(i.zero,i.size,i.bytes))=some (some z,sz,bytes))(hz:z.cells.size=sz)(hsz:Nat.blt 0 sz=true)(hf: ∀ x,(f x).length=sz)
 (hx:evp p x=some (.slice a i c)) (hy:evp p y=some (.slice b m.length c')) (hq:Le q (Wx.rsH f sz ty a c l::r)) (hin:i<=l.length) (hs:Sees q b (m.flatMap f)) (h1: ∀ x,(f x).all (·.oneCell')=true)
 (h63:i+m.length<=9223372036854775807) (hby:(i+m.length)*bytes<=140737488355328):
 Ef P G p q ⟨d,.call ⟨.builtin .append, [x,y].toArray, [t,t].toArray⟩,ty',pos,af,gd⟩ fun v q'=> ∃ a' c',v= .slice a' (l.take i++m).length c'/\q'=Wx.rsH f sz ty a' c' (l.take i++m)::r:=by
 have h:=Ef.append (P:=P) (G:=G) (d:=d) (ty:=ty') (pos:=pos) (af:=af) (gd:=gd) ht hi hz hsz hx hy hq hin hs (Zx hf m) (by intro u k;obtain ⟨w,_,j⟩:=List.mem_flatMap.1 k;exact oneCells (h1 w) u j) h63 hby;intro tm w o s;obtain ⟨v,g,q',h1,n,a',c',rfl,rfl⟩:=h tm w o s;have e:(l.take i++m).length=i+m.length:=by simp;omega
 refine ⟨_,g,_,h1,?_,a',c',by rw [e],rfl⟩;unfold Wx.rsH;rw [e,iI,<-Ka hf];simpa using n
theorem Z9 (ht:P.underlying t=some (.slice ty))(hi:(P.info? ty).map (fun i=>(i.zero,i.size,i.bytes))=some (some z,sz,bytes))(hz:z.cells.size=sz)(hsz:Nat.blt 0 sz=true)(hf: ∀ x,(f x).length=sz)
 (hx:evp p x=some (.slice a l.length c)) (hy:evp p y=some (.slice b m.length c')) (hq:Le q (Wx.rsH f sz ty a c l::r)) (hs:Sees q b (m.flatMap f)) (h1: ∀ x,(f x).all (·.oneCell')=true)
 (h63:l.length+m.length<=9223372036854775807) (hby:(l.length+m.length)*bytes<=140737488355328):
 Ef P G p q ⟨d,.call ⟨.builtin .append, [x,y].toArray, [t,t].toArray⟩,ty',pos,af,gd⟩ fun v q'=> ∃ a' c',v= .slice a' (l++m).length c'/\q'=Wx.rsH f sz ty a' c' (l++m)::r:=by
 have h:=Ef.appR (P:=P) (G:=G) (d:=d) (ty':=ty') (pos:=pos) (af:=af) (gd:=gd) ht hi hz hsz hf hx hy hq (aL _) hs h1 h63 hby;simpa using h
theorem Yz {u:α}(f:α->List Value)(ht:P.underlying t=some (.slice ty))(hi:(P.info? ty).map (fun i=>(i.zero,i.size,i.bytes))=some (some z,sz,bytes))(h0:Nat.ble sz 16777216=true)(hn:Nat.blt 0 sz=true)
 (hf: ∀ x,(f x).length=sz) (hx:evp p x=some (.agg (f u).toArray)):
 Ef P G p q ⟨d,.buildSlice t 1 [(0,x)].toArray,ty',pos,af,gd⟩ fun v q'=> ∃ g,v= .slice (some ⟨g,0,none⟩) 1 1/\q'=Wx.rsH f sz ty (some ⟨g,0,none⟩) 1 [u]::q:=by
 have j:(Value.agg (f u).toArray).cells=(f u).toArray:=rfl
 have b: ∀ (us:List Value) (n:Nat) (pre post:List Value),pre.length=n->post.length=us.length->(us.zipIdx n).foldl (fun cs (c,i)=>cs.setIfInBounds (0*sz+i) c) (pre++post).toArray=(pre++us).toArray:=by
  intro us
  induction us with
  |nil=>intro n pre post _ h;have:=aK h;subst this;simp
  |cons u r ih=>
   intro n pre post e h
   obtain ⟨x,post,rfl⟩: ∃ x l,post=x::l:=by cases post with
    |nil=>cases h
    |cons x l=>exact ⟨x,l,rfl⟩
   subst e;rw [List.zipIdx_cons,iN];have:=ih (pre.length+1) (pre++ [u]) post (by simp) (by simpa using h);simp only [aA,fS] at this;simpa using this
 have a:Instr.fill (fun i=>some (i*sz,sz)) ((Array.range (1*sz)).map (z.cells[· % z.cells.size]!)) (([(0,x)].map (·.1)).zip [Value.agg (f u).toArray])=some (f u).toArray:=by
  have:=b (f u) 0 [] ((Array.range (1*sz)).map (z.cells[· % z.cells.size]!)).toList rfl (by simp [hf]);simp only [aT,jX] at this;simp only [bP,eM,fO,List.zip_nil_left,List.zip_nil_right,Instr.fill,j];rw [if_neg (by simp [hf])];congr 1;refine Eq.trans ?_ this;simp
 have:=jM (P:=P) (G:=G) (p:=p) (q:=q) (d:=d) (ty:=ty') (pos:=pos) (af:=af) (gd:=gd) (ps:= [(0,x)]) (len:=1) ht hi (us:= [.agg (f u).toArray]) (by simp [evl,hx]) (by simpa using h0) (by simpa using hn) a (by simp [hf]);simpa [Wx.rsH] using this
theorem Qs (f:α->List Value)(ht:P.underlying t=some (.slice ty))(hi:(P.info? ty).map (fun i=>(i.zero,i.size,i.bytes))=some (some z,sz,bytes)):
 Ef P G p q ⟨d,.buildSlice t 0 #[],ty',pos,af,gd⟩ fun v q'=> ∃ g,v= .slice (some ⟨g,0,none⟩) 0 0/\q'=Wx.rsH f sz ty (some ⟨g,0,none⟩) 0 []::q:=
 H8 ht hi
theorem Yr {u:α}{g k:Nat}(hx:evp p x=some (.pointer (some ⟨g,0+j.toNat*sz+k,none⟩)))(hy:evp p y=some v)(hsz: ∀ w,(Go.sizeOf t).run P w= .ok 1 w)(hf: ∀ x,(f x).length=sz)
 (hj:j=n) (hn:n<l.length) (hk:Nat.blt k sz=true) (hu:(f l[n]).set k v=f u) (hv:v.cells= #[v]) (h1:v.oneCell'=true) (hq:Le q (Wx.rsH f sz ty (some ⟨g,0,none⟩) c l::r)):
 Ef P G p q ⟨d,.store t x y,ty',pos,af,gd⟩ fun z q'=>z=undef/\q'=Wx.rsH f sz ty (some ⟨g,0,none⟩) c (l.set n u)::r:=by
 subst hj;rw [fB,eC] at hx;have e:k<sz:=by simpa [dY] using hk
 intro tm w ag s;obtain ⟨h0,h2|⟨g',a,q1,i,q3,h,q5,o⟩⟩:=(s.le hq).slH_elim
 . obtain ⟨_,_,h3,_⟩:=h2;omega
 cases q1
 have b:n*sz+k<l.length*sz:=by
  have:=eJ sz (show n+1<=l.length from hn);rw [eH,Nat.one_mul] at this;omega
 have hc:n*sz+k<a.size:=by rw [h];exact Nat.lt_of_lt_of_le b (eJ _ i)
 obtain ⟨z,m,q',hr,hs,rfl,rfl⟩:=Ef.store (G:=G) (d:=d) (ty:=ty') (pos:=pos) (af:=af) (gd:=gd) (q:=pto g (.cells a.toList.toArray ty (0,0))::r) hx hy hsz hv h1 (Le.here _ _) (by simpa [dY] using hc) tm w ag (by simpa using o);refine ⟨_,m,_,hr,?_,rfl,rfl⟩;have hl:(l.set n u).length=l.length:=by simp
 unfold Wx.rsH;rw [hl];refine hs.le (Y6 i q3 (by simp [Ns,h]) ?_ r);rw [Ns,<-Pg hf l n k u v e hn hu,<-q5];simp [List.take_set]
end
end
section
variable {ty:TypeId}{kd ky:IntKind}{m n:Int}{t t':TypeId}
theorem Pu.and (hx:evp p x=some (.int kd m))(hy:evp p y=some (.int kd n)):Pu P p ⟨d,.binOp .and t x y t',ty,pos,af,gd⟩ (.int kd (kd.wrap ((BitVec.ofInt kd.bits m &&& BitVec.ofInt kd.bits n).toNat:Int))):= .int hx hy (fun w=>by simp [Go.binOp,Op.intBits])
theorem Pu.or (hx:evp p x=some (.int kd m))(hy:evp p y=some (.int kd n)):Pu P p ⟨d,.binOp .or t x y t',ty,pos,af,gd⟩ (.int kd (kd.wrap ((BitVec.ofInt kd.bits m|||BitVec.ofInt kd.bits n).toNat:Int))):= .int hx hy (fun w=>by simp [Go.binOp,Op.intBits])
theorem Pu.shl (hx:evp p x=some (.int kd m))(hy:evp p y=some (.int ky n))(h0:0<=n):Pu P p ⟨d,.binOp .shl t x y t',ty,pos,af,gd⟩ (.int kd (kd.wrap (m*2 ^ min n.toNat kd.bits))):=
 fun tm w a=>by
  have b: ¬n<0:=by omega
  simp [execOp,Zh a hx,Zh a hy,eqGuard,Go.binOp,Op.shift,b]
theorem Pu.eqlS (hx:evp p x=some (.string a))(hy:evp p y=some (.string b)):Pu P p ⟨d,.binOp .eql t x y t',ty,pos,af,gd⟩ (.bool (a.toList==b.toList)):=fun tm w c=>by
 simp [execOp,Zh c hx,Zh c hy,eqGuard,Go.binOp,Op.stringOp]
theorem Pu.neqS (hx:evp p x=some (.string a))(hy:evp p y=some (.string b)):Pu P p ⟨d,.binOp .neq t x y t',ty,pos,af,gd⟩ (.bool !(a.toList==b.toList)):=fun tm w c=>by
 simp [execOp,Zh c hx,Zh c hy,eqGuard,Go.binOp,Op.stringOp]
theorem Pu.lenS {s:ByteArray}{ats:List TypeId}(hx:evp p x=some (.string s))(ht:P.underlying t=some .string):Pu P p ⟨d,.call ⟨.builtin .len, [x].toArray,(t::ats).toArray⟩,ty,pos,af,gd⟩ (.int .i64 s.size):=
 fun tm w a=>by simp [execOp,resolve,invoke,builtin,Zh a hx,Builtin.len_,run_underlying ht,goInt]
def Zzy (l:List Int):ByteArray:=⟨(l.map fun n=>UInt8.ofNat n.toNat).toArray⟩
end
end
section
variable {todo:List Item}{pk:PE}{q q' r q0 pre F:List HP}{v fv:Value}{A B:Prop}{b o bk sz n:Nat}{L:Rds}{j:Int}{d:Tmp}{pos:String}{af:Array Edge}{gd:Option (Nat×Bool)}{x y fo:Operand}{l vs:List Value}{args:List Operand}{R:Value->List HP->Prop}{fn:FuncId}{done:List Nat}{a:Option Addr}
section
variable {α:Type}{P:Program}{G:World}{f:Fc}{Q:Yn}{ops:List Oper}{k:List Item}{p:PE}{ds:List Deferred}{cs:List Frame}{rest:List Oper}
theorem ca (x:HP)(l m:List HP):(x::l)++m=x::(l++m):=rfl
theorem na (m:List HP):([]:List HP)++m=m:=rfl
theorem leA (h:Le q q':=by repeat (first|exact aE _|exact Y1 _ _|exact Le.nil _|(apply bM; · (repeat first|exact Le.here _ _|apply Le.there))|refine Le.lose ?_)):Le q q':=h
theorem clA {A:Addr}(h:Cl q A v:=by first
 |exact Cl.of (by repeat first|exact fD _ _ _|exact Has.im _ _ _|refine Has.there ?_) (by rfl)
 |exact Cl.el (by assumption) leA (fun _=>rfl) (by first|assumption|omega) rfl rfl
 |exact jN (by assumption) leA (by first|assumption|omega) rfl
 |exact Cl.elp (by assumption) leA (fun _=>rfl) (by omega) (by first|assumption|omega) rfl
 |exact Cl.e1p (by assumption) leA (by omega) (by first|assumption|omega)
 |exact Cl.elz (by assumption) leA (fun _=>rfl) (by first|assumption|omega) rfl
 |exact Cl.e1z (by assumption) leA (by first|assumption|omega)
 |assumption):Cl q A v:=h
theorem Qu {o:Obj}(h:Has q b o:=by repeat first|exact fD _ _ _|exact Has.im _ _ _|refine Has.there ?_):Has q b o:=h
theorem Zk {A:HP}(h:Le q (A::r):=by repeat first|exact Le.here _ _|apply Le.there):Le q (A::r):=h
theorem hlA (h:HL q L:=by repeat first|exact trivial|refine ⟨clA,?_⟩):HL q L:=h
theorem Qn {k:Nat}{α:Type}{f:α->List Value}{l:List α}(h:Sees q0 (some ⟨bk,o,none⟩) (l.flatMap f))(hq:Le q q0)(hf: ∀ x,(f x).length=sz)(h0:0<=j)(hn:j.toNat<l.length)(hk:(f l[j.toNat])[k]? =some v):Cl q ⟨bk,o+j.toNat*sz+k,none⟩ v:=
 cT h hq hf hn (by omega) k v hk
theorem Cl.e1A {α:Type}{g:α->Value}{l:List α}(h:Sees q0 (some ⟨bk,o,none⟩) (l.map g))(hq:Le q q0)(h0:0<=j)(hn:j.toNat<l.length):Cl q ⟨bk,o+j.toNat*1,none⟩ (g l[j.toNat]):=jN h hq hn (by omega)
theorem hlR (h:HL q L:=by repeat first|exact trivial|refine ⟨clA,?_⟩|refine ⟨Cl.e1A (by assumption) leA (by omega) (by omega),?_⟩|refine ⟨Qn (k:=0) (by assumption) leA (fun _=>rfl) (by omega) (by omega) rfl,?_⟩|refine ⟨Qn (k:=1) (by assumption) leA (fun _=>rfl) (by omega) (by omega) rfl,?_⟩|refine ⟨Qn (k:=2) (by assumption) leA (fun _=>rfl) (by omega) (by omega) rfl,?_⟩|refine ⟨Qn (k:=3) (by assumption) leA (fun _=>rfl) (by omega) (by omega) rfl,?_⟩|refine ⟨Qn (k:=4) (by assumption) leA (fun _=>rfl) (by omega) (by omega) rfl,?_⟩|refine ⟨Qn (k:=5) (by assumption) leA (fun _=>rfl) (by omega) (by omega) rfl,?_⟩|refine ⟨Qn (k:=6) (by assumption) leA (fun _=>rfl) (by omega) (by omega) rfl,?_⟩|refine ⟨Qn (k:=7) (by assumption) leA (fun _=>rfl) (by omega) (by omega) rfl,?_⟩|refine ⟨Qn (k:=8) (by assumption) leA (fun _=>rfl) (by omega) (by omega) rfl,?_⟩|refine ⟨Qn (k:=9) (by assumption) leA (fun _=>rfl) (by omega) (by omega) rfl,?_⟩|refine ⟨Cl.e1A (bR _) Zk (by omega) (by omega),?_⟩):HL q L:=h
theorem hlF (F:A)(h:A->HL q L:=by intro F;repeat first|exact trivial|refine ⟨clA,?_⟩|refine ⟨(F.le leA) 0 _ rfl,?_⟩|refine ⟨(F.le leA) _ _ rfl,?_⟩|refine ⟨(F.1.le leA).at rfl F.2,?_⟩|refine ⟨F _ leA 0 _ rfl,?_⟩|refine ⟨F _ leA _ _ rfl,?_⟩|refine HL.app (F _ _ leA) ?_):HL q L:=h F
theorem hlG (F:A)(E:B)(h:A->B->HL q L:=by intro F E;repeat first|exact trivial|refine ⟨clA,?_⟩|refine ⟨(F.le leA) 0 _ rfl,?_⟩|refine ⟨(F.le leA) _ _ rfl,?_⟩|refine ⟨(F.1.le leA).at rfl F.2,?_⟩|refine ⟨F _ leA 0 _ rfl,?_⟩|refine ⟨F _ leA _ _ rfl,?_⟩|refine HL.app (F _ _ leA) ?_|refine ⟨(E.le leA) 0 _ rfl,?_⟩|refine ⟨(E.le leA) _ _ rfl,?_⟩|refine ⟨(E.1.le leA).at rfl E.2,?_⟩|refine ⟨E _ leA 0 _ rfl,?_⟩|refine ⟨E _ leA _ _ rfl,?_⟩|refine HL.app (E _ _ leA) ?_):HL q L:=h F E
theorem hlH {C:Prop}(F:A)(E:B)(D:C)(h:A->B->C->HL q L:=by intro F E D;repeat first|exact trivial|refine ⟨clA,?_⟩|refine ⟨(F.le leA) 0 _ rfl,?_⟩|refine ⟨(F.le leA) _ _ rfl,?_⟩|refine ⟨(F.1.le leA).at rfl F.2,?_⟩|refine ⟨F _ leA 0 _ rfl,?_⟩|refine ⟨F _ leA _ _ rfl,?_⟩|refine HL.app (F _ _ leA) ?_|refine ⟨(E.le leA) 0 _ rfl,?_⟩|refine ⟨(E.le leA) _ _ rfl,?_⟩|refine ⟨(E.1.le leA).at rfl E.2,?_⟩|refine ⟨E _ leA 0 _ rfl,?_⟩|refine ⟨E _ leA _ _ rfl,?_⟩|refine HL.app (E _ _ leA) ?_|refine ⟨(D.le leA) 0 _ rfl,?_⟩|refine ⟨(D.le leA) _ _ rfl,?_⟩|refine ⟨(D.1.le leA).at rfl D.2,?_⟩|refine ⟨D _ leA 0 _ rfl,?_⟩|refine ⟨D _ leA _ _ rfl,?_⟩|refine HL.app (D _ _ leA) ?_):HL q L:=h F E D
section
variable {ty:TypeId}{t:TypeId}{A:Addr}
theorem XO.ld (ht: ∀ w,(isAgg t).run P w= .ok false w)(K:XO P G f Q ops.toArray k rest ((d,v)::p) ds cs q)(hx:evp p x=some (.pointer (some A)):=by rfl)(hc:Cl q A v:=by exact clA)
 (hw:Wt ops p ⟨some d,.load t x,ty,pos,af,gd⟩=some true:=by rfl) (hd:Nat.blt d f.n=true:=by rfl):
 XO P G f Q ops.toArray k (⟨some d,.load t x,ty,pos,af,gd⟩::rest) p ds cs q:= .rd (Rd.load hx ht hc) K hw hd
theorem XO.ldA {t':TypeId}{fz:Nat×Nat}(ht: ∀ w,(isAgg t).run P w= .ok true w)(hs: ∀ w,(Go.sizeOf t).run P w= .ok sz w)
 (K:XO P G f Q ops.toArray k rest ((d,.agg (Wx.sub l o sz).toArray)::p) ds cs q) (hx:evp p x=some (.pointer (some ⟨b,o,none⟩)):=by rfl) (hh:Has q b (.cells l.toArray t' fz):=by exact Qu) (hv:Nat.ble (o+sz) l.length=true:=by rfl)
 (hw:Wt ops p ⟨some d,.load t x,ty,pos,af,gd⟩=some true:=by rfl) (hd:Nat.blt d f.n=true:=by rfl):
 XO P G f Q ops.toArray k (⟨some d,.load t x,ty,pos,af,gd⟩::rest) p ds cs q:= .rd (Rd.loadA hx ht hs hh hv) K hw hd
theorem Nw {α:Type}{fl:α->List Value}{l:List α}(ht: ∀ w,(isAgg t).run P w= .ok true w)(hs: ∀ w,(Go.sizeOf t).run P w= .ok sz w)
 (h:Sees q0 (some ⟨bk,o,none⟩) (l.flatMap fl)) (hn:n<l.length) (K:XO P G f Q ops.toArray k rest ((d,.agg (fl l[n]).toArray)::p) ds cs q) (hx:evp p x=some (.pointer (some ⟨bk,o+j.toNat*sz,none⟩)):=by rfl) (hj:j=n:=by first|rfl|omega) (hf: ∀ x,(fl x).length=sz:=by intro _;rfl) (hq:Le q q0:=by exact leA)
 (hw:Wt ops p ⟨some d,.load t x,ty,pos,af,gd⟩=some true:=by rfl) (hd:Nat.blt d f.n=true:=by rfl):
 XO P G f Q ops.toArray k (⟨some d,.load t x,ty,pos,af,gd⟩::rest) p ds cs q:= .rd (Rd.loadS hx ht hs h hf hn hj hq) K hw hd
theorem Ef.st {t':TypeId}{d:Option Tmp}(hs: ∀ w,(Go.sizeOf t).run P w= .ok 1 w)(hx:evp p x=some (.pointer (some ⟨b,o,none⟩)):=by rfl)(hy:evp p y=some v:=by rfl)
 (hv:v.cells= #[v]:=by rfl) (h1:v.oneCell'=true:=by rfl) (hq:Le q (pto b (.cells l.toArray t' (0,0))::r):=by exact Zk) (ho:Nat.blt o l.length=true:=by rfl):
 Ef P G p q ⟨d,.store t x y,ty,pos,af,gd⟩ fun z q'=>z=undef/\q'=pto b (.cells (Hl l o v).toArray t' (0,0))::r:= .store hx hy hs hv h1 hq ho
theorem Ef.stA {t':TypeId}{d:Option Tmp}(hs: ∀ w,(Go.sizeOf t).run P w= .ok sz w)(hx:evp p x=some (.pointer (some ⟨bk,o,none⟩)):=by rfl)(hy:evp p y=some (.agg vs.toArray):=by rfl)
 (hl:vs.length=sz:=by rfl) (h1:vs.all (·.oneCell')=true:=by rfl) (hq:Le q (pto bk (.cells l.toArray t' (0,0))::r):=by exact Zk) (ho:Nat.ble (o+sz) l.length=true:=by rfl):
 Ef P G p q ⟨d,.store t x y,ty,pos,af,gd⟩ fun z q'=>z=undef/\q'=pto bk (.cells (V5 l o vs).toArray t' (0,0))::r:= .storeA hx hy hs hl h1 hq ho
end
section
variable {ats:Array TypeId}{ty:TypeId}
theorem W3 (hcf: ∀ args w,(callFunc fn args).run P w= .ok (.enter fn args) w)(hc:CallF P G fn vs pre (Ret R))(x: ∀ v q',R v q'-> ∀ q'',q''=q'++F->XO P G f Q ops.toArray k rest ((d,v)::p) ds cs q'')(hv:evl p args=some vs:=by rfl)(hq:Le q (pre++F):=by exact leA)
 (hw:Wt ops p ⟨some d,.call ⟨.value (.func fn),args.toArray,ats⟩,ty,pos,af,gd⟩=some true:=by rfl) (hd:Nat.blt d f.n=true:=by rfl):
 XO P G f Q ops.toArray k (⟨some d,.call ⟨.value (.func fn),args.toArray,ats⟩,ty,pos,af,gd⟩::rest) p ds cs q:= .callF hcf hc hv hq x hw hd
theorem XO.cV (hc:CallV P G fv vs pre (Ret R))(x: ∀ v q',R v q'-> ∀ q'',q''=q'++F->XO P G f Q ops.toArray k rest ((d,v)::p) ds cs q'')(hf:evp p fo=some fv:=by rfl)(hv:evl p args=some vs:=by rfl)(hq:Le q (pre++F):=by exact leA)
 (hw:Wt ops p ⟨some d,.call ⟨.value fo,args.toArray,ats⟩,ty,pos,af,gd⟩=some true:=by rfl) (hd:Nat.blt d f.n=true:=by rfl):
 XO P G f Q ops.toArray k (⟨some d,.call ⟨.value fo,args.toArray,ats⟩,ty,pos,af,gd⟩::rest) p ds cs q:= .call hf hv hc hq x hw hd
end
section
variable {ty:TypeId}{t:TypeId}
theorem XD.ld (i:Nat)(ht: ∀ w,(isAgg t).run P w= .ok false w)(K:XD P G f Q ops k pk ((i,b,o,v)::L) n (i::done) ((d,v)::p) ds cs q)
 (ho:ops[i]? =some ⟨some d,.load t x,ty,pos,af,gd⟩:=by rfl) (hx:evp p x=some (.pointer (some ⟨b,o,none⟩)):=by rfl) (hc:Cl q ⟨b,o,none⟩ v:=by exact clA)
 (hr:rdy ops done i=true:=by rfl) (hw:Wt ops p ⟨some d,.load t x,ty,pos,af,gd⟩=some true:=by rfl) (hd:Nat.blt d f.n=true:=by rfl):XD P G f Q ops k pk L (n+1) done p ds cs q:= .load i ho hx ht hc K hr hw hd
theorem XD.rdCs (i:Nat){us:List Value}(ho:ops[i]? =some ⟨some d,.load t x,ty,pos,af,gd⟩)(hx:evp p x=some (.pointer (some ⟨b,o,none⟩)))(ht: ∀ w,(isAgg t).run P w= .ok true w)(hs: ∀ w,(Go.sizeOf t).run P w= .ok sz w)
 (hl:us.length=sz) (hc: ∀ (k:Nat) (v:Value),us[k]? =some v->Cl q ⟨b,o+k,none⟩ v) (K:XD P G f Q ops k pk (rdA i b o us++L) n (i::done) ((d,.agg us.toArray)::p) ds cs q)
 (hr:rdy ops done i=true:=by rfl) (hw:Wt ops p ⟨some d,.load t x,ty,pos,af,gd⟩=some true:=by rfl) (hd:Nat.blt d f.n=true:=by rfl):XD P G f Q ops k pk L (n+1) done p ds cs q:=by
 refine Ig i ho (rdA i b o us) (R1 _ _ _ _) (HL.rdA hc) (fun tm w e c=> ?_) K hr hw hd
 have hc:=run_loadCells_list (P:=P) w ⟨b,o,none⟩ us (fun j u a=>by
  rw [Wp];exact c _ (R0 a))
 rw [hl] at hc;simp [execOp,Zh e hx,Instr.loadAt,Instr.sureAddr,loadVar,ht,hs,hc]
theorem XD.ldS (i:Nat){α:Type}{fl:α->List Value}{l:List α}{m:Nat}(ht: ∀ w,(isAgg t).run P w= .ok true w)(hs: ∀ w,(Go.sizeOf t).run P w= .ok sz w)
 (h:Sees q0 (some ⟨bk,o,none⟩) (l.flatMap fl)) (hn:m<l.length) (K:XD P G f Q ops k pk (rdA i bk (o+j.toNat*sz) (fl l[m])++L) n (i::done) ((d,.agg (fl l[m]).toArray)::p) ds cs q)
 (ho:ops[i]? =some ⟨some d,.load t x,ty,pos,af,gd⟩:=by rfl) (hx:evp p x=some (.pointer (some ⟨bk,o+j.toNat*sz,none⟩)):=by rfl) (hj:j=m:=by first|rfl|omega) (hf: ∀ x,(fl x).length=sz:=by intro _;rfl) (hq:Le q q0:=by exact leA)
 (hr:rdy ops done i=true:=by rfl) (hw:Wt ops p ⟨some d,.load t x,ty,pos,af,gd⟩=some true:=by rfl) (hd:Nat.blt d f.n=true:=by rfl):XD P G f Q ops k pk L (n+1) done p ds cs q:=
 .rdCs i ho hx ht hs (hf _) (fun k v hk=>cT h hq hf hn hj k v hk) K hr hw hd
section
variable {ats:Array TypeId}
theorem Ua (i:Nat)(hcf: ∀ args w,(callFunc fn args).run P w= .ok (.enter fn args) w)(hc:CallF P G fn vs pre (Ret R))
 (K: ∀ v q',R v q'-> ∀ q'',q''=q'++F->HL q'' (cut ⟨some d,.call ⟨.value (.func fn),args.toArray,ats⟩,ty,pos,af,gd⟩ L)/\XD P G f Q ops k pk (cut ⟨some d,.call ⟨.value (.func fn),args.toArray,ats⟩,ty,pos,af,gd⟩ L) n (i::done) ((d,v)::p) ds cs q'')
 (ho:ops[i]? =some ⟨some d,.call ⟨.value (.func fn),args.toArray,ats⟩,ty,pos,af,gd⟩:=by rfl) (hv:evl p args=some vs:=by rfl) (hq:Le q (pre++F):=by exact leA)
 (h1:V2 ops done i=true:=by rfl) (hr:rdy ops done i=true:=by rfl) (hw:Wt ops p ⟨some d,.call ⟨.value (.func fn),args.toArray,ats⟩,ty,pos,af,gd⟩=some true:=by rfl) (hd:Nat.blt d f.n=true:=by rfl):XD P G f Q ops k pk L (n+1) done p ds cs q:=
 .callF i hcf hc ho hv hq K h1 hr hw hd
theorem XD.cV (i:Nat)(hc:CallV P G fv vs pre (Ret R))
 (K: ∀ v q',R v q'-> ∀ q'',q''=q'++F->HL q'' (cut ⟨some d,.call ⟨.value fo,args.toArray,ats⟩,ty,pos,af,gd⟩ L)/\XD P G f Q ops k pk (cut ⟨some d,.call ⟨.value fo,args.toArray,ats⟩,ty,pos,af,gd⟩ L) n (i::done) ((d,v)::p) ds cs q'')
 (ho:ops[i]? =some ⟨some d,.call ⟨.value fo,args.toArray,ats⟩,ty,pos,af,gd⟩:=by rfl) (hf:evp p fo=some fv:=by rfl) (hv:evl p args=some vs:=by rfl) (hq:Le q (pre++F):=by exact leA)
 (h1:V2 ops done i=true:=by rfl) (hr:rdy ops done i=true:=by rfl) (hw:Wt ops p ⟨some d,.call ⟨.value fo,args.toArray,ats⟩,ty,pos,af,gd⟩=some true:=by rfl) (hd:Nat.blt d f.n=true:=by rfl):XD P G f Q ops k pk L (n+1) done p ds cs q:=
 .call i ho hf hv hc hq K h1 hr hw hd
end
end
theorem Ur (q:List HP):Le q (q++ []):=by rw [cA];exact .refl _
section
variable {ats:Array TypeId}{ty:TypeId}{u:Value}
theorem XO.cR (hcf: ∀ args w,(callFunc fn args).run P w= .ok (.enter fn args) w)(hc:CallF P G fn vs q (Ret fun v q'=>v=u/\q'=q))(x:XO P G f Q ops.toArray k rest ((d,u)::p) ds cs q)(hv:evl p args=some vs:=by rfl)
 (hw:Wt ops p ⟨some d,.call ⟨.value (.func fn),args.toArray,ats⟩,ty,pos,af,gd⟩=some true:=by rfl) (hd:Nat.blt d f.n=true:=by rfl):
 XO P G f Q ops.toArray k (⟨some d,.call ⟨.value (.func fn),args.toArray,ats⟩,ty,pos,af,gd⟩::rest) p ds cs q:=
 .callF hcf hc hv (Ur q) (fun v q' h a e=>by obtain ⟨rfl,rfl⟩:=h;rw [cA] at e;subst e;exact x) hw hd
abbrev aO:=@XO.cR
theorem XD.cR (i:Nat)(hcf: ∀ args w,(callFunc fn args).run P w= .ok (.enter fn args) w)(hc:CallF P G fn vs q (Ret fun v q'=>v=u/\q'=q))(hL:HL q (cut ⟨some d,.call ⟨.value (.func fn),args.toArray,ats⟩,ty,pos,af,gd⟩ L))
 (K:XD P G f Q ops k pk (cut ⟨some d,.call ⟨.value (.func fn),args.toArray,ats⟩,ty,pos,af,gd⟩ L) n (i::done) ((d,u)::p) ds cs q)
 (ho:ops[i]? =some ⟨some d,.call ⟨.value (.func fn),args.toArray,ats⟩,ty,pos,af,gd⟩:=by rfl) (hv:evl p args=some vs:=by rfl)
 (h1:V2 ops done i=true:=by rfl) (hr:rdy ops done i=true:=by rfl) (hw:Wt ops p ⟨some d,.call ⟨.value (.func fn),args.toArray,ats⟩,ty,pos,af,gd⟩=some true:=by rfl) (hd:Nat.blt d f.n=true:=by rfl):XD P G f Q ops k pk L (n+1) done p ds cs q:=
 .callF i hcf hc ho hv (Ur q) (fun v q' h a e=>by obtain ⟨rfl,rfl⟩:=h;rw [cA] at e;subst e;exact ⟨hL,K⟩) h1 hr hw hd
end
theorem Yd (hs:Sees q0 a vs)(h:0<vs.length)(x: ∀ b o,a=some ⟨b,o,none⟩->X P G f Q todo p ds cs q)(hq:Le q q0:=by exact leA):X P G f Q todo p ds cs q:= .addr (hs.le hq) h x
theorem K1 (hs:Sees q0 a vs)(h:0<vs.length)(x: ∀ b o,a=some ⟨b,o,none⟩->XO P G f Q ops.toArray k rest p ds cs q)(hq:Le q q0:=by exact leA):XO P G f Q ops.toArray k rest p ds cs q:= .addr (hs.le hq) h x
theorem K5 (hs:Sees q0 a vs)(h:0<vs.length)(x: ∀ b o,a=some ⟨b,o,none⟩->XD P G f Q ops k pk L n done p ds cs q)(hq:Le q q0:=by exact leA):XD P G f Q ops k pk L n done p ds cs q:=
 .fact (fun w s=>(hs.le hq).addr h s) fun ⟨b,o,e⟩=>x b o e
theorem X.part (s:Nat){t:Bool}(h:lkp p s=some (.bool t))(ht:t=true->X P G f Q todo ((s,.bool true)::p) ds cs q)
 (hf:t=false->X P G f Q todo ((s,.bool false)::p) ds cs q):X P G f Q todo p ds cs q:=by
 cases t with
 |true=>exact cQ s (.bool true) h rfl (ht rfl)
 |false=>exact cQ s (.bool false) h rfl (hf rfl)
abbrev dR:=@X.part
section
variable {R:U5}{fd:Func}{p':PE}
theorem Zq (q':List HP)(hf:P.funcs[fn]? =some fd)(hr: ∀ tm w,Agr tm p->St G w q->(results fd tm).run P w= .ok v w)(h:R (.returned v) q')(hq:Le q (q'++F):=by exact leA):
 X P G f (FQ P G fn cs R F) (.code .ret::k) p [] cs q:=X.ret ⟨rfl,jG hf hr h hq⟩
theorem Z7 (q':List HP)(hf:P.funcs[fn]? =some fd)(hr: ∀ tm w,Agr tm p->St G w q->(results fd tm).run P w= .ok v w)(h:R (.returned v) q')(hq:Le q (q'++F):=by exact leA):
 X P G f (FQ P G fn cs R F) [] p [] cs q:=X.fall ⟨rfl,jG hf hr h hq⟩
end
end
end
section
section
variable {P:Program}{G:World}{p:PE}{q r:List HP}{d:Option Tmp}{ty:TypeId}{pos:String}{af:Array Edge}{gd:Option (Nat×Bool)}{x y:Operand}{t t' e:TypeId}{kd ky:IntKind}{m n:Int}
theorem wu8 (n:Int):IntKind.u8.wrap n=n % 256:=by simp [IntKind.wrap,IntKind.bits,IntKind.signed]
theorem Bk {z:Value}{bytes sz n:Nat}(hx:evp p x=some (.int kd n))(hy:evp p y=some (.int ky n))(ht:P.underlying t=some (.slice e))(hi:(P.info? e).map (fun i=>(i.zero,i.size,i.bytes))=some (some z,sz,bytes))(hz:z.cells.size=sz)(hsz:Nat.blt 0 sz=true)
 (hby:bytes*n<=140737488355328) (hn:n<=9223372036854775807):
 Ef P G p q ⟨d,.makeSlice t x y,ty,pos,af,gd⟩ fun v q'=> ∃ g,v= .slice (some ⟨g,0,none⟩) n n/\q'=slH (some ⟨g,0,none⟩) n e sz n ((List.replicate n z.cells.toList).flatten)::q:=by
 obtain ⟨I,u,e1,e2,e3⟩:=info_parts hi;subst e2;subst e3;have a:0<I.size:=by simpa [dY] using hsz
 intro tm w m s;have j:=run_make (P:=P) w t e I z ht u e1 kd ky (n:Int) (n:Int) (by omega) (bL _) (by omega) (by omega);simp only [fB] at j;refine ⟨_,w.alloc (.cells (madeCells z.cells (n*I.size)) e),_,.inl ?_,?_,w.heap.size,rfl,rfl⟩
 . simp [execOp,Zh m hx,Zh m hy,j]
 have o:St G (w.alloc (.cells (madeCells z.cells (n*I.size)) e)) (pto w.heap.size (.cells (madeCells z.cells (n*I.size)) e (0,0))::q):=s.new rfl rfl rfl rfl;refine o.le (Y6 (aL _) (by simpa [maxLen] using hn) (size_madeCells _ _) ?_ q)
 have:(madeCells z.cells (n*I.size)).toList=(List.replicate n z.cells.toList).flatten:=by
  apply fW;intro i;have b:((List.replicate n z.cells.toList).flatten).length=n*I.size:=by simp [hz]
  rcases dQ i (n*I.size) with h|h
  . have c:i % I.size<I.size:=Nat.mod_lt _ a;have r:i / I.size<n:=by rw [Nat.div_lt_iff_lt_mul a];exact h
    have k:=He (f:=fun (l:List Value)=>z.cells.toList) (sz:=I.size) (fun _=>by simp [hz]) (List.replicate n ([]:List Value)) (i / I.size) (i % I.size) [] c (by simp [r])
    have h2:(List.replicate n ([]:List Value)).flatMap (fun _=>z.cells.toList)=(List.replicate n z.cells.toList).flatten:=by
     simp [List.flatMap,List.map_replicate]
    rw [h2,Nat.mul_comm,Nat.div_add_mod] at k;rw [k];simp [madeCells,h,hz];rw [getElem!_pos z.cells _ (by rw [hz];exact c)];simp [c,hz]
  rw [cF (by simp [madeCells];exact h),cF (by rw [b];exact h)]
 rw [this,eO (by simp [hz])]
theorem I3 {D:TypeDesc}{xt:TypeId}{v:Value}(hx:evp p x=some (.iface t v))(ht:P.underlying t=some D)(hD:(match D with| .interface _=>false|_=>true)=true):
 Pu P p ⟨d,.typeAssert x xt t true,ty,pos,af,gd⟩ (.tuple [v,.bool true].toArray):=fun tm w a=>by
 simp only [execOp,Zh a hx,Instr.typeAssert,Sem.run_bind,run_underlying ht,Result.andThen_ok]
 cases D<;>first|(cases hD;done)|simp
theorem I4 {D:TypeDesc}{xt:TypeId}{z:Value}(hx:evp p x=some .nilIface)(ht:P.underlying t=some D)(hD:(match D with| .interface _=>false|_=>true)=true)(hz: ∀ w,(zeroValue t).run P w= .ok z w):
 Pu P p ⟨d,.typeAssert x xt t true,ty,pos,af,gd⟩ (.tuple [z,.bool false].toArray):=fun tm w a=>by
 simp only [execOp,Zh a hx,Instr.typeAssert,Sem.run_bind,run_underlying ht,Result.andThen_ok]
 cases D<;>first|(cases hD;done)|simp [hz]
end
end
section
variable {p':PE}{r1 b r:Bool}{L:Rds}
def Do:Nat->List Oper->List Oper
 |0,l=>l
 |_+1, []=> []
 |n+1,_::r=>Do n r
section
variable {P:Program}{G:World}{f:Fc}{Q:Yn}{ops:List Oper}{k:List Item}{p:PE}{ds:List Deferred}{cs:List Frame}{q:List HP}{l:List Oper}
theorem Zp (n:Nat)(d s:Nat)(h:lkp p s=some (.bool b))
 (ht:b=true->XO P G f Q ops.toArray k (Do n l) ((d,.bool (b && r1))::p) ds cs q->XO P G f Q ops.toArray k l ((s,.bool true)::p) ds cs q)
 (hf:b=false->XO P G f Q ops.toArray k (Do n l) ((d,.bool (b && r1))::p) ds cs q->XO P G f Q ops.toArray k l ((s,.bool false)::p) ds cs q)
 (M:XO P G f Q ops.toArray k (Do n l) ((d,.bool (b && r1))::p) ds cs q):XO P G f Q ops.toArray k l p ds cs q:=
 .part s h (fun e=>ht e M) (fun e=>hf e M)
theorem Zy (n:Nat)(d s:Nat)(h:lkp p s=some (.bool b))
 (hf:b=false->XO P G f Q ops.toArray k (Do n l) ((d,.bool (b||r1))::p) ds cs q->XO P G f Q ops.toArray k l ((s,.bool false)::p) ds cs q)
 (ht:b=true->XO P G f Q ops.toArray k (Do n l) ((d,.bool (b||r1))::p) ds cs q->XO P G f Q ops.toArray k l ((s,.bool true)::p) ds cs q)
 (M:XO P G f Q ops.toArray k (Do n l) ((d,.bool (b||r1))::p) ds cs q):XO P G f Q ops.toArray k l p ds cs q:=
 .part s h (fun e=>ht e M) (fun e=>hf e M)
theorem Wq (h:b=true):some (Value.bool r)=some (Value.bool (b && r)):=by rw [h];rfl
theorem Wz (h:b=false):some (Value.bool false)=some (Value.bool (b && r)):=by rw [h];rfl
theorem orF (h:b=false):some (Value.bool r)=some (Value.bool (b||r)):=by rw [h];rfl
theorem orT (h:b=true):some (Value.bool true)=some (Value.bool (b||r)):=by rw [h];rfl
theorem Zz (M:XO P G f Q ops.toArray k l p' ds cs q)(h:SubP p' p):XO P G f Q ops.toArray k l p ds cs q:=XO.sub h M
variable {pk:PE}{m:Nat}{done:List Nat}
def sameL (a b:List Nat):Bool:=a.all b.contains && b.all a.contains
theorem Ul {done':List Nat}(M: ∀ L,XD P G f Q ops k pk L m done' p' ds cs q)(h:SubP p' p)(e:sameL done' done=true:=by rfl):XD P G f Q ops k pk L m done p ds cs q:=by
 have c: ∀ j,j∈done'↔j∈done:=by
  intro j;simp only [sameL,aI,cC,List.contains_iff_mem] at e;exact ⟨e.1 j,e.2 j⟩
 refine XD.sub h ?_;exact fun g d tm w b i s a=>WA.congr m c (M L g d tm w b i s a)
theorem Mb (n':Nat)(done':List Nat)(d s:Nat)(h:lkp p s=some (.bool b))
 (ht:b=true->(∀ L,XD P G f Q ops k pk L n' done' ((d,.bool (b && r1))::p) ds cs q)->XD P G f Q ops k pk L m done ((s,.bool true)::p) ds cs q)
 (hf:b=false->(∀ L,XD P G f Q ops k pk L n' done' ((d,.bool (b && r1))::p) ds cs q)->XD P G f Q ops k pk L m done ((s,.bool false)::p) ds cs q)
 (M: ∀ L,XD P G f Q ops k pk L n' done' ((d,.bool (b && r1))::p) ds cs q):XD P G f Q ops k pk L m done p ds cs q:=
 .part s h (fun e=>ht e M) (fun e=>hf e M)
theorem D5 (n':Nat)(done':List Nat)(d s:Nat)(h:lkp p s=some (.bool b))
 (hf:b=false->(∀ L,XD P G f Q ops k pk L n' done' ((d,.bool (b||r1))::p) ds cs q)->XD P G f Q ops k pk L m done ((s,.bool false)::p) ds cs q)
 (ht:b=true->(∀ L,XD P G f Q ops k pk L n' done' ((d,.bool (b||r1))::p) ds cs q)->XD P G f Q ops k pk L m done ((s,.bool true)::p) ds cs q)
 (M: ∀ L,XD P G f Q ops k pk L n' done' ((d,.bool (b||r1))::p) ds cs q):XD P G f Q ops k pk L m done p ds cs q:=
 .part s h (fun e=>ht e M) (fun e=>hf e M)
end
end
section
variable {todo:List Item}{pre q':List HP}{x0:Value}{R:Value->List HP->Prop}{Rp:List PanicEntry->List HP->Prop}{fn:FuncId}{ch:List PanicEntry}
def RP (R:Value->List HP->Prop)(Rp:List PanicEntry->List HP->Prop):U5:=fun e q=>(∃ v,e= .returned v/\R v q)\/(∃ ch,e= .panicked ch/\Rp ch q)
section
variable {P:Program}{G:World}{f:Fc}{Q:Yn}{ops:List Oper}{k:List Item}{p:PE}{ds:List Deferred}{cs:List Frame}{q:List HP}{rest:List Oper}{v:Value}
section
variable {α:Type}{fl:α->List Value}{sz ty:Nat}{a:Option Addr}{c:Nat}{l:List α}{r:List HP}
theorem Yw (h:0<l.length)(x: ∀ g,a=some ⟨g,0,none⟩->X P G f Q todo p ds cs q)(hq:Le q (rsH fl sz ty a c l::r):=by exact Zk):X P G f Q todo p ds cs q:=
 .fact (fun w s=>(s.le hq).rsAddr h) fun ⟨g,e⟩=>x g e
theorem P4 (h:0<l.length)(x: ∀ g,a=some ⟨g,0,none⟩->XO P G f Q ops.toArray k rest p ds cs q)(hq:Le q (rsH fl sz ty a c l::r):=by exact Zk):XO P G f Q ops.toArray k rest p ds cs q:=
 .fact (fun w s=>(s.le hq).rsAddr h) fun ⟨g,e⟩=>x g e
theorem Uw {fl:α->Value}(h:0<l.length)(x: ∀ g,a=some ⟨g,0,none⟩->X P G f Q todo p ds cs q)(hq:Le q (lsH fl ty a c l::r):=by exact Zk):X P G f Q todo p ds cs q:=
 .fact (fun w s=>(s.le hq).lsAddr h) fun ⟨g,e⟩=>x g e
theorem XO.lsadr {fl:α->Value}(h:0<l.length)(x: ∀ g,a=some ⟨g,0,none⟩->XO P G f Q ops.toArray k rest p ds cs q)(hq:Le q (lsH fl ty a c l::r):=by exact Zk):XO P G f Q ops.toArray k rest p ds cs q:=
 .fact (fun w s=>(s.le hq).lsAddr h) fun ⟨g,e⟩=>x g e
theorem P5 {pk:PE}{L:Rds}{n:Nat}{done:List Nat}(h:0<l.length)(x: ∀ g,a=some ⟨g,0,none⟩->XD P G f Q ops k pk L n done p ds cs q)(hq:Le q (rsH fl sz ty a c l::r):=by exact Zk):XD P G f Q ops k pk L n done p ds cs q:=
 .fact (fun w s=>(s.le hq).rsAddr h) fun ⟨g,e⟩=>x g e
end
section
variable {args:List Operand}{ats:Array TypeId}{ty:TypeId}{pos:String}{af:Array Edge}{gd:Option (Nat×Bool)}{vs:List Value}{d:Tmp}{fo:Operand}{fv:Value}
theorem Xi {sp:U5}(hcf: ∀ args w,(callFunc fn args).run P w= .ok (.enter fn args) w)(hc:CallF P G fn vs pre sp):CallV P G (.func (.func fn) #[] #[]) vs pre sp:=
 Vy (a:= []) (b:= []) hcf (by simpa using hc)
theorem Zb (hcf: ∀ args w,(callFunc fn args).run P w= .ok (.enter fn args) w)(hq:Le q pre)(hc:CallF P G fn vs pre (Ret R))(x: ∀ v q',R v q'->XO P G f Q ops.toArray k rest ((d,v)::p) ds cs q')(hv:evl p args=some vs:=by rfl)
 (hw:Wt ops p ⟨some d,.call ⟨.value (.func fn),args.toArray,ats⟩,ty,pos,af,gd⟩=some true:=by rfl) (hd:Nat.blt d f.n=true:=by rfl):
 XO P G f Q ops.toArray k (⟨some d,.call ⟨.value (.func fn),args.toArray,ats⟩,ty,pos,af,gd⟩::rest) p ds cs q:=
 .callF hcf hc hv (hq.trans (Ur pre)) (fun v q' h a e=>by rw [cA] at e;rw [e];exact x v q' h) hw hd
theorem Vn (hcf: ∀ args w,(callFunc fn args).run P w= .ok (.enter fn args) w)(hq:Le q pre)(hc:CallF P G fn vs pre (RP R Rp))(xp: ∀ ch q',Rp ch q'->Q (.panic ch) p ds cs q')(x: ∀ v q',R v q'->XO P G f Q ops.toArray k rest ((d,v)::p) ds cs q')(hv:evl p args=some vs:=by rfl)
 (hw:Wt ops p ⟨some d,.call ⟨.value (.func fn),args.toArray,ats⟩,ty,pos,af,gd⟩=some true:=by rfl) (hd:Nat.blt d f.n=true:=by rfl):
 XO P G f Q ops.toArray k (⟨some d,.call ⟨.value (.func fn),args.toArray,ats⟩,ty,pos,af,gd⟩::rest) p ds cs q:=
 .callE hw hd rfl hv (Xi hcf hc) (hq.trans (Ur pre))
  (fun v q' h=>by rcases h with ⟨_,h,r⟩|⟨_,h,_⟩<;>cases h;rw [cA];exact x v q' r)
  (fun ch q' h=>by rcases h with ⟨_,h,r⟩|⟨_,h,r⟩<;>cases h;rw [cA];exact xp ch q' r)
end
section
variable {sp:U5}
theorem CallV.c11 {c0:Value}(hcf: ∀ args w,(callFunc fn args).run P w= .ok (.enter fn args) w)(h:CallF P G fn [x0,c0] pre sp):CallV P G (.func (.func fn) [].toArray [c0].toArray) [x0] pre sp:=Vy (a:= []) (b:= [c0]) hcf h
theorem Yc {x1:Value}(hcf: ∀ args w,(callFunc fn args).run P w= .ok (.enter fn args) w)(h:CallF P G fn [x0,x1] pre sp):CallV P G (.func (.func fn) [].toArray [].toArray) [x0,x1] pre sp:=Vy (a:= []) (b:= []) hcf h
end
theorem FQ.panic {R:U5}{F:List HP}{fd:Func}(hf:P.funcs[fn]? =some fd)(h:R (.panicked ch) q')(hq:Le q (q'++F):=by exact leA):FQ P G fn cs R F (.panic ch) p [] cs q:=⟨rfl,Lv.panic hf h hq⟩
abbrev dA:=@FQ.panic
theorem RP.ret (h:R v q'):RP R Rp (.returned v) q':= .inl ⟨v,rfl,h⟩
abbrev dG:=@RP.ret
theorem RP.thr (h:Rp ch q'):RP R Rp (.panicked ch) q':= .inr ⟨ch,rfl,h⟩
abbrev dX:=@RP.thr
end
end
section
variable {pk:PE}{pre:List HP}{v:Value}{L:Rds}{n:Nat}{done:List Nat}{args:List Operand}{pos:String}{af:Array Edge}{gd:Option (Nat×Bool)}{vs cl:List Value}{R:Value->List HP->Prop}{d:Tmp}{fn:FuncId}{c:Code}
section
variable {P:Program}{G:World}{f:Fc}{Q:Yn}{ops:List Oper}{k:List Item}{p:PE}{ds:List Deferred}{cs:List Frame}{q:List HP}{rest:List Oper}
section
variable {ats:Array TypeId}{ty:TypeId}{Rp:List PanicEntry->List HP->Prop}
theorem Fl (i:Nat)(hcf: ∀ args w,(callFunc fn args).run P w= .ok (.enter fn args) w)(hq:Le q pre)(hc:CallF P G fn vs pre (RP R Rp))(xp: ∀ ch q',Rp ch q'->Q (.panic ch) pk ds cs q')
 (K: ∀ v q',R v q'->HL q' (cut ⟨some d,.call ⟨.value (.func fn),args.toArray,ats⟩,ty,pos,af,gd⟩ L)/\XD P G f Q ops k pk (cut ⟨some d,.call ⟨.value (.func fn),args.toArray,ats⟩,ty,pos,af,gd⟩ L) n (i::done) ((d,v)::p) ds cs q')
 (hpk:SubP pk p) (ho:ops[i]? =some ⟨some d,.call ⟨.value (.func fn),args.toArray,ats⟩,ty,pos,af,gd⟩:=by rfl) (hv:evl p args=some vs:=by rfl)
 (h1:V2 ops done i=true:=by rfl) (hr:rdy ops done i=true:=by rfl) (hw:Wt ops p ⟨some d,.call ⟨.value (.func fn),args.toArray,ats⟩,ty,pos,af,gd⟩=some true:=by rfl) (hd:Nat.blt d f.n=true:=by rfl):XD P G f Q ops k pk L (n+1) done p ds cs q:=
 .one (R:=fun e a=>RP R Rp e a) i ho (fun tm w g s=>by
  rw [Ky g (show evp p (.func fn)=some (.func (.func fn) #[] #[]) from rfl) hv];exact ((Xi hcf hc) [] w ((s.le hq).le (Ur pre))).mono fun e j _ ⟨q',c,b⟩=>⟨q',c,by rw [cA] at b;exact b⟩)
  (fun v a h=>by rcases h with ⟨_,e,r⟩|⟨_,e,_⟩<;>cases e;exact K v a r) (fun ch a h=>by rcases h with ⟨_,e,_⟩|⟨_,e,r⟩<;>cases e;exact ⟨xp ch a r,hpk⟩) h1 hr hw hd
end
section
variable {ats:Array TypeId}{ty:TypeId}
theorem Wy (i:Nat)(hcf: ∀ args w,(callFunc fn args).run P w= .ok (.enter fn args) w)(hq:Le q pre)(hc:CallF P G fn vs pre (Ret R))
 (K: ∀ v q',R v q'->HL q' (cut ⟨some d,.call ⟨.value (.func fn),args.toArray,ats⟩,ty,pos,af,gd⟩ L)/\XD P G f Q ops k pk (cut ⟨some d,.call ⟨.value (.func fn),args.toArray,ats⟩,ty,pos,af,gd⟩ L) n (i::done) ((d,v)::p) ds cs q')
 (ho:ops[i]? =some ⟨some d,.call ⟨.value (.func fn),args.toArray,ats⟩,ty,pos,af,gd⟩:=by rfl) (hv:evl p args=some vs:=by rfl)
 (h1:V2 ops done i=true:=by rfl) (hr:rdy ops done i=true:=by rfl) (hw:Wt ops p ⟨some d,.call ⟨.value (.func fn),args.toArray,ats⟩,ty,pos,af,gd⟩=some true:=by rfl) (hd:Nat.blt d f.n=true:=by rfl):XD P G f Q ops k pk L (n+1) done p ds cs q:=
 .callF i hcf hc ho hv (hq.trans (Ur pre)) (fun v q' h a e=>by rw [cA] at e;rw [e];exact K v q' h) h1 hr hw hd
end
def dfr (fn:FuncId)(cl:List Value):Deferred:= { target:= .fn (.func fn) cl.toArray,args:= #[] }
theorem XO.dfr {fo:Operand}{ats:Array TypeId}{d:Option Tmp}{ty:TypeId}(x:XO P G f Q ops.toArray k rest (Uc p d undef) (Wx.dfr fn cl::ds) cs q)
 (hf:evp p fo=some (.func (.func fn) [].toArray cl.toArray):=by rfl) (hro:f.round=none:=by rfl) (hd:dOk f.n d=true:=by rfl)
 (hw:Wt ops p ⟨d,.defer ⟨.value fo, [].toArray,ats⟩,ty,pos,af,gd⟩=some true:=by rfl):
 XO P G f Q ops.toArray k (⟨d,.defer ⟨.value fo, [].toArray,ats⟩,ty,pos,af,gd⟩::rest) p ds cs q:=
 .defer_ hro hf rfl (fun w=>by simp [Deferred.ofValue,Wx.dfr]) hd x hw
def Quiet (P:Program)(G:World)(fn:FuncId)(cl:List Value):Prop:=CallD P G fn cl .returning [] fun e u q=>(∃ v,e= .returned v)/\u= .returning/\q= []
def Catches (P:Program)(G:World)(fn:FuncId)(cl:List Value)(E:PanicEntry)(pre post:List HP):Prop:=
 CallD P G fn cl (.panicking [E]) pre fun e u q=>(∃ v,e= .returned v)/\u= .panicking [{ E with recovered:=true }]/\q=post
section
variable {fn2:FuncId}{R:U5}{F:List HP}{fd fd2:Func}{E:PanicEntry}{post F₀:List HP}
theorem Lp (hcf: ∀ args w,(callFunc fn2 args).run P w= .ok (.enter fn2 args) w)(hf:P.funcs[fn]? =some fd)(hc:Quiet P G fn2 cl)(h:Lv P G fn R F ds .returning p q):Lv P G fn R F (Wx.dfr fn2 cl::ds) .returning p q:=
 Lv.defer (vs:=cl) (F₀:=q) (by simp) (fun w=>by simp [invoke,hcf]) hc (.refl _) hf (fun v a q' ⟨_,c,b⟩=>by subst c;subst b;exact h) (fun ch a q' ⟨⟨v,e⟩,_⟩=>by cases e)
theorem Lv.catches (hcf: ∀ args w,(callFunc fn2 args).run P w= .ok (.enter fn2 args) w)(hf:P.funcs[fn]? =some fd)(hc:Catches P G fn2 cl E pre post)(hq:Le q (pre++F₀))(hg:E.goexit=false)(h:Lv P G fn R F [] .returning p (post++F₀)):Lv P G fn R F [Wx.dfr fn2 cl] (.panicking [E]) p q:=
 Lv.defer (vs:=cl) (F₀:=F₀) (by simp) (fun w=>by simp [invoke,hcf]) hc hq hf (fun v a q' ⟨_,c,b⟩=>by subst c;subst b;exact h) (fun ch a q' ⟨⟨v,e⟩,_⟩=>by cases e)
theorem Quiet.of (hf:P.funcs[fn]? =some fd)(hn:fd.ntmps=n)(hb:fd.body=some c)(h: ∀ F c₀ cs₀,(recoverD (c₀::cs₀)).getD (.nilIface,c₀::cs₀)=(.nilIface,c₀::cs₀)->
 X P G ⟨fn,n,.deferred,none⟩ (fun o p ds cs q=>cs=c₀::cs₀/\ds= []/\(o= .fall\/o= .jump .ret)/\(∃ v,∀ tm w,Agr tm p->St G w q->(results fd tm).run P w= .ok v w)/\Le q F) [.code c] (Gy 0 cl) [] (c₀::cs₀) F) (hl:Nat.ble cl.length n=true:=by rfl):Quiet P G fn cl:=by
 refine CallD.of hf hn hb (fun F c₀ cs₀ i=> ?_) hl;refine fun tm w hn m s=> ?_
 obtain ⟨o,a,p',f,g,j,q',⟨e,d,l,⟨v,k⟩,b⟩,x,u,t,r⟩:=h F c₀ cs₀ (by simp [recoverD,i]) tm w hn m s;refine ⟨o,a,p',f,g,j,q',⟨d,.returning,?_,?_⟩,x,u,t,r⟩
 . rw [e,<-i]
 rcases l with rfl|rfl<;>exact ⟨v, [],k,⟨⟨v,rfl⟩,rfl,rfl⟩,b⟩
theorem Catches.of {ev:Value}(hf:P.funcs[fn]? =some fd)(hn:fd.ntmps=n)(hb:fd.body=some c)(hE:E= { v:=ev,recovered:=false })(h: ∀ F c₀ cs₀,(recoverD (c₀::cs₀)).getD (.nilIface,c₀::cs₀)=(ev, { c₀ with mode:= .panicking [{ E with recovered:=true }] } ::cs₀)->
 X P G ⟨fn,n,.deferred,none⟩ (fun o p ds cs q=>cs= { c₀ with mode:= .panicking [{ E with recovered:=true }] } ::cs₀/\ds= []/\(o= .fall\/o= .jump .ret)/\(∃ v,∀ tm w,Agr tm p->St G w q->(results fd tm).run P w= .ok v w)/\Le q (post++F)) [.code c] (Gy 0 cl) [] (c₀::cs₀) (pre++F))
 (hl:Nat.ble cl.length n=true:=by rfl):Catches P G fn cl E pre post:=by
 refine CallD.of hf hn hb (fun F c₀ cs₀ l=> ?_) hl;refine fun tm w hn m s=> ?_
 obtain ⟨o,a,p',f,g,i,q',⟨e,d,k,⟨v,j⟩,b⟩,x,u,t,r⟩:=h F c₀ cs₀ (by simp [recoverD,l,hE]) tm w hn m s;refine ⟨o,a,p',f,g,i,q',⟨d,_,e,?_⟩,x,u,t,r⟩;rcases k with rfl|rfl<;>exact ⟨v,post,j,⟨⟨v,rfl⟩,rfl,rfl⟩,b⟩
end
theorem XO.rcv {ats:Array TypeId}{cs':List Frame}{ty:TypeId}(hrec:(recoverD cs).getD (.nilIface,cs)=(v,cs'))(x:XO P G f Q ops.toArray k rest ((d,v)::p) ds cs' q)
 (hk:f.kind= .deferred:=by rfl) (hro:f.round=none:=by rfl) (hd:Nat.blt d f.n=true:=by rfl) (hw:Wt ops p ⟨some d,.call ⟨.builtin .recover,#[],ats⟩,ty,pos,af,gd⟩=some true:=by rfl):
 XO P G f Q ops.toArray k (⟨some d,.call ⟨.builtin .recover,#[],ats⟩,ty,pos,af,gd⟩::rest) p ds cs q:= .recover_ hk hro hrec hd x hw
end
end
section
variable {q:List HP}
section
variable {P:Program}{G:World}{f:Fc}{Q:Yn}{ops:List Oper}{k:List Item}{p:PE}{ds:List Deferred}{cs:List Frame}{rest:List Oper}{d:Tmp}{ty:TypeId}{pos:String}{af:Array Edge}{gd:Option (Nat×Bool)}{x:Operand}{s e t:TypeId}{a:Option Addr}{c:Nat}{q0:List HP}
theorem Zqx {tm:Array Value}{w:World}{l:List Int}(ag:Agr tm p)(hx:evp p x=some (.slice a l.length c))(hs:P.underlying s=some (.slice e))(he:P.underlying e=some (.int .u8))(ht:P.underlying t=some .string)
 (h: ∀ i u,(l.map (Value.int .u8))[i]? =some u-> ∃ b o,a=some ⟨b,o,none⟩/\w.cell? ⟨b,o+i,none⟩=some u) {d:Option Tmp} :(execOp (evA tm) ⟨d,.convert s t x,ty,pos,af,gd⟩).run P w= .ok (.value (.string (Zzy l))) w:=by
 have g:Zzy l=l.foldl (fun r n=>r.push (UInt8.ofNat n.toNat)) ByteArray.empty:=by
  have: ∀ (l:List Int) (r:ByteArray),l.foldl (fun r n=>r.push (UInt8.ofNat n.toNat)) r=⟨r.data++(l.map fun n=>UInt8.ofNat n.toNat).toArray⟩:=by
   intro l
   induction l with
   |nil=>intro r;simp
   |cons n l ih=>intro r;rw [iN,ih];simp [ByteArray.push]
  rw [this];simp [Zzy,ByteArray.empty,ByteArray.emptyWithCapacity];rfl
 cases l with
 |nil=>
  cases a with
  |none=>rw [g];simp [execOp,Zh ag hx,convert,run_underlying hs,run_underlying ht,run_underlying he,Conv.bytesToString]
  |some a=>
   have f:=run_loadCells_list (P:=P) w a [] (by simp);rw [g];simp only [execOp,Zh ag hx];simp [convert,run_underlying hs,run_underlying ht,run_underlying he];rw [run_bytesToString w a 0 c [] (by simpa using f)];simp
 |cons n0 r=>
  obtain ⟨b,o,q,_⟩:=h 0 _ rfl;subst q
  have f:=run_loadCells_list (P:=P) w ⟨b,o,none⟩ ((n0::r).map (Value.int .u8)) (fun j v k=>by
   obtain ⟨b',z,y,m⟩:=h j v k
   cases y;rw [Wp];exact m)
  rw [g];simp only [execOp,Zh ag hx,convert,Sem.run_bind,run_underlying hs,run_underlying ht,Result.andThen_ok,run_underlying he];rw [run_bytesToString w ⟨b,o,none⟩ _ c (n0::r) (by simpa using f)];simp
theorem Zzh {pk:PE}{L:Rds}{n:Nat}{done:List Nat}(i:Nat)(l:List Int){b o:Nat}(hs:P.underlying s=some (.slice e))(he:P.underlying e=some (.int .u8))(ht:P.underlying t=some .string)(h:Sees q0 (some ⟨b,o,none⟩) (l.map (Value.int .u8)))
 (K:XD P G f Q ops k pk (rdA i b o (l.map (Value.int .u8))++L) n (i::done) ((d,.string (Zzy l))::p) ds cs q)
 (ho:ops[i]? =some ⟨some d,.convert s t x,ty,pos,af,gd⟩:=by rfl) (hx:evp p x=some (.slice (some ⟨b,o,none⟩) l.length c):=by rfl) (hq:Le q q0:=by exact leA)
 (hr:rdy ops done i=true:=by rfl) (hw:Wt ops p ⟨some d,.convert s t x,ty,pos,af,gd⟩=some true:=by rfl) (hd:Nat.blt d f.n=true:=by rfl):XD P G f Q ops k pk L (n+1) done p ds cs q:=
 Ig i ho (rdA i b o (l.map (Value.int .u8))) (R1 _ _ _ _) (HL.rdA fun j v hj=>(h.le hq).cl hj) (fun tm w ag hS=>Zqx ag hx hs he ht fun j v hj=>⟨b,o,rfl,hS _ (R0 hj)⟩) K hr hw hd
theorem HL.app : ∀ {L L':Rds},HL q L->HL q L'->HL q (L++L')
 | [],_,_,h=>h
 |(_,_,_,_)::r,_,⟨h,k⟩,h'=>⟨h,HL.app k h'⟩
end
end
section
section
variable {P:Program}{G:World}{f:Fc}{Q:Yn}{ops:List Oper}{k:List Item}{p:PE}{ds:List Deferred}{cs:List Frame}{q:List HP}{pk:PE}{L:Rds}{n:Nat}{done:List Nat}{args:List Operand}{ats:Array TypeId}{ty:TypeId}{pos:String}{af:Array Edge}{gd:Option (Nat×Bool)}{vs:List Value}{u:Value}{d:Tmp}{fn:FuncId}
theorem Y2 (i:Nat)(hcf: ∀ args w,(callFunc fn args).run P w= .ok (.enter fn args) w)(hc:CallF P G fn vs q (Ret fun v q'=>v=u/\q'=q))
 (K:XD P G f Q ops k pk (cut ⟨some d,.call ⟨.value (.func fn),args.toArray,ats⟩,ty,pos,af,gd⟩ L) n (i::done) ((d,u)::p) ds cs q)
 (ho:ops[i]? =some ⟨some d,.call ⟨.value (.func fn),args.toArray,ats⟩,ty,pos,af,gd⟩:=by rfl) (hv:evl p args=some vs:=by rfl)
 (hL:HL q (cut ⟨some d,.call ⟨.value (.func fn),args.toArray,ats⟩,ty,pos,af,gd⟩ L):=by exact hlA)
 (h1:V2 ops done i=true:=by rfl) (hr:rdy ops done i=true:=by rfl) (hw:Wt ops p ⟨some d,.call ⟨.value (.func fn),args.toArray,ats⟩,ty,pos,af,gd⟩=some true:=by rfl) (hd:Nat.blt d f.n=true:=by rfl):XD P G f Q ops k pk L (n+1) done p ds cs q:= .cR i hcf hc hL K ho hv h1 hr hw hd
end
end
end Wx
namespace Wx
open Go Go.RowKit Go.WideShapes
theorem Dz {H:Type}{enc:TypeId×Value->H}{P:Program}{w w2:World}{base base2:Nat}{r:Reach}{spare:Nat->Bool}{held:Bool}{t e:TypeId}{v:Value}{d:DataW H}{p:List MemPlace}(es:Sh)(ht:P.underlying t=some (.slice e))(hok:Value.okWide P w2 r base2 t v)
 (h:DataW.Trod enc P w base spare held t v d p) (hf:(Sh.slice es).fits P (.inl t)=true): ∃ x:SlV es.T,v= .slice x.a x.l.length x.c/\(Sh.slice es).ok w x:=by
 obtain ⟨a,b,i,rfl⟩:=okWide_slice ht hok;obtain ⟨x,f,g⟩:=open_arg (Sh.slice es) hf h;refine ⟨x,?_,g⟩;simpa [Value.cells,Sh.cells] using f
theorem wfi64 {n:Int}(h:(Lit.int .i64 n).wf=true): -9223372036854775808<=n/\n<=9223372036854775807:=wf64 h
theorem J0 {q:List HP}{k:IntKind}{x:SlV Int}(h:(Sh.slice (.int k)).okQ q x):x.l.length<=x.c/\x.c<=maxLen/\Sees q x.a (x.l.map (Value.int k))/\ ∀ n∈x.l,(Lit.int k n).wf=true:=by
 obtain ⟨f,e,_,d,b⟩:=h;refine ⟨f,e,?_,b⟩
 have:x.l.flatMap (Sh.cells (.int k))=x.l.map (Value.int k):=by
  induction x.l with
  |nil=>rfl
  |cons y r ih=>rw [cH,ih];rfl
 rw [<-this];exact d
end Wx
namespace Wx
open Go Go.RowKit
section
variable {p:PE}{q F:List HP}
def Iter (P:Program)(G:World)(gv:Value)(xs:List (List Value))(pre:List HP):Prop:=
 ∀ (l:Nat) (J:Nat->HP) (Jf:HP->Prop),
  (∀ i (h:i<xs.length),CallV P G (.func (.yield l) #[] #[]) xs[i] (J i::pre) (Ret fun v q=>(v= .bool true/\q=J (i+1)::pre)\/(v= .bool false/\ ∃ A,Jf A/\q=A::pre)))->
  CallV P G gv [.func (.yield l) #[] #[]] (J 0::pre) (Ret fun _ q=>q=J xs.length::pre\/ ∃ A,Jf A/\q=A::pre)
def RQ (cs₀:List Frame)(rec:Loop)(l:Nat)(next:List HP)(Jmp:Code->List HP->Prop)(R:List HP):Yn:=fun o p ds cs q=>cs=cs₀/\ds= []/\match o with
 | .fall=>Le q (lp rec l .busy none::(next++R))
 | .jump c=> ∃ qs,Jmp c qs/\Le q (lp rec l .busy none::(qs++R))
 | .panic _=>False
section
variable {P:Program}{G:World}{f:Fc}{Q:Yn}{k:List Item}{ds:List Deferred}{cs:List Frame}
theorem X.range {g:Operand}{ps:List Tmp}{as bd:Code}{gv:Value}{xs:List (List Value)}(pre:List HP)(Inv:Nat->List HP)(Jmp:Code->List HP->Prop)(hI:Iter P G gv xs pre)(hg:evp p g=some gv)(hq:Le q (Inv 0++(pre++F)))
 (hxs: ∀ x∈xs,x.length=ps.length) (hps:ps.all (Nat.blt · f.n)=true) (hf:(P.funcs[f.fn]?).isSome=true) (hro:f.round=none)
 (round: ∀ i (h:i<xs.length) l rec F₀ cs₀,X P G ⟨f.fn,f.n,.normal,some l⟩ (RQ cs₀ rec l (Inv (i+1)) Jmp (pre++F₀)) [.code as,.beginRound,.code bd] (L0 ps xs[i] p) [] cs₀ (lp rec l .ready none::(Inv i++(pre++F₀))))
 (cont: ∀ r,X P G f Q k p (markD r::ds) cs (pto r (.deferred (some []))::(Inv xs.length++(pre++F))))
 (contJ: ∀ r c qs,Jmp c qs->X P G f Q (.code c::k) p (markD r::ds) cs (pto r (.deferred (some []))::(qs++(pre++F)))):
 X P G f Q (.code (.rangeFunc g ps.toArray as bd)::k) p ds cs q:=by
 refine X.rangeFunc (pre:=Inv 0++pre) (F:=F) (R':=fun a m=>(a=none/\m=Inv xs.length++pre)\/ ∃ c qs,a=some c/\Jmp c qs/\m=qs++pre) hro hg (by rw [aA];exact hq) (fun l rec d=> ?_) fun r a m h=> ?_
 . have t:=hI l (fun i=>stars (lp rec l .ready none::Inv i)) (fun A=> ∃ c qs,Jmp c qs/\A=stars (lp rec l .done (some c)::qs)) fun i h=> ?_
   . refine jY (pre':=stars (lp rec l .ready none::Inv 0)::pre) ?_ t ?_
     . rw [show lp rec l .ready none::(Inv 0++pre)=(lp rec l .ready none::Inv 0)++pre from rfl];exact Z5 _ _
     rintro e q' ⟨v,rfl,rfl|⟨A,⟨c,qs,b,rfl⟩,rfl⟩⟩
     . exact ⟨lp rec l .ready none::(Inv xs.length++pre),⟨v,rfl,.ready,none,_,by simp,rfl,.inl ⟨rfl,rfl⟩⟩,Z1 _ _⟩
     exact ⟨lp rec l .done (some c)::(qs++pre),⟨v,rfl,.done,some c,_,by simp,rfl,.inr ⟨c,qs,rfl,b,rfl⟩⟩,Z1 _ _⟩
   refine jY (pre':=lp rec l .ready none::(Inv i++pre)) (Z1 _ _)
    (CallV.yield (R:=Ret fun v q=>(v= .bool true/\q=lp rec l .ready none::(Inv (i+1)++pre))\/(v= .bool false/\ ∃ c qs,Jmp c qs/\q=lp rec l .done (some c)::(qs++pre))) d hps (by simpa using hxs _ (aB h)) hf (fun F₀ cs₀=> ?_)) ?_
   . intro tm w hn ha s;obtain ⟨o,j,p',b0,c0,w',q',⟨a0,z,u⟩,h1,h2,h3,h4⟩:=round i h l rec F₀ cs₀ tm w hn ha (by rw [aA] at s;exact s);refine ⟨o,j,p',b0,c0,w',q',⟨a0,z,?_⟩,h1,h2,h3,h4⟩
     cases o with
     |fall=>exact ⟨Inv (i+1)++pre,⟨_,rfl,.inl ⟨rfl,rfl⟩⟩,by rw [aA];exact u⟩
     |jump c=>obtain ⟨qs,b,y⟩:=u;exact ⟨qs++pre,⟨_,rfl,.inr ⟨rfl,c,qs,b,rfl⟩⟩,by rw [aA];exact y⟩
     |panic ch=>exact u.elim
   rintro e q' ⟨v,rfl,⟨rfl,rfl⟩|⟨rfl,c,qs,b,rfl⟩⟩
   . exact ⟨stars (lp rec l .ready none::Inv (i+1))::pre,⟨_,rfl,.inl ⟨rfl,rfl⟩⟩,Z5 (lp rec l .ready none::Inv (i+1)) pre⟩
   exact ⟨stars (lp rec l .done (some c)::qs)::pre,⟨_,rfl,.inr ⟨rfl,_,⟨c,qs,b,rfl⟩,rfl⟩⟩,Z5 (lp rec l .done (some c)::qs) pre⟩
 rcases h with ⟨rfl,rfl⟩|⟨c,qs,rfl,b,rfl⟩
 . have:=cont r;rw [<-aA] at this;exact this
 have:=contJ r c qs b;rw [<-aA] at this;exact this
theorem Eh {fn:FuncId}{R:U5}{u:FrameMode}{q':List HP}{r:Nat}(h:Lv P G fn R F ds u p q')(hu:u≠ .run:=by simp)(hq:Le q (pto r (.deferred (some []))::q'):=by exact Zk):Lv P G fn R F (markD r::ds) u p q:=Lv.mark hu hq h
end
end
section
variable {q:List HP}{i:Nat}
section
variable {α β:Type}{h:α->HP}{l:List α}
theorem Uz (A:HP)(l:List HP)(q:List HP):Le (A::stars l::q) (stars (A::l)::q):=Le.fuse _ _ _
theorem Rr (A:HP)(l:List HP)(q:List HP):Le (stars (A::l)::q) (A::stars l::q):=Le.split _ _ _
theorem W6 (q:List HP):Le q (stars []::q):=fun _ k p=>⟨fun _=>none,k,fun _=> .inl rfl,fun _ _ e=>by simp at e,.refl _,trivial,p⟩
theorem Hv (a b:List HP)(q:List HP):Le (stars a::stars b::q) (stars (a++b)::q):=by
 refine (Z1 a _).trans ?_;refine aS (b:=a++(b++q)) (dH a (Z1 b q)) ?_;rw [<-aA];exact Z5 _ _
theorem H6 (a b:List HP)(q:List HP):Le (stars (a++b)::q) (stars a::stars b::q):=by
 refine (Z1 (a++b) q).trans ?_;rw [aA];exact (dH a (Z5 b q)).trans (Z5 a _)
theorem Le.focus (h:α->HP){l:List α}(hi:i<l.length)(q:List HP):Le (stars (l.map h)::q) (h l[i]::stars ((l.eraseIdx i).map h)::q):=by
 have e:l.map h=(l.take i).map h++(h l[i]::(l.drop (i+1)).map h):=by
  conv=>lhs;rw [<-eS i l,aJ hi]
  rw [aM,bP]
 have a:(l.eraseIdx i).map h=(l.take i).map h++(l.drop (i+1)).map h:=by rw [List.eraseIdx_eq_take_drop_succ,aM]
 rw [e,a];refine (H6 _ _ q).trans ?_;refine (dD _ (Rr _ _ q)).trans ?_;exact (iE _ _ _).trans (dD _ (Hv _ _ q))
theorem Nn (h:α->HP){l:List α}(hi:i<l.length)(x:α)(q:List HP):Le (h x::stars ((l.eraseIdx i).map h)::q) (stars ((l.set i x).map h)::q):=by
 have e:(l.set i x).map h=(l.take i).map h++(h x::(l.drop (i+1)).map h):=by
  rw [jH,if_pos hi];simp
 have a:(l.eraseIdx i).map h=(l.take i).map h++(l.drop (i+1)).map h:=by rw [List.eraseIdx_eq_take_drop_succ,aM]
 rw [e,a];refine (dD _ (H6 _ _ q)).trans ?_;refine (iE _ _ _).trans ?_;exact (dD _ (Uz _ _ q)).trans (Hv _ _ q)
theorem Le.stars_snoc (h:α->HP)(l:List α)(x:α)(q:List HP):Le (stars (l.map h)::h x::q) (stars ((l++ [x]).map h)::q):=by
 rw [aM];refine aS (dD _ ?_) (Hv _ _ q);exact (dD _ (W6 q)).trans (Uz _ _ q)
theorem Cq (h:α->HP)(x:α)(hx: ∀ q,Le q (h x::q))(n:Nat)(q:List HP):Le q (stars ((List.replicate n x).map h)::q):=by
 induction n with
 |zero=>exact W6 q
 |succ n ih=>
  rw [List.replicate_succ,bP];exact ih.trans ((hx _).trans (Uz _ _ q))
theorem Sees.star {h:α->HP}{l:List α}(hi:i<l.length){a:Option Addr}{vs:List Value}(hs: ∀ q,Sees (h l[i]::q) a vs)(q:List HP):Sees (stars (l.map h)::q) a vs:=
 (hs _).le (Le.focus h hi q)
end
theorem X.turn {P:Program}{G:World}{f:Fc}{Q:Yn}{todo:List Item}{p:PE}{ds:List Deferred}{cs:List Frame}{q':List HP}(h: ∀ w,St G w q->St G w q')(x:X P G f Q todo p ds cs q'):X P G f Q todo p ds cs q:=fun tm w hn ag s=>x tm w hn ag (h w s)
end
section
variable {p:PE}{d j:Nat}{tm:Array Value}{v:Value}{q q':List HP}{ops:List Oper}{done:List Nat}{R:Value->List HP->Prop}{pos:String}{af:Array Edge}{gd:Option (Nat×Bool)}
structure FlE where
 i:Nat
 d:Nat
 V:Nat->Value
 A:Nat->HP
variable {e e0:FlE}
abbrev FlS:=List (FlE×Nat)
def Vr (S:FlS):List Nat:=S.map (·.1.i)
def fCh (S:FlS):List HP:=S.map fun e=>e.1.A e.2
def fAgr (tm:Array Value)(S:FlS):Prop:= ∀ e∈S,tm.getD e.1.d undef=e.1.V e.2
def N7 (p:PE)(d:Nat):Bool:=p.all fun x=> !(x.1==d)
theorem Pw (h:N7 p d=true):lkp p d=none:=by
 induction p with
 |nil=>rfl
 |cons x r ih=>
  obtain ⟨y,z⟩:=x;simp only [N7,iB,aI] at h;simp only [lkp]
  have:Nat.beq y d=false:=by
   cases hb:Nat.beq y d with
   |false=>rfl
   |true=>rw [cK hb] at h;simp at h
  rw [this];exact ih h.2
theorem Agr.put_free (h:N7 p d=true)(a:Agr tm p):Agr (Y8 tm (some d) v) p:=by
 intro t u e;have b:d≠t:=by rintro rfl;rw [Pw h] at e;cases e
 have:=a t u e;simpa [Y8,dI,b] using this
theorem HL.le (l:Le q q'): ∀ {L:Rds},HL q' L->HL q L
 | [],_=>trivial
 |(_,_,_,_)::_,h=>⟨fun G w s=>h.1 G w (s.le l),HL.le l h.2⟩
theorem HL.sub : ∀ {L L':Rds},(∀ e∈L',e∈L)->HL q L->HL q L':=by
 intro L L' c h
 have b: ∀ {L:Rds},HL q L-> ∀ e∈L,Cl q ⟨e.2.1,e.2.2.1,none⟩ e.2.2.2:=by
  intro L
  induction L with
  |nil=>intro _ e a;cases a
  |cons x r ih=>intro h e a;rcases cE.1 a with rfl|a;exact h.1;exact ih h.2 e a
 induction L' with
 |nil=>trivial
 |cons x r ih=>exact ⟨b h x (c x (bI ..)),ih fun e a=>c e (bZ _ a)⟩
theorem Wi (h:rdy ops done j=true):j∉done:=by
 intro a;unfold rdy at h;simp [a] at h
theorem Ha {E:List Nat}(h:rdy ops done j=true)(hn:j∉E):rdy ops (E++done) j=true:=by
 induction E with
 |nil=>exact h
 |cons x r ih=>exact Mz (ih fun a=>hn (bZ _ a)) (fun e=>hn (e ▸ bI ..))
theorem Re {done':List Nat}(h:rdy ops done j=true)(hs: ∀ x∈done,x∈done')(hn:j∉done'):rdy ops done' j=true:=by
 unfold rdy at*;simp only [aI,fA] at h|-;refine ⟨by simpa using hn,?_⟩
 cases ho:ops[j]? with
 |none=>rw [ho] at h;simp at h
 |some o=>
  rw [ho] at h;have a:=h.2;simp only [Zql,cC] at a|-;intro e b;have:=a e b;simp only [dM] at this|-;rcases this with x|x
  . exact .inl x
  right;simp at x|-;exact hs _ x
section
variable {P:Program}{G:World}{f:Fc}{Q:Yn}{k:List Item}{pk:PE}{ds:List Deferred}{cs:List Frame}{n:Nat}{L:Rds}{o:Oper}{fl:List FlE}
def XF (P:Program)(G:World)(f:Fc)(Q:Yn)(ops:List Oper)(k:List Item)(pk:PE)(fl:List FlE)(L:Rds)(n:Nat)(done:List Nat)(p:PE)(ds:List Deferred)(cs:List Frame)(q:List HP):Prop:=
 okR ops=true->Me ops pk=true-> ∀ (S:FlS) m tm w,(Vr S).Nodup->(∀ e∈S,e.1∈fl)->m+S.length=n->tm.size=f.n->Agr tm p->fAgr tm S->St G w (q++fCh S)->
  WA P ops (Ke' P G f Q k ds cs) (Kp' G Q f.n pk ds cs) m L (Vr S++done) tm w
def FlR (P:Program)(G:World)(f:Fc)(ops:List Oper)(done:List Nat)(p:PE):List FlE->Prop
 | []=>True
 |e::r=>(∃ o,ops[e.i]? =some o/\o.dst=some e.d/\rdy ops done e.i=true/\Wt ops p o=some true/\Nat.blt e.d f.n=true/\N7 p e.d=true/\ ∀ q,Ef P G p q o fun v q'=> ∃ g,v=e.V g/\q'=e.A g::q)/\FlR P G f ops done p r
theorem FlR.get : ∀ {fl:List FlE},FlR P G f ops done p fl->e∈fl-> ∃ o,ops[e.i]? =some o/\o.dst=some e.d/\rdy ops done e.i=true/\Wt ops p o=some true/\Nat.blt e.d f.n=true/\N7 p e.d=true/\ ∀ q,Ef P G p q o fun v q'=> ∃ g,v=e.V g/\q'=e.A g::q
 |x::r,⟨h,h2⟩,a=>by
  rcases cE.1 a with rfl|a
  . exact h
  exact h2.get a
theorem X7 (A:HP)(q E:List HP):Le (A::(q++E)) (q++(A::E)):=by
 induction q with
 |nil=>exact aE _
 |cons B r ih=>exact (iE A B _).trans (ih.cons B)
theorem Le.midB (A:HP)(q E:List HP):Le (q++(A::E)) (A::(q++E)):=by
 induction q with
 |nil=>exact aE _
 |cons B r ih=>exact (ih.cons B).trans (iE B A _)
theorem Ds (hok:okR ops=true){i:Nat}{x y:Oper}(hx:ops[i]? =some x)(hy:ops[j]? =some y)(hne:i≠j){D D':List Nat}(hi:rdy ops D i=true)(hj:rdy ops D' j=true)(hiD:j∉D)(hjD:i∉D')(hd:x.dst=some d):y.dst≠some d:=by
 rcases C4 hok hx hy hne with h|h|h
 . exact aR (Dw hx hi h) hiD
 . exact aR (Dw hy hj h) hjD
 exact ((D2 h).1 d hd).2
theorem Tx (hok:okR ops=true)(hR:FlR P G f ops done p fl){S:FlS}{w:World}(h1:(Vr S).Nodup)(h2: ∀ e∈S,e.1∈fl)(hn:tm.size=f.n)(ag:Agr tm p)(fa:fAgr tm S)(s:St G w (q++fCh S))
  (he:e∈fl) (hx:e.i∉Vr S) {oe:Oper} (ho:ops[e.i]? =some oe) {K:Array Value->World->Prop} {Kp:List PanicEntry->Array Value->World->Prop}
 (hK: ∀ g tm' w',(Vr ((e,g)::S)).Nodup->(∀ x∈(e,g)::S,x.1∈fl)->tm'.size=f.n->Agr tm' p->fAgr tm' ((e,g)::S)->St G w' (q++fCh ((e,g)::S))->K tm' w'):OW P ops oe tm w K Kp:=by
 obtain ⟨o,c,y,hr,hw,r,t,hE⟩:=hR.get he;rw [ho] at c;cases c
 unfold OW;rw [if_pos (Yh ag hw)];refine ((hE _).ap tm w ag s).mono fun en w' _ hh=> ?_
 obtain ⟨q',⟨v,rfl,g,rfl,rfl⟩,s'⟩:=hh;have k:e.d<tm.size:=by rw [hn];simpa [dY] using r
 refine hK g _ w' ?_ ?_ ?_ ?_ ?_ ?_
 . exact fT.2 ⟨hx,h1⟩
 . intro x hx;rcases cE.1 hx with rfl|hx;exact he;exact h2 x hx
 . rw [Yk];exact hn
 . rw [y];exact ag.put_free t
 . intro x a;rw [y];rcases cE.1 a with rfl|a
   . simp [Y8,k]
   obtain ⟨o2,l,u,b,_,_,_,_⟩:=hR.get (h2 x a);have m:e.i≠x.1.i:=fun z=>hx (by rw [z];exact aP a)
   have j:=Ds hok ho l m hr b (Wi b) (Wi hr) y;rw [u] at j;have h:e.d≠x.1.d:=fun z=>j (by rw [z])
   have:=fa x a;simpa [Y8,dI,h] using this
 exact s'.le (X7 _ _ _)
theorem Yo (h:XF P G f Q ops k pk fl L n done p ds cs q):XD P G f Q ops k pk L n done p ds cs q:=fun a b tm w c g s i=>by
 have:=h a b [] n tm w (by simp [Vr]) (by simp) (by simp) c g (by intro e d;cases d) (by simpa [fCh] using s);simpa [Vr] using this
theorem XF.back (h:XD P G f Q ops k pk L n done p ds cs q)(hL:HL q L:=by exact hlA):XF P G f Q ops k pk [] L n done p ds cs q:=fun a b S m tm w l i g d j o s=>by
 cases S with
 |nil=>
  have e:m=n:=by simpa using g
  subst e;have c:St G w q:=by simpa [fCh] using s
  exact h a b tm w d j c (hL.sl c)
 |cons x r=>exact aR (i x (bI ..)) (by simp)
abbrev eT:=@XF.back
def onlyF (ops:List Oper)(fl done:List Nat)(i:Nat):Bool:=(List.range ops.length).all fun j=>j==i||fl.contains j|| !rdy ops (fl++done) j
theorem XF.step (j:Nat){oj:Oper}(hR:FlR P G f ops done p fl)(ho:ops[j]? =some oj)(hE: ∀ E,Ef P G p (q++E) oj fun v q'=> ∃ q1,R v q1/\q'=q1++E)(hL:HL q L)
 (K: ∀ v q1,R v q1->XF P G f Q ops k pk fl (cut oj L) n (j::done) (Uc p oj.dst v) ds cs q1)
 (hon:onlyF ops (fl.map (·.i)) done j=true) (hjf:(fl.map (·.i)).contains j=false) (hr:rdy ops done j=true) (hw:Wt ops p oj=some true) (hd:dOk f.n oj.dst=true) (hlen:Nat.ble fl.length n=true) (hKL: ∀ v q1,R v q1->HL q1 (cut oj L)):
 XF P G f Q ops k pk fl L (n+1) done p ds cs q:=by
 intro a b S m
 induction m generalizing S with
 |zero=>
  intro tm w h1 z h3 hn ag fa s;exfalso
  have m0:S.length<=fl.length:=by
   have h4:(Vr S).length<=(fl.map (·.i)).length:=by
    refine List.Nodup.length_le_of_subset h1 fun x hx=> ?_
    obtain ⟨e,l,rfl⟩:=bU.1 hx;exact aP (z e l)
   simpa [Vr] using h4
  have:fl.length<=n:=by simpa using hlen
  omega
 |succ m ih=>
  intro tm w h1 z h3 hn ag fa s
  have b0:j∉Vr S:=fun r=>by
   obtain ⟨e,l,e'⟩:=bU.1 r;have:j∈fl.map (·.i):=by rw [<-e'];exact aP (z e l)
   simp [this] at hjf
  have h0:=Ha hr b0;refine ⟨fun u=>aR h0 (by simp [u j]),fun x ox o t=> ?_⟩;by_cases hxj:x=j
  . subst hxj;rw [ho] at o;cases o
    unfold OW;rw [if_pos (Yh ag hw)];refine ((hE (fCh S)).ap tm w ag s).mono fun en w' _ hh=> ?_
    obtain ⟨q',⟨v,rfl,q1,hv,rfl⟩,s'⟩:=hh;refine ⟨((hKL v q1 hv).le (Y1 q1 (fCh S))).sl s',?_⟩;refine WA.congr _ (done:=Vr S++(x::done)) (fun y=>by simp only [aQ,cE];exact ⟨fun h=>by rcases h with h|h|h<;>simp [h],fun h=>by rcases h with h|h|h<;>simp [h]⟩) ?_;refine K v q1 hv a b S m _ w' h1 z (by omega) (by rw [Yk];exact hn) (ag.put (hn ▸ hd)) ?_ s';intro e l;obtain ⟨o2,i0,l0,a0,_,_,_,_⟩:=hR.get (z e l);have j0:e.1.i≠x:=fun e'=>b0 (by rw [<-e'];exact aP l)
    have k0:=Ds a i0 ho j0 a0 hr (Wi hr) (Wi a0) l0;have:=fa e l
    cases hdo:oj.dst with
    |none=>simpa [Y8] using this
    |some d=>
     have c0:d≠e.1.d:=fun e'=>k0 (by rw [hdo,e'])
     simpa [Y8,dI,c0] using this
  have e0:x<ops.length:=(cI.1 o).1
  have f0:x∈fl.map (·.i):=by
   have h4:=cC.1 hon x (by simpa using e0);rcases aX (x∈fl.map (·.i)) with h5|h5
   . exact h5
   have h6:rdy ops (fl.map (·.i)++done) x=true:=Re t (fun y c=>by
    rcases aQ.1 c with c|c
    . obtain ⟨e,l,rfl⟩:=bU.1 c;exact dU _ (aP (z e l))
    . exact eA _ c) (fun r=>by
    rcases aQ.1 r with r|r
    . exact h5 r
    exact Wi t (eA _ r))
   simp [hxj,h6] at h4;simp at h5;obtain ⟨y,c,e⟩:=h4;exact aR e (h5 y c)
  obtain ⟨e,l,rfl⟩:=bU.1 f0;have g0:e.i∉Vr S:=fun r=>Wi t (dU _ r)
  refine Tx a hR h1 z hn ag fa s l g0 o fun g d0 w' k1 k2 k3 k4 k5 k6=> ?_
  refine ⟨((hL.sub fun y c=>(Uk.1 c).1).le (Y1 q _)).sl k6,?_⟩;exact WA.mono _ (fun y c=>(Uk.1 c).1) (ih ((e,g)::S) d0 w' k1 k2 (by simp;omega) k3 k4 k5 k6)
theorem XF.absorb (i:Nat)(he0:fl.find? (fun e=>e.i==i)=some e0)(hR:FlR P G f ops done p fl)(hL:HL q L)
 (K: ∀ g,XF P G f Q ops k pk (fl.filter fun e=> !(e.i==i)) L n (i::done) ((e0.d,e0.V g)::p) ds cs (e0.A g::q))
 (hnd:(fl.map (·.i)).Nodup) (hon:((List.range ops.length).all fun j=>(fl.map (·.i)).contains j|| !rdy ops (((fl.filter fun e=> !(e.i==i)).map (·.i))++done) j)=true) (hlen:Nat.ble fl.length (n+1)=true):
 XF P G f Q ops k pk fl L (n+1) done p ds cs q:=by
 have g0:e0∈fl:=iO he0;have a0:e0.i=i:=by have:=List.find?_some he0;simpa using this
 have b0: ∀ e∈fl,e.i=i->e=e0:=by
  intro e c s0;have h1:=gY.1 c;have v:=gY.1 g0;obtain ⟨x,hx,rfl⟩:=h1;obtain ⟨y,l,rfl⟩:=v
  have:x=y:=by
   have h3:(fl.map (·.i))[x]'(by simpa using hx)=(fl.map (·.i))[y]'(by simpa using l):=by simp [s0,a0]
   exact (List.getElem_inj hnd).1 h3
  subst this;rfl
 intro a b
 have h0: ∀ (S:FlS) m tm w g,(e0,g)∈S->(Vr S).Nodup->(∀ e∈S,e.1∈fl)->m+S.length=n+1->tm.size=f.n->Agr tm p->fAgr tm S->St G w (q++fCh S)->WA P ops (Ke' P G f Q k ds cs) (Kp' G Q f.n pk ds cs) m L (Vr S++done) tm w:=by
  intro S m tm w g o h1 v h3 hn ag fa s;obtain ⟨S1,S2,rfl⟩:=List.append_of_mem o
  have c0:(Vr (S1++S2)).Nodup/\i∉Vr (S1++S2):=by
   unfold Vr at h1|-;rw [aM,bP,<-a0] at*;have r:=List.perm_middle.nodup_iff.1 h1;exact ⟨(fT.1 r).2,(fT.1 r).1⟩
  have:=K g a b (S1++S2) m tm w c0.1 (fun e c=>by
   have t0:e.1∈fl:=v e (by rcases aQ.1 c with c|c<;>simp [c]);refine fH.2 ⟨t0,?_⟩;have:e.1.i≠i:=fun e'=>c0.2 (by rw [<-e'];exact aP c)
   simp [this]) (by simp at h3|-;omega) hn (by
   intro t u hu;simp only [lkp] at hu
   cases hb:Nat.beq e0.d t with
   |true=>
    rw [hb] at hu;have:=cK hb;subst this;simp at hu;subst hu;exact fa (e0,g) o
   |false=>rw [hb] at hu;exact ag t u (by simpa using hu)) (fun e c=>fa e (by rcases aQ.1 c with c|c<;>simp [c])) (s.le (by
   unfold fCh;rw [aM,bP,aM];rw [<-aA];refine (Le.midB _ _ _).trans ?_;rw [aA];exact aE _))
  refine this.congr _ fun y=> ?_
  unfold Vr;simp only [aM,bP,aQ,cE,a0];exact ⟨fun h=>by rcases h with (h|h)|h|h<;>simp [h],fun h=>by rcases h with (h|h|h)|h<;>simp [h]⟩
 intro S m
 induction m generalizing S with
 |zero=>
  intro tm w h1 v h3 hn ag fa s;by_cases o: ∃ g,(e0,g)∈S
  . obtain ⟨g,o⟩:=o;exact h0 S 0 tm w g o h1 v h3 hn ag fa s
  exfalso
  have r:(e0.i::Vr S).length<=(fl.map (·.i)).length:=by
   refine List.Nodup.length_le_of_subset (fT.2 ⟨fun z=> ?_,h1⟩) fun x hx=> ?_
   . obtain ⟨e,c,e'⟩:=bU.1 z;have:=b0 e.1 (v e c) (e'.trans a0);exact o ⟨e.2,by rw [<-this];exact c⟩
   rcases cE.1 hx with rfl|hx
   . exact aP g0
   obtain ⟨e,c,rfl⟩:=bU.1 hx;exact aP (v e c)
  have:fl.length<=n+1:=by simpa using hlen
  simp [Vr] at r;omega
 |succ m ih=>
  intro tm w h1 v h3 hn ag fa s;by_cases o: ∃ g,(e0,g)∈S
  . obtain ⟨g,o⟩:=o;exact h0 S (m+1) tm w g o h1 v h3 hn ag fa s
  have l0:i∉Vr S:=fun z=>by
   obtain ⟨e,c,e'⟩:=bU.1 z;have:=b0 e.1 (v e c) e';exact o ⟨e.2,by rw [<-this];exact c⟩
  obtain ⟨oi,r0,u0,j0,_⟩:=hR.get g0;rw [a0] at r0 j0;have i0:=Ha j0 l0;refine ⟨fun f0=>aR i0 (by simp [f0 i]),fun x ox k0 d0=> ?_⟩;have o0:x<ops.length:=(cI.1 k0).1
  have p0:x∈fl.map (·.i):=by
   have r:=cC.1 hon x (by simpa using o0);rcases aX (x∈fl.map (·.i)) with h5|h5
   . exact h5
   have h6:rdy ops ((fl.filter fun e=> !(e.i==i)).map (·.i)++done) x=true:=Re d0 (fun y l=>by
    rcases aQ.1 l with l|l
    . have n0:y≠i:=fun e=>l0 (e ▸ l)
      obtain ⟨e,c,rfl⟩:=bU.1 l;exact dU _ (aP (fH.2 ⟨v e c,by simpa using n0⟩))
    . exact eA _ l) (fun z=>by
    rcases aQ.1 z with z|z
    . obtain ⟨e,c,rfl⟩:=bU.1 z;exact h5 (aP (fH.1 c).1)
    exact Wi d0 (eA _ z))
   simp only [dM,fA] at r;rcases r with r|r
   . exact aR (by simpa using r) h5
   rw [h6] at r;cases r
  obtain ⟨e,c,rfl⟩:=bU.1 p0;have q0:e.i∉Vr S:=fun z=>Wi d0 (dU _ z)
  refine Tx a hR h1 v hn ag fa s c q0 k0 fun g m0 w' k1 k2 k3 k4 k5 k6=> ?_
  refine ⟨((hL.sub fun y l=>(Uk.1 l).1).le (Y1 q _)).sl k6,?_⟩;exact WA.mono _ (fun y l=>(Uk.1 l).1) (ih ((e,g)::S) m0 w' k1 k2 (by simp;omega) k3 k4 k5 k6)
theorem Cz: ∀ a b:List HP,Le (a++b) (b++a)
 | [],b=>by rw [cA];exact aE _
 |A::a,b=>((Cz a b).cons A).trans (X7 A b a)
theorem Le.liftR (h:Le q q')(E:List HP):Le (q++E) (q'++E):=(Cz q E).trans ((dH E h).trans (Cz E q'))
theorem XF.pu_ (i:Nat)(hR:FlR P G f ops done p fl)(ho:ops[i]? =some o)(h:Pu P p o v)(hL:HL q L)(K:XF P G f Q ops k pk fl L n (i::done) (Uc p o.dst v) ds cs q)
 (hif:(fl.map (·.i)).contains i=false) (hr:rdy ops done i=true) (hw:Wt ops p o=some true) (hd:dOk f.n o.dst=true) (hlen:Nat.ble fl.length n=true):XF P G f Q ops k pk fl L (n+1) done p ds cs q:=by
 intro a b S m tm w h1 t h3 hn ag fa s
 have j:i∉Vr S:=fun hm=>by
  obtain ⟨e,c,r⟩:=bU.1 hm;have:i∈fl.map (·.i):=by rw [<-r];exact aP (t e c)
  simp [this] at hif
 have c0:S.length<=fl.length:=by
  have h4:(Vr S).length<=(fl.map (·.i)).length:=by
   refine List.Nodup.length_le_of_subset h1 fun x hx=> ?_
   obtain ⟨e,c,rfl⟩:=bU.1 hx;exact aP (t e c)
  simpa [Vr] using h4
 have h5:fl.length<=n:=by simpa using hlen
 obtain ⟨m,rfl⟩: ∃ m',m=m'+1:=⟨m - 1,by omega⟩;have hS:=(hL.le (Y1 q (fCh S))).sl s;refine WA.first (Li:= []) a ho (fun ch tm w=>jW b ho ch tm w) (fun e c=>by cases c) m L _ tm w (fun e c=>by cases c) (Ha hr j) (.inl ⟨Yh ag hw,fun w' _=>h tm w' ag⟩) hS ?_;refine WA.congr _ (done:=Vr S++(i::done)) (fun y=>by simp only [aQ,cE];exact ⟨fun h=>by rcases h with h|h|h<;>simp [h],fun h=>by rcases h with h|h|h<;>simp [h]⟩) ?_;refine K a b S m _ w h1 t (by omega) (by rw [Yk];exact hn) (ag.put (hn ▸ hd)) ?_ s;intro e c;obtain ⟨o2,u,b0,g,_,_,_,_⟩:=hR.get (t e c);have z:e.1.i≠i:=fun r=>j (by rw [<-r];exact aP c)
 have a0:=Ds a u ho z g hr (Wi hr) (Wi g) b0;have:=fa e c
 cases hdo:o.dst with
 |none=>simpa [Y8] using this
 |some d=>
  have l:d≠e.1.d:=fun r=>a0 (by rw [hdo,r])
  simpa [Y8,dI,l] using this
section
variable {d:Tmp}{op:Op}{ty:TypeId}
theorem V4 (i:Nat)(hR:FlR P G f ops done p fl)(h:Pu P p ⟨some d,op,ty,pos,af,gd⟩ v)(K:XF P G f Q ops k pk fl L n (i::done) ((d,v)::p) ds cs q)(ho:ops[i]? =some ⟨some d,op,ty,pos,af,gd⟩:=by rfl)(hL:HL q L:=by exact hlA)
 (hif:(fl.map (·.i)).contains i=false:=by rfl) (hr:rdy ops done i=true:=by rfl) (hw:Wt ops p ⟨some d,op,ty,pos,af,gd⟩=some true:=by rfl) (hd:Nat.blt d f.n=true:=by rfl) (hlen:Nat.ble fl.length n=true:=by rfl):XF P G f Q ops k pk fl L (n+1) done p ds cs q:=
 .pu_ i hR ho h hL K hif hr hw hd hlen
theorem Vv (i:Nat)(hR:FlR P G f ops done p fl)(K: ∀ g,XF P G f Q ops k pk (fl.filter fun e=> !(e.i==i)) L n (i::done) ((e0.d,e0.V g)::p) ds cs (e0.A g::q))(he0:fl.find? (fun e=>e.i==i)=some e0:=by rfl)(hL:HL q L:=by exact hlA)
 (hnd:(fl.map (·.i)).Nodup:=by decide) (hon:((List.range ops.length).all fun j=>(fl.map (·.i)).contains j|| !rdy ops (((fl.filter fun e=> !(e.i==i)).map (·.i))++done) j)=true:=by rfl) (hlen:Nat.ble fl.length (n+1)=true:=by rfl):
 XF P G f Q ops k pk fl L (n+1) done p ds cs q:= .absorb i he0 hR hL K hnd hon hlen
theorem XF.ef (i:Nat)(hR:FlR P G f ops done p fl)(hE: ∀ E,Ef P G p (q++E) ⟨some d,op,ty,pos,af,gd⟩ fun v q'=> ∃ q1,R v q1/\q'=q1++E)
 (K: ∀ v q1,R v q1->HL q1 (cut ⟨some d,op,ty,pos,af,gd⟩ L)/\XF P G f Q ops k pk fl (cut ⟨some d,op,ty,pos,af,gd⟩ L) n (i::done) ((d,v)::p) ds cs q1)
 (ho:ops[i]? =some ⟨some d,op,ty,pos,af,gd⟩:=by rfl) (hL:HL q L:=by exact hlA) (hon:onlyF ops (fl.map (·.i)) done i=true:=by rfl) (hif:(fl.map (·.i)).contains i=false:=by rfl) (hr:rdy ops done i=true:=by rfl) (hw:Wt ops p ⟨some d,op,ty,pos,af,gd⟩=some true:=by rfl) (hd:Nat.blt d f.n=true:=by rfl) (hlen:Nat.ble fl.length n=true:=by rfl):
 XF P G f Q ops k pk fl L (n+1) done p ds cs q:= .step i hR ho hE hL (fun v q1 h=>(K v q1 h).2) hon hif hr hw hd hlen (fun v q1 h=>(K v q1 h).1)
abbrev iX:=@XF.ef
end
theorem J5 {α:Type}{r:List HP}{fe:α->Value}{a b:Option Addr}{c c':Nat}{l m:List α}{e:TypeId}{d:Option Tmp}{ty':TypeId}{x y:Operand}{t:TypeId}{z:Value}{bytes:Nat}(ht:P.underlying t=some (.slice e))(hi:(P.info? e).map (fun i=>(i.zero,i.size,i.bytes))=some (some z,1,bytes))(hz:z.cells.size=1)
 (hx:evp p x=some (.slice a l.length c)) (hy:evp p y=some (.slice b m.length c')) (hq:Le q (Wx.lsH fe e a c l::r)) (hs:Sees q b (m.map fe)) (h1: ∀ u,(fe u).oneCell'=true)
 (h63:l.length+m.length<=9223372036854775807) (hby:(l.length+m.length)*bytes<=140737488355328) (E:List HP):
 Ef P G p (q++E) ⟨d,.call ⟨.builtin .append, [x,y].toArray, [t,t].toArray⟩,ty',pos,af,gd⟩ fun v q'=> ∃ q1,(∃ a' c',v= .slice a' (l++m).length c'/\q1=Wx.lsH fe e a' c' (l++m)::r)/\q'=q1++E:=by
 intro tm w o s;obtain ⟨v,j,q',g,f,a',h,n,k⟩:=Yx (P:=P) (G:=G) (d:=d) (ty':=ty') (pos:=pos) (af:=af) (gd:=gd) (r:=r++E) ht hi hz hx hy (hq.liftR E) (hs.le (Y1 q E)) h1 h63 hby tm w o s;exact ⟨v,j,q',g,f,_,⟨a',h,n,rfl⟩,k⟩
end
end
section
section
variable {P:Program}{G:World}{f:Fc}{Q:Yn}{ops:List Oper}{k:List Item}{pk p:PE}{ds:List Deferred}{cs:List Frame}{q r:List HP}{n:Nat}{done:List Nat}{L:Rds}{v:Value}{fl:List FlE}{op:Op}{ty:TypeId}{pos:String}{af:Array Edge}{gd:Option (Nat×Bool)}{t:TypeId}{x y:Operand}
theorem Ef.stE {b o:Nat}{l:List Value}{t':TypeId}{d:Option Tmp}(hs: ∀ w,(Go.sizeOf t).run P w= .ok 1 w)(hx:evp p x=some (.pointer (some ⟨b,o,none⟩)))(hy:evp p y=some v)
 (hv:v.cells= #[v]) (h1:v.oneCell'=true) (hq:Le q (pto b (.cells l.toArray t' (0,0))::r)) (ho:Nat.blt o l.length=true) (E:List HP):
 Ef P G p (q++E) ⟨d,.store t x y,ty,pos,af,gd⟩ fun z q'=> ∃ q1,(z=undef/\q1=pto b (.cells (Hl l o v).toArray t' (0,0))::r)/\q'=q1++E:=by
 intro tm w h s;obtain ⟨z,e,q',c,a,g,f⟩:=Ef.store (P:=P) (G:=G) (d:=d) (ty:=ty) (pos:=pos) (af:=af) (gd:=gd) (r:=r++E) hx hy hs hv h1 (hq.liftR E) ho tm w h s;exact ⟨z,e,q',c,a,_,⟨g,rfl⟩,f⟩
end
end
section
variable {P:Program}{p:PE}{d:Option Tmp}{pos:String}{af:Array Edge}{gd:Option (Nat×Bool)}{x y:Operand}
section
variable {ty:TypeId}{t t':TypeId}
theorem I0 {ty:TypeId}{z:Operand}{t e:TypeId}{a:Option Addr}{n c sz:Nat}{kd kd':IntKind}{h m:Int}(hx:evp p x=some (.slice a n c))(hy:evp p y=some (.int kd h))(hm:evp p z=some (.int kd' m))(ht:P.underlying t=some (.slice e))(hs: ∀ w,(Go.sizeOf e).run P w= .ok sz w)(h0:0<=h)(h1:h<=m)(h2:m<=c):
 Pu P p ⟨d,.slice t x none (some y) (some z),ty,pos,af,gd⟩ (.slice a h.toNat m.toNat):=fun tm w f=>by
 have i:0<=h/\h<=m:=⟨h0,h1⟩;have b:0<=m/\m<=(c:Int):=⟨by omega,h2⟩;have g:a.map (fun x:Addr=>x.add 0)=a:=by cases a<;>simp [Addr.add]
 simp [execOp,Zh f hx,Zh f hy,Zh f hm,Instr.sliceAt,Instr.slice,run_underlying ht,Instr.sliceBounds,Instr.sliceBound,asIntOf,i,b,hs,g];intro j;omega
theorem Pu.cap {ty:TypeId}{t e:TypeId}{A:Option Addr}{n m:Nat}{ats:List TypeId}(hx:evp p x=some (.slice A n m))(ht:P.underlying t=some (.slice e)):Pu P p ⟨d,.call ⟨.builtin .cap, [x].toArray,(t::ats).toArray⟩,ty,pos,af,gd⟩ (.int .i64 m):=
 fun tm w a=>by simp [execOp,resolve,invoke,builtin,Zh a hx,Builtin.cap_,run_underlying ht,goInt]
end
end
section
variable {v a b:Value}{p:PE}{x:Operand}{op:BinOp}
inductive TD where
 |ptr|fn|ifc|bool|str|other
 |slc (e:Nat)
 |int (k:IntKind)
 |strct (fs:List (Nat×Nat))
structure TF where
 d:TD
 agg:Bool
 sz:Nat
 bz:Option (List (Nat×Nat)×List Value):=none
inductive Tr where
 |e
 |n (v:Option TF) (l r:Tr)
def Tr.get:Tr->Nat->Option TF
 | .e,_=>none
 | .n v l r,t=>bif Nat.beq t 0 then v else bif Nat.beq (t % 2) 1 then l.get (t / 2) else r.get (t / 2 - 1)
def TD.ok (P:Program)(t:TypeId):TD->Prop
 | .ptr=> ∃ e,P.underlying t=some (.pointer e)
 | .fn=> ∃ u r b,P.underlying t=some (.func u r b)
 | .ifc=> ∃ m,P.underlying t=some (.interface m)
 | .bool=>P.underlying t=some .bool
 | .str=>P.underlying t=some .string
 | .other=> ∃ D,P.underlying t=some D/\(match D with| .interface _=>false|_=>true)=true
 | .slc e=>P.underlying t=some (.slice e)
 | .int k=>P.underlying t=some (.int k)
 | .strct l=> ∃ fs,P.underlying t=some (.struct fs)/\fs.toList.map (fun F=>(F.type,F.offset))=l
def TF.ok (P:Program)(t:TypeId)(x:TF):Prop:=
 x.d.ok P t/\(∀ w,(isAgg t).run P w= .ok x.agg w)/\(∀ w,(Go.sizeOf t).run P w= .ok x.sz w)/\
 match x.bz with
 |none=>True
 |some (pl,z)=>(∀ w,(zeroValue t).run P w= .ok (.agg z.toArray) w)/\ ∃ fs,P.underlying t=some (.struct fs)/\fs.toList.mapM (fun f=>(P.info? f.type).map fun i=>(f.offset,i.size))=some pl
def Tr.ok (P:Program):Tr->(Nat->Nat)->Prop
 | .e,_=>True
 | .n v l r,f=>(match v with|none=>True|some x=>x.ok P (f 0))/\l.ok P (fun i=>f (2*i+1))/\r.ok P (fun i=>f (2*i+2))
theorem Zl {P:Program}: ∀ {T:Tr} {f:Nat->Nat} {t:Nat} {x:TF},T.ok P f->T.get t=some x->x.ok P (f t)
 | .e,_,_,_,_,h=>by simp [Tr.get] at h
 | .n v l r,f,t,x,⟨h1,h2,h3⟩,h=>by
  unfold Tr.get at h
  cases hb:Nat.beq t 0 with
  |true=>
   have:=cK hb;subst this;rw [hb] at h;simp only [cond_true] at h;subst h;exact h1
  |false=>
   have a:=gQ hb;rw [hb] at h;simp only [cond_false] at h
   cases hc:Nat.beq (t % 2) 1 with
   |true=>
    have:=cK hc;rw [hc] at h;simp only [cond_true] at h;have:=Zl h2 h;have e:2*(t / 2)+1=t:=by omega
    simpa only [e] using this
   |false=>
    have:=gQ hc;rw [hc] at h;simp only [cond_false] at h;have:=Zl h3 h;have e:2*(t / 2 - 1)+2=t:=by omega
    simpa only [e] using this
def Cc:List Value->Nat->List Value->Option (List Value)
 |l,_, []=>some l
 | [],_,_=>none
 |_::l,0,v::vs=>match Cc l 0 vs with
  |some r=>some (v::r)
  |none=>none
 |x::l,n+1,vs=>match Cc l n vs with
  |some r=>some (x::r)
  |none=>none
theorem Gq: ∀ {l:List Value} {n:Nat} {vs r:List Value},Cc l n vs=some r->spl l n vs=r/\n+vs.length<=l.length\/vs= []/\r=l
 |l,n, [],r,h=>by right;cases l<;>cases n<;>simp [Cc] at h<;>simp [h]
 | [],n,v::vs,r,h=>by cases n<;>simp [Cc] at h
 |x::l,0,v::vs,r,h=>by
  simp only [Cc] at h;split at h
  . rename_i b a
    cases h
    left
    rcases Gq a with ⟨e,c⟩|⟨rfl,rfl⟩
    . exact ⟨by simp [spl,e],by simp;omega⟩
    exact ⟨by cases b<;>simp [spl],by simp⟩
  cases h
 |x::l,n+1,v::vs,r,h=>by
  simp only [Cc] at h;split at h
  . rename_i b a
    cases h
    left
    rcases Gq a with ⟨e,c⟩|⟨h,_⟩
    . exact ⟨by simp [spl,e],by simp at c|-;omega⟩
    cases h
  cases h
def Ij:Value->Option (List Value)
 | .agg ⟨l⟩=>some l
 | .tuple _=>none
 |v=>some [v]
theorem Zzx {l:List Value}(h:Ij v=some l):v.cells.toList=l:=by
 unfold Ij at h;split at h
 . cases h;rfl
 . cases h
 rename_i c b
 cases h
 cases v<;>first|rfl|exact aR rfl (b _)|(rename_i a;exact aR rfl (c a.toList))
def bldF (pl:List (Nat×Nat))(p:PE):List Value->List (Nat×Operand)->Option (List Value)
 |cs, []=>some cs
 |cs,(i,x)::r=>match Ee pl i,evp p x with
  |some (off,sz),some v=>match Ij v with
   |some vs=>match Nat.beq vs.length sz && Nat.ble (off+sz) cs.length with
    |true=>match Cc cs off vs with
     |some cs'=>bldF pl p cs' r
     |none=>none
    |false=>none
   |none=>none
  |_,_=>none
theorem evl_cons {l:List Operand}{vs:List Value}(h:evp p x=some v)(k:evl p l=some vs):evl p (x::l)=some (v::vs):=by simp [evl,h,k]
theorem Xl {pl:List (Nat×Nat)}{p:PE}: ∀ {ps:List (Nat×Operand)} {cs r:List Value},bldF pl p cs ps=some r-> ∃ us,evl p (ps.map (·.2))=some us/\Di pl cs ((ps.map (·.1)).zip us)=some r
 | [],cs,r,h=>by simp only [bldF] at h;cases h;exact ⟨[],rfl,by cases pl<;>rfl⟩
 |(i,x)::ps,cs,r,h=>by
  simp only [bldF] at h;split at h
  . rename_i b sz v k j;split at h
    . rename_i vs g;split at h
      . rename_i d;split at h
        . rename_i c f;obtain ⟨us,o,n⟩:=Xl h;refine ⟨v::us,evl_cons j o,?_⟩;have m:=Zzx g;have a:=d;simp only [aI] at a;simp only [bP,fO,Di,k,m,d,cond_true];have s:=cL a.2;have q:=cK a.1
          have l:spl cs b vs=c:=by
           rcases Gq f with ⟨e,_⟩|⟨rfl,rfl⟩
           . exact e
           cases c<;>cases b<;>rfl
          rw [l];exact n
        cases h
      cases h
    cases h
  cases h
abbrev SR:=Option (Value×Option Prop)
def bin (op:BinOp)(T:Tr)(t:TypeId):Value->Value->SR
 | .int kd m,.int kd' n=>match decide (kd=kd') with
  |true=>match op with
   | .eql=>some (.bool (m==n),none)
   | .neq=>some (.bool (m !=n),none)
   | .lss=>some (.bool (decide (m<n)),none)
   | .leq=>some (.bool (decide (m<=n)),none)
   | .gtr=>some (.bool (decide (n<m)),none)
   | .geq=>some (.bool (decide (n<=m)),none)
   | .add=>match kd with
    | .i64=>some (.int .i64 (m+n),some (-9223372036854775808<=m+n/\m+n<=9223372036854775807))
    |k=>some (.int k (k.wrap (m+n)),none)
   | .sub=>match kd with
    | .i64=>some (.int .i64 (m - n),some (-9223372036854775808<=m - n/\m - n<=9223372036854775807))
    |k=>some (.int k (k.wrap (m - n)),none)
   | .mul=>match kd with
    | .i64=>some (.int .i64 (m*n),some (-9223372036854775808<=m*n/\m*n<=9223372036854775807))
    |k=>some (.int k (k.wrap (m*n)),none)
   | .rem=>some (.int kd (m.tmod n),some (n≠0))
   | .quo=>some (.int kd (kd.wrap (m.tdiv n)),some (n≠0))
   | .shr=>some (.int kd (m.fdiv (2 ^ min n.toNat kd.bits)),some (0<=n))
   | .shl=>some (.int kd (kd.wrap (m*2 ^ min n.toNat kd.bits)),some (0<=n))
   | .and=>some (.int kd (kd.wrap ((BitVec.ofInt kd.bits m &&& BitVec.ofInt kd.bits n).toNat:Int)),none)
   | .or=>some (.int kd (kd.wrap ((BitVec.ofInt kd.bits m|||BitVec.ofInt kd.bits n).toNat:Int)),none)
   |_=>none
  |false=>match op with
   | .shr=>some (.int kd (m.fdiv (2 ^ min n.toNat kd.bits)),some (0<=n))
   | .shl=>some (.int kd (kd.wrap (m*2 ^ min n.toNat kd.bits)),some (0<=n))
   |_=>none
 | .bool a,.bool b=>match op,T.get t with
  | .eql,some ⟨.bool,_,_,_⟩=>some (.bool (a==b),none)
  | .neq,some ⟨.bool,_,_,_⟩=>some (.bool (a !=b),none)
  |_,_=>none
 | .string a,.string b=>match op with
  | .eql=>some (.bool (a.toList==b.toList),none)
  | .neq=>some (.bool (!(a.toList==b.toList)),none)
  |_=>none
 |_,_=>none
def nilc (op:BinOp)(T:Tr)(t:TypeId):Value->Value->SR
 | .pointer A,.pointer none=>match op,T.get t with
  | .eql,some ⟨.ptr,_,_,_⟩=>some (.bool A.isNone,none)
  | .neq,some ⟨.ptr,_,_,_⟩=>some (.bool A.isSome,none)
  |_,_=>none
 | .slice A _ _,.slice none 0 0=>match op,T.get t with
  | .eql,some ⟨.slc _,_,_,_⟩=>some (.bool A.isNone,none)
  | .neq,some ⟨.slc _,_,_,_⟩=>some (.bool A.isSome,none)
  |_,_=>none
 |_,_=>none
def sxO (T:Tr)(p:PE):Op->SR
 | .move x=>match evp p x with
  |some v=>some (v,none)
  |none=>none
 | .assign x=>match evp p x with
  |some v=>some (v,none)
  |none=>none
 | .pick c a b=>match evp p c with
  |some (.bool true)=>match evp p a with
   |some v=>some (v,none)
   |none=>none
  |some (.bool false)=>match evp p b with
   |some v=>some (v,none)
   |none=>none
  |_=>none
 | .extract x n=>match evp p x with
  |some (.tuple ⟨vs⟩)=>match nth vs n with
   |some v=>some (v,none)
   |none=>none
  |_=>none
 | .makeFunc fn ⟨l⟩ ⟨m⟩=>match evl p l,evl p m with
  |some fs,some ms=>some (.func fn fs.toArray ms.toArray,none)
  |_,_=>none
 | .makeInterface t x=>match evp p x,T.get t with
  |some v,some ⟨d,_,_,_⟩=>match d with
   | .ifc=>none
   |_=>some (.iface t v,none)
  |_,_=>none
 | .nilCheck x=>match evp p x with
  |some (.pointer (some A))=>some (.pointer (some A),none)
  |some (.func (.func f) l m)=>some (.func (.func f) l m,none)
  |_=>none
 | .unOp .not _ x=>match evp p x with
  |some (.bool true)=>some (.bool false,none)
  |some (.bool false)=>some (.bool true,none)
  |_=>none
 | .unOp .neg _ x=>match evp p x with
  |some (.int kd n)=>some (.int kd (kd.wrap (0 - n)),none)
  |_=>none
 | .convert s t x=>match evp p x,T.get s,T.get t with
  |some (.int _ n),some ⟨.int _,_,_,_⟩,some ⟨.int kd,_,_,_⟩=>match kd with
   | .i64=>some (.int .i64 n,some (-9223372036854775808<=n/\n<=9223372036854775807))
   |k=>some (.int k (k.wrap n),none)
  |_,_,_=>none
 | .fieldAddr t x n=>match evp p x,T.get t with
  |some (.pointer (some ⟨b,o,none⟩)),some ⟨.strct l,_,_,_⟩=>match Ee l n with
   |some (ft,off)=>match T.get ft with
    |some ⟨_,_,_+1,_⟩=>some (.pointer (some ⟨b,o+off,none⟩),none)
    |_=>none
   |none=>none
  |_,_=>none
 | .field t x n=>match evp p x,T.get t with
  |some (.agg ⟨vs⟩),some ⟨.strct l,_,_,_⟩=>match Ee l n with
   |some (ft,off)=>match T.get ft with
    |some ⟨_,false,_,_⟩=>match nth vs off with
     |some v=>some (v,none)
     |none=>none
    |some ⟨_,true,sz,_⟩=>some (.agg (Wx.sub vs off sz).toArray,none)
    |none=>none
   |none=>none
  |_,_=>none
 | .indexAddr t x i=>match evp p x,evp p i,T.get t with
  |some (.slice (some ⟨b,o,none⟩) n _),some (.int _ j),some ⟨.slc e,_,_,_⟩=>match T.get e with
   |some ⟨_,_,sz,_⟩=>some (.pointer (some ⟨b,o+j.toNat*sz,none⟩),some (0<=j/\j<n))
   |none=>none
  |_,_,_=>none
 | .slice t x none (some h) none=>match evp p x,evp p h,T.get t with
  |some (.slice a _ c),some (.int _ j),some ⟨.slc e,_,_,_⟩=>match T.get e with
   |some _=>some (.slice a j.toNat c,some (0<=j/\j<=c))
   |none=>none
  |_,_,_=>none
 | .slice t x none (some h) (some m)=>match evp p x,evp p h,evp p m,T.get t with
  |some (.slice a _ c),some (.int _ j),some (.int _ m),some ⟨.slc e,_,_,_⟩=>match T.get e with
   |some _=>some (.slice a j.toNat m.toNat,some (0<=j/\j<=m/\m<=c))
   |none=>none
  |_,_,_,_=>none
 | .slice t x (some h) none none=>match evp p x,evp p h,T.get t with
  |some (.slice a n c),some (.int _ j),some ⟨.slc e,_,_,_⟩=>match T.get e with
   |some ⟨_,_,sz,_⟩=>some (.slice (F9 a c j.toNat sz) (n - j.toNat) (c - j.toNat),some (0<=j/\j<=n))
   |none=>none
  |_,_,_=>none
 | .build t ⟨ps⟩=>match T.get t with
  |some ⟨_,_,_,some (pl,z)⟩=>match bldF pl p z ps with
   |some cells=>some (.agg cells.toArray,none)
   |none=>none
  |_=>none
 | .call ⟨.builtin .len,⟨[x]⟩,⟨t::_⟩⟩=>match evp p x,T.get t with
  |some (.slice _ n _),some ⟨.slc _,_,_,_⟩=>some (.int .i64 n,none)
  |some (.string s),some ⟨.str,_,_,_⟩=>some (.int .i64 s.size,none)
  |_,_=>none
 | .call ⟨.builtin .cap,⟨[x]⟩,⟨t::_⟩⟩=>match evp p x,T.get t with
  |some (.slice _ _ c),some ⟨.slc _,_,_,_⟩=>some (.int .i64 c,none)
  |_,_=>none
 | .call ⟨.builtin .max,⟨[x,y]⟩,_⟩=>match evp p x,evp p y with
  |some (.int kd m),some (.int _ n)=>some (.int kd (max m n),none)
  |_,_=>none
 | .call ⟨.builtin .min,⟨[x,y]⟩,_⟩=>match evp p x,evp p y with
  |some (.int kd m),some (.int _ n)=>some (.int kd (min m n),none)
  |_,_=>none
 | .binOp op t x y _=>match y with
  | .const (.pointer none)=>match evp p x with
   |some v=>nilc op T t v (.pointer none)
   |none=>none
  | .const (.slice none 0 0)=>match evp p x with
   |some v=>nilc op T t v (.slice none 0 0)
   |none=>none
  |y=>match evp p x,evp p y with
   |some v,some u=>bin op T t v u
   |_,_=>none
 |_=>none
section sound
variable {P:Program}{T:Tr}{c:Option Prop}{d:Option Tmp}{ty:TypeId}{pos:String}{af:Array Edge}{gd:Option (Nat×Bool)}
theorem kd_of {a b:IntKind}(h:decide (a=b)=true):b=a:=(cW h).symm
theorem bin_ok {t t':TypeId}{y:Operand}(hT:T.ok P id)(hx:evp p x=some a)(hy:evp p y=some b)(h:bin op T t a b=some (v,c))(hc: ∀ φ,c=some φ->φ):
 Pu P p ⟨d,.binOp op t x y t',ty,pos,af,gd⟩ v:=by
 unfold bin at h;split at h
 . split at h
   . rename_i f;have:=kd_of f;subst this;split at h<;>try (split at h)
     all_goals first
      |cases h
      |skip
     all_goals first
      |exact Pu.eql hx hy
      |exact Pu.neq hx hy
      |exact Pu.lss hx hy
      |exact Pu.leq hx hy
      |exact Pu.gtr hx hy
      |exact Pu.geq hx hy
      |exact Pu.add hx hy (hc _ rfl).1 (hc _ rfl).2
      |exact X5 hx hy
      |exact Pu.sub hx hy (hc _ rfl).1 (hc _ rfl).2
      |exact X3 hx hy
      |exact Pu.mul hx hy (hc _ rfl).1 (hc _ rfl).2
      |exact X4 hx hy
      |exact Pu.rem hx hy (hc _ rfl)
      |exact G6 hx hy (hc _ rfl)
      |exact Pu.shr hx hy (hc _ rfl)
      |exact Pu.shl hx hy (hc _ rfl)
      |exact Pu.and hx hy
      |exact Pu.or hx hy
   split at h<;>cases h
   . exact Pu.shr hx hy (hc _ rfl)
   exact Pu.shl hx hy (hc _ rfl)
 . split at h<;>first|(cases h;done)|skip
   . rename_i e
     cases h;exact Pu.eqlB hx hy (Zl hT e).1
   rename_i e
   cases h;exact Pu.neqB hx hy (Zl hT e).1
 . split at h<;>cases h
   . exact Pu.eqlS hx hy
   exact Pu.neqS hx hy
 cases h
theorem Xh {t t':TypeId}(hT:T.ok P id)(hx:evp p x=some a)(h:nilc op T t a b=some (v,c)):
 Pu P p ⟨d,.binOp op t x (.const b) t',ty,pos,af,gd⟩ v:=by
 unfold nilc at h;split at h
 . split at h
   . rename_i f;obtain ⟨⟨e,g⟩,_⟩:=Zl hT f
     cases h;exact Zz0 hx g
   . rename_i f;obtain ⟨⟨e,g⟩,_⟩:=Zl hT f
     cases h;exact Zzo hx g
   cases h
 . split at h
   . rename_i f;have g:=(Zl hT f).1
     cases h;exact I2 hx g
   . rename_i f;have g:=(Zl hT f).1
     cases h;exact I1 hx g
   cases h
 cases h
theorem TD.some {t:TypeId}{D:TD}(h:D.ok P t): ∃ E,P.underlying t=some E/\((∀ _:D= .ifc,False)->(match E with| .interface _=>false|_=>true)=true):=by
 cases D with
 |ptr=>obtain ⟨e,a⟩:=h;exact ⟨_,a,fun _=>rfl⟩
 |fn=>obtain ⟨u,r,b,a⟩:=h;exact ⟨_,a,fun _=>rfl⟩
 |ifc=>obtain ⟨u,a⟩:=h;exact ⟨_,a,fun k=>(k rfl).elim⟩
 |bool=>exact ⟨_,h,fun _=>rfl⟩
 |str=>exact ⟨_,h,fun _=>rfl⟩
 |other=>obtain ⟨E,a,c⟩:=h;exact ⟨E,a,fun _=>c⟩
 |slc e=>exact ⟨_,h,fun _=>rfl⟩
 |int k=>exact ⟨_,h,fun _=>rfl⟩
 |strct l=>obtain ⟨u,a,_⟩:=h;exact ⟨_,a,fun _=>rfl⟩
theorem fld {l:List (Nat×Nat)}{n:Nat}{ft off:Nat}{fs:Array Field}(h:fs.toList.map (fun F=>(F.type,F.offset))=l)(k:Ee l n=some (ft,off)):(fs[n]?).map (fun F=>(F.type,F.offset))=some (ft,off):=by
 rw [Xg,<-h] at k;simpa using k
theorem sxO_ok {op:Op}(hT:T.ok P id)(h:sxO T p op=some (v,c))(hc: ∀ φ,c=some φ->φ):Pu P p ⟨d,op,ty,pos,af,gd⟩ v:=by
 unfold sxO at h;split at h
 . split at h<;>cases h;exact Pu.move ‹_›
 . split at h<;>cases h;exact Pu.assign ‹_›
 . split at h
   . split at h<;>cases h;exact Pu.pickT ‹_› ‹_›
   . split at h<;>cases h;exact Pu.pickF ‹_› ‹_›
   cases h
 . split at h
   . split at h<;>cases h;exact eZ ‹_› ‹_›
   cases h
 . split at h<;>cases h;exact Pu.makeFunc ‹_› ‹_›
 . split at h
   . rename_i a s;obtain ⟨E,f,n⟩:=TD.some (Zl hT s).1;split at h
     . cases h
     rename_i k
     cases h;refine Pu.makeInterface a f ?_;have m:=n fun e=>k e;clear n;revert m;cases E<;>exact fun e=>e
   cases h
 . split at h<;>cases h
   . exact Pu.nilCheck ‹_›
   exact G7 ‹_›
 . split at h<;>cases h
   . exact bV (z:=true) ‹_›
   exact bV (z:=false) ‹_›
 . split at h<;>cases h;exact Pu.negW ‹_›
 . split at h
   . rename_i a q b;have i:=(Zl hT q).1;have g:=(Zl hT b).1;split at h<;>cases h
     . exact Pu.conv a i g (Uf (hc _ rfl).1 (hc _ rfl).2)
     exact Lg a i g
   cases h
 . split at h
   . rename_i a b;obtain ⟨⟨o,i,g⟩,_⟩:=Zl hT b;split at h
     . rename_i k;split at h<;>cases h
       rename_i l;exact Pu.fieldAddr _ _ _ a i (fld g k) (Zl hT l).2.2.1
     cases h
   cases h
 . split at h
   . rename_i a b;obtain ⟨⟨o,i,g⟩,_⟩:=Zl hT b;split at h
     . rename_i k;split at h
       . rename_i l;split at h<;>cases h
         exact Pu.field _ _ a i (fld g k) (Zl hT l).2.1 ‹_›
       . rename_i l
         cases h
         exact Zze _ _ a i (fld g k) (Zl hT l).2.1 (Zl hT l).2.2.1
       cases h
     cases h
   cases h
 . split at h
   . rename_i a j b;split at h<;>cases h
     rename_i f;exact Pu.indexAddr a j (Zl hT b).1 (Zl hT f).2.2.1 (hc _ rfl).1 (hc _ rfl).2
   cases h
 . split at h
   . rename_i a j b;split at h<;>cases h
     rename_i f;exact Ie a j (Zl hT b).1 (Zl hT f).2.2.1 (hc _ rfl).1 (hc _ rfl).2
   cases h
 . split at h
   . rename_i a j r b;split at h<;>cases h
     rename_i f;exact I0 a j r (Zl hT b).1 (Zl hT f).2.2.1 (hc _ rfl).1 (hc _ rfl).2.1 (hc _ rfl).2.2
   cases h
 . split at h
   . rename_i a j b;split at h<;>cases h
     rename_i f;exact Io a j (Zl hT b).1 (Zl hT f).2.2.1 (hc _ rfl).1 (hc _ rfl).2
   cases h
 . split at h
   . rename_i b;obtain ⟨_,_,_,i,o,g,u⟩:=Zl hT b;split at h<;>cases h
     rename_i t;obtain ⟨us,x,w⟩:=Xl t;exact Pu.build _ i g u x w
   cases h
 . split at h
   . rename_i a b
     cases h;exact Pu.len a (Zl hT b).1
   . rename_i a b
     cases h;exact Pu.lenS a (Zl hT b).1
   cases h
 . split at h
   . rename_i a b
     cases h;exact Pu.cap a (Zl hT b).1
   cases h
 . split at h<;>cases h;exact Pu.max2 ‹_› ‹_›
 . split at h<;>cases h;exact Pu.min2 ‹_› ‹_›
 . split at h
   . split at h
     . exact Xh hT ‹_› h
     cases h
   . split at h
     . exact Xh hT ‹_› h
     cases h
   split at h
   . exact bin_ok hT ‹_› ‹_› h hc
   cases h
 cases h
end sound
inductive Md where
 |code
 |ops (ops l:List Oper)
def Y (P:Program)(G:World)(f:Fc)(Q:Yn)(md:Md)(k:List Item)(p:PE)(ds:List Deferred)(cs:List Frame)(q:List HP):Prop:=
 match md with
 | .code=>X P G f Q k p ds cs q
 | .ops ops l=>XO P G f Q ops.toArray k l p ds cs q
structure Sta where
 md:Md
 k:List Item
 p:PE
 c:List Prop
def U6:List Prop->Prop
 | []=>True
 |φ::r=>φ/\U6 r
def opS (T:Tr)(ops:List Oper)(p:PE)(o:Oper):SR:=
 match Wt ops p o with
 |some true=>sxO T p o.op
 |some false=>some (undef,none)
 |none=>none
def putO (n:Nat)(p:PE)(v:Value):Option Tmp->Option PE
 |none=>some p
 |some d=>match Nat.blt d n with
  |true=>some ((d,v)::p)
  |false=>none
def Xc:Op->Bool
 | .defer _=>true
 |_=>false
def st1 (T:Tr)(n:Nat):Md->List Item->PE->List Prop->Option Sta
 | .ops ops [],k,p,c=>some ⟨.code,k,p,c⟩
 | .ops ops (o::l),k,p,c=>match opS T ops p o with
  |some (v,φ)=>match putO n p v o.dst,Xc o.op with
   |some p',false=>match φ with
    |none=>some ⟨.ops ops l,k,p',c⟩
    |some φ=>some ⟨.ops ops l,k,p',φ::c⟩
   |_,_=>none
  |none=>none
 | .code,.code (.seq a b)::k,p,c=>some ⟨.code,.code a:: .code b::k,p,c⟩
 | .code,.code .skip::k,p,c=>some ⟨.code,k,p,c⟩
 | .code,.code (.label _)::k,p,c=>some ⟨.code,k,p,c⟩
 | .code,.inBlock _::k,p,c=>some ⟨.code,k,p,c⟩
 | .code,.inScope _::k,p,c=>some ⟨.code,k,p,c⟩
 | .code,.code (.block i b)::k,p,c=>some ⟨.code,.code b:: .inBlock i::k,p,c⟩
 | .code,.code (.scope b)::k,p,c=>some ⟨.code,.code b:: .inScope b::k,p,c⟩
 | .code,.code (.exit i)::k,p,c=>match exitTo i k with
  |some k'=>some ⟨.code,k',p,c⟩
  |none=>none
 | .code,.code (.region _ ⟨ops⟩ false)::k,p,c=>some ⟨.ops ops ops,k,p,c⟩
 | .code,.code (.cond x a b)::k,p,c=>match evp p x with
  |some (.bool true)=>some ⟨.code,.code a::k,p,c⟩
  |some (.bool false)=>some ⟨.code,.code b::k,p,c⟩
  |_=>none
 |_,_,_,_=>none
def stn (T:Tr)(n:Nat):Nat->Md->List Item->PE->List Prop->Option Sta
 |0,md,k,p,c=>some ⟨md,k,p,c⟩
 |m+1,md,k,p,c=>match st1 T n md k p c with
  |some ⟨md',k',p',c'⟩=>stn T n m md' k' p' c'
  |none=>none
section
variable {P:Program}{G:World}{f:Fc}{Q:Yn}{T:Tr}{md:Md}{k:List Item}{p:PE}{c:List Prop}{ds:List Deferred}{cs:List Frame}{q:List HP}
theorem opS_ok {ops:List Oper}{o:Oper}{v:Value}{φ:Option Prop}(hT:T.ok P id)(h:opS T ops p o=some (v,φ))(hc: ∀ ψ,φ=some ψ->ψ):
 (Wt ops p o=some true/\Pu P p o v)\/(Wt ops p o=some false/\v=undef):=by
 unfold opS at h;split at h
 . rename_i a;exact .inl ⟨a,sxO_ok hT h hc⟩
 . rename_i a
   cases h;exact .inr ⟨a,rfl⟩
 cases h
theorem Xw {n:Nat}{v:Value}{d:Option Tmp}{p':PE}(h:putO n p v d=some p'):dOk n d=true/\p'=Uc p d v:=by
 unfold putO at h;split at h
 . cases h;exact ⟨rfl,rfl⟩
 split at h
 . rename_i a;cases h;exact ⟨a,rfl⟩
 cases h
theorem st1_ok {s:Sta}(hT:T.ok P id)(h:st1 T f.n md k p c=some s)(hc:U6 s.c)(K:Y P G f Q s.md s.k s.p ds cs q):Y P G f Q md k p ds cs q/\U6 c:=by
 unfold st1 at h;split at h
 . cases h;exact ⟨XO.nil K,hc⟩
 . rename_i ops o l;split at h
   . rename_i v φ j;split at h
     . rename_i p' u r
       have m: ∀ c,o.op≠ .defer c:=by
        intro c e;rw [e] at r;simp [Xc] at r
       obtain ⟨t,w⟩:=Xw u;subst w
       have b: ∀ (a:Option Prop),φ=a->(∀ ψ,a=some ψ->ψ)->XO P G f Q ops.toArray k l (Uc p o.dst v) ds cs q->XO P G f Q ops.toArray k (o::l) p ds cs q:=by
        rintro _ rfl d K;rcases opS_ok hT j d with ⟨g,i⟩|⟨g,rfl⟩
        . exact .pu_ i K g t m
        exact .pass_ g t K
       split at h
       . cases h;exact ⟨b _ rfl (fun _ e=>by cases e) K,hc⟩
       rename_i ψ
       cases h;exact ⟨b _ rfl (fun _ e=>by cases e;exact hc.1) K,hc.2⟩
     cases h
   cases h
 . cases h;exact ⟨X.seq K,hc⟩
 . cases h;exact ⟨X.skip K,hc⟩
 . cases h;exact ⟨X.label K,hc⟩
 . cases h;exact ⟨X.inBlock K,hc⟩
 . cases h;exact ⟨X.inScope K,hc⟩
 . cases h;exact ⟨X.block K,hc⟩
 . cases h;exact ⟨X.scope K,hc⟩
 . split at h
   . cases h;exact ⟨X.exit ‹_› K,hc⟩
   cases h
 . cases h;exact ⟨X.region K,hc⟩
 . split at h
   . cases h;exact ⟨X.condT ‹_› K,hc⟩
   . cases h;exact ⟨X.condF ‹_› K,hc⟩
   cases h
 cases h
theorem Bg (hT:T.ok P id): ∀ {m:Nat} {md:Md} {k:List Item} {p:PE} {c:List Prop} {s:Sta},stn T f.n m md k p c=some s->U6 s.c->Y P G f Q s.md s.k s.p ds cs q->Y P G f Q md k p ds cs q/\U6 c
 |0,md,k,p,c,s,h,hc,K=>by cases h;exact ⟨K,hc⟩
 |m+1,md,k,p,c,s,h,hc,K=>by
  simp only [stn] at h;split at h
  . rename_i b k' p' c' d;obtain ⟨e,a⟩:=Bg hT h hc K;exact st1_ok hT d a e
  cases h
variable {k':List Item}{p':PE}{ops l ops' l':List Oper}
theorem stXX (hT:T.ok P id)(m:Nat)(h:stn T f.n m .code k p []=some ⟨.code,k',p',c⟩)(hc:U6 c)(K:X P G f Q k' p' ds cs q):X P G f Q k p ds cs q:=(Bg (Q:=Q) (q:=q) (ds:=ds) (cs:=cs) hT h hc K).1
theorem stXO (hT:T.ok P id)(m:Nat)(h:stn T f.n m .code k p []=some ⟨.ops ops' l',k',p',c⟩)(hc:U6 c)(K:XO P G f Q ops'.toArray k' l' p' ds cs q):X P G f Q k p ds cs q:=(Bg (Q:=Q) (q:=q) (ds:=ds) (cs:=cs) hT h hc K).1
theorem stOX (hT:T.ok P id)(m:Nat)(h:stn T f.n m (.ops ops l) k p []=some ⟨.code,k',p',c⟩)(hc:U6 c)(K:X P G f Q k' p' ds cs q):XO P G f Q ops.toArray k l p ds cs q:=(Bg (Q:=Q) (q:=q) (ds:=ds) (cs:=cs) hT h hc K).1
theorem stOO (hT:T.ok P id)(m:Nat)(h:stn T f.n m (.ops ops l) k p []=some ⟨.ops ops' l',k',p',c⟩)(hc:U6 c)(K:XO P G f Q ops'.toArray k' l' p' ds cs q):XO P G f Q ops.toArray k l p ds cs q:=(Bg (Q:=Q) (q:=q) (ds:=ds) (cs:=cs) hT h hc K).1
end
structure StD where
 n:Nat
 done:List Nat
 p:PE
 c:List Prop
def sdn (T:Tr)(fn:Nat)(ops:List Oper):List Nat->Nat->List Nat->PE->List Prop->Option StD
 | [],n,done,p,c=>some ⟨n,done,p,c⟩
 |i::r,n,done,p,c=>match n,ops[i]?,rdy ops done i with
  |m+1,some o,true=>match opS T ops p o with
   |some (v,φ)=>match putO fn p v o.dst with
    |some p'=>match φ with
     |none=>sdn T fn ops r m (i::done) p' c
     |some φ=>sdn T fn ops r m (i::done) p' (φ::c)
    |none=>none
   |none=>none
  |_,_,_=>none
section
variable {P:Program}{G:World}{f:Fc}{Q:Yn}{T:Tr}{ops:List Oper}{k:List Item}{pk:PE}{L:Rds}{ds:List Deferred}{cs:List Frame}{q:List HP}
theorem Sj (hT:T.ok P id): ∀ {is:List Nat} {n:Nat} {done:List Nat} {p:PE} {c:List Prop} {s:StD},sdn T f.n ops is n done p c=some s->U6 s.c->XD P G f Q ops k pk L s.n s.done s.p ds cs q->XD P G f Q ops k pk L n done p ds cs q/\U6 c
 | [],n,done,p,c,s,h,hc,K=>by cases h;exact ⟨K,hc⟩
 |i::r,n,done,p,c,s,h,hc,K=>by
  simp only [sdn] at h;split at h
  . rename_i m o x w;split at h
    . rename_i v φ t;split at h
      . rename_i p' z;obtain ⟨y,h2⟩:=Xw z;subst h2
        have d: ∀ (b:Option Prop),φ=b->(∀ ψ,b=some ψ->ψ)->XD P G f Q ops k pk L m (i::done) (Uc p o.dst v) ds cs q->XD P G f Q ops k pk L (m+1) done p ds cs q:=by
         rintro _ rfl g K;rcases opS_ok hT t g with ⟨j,l⟩|⟨j,rfl⟩
         . exact .pu_ i x l K w j y
         exact .pass_ i x K w j y
        split at h
        . obtain ⟨u,a⟩:=Sj hT h hc K;exact ⟨d _ rfl (fun _ e=>by cases e) u,a⟩
        obtain ⟨u,a⟩:=Sj hT h hc K;exact ⟨d _ rfl (fun _ e=>by cases e;exact a.1) u,a.2⟩
      cases h
    cases h
  cases h
variable {n n':Nat}{done done':List Nat}{p p':PE}{c:List Prop}
theorem stDD (hT:T.ok P id)(is:List Nat)(h:sdn T f.n ops is n done p []=some ⟨n',done',p',c⟩)(hc:U6 c)(K:XD P G f Q ops k pk L n' done' p' ds cs q):XD P G f Q ops k pk L n done p ds cs q:=(Sj (Q:=Q) (q:=q) (ds:=ds) (cs:=cs) hT h hc K).1
end
def Fw:List Nat->PE->Option PE
 | [],_=>some []
 |d::r,p=>match lkp p d,Fw r p with
  |some v,some p'=>some ((d,v)::p')
  |_,_=>none
theorem N2: ∀ {l:List Nat} {p p':PE},Fw l p=some p'->SubP p' p
 | [],p,p',h=>by cases h;trivial
 |d::r,p,p',h=>by
  simp only [Fw] at h;split at h
  . cases h;exact ⟨‹_›,N2 ‹_›⟩
  cases h
theorem Zu {p p':PE}(h:SubP p' p:=by repeat (first|exact trivial|refine ⟨(by first|rfl|exact bK some (bK (Value.int _) (by omega))|(show some _=some _;simp;done)|(show some _=some _;simp;omega)),?_⟩)):SubP p' p:=h
theorem X.sb {P:Program}{G:World}{f:Fc}{Q:Yn}{todo:List Item}{p p':PE}{ds:List Deferred}{cs:List Frame}{q:List HP}(l:List Nat)(x:X P G f Q todo p' ds cs q)(h:Fw l p=some p':=by exact rfl):X P G f Q todo p ds cs q:=x.sub (N2 h)
theorem Zf {P:Program}{G:World}{f:Fc}{Q:Yn}{ops:List Oper}{k:List Item}{p p':PE}{ds:List Deferred}{cs:List Frame}{q:List HP}{r:List Oper}(l:List Nat)(x:XO P G f Q ops.toArray k r p' ds cs q)(h:Fw l p=some p':=by exact rfl):XO P G f Q ops.toArray k r p ds cs q:=x.sub (N2 h)
theorem Wv {φ:Prop}{r:List Prop}(h:φ)(k:U6 r):U6 (φ::r):=⟨h,k⟩
end
section
variable {P:Program}{G:World}{f:Fc}{Q:Yn}{ops:List Oper}{k:List Item}{p p':PE}{ds:List Deferred}{cs:List Frame}{q:List HP}
theorem sp {φ ψ:Prop}(h:φ)(e:φ->ψ:=by intro h;(try simp only [bN,cS,iY,dC,ne_eq,kG,dB,fA,gK,Int.not_lt,Int.not_le,Bool.not_not,aI,Bool.and_eq_false_iff,gI,Bool.and_true,beq_self_eq_true,dM,eK] at h);exact h):ψ:=e h
theorem D4 {pk:PE}{L:Rds}{n:Nat}{done:List Nat}(l:List Nat)(x:XD P G f Q ops k pk L n done p' ds cs q)(h:Fw l p=some p':=by exact rfl):XD P G f Q ops k pk L n done p ds cs q:=x.sub (N2 h)
theorem Zv (h:SubP p' p:=by repeat (first|exact trivial|refine ⟨(by first|rfl|exact bK (fun x=>some (Value.bool x)) (Eq.symm (by assumption))),?_⟩)):SubP p' p:=h
theorem Rd.ef {o:Oper}{v:Value}(h:Rd P G p q o v):Ef P G p q o fun u q'=>u=v/\q'=q:=fun tm w ag s=>⟨v,w,q,.inl (h tm w ag s),s,rfl,rfl⟩
section
variable {rest:List Oper}{args:List Operand}{ats:Array TypeId}{ty:TypeId}{pos:String}{af:Array Edge}{gd:Option (Nat×Bool)}{vs:List Value}{pre:List HP}{R:Value->List HP->Prop}{d:Tmp}{fo:Operand}{fv:Value}
theorem XO.cVX (hq:Le q pre)(hc:CallV P G fv vs pre (Ret R))(x: ∀ v q',R v q'->XO P G f Q ops.toArray k rest ((d,v)::p) ds cs q')(hf:evp p fo=some fv:=by rfl)(hv:evl p args=some vs:=by rfl)
 (hw:Wt ops p ⟨some d,.call ⟨.value fo,args.toArray,ats⟩,ty,pos,af,gd⟩=some true:=by rfl) (hd:Nat.blt d f.n=true:=by rfl):
 XO P G f Q ops.toArray k (⟨some d,.call ⟨.value fo,args.toArray,ats⟩,ty,pos,af,gd⟩::rest) p ds cs q:=
 .cV (F:= []) hc (fun v q' r a e=>by rw [cA] at e;rw [e];exact x v q' r) hf hv (by rw [cA];exact hq) hw hd
end
end
section
section
variable {P:Program}{G:World}{p:PE}{q:List HP}{d:Option Tmp}{ty:TypeId}{pos:String}{af:Array Edge}{gd:Option (Nat×Bool)}{x y:Operand}{t e:TypeId}{kd:IntKind}
theorem Qh {b o n:Nat}{i:Int}{sz:Nat}(hx:evp p x=some (.pointer (some ⟨b,o,none⟩)))(hy:evp p y=some (.int kd i))(ht:P.underlying t=some (.array n e))(hs: ∀ w,(Go.sizeOf e).run P w= .ok sz w)
 (h0:0<=i) (h1:i<n):Pu P p ⟨d,.indexAddr t x y,ty,pos,af,gd⟩ (.pointer (some ⟨b,o+i.toNat*sz,none⟩)):=
 fun tm w a=>by
  have c:0<=i/\i<(n:Int):=⟨h0,h1⟩;simp [execOp,Zh a hx,Zh a hy,Instr.indexAt,Instr.sureAddr,asIntOf,run_underlying ht,c,hs,Wp]
end
end
section
variable {q q':List HP}
section
variable {P:Program}{G:World}{f:Fc}{Q:Yn}{ops:List Oper}{k:List Item}{p:PE}{ds:List Deferred}{cs:List Frame}{rest:List Oper}{args:List Operand}{ats:Array TypeId}{ty:TypeId}{pos:String}{af:Array Edge}{gd:Option (Nat×Bool)}{vs:List Value}{u:Value}{d:Tmp}{fo:Operand}{fv:Value}
theorem XO.cRV (hc:CallV P G fv vs q (Ret fun v q'=>v=u/\q'=q))(x:XO P G f Q ops.toArray k rest ((d,u)::p) ds cs q)(hf:evp p fo=some fv:=by rfl)(hv:evl p args=some vs:=by rfl)
 (hw:Wt ops p ⟨some d,.call ⟨.value fo,args.toArray,ats⟩,ty,pos,af,gd⟩=some true:=by rfl) (hd:Nat.blt d f.n=true:=by rfl):
 XO P G f Q ops.toArray k (⟨some d,.call ⟨.value fo,args.toArray,ats⟩,ty,pos,af,gd⟩::rest) p ds cs q:=
 .cVX (aE _) hc (fun v q' h=>by obtain ⟨rfl,rfl⟩:=h;exact x) hf hv hw hd
theorem Cl.le {A:Addr}{v:Value}(h:Cl q' A v)(l:Le q q'):Cl q A v:=fun G w s=>h G w (s.le l)
def Rdr {α:Type}(P:Program)(G:World)(fv:Value)(E:α->Value)(u:α->Value)(q:List HP)(l:List α):Prop:=
 ∀ q1,Le q1 q-> ∀ x∈l,CallV P G fv [E x] q1 (Ret fun v q'=>v=u x/\q'=q1)
theorem Rdr.le {α:Type}{E:α->Value}{u:α->Value}{l:List α}(h:Rdr P G fv E u q l)(k:Le q' q):Rdr P G fv E u q' l:=fun q1 h1=>h q1 (h1.trans k)
end
end
section
variable {G:World}{q:List HP}{b clock o:Nat}
section
variable {P:Program}{p:PE}{r:List HP}{d:Option Tmp}{ty:TypeId}{pos:String}{af:Array Edge}{gd:Option (Nat×Bool)}{x y z:Operand}{t t' kt et:TypeId}{kd:IntKind}{v u:Value}{k:Int}{es:List MapEntry}
theorem St.setObjM {w:World}{es:Array MapEntry}{o:Obj}(s:St G w (pto b (.map es clock)::q)):St G { w with heap:=w.heap.setIfInBounds b o } (pto b o::q):=s.setObj
theorem Ef.insert (ht:P.underlying t=some (.map kt et))(hk:P.underlying kt=some (.int kd))(hx:evp p x=some (.map (some b)))(hy:evp p y=some (.int kd k))(hz:evp p z=some v)(hq:Le q (pto b (.map es.toArray clock)::r))
 (hf:Instr.findNow (.int kd) (.int kd k) es 0=some none):Ef P G p q ⟨d,.insert t x y z,ty,pos,af,gd⟩ fun u q'=>u=undef/\q'=pto b (.map (es++ [({ key:= .int kd k,val:=v,born:=clock } :MapEntry)]).toArray (clock+1))::r:=
 fun tm w c s=>by
  have e:=s.le hq;have f:=e.has (fD _ _ _);have a:MapKept.IsKey (.int kd) (.int kd k):=by first|trivial|exact rfl|simp [MapKept.IsKey]
  refine ⟨undef,_,_,.inr ⟨rfl,?_⟩,e.setObjM (o:= .map (es.toArray.push { key:= .int kd k,val:=v,born:=clock }) (clock+1)),rfl,by simp⟩;simp [execOp,Zh c hx,Zh c hy,Zh c hz,Instr.mapUpdate,run_underlying ht,MapKept.run_getObj_map f,MapKept.run_checkKey hk a,MapKept.run_findKey hk hf,MapKept.run_setObj_map _ f,Result.andThen]
abbrev eX:=@Ef.insert
theorem Rd.lookup {zv:Value}(ht:P.underlying t=some (.map kt et))(hk:P.underlying kt=some (.int kd))(hx:evp p x=some (.map (some b)))(hy:evp p y=some (.int kd k))(hq:Le q (pto b (.map es.toArray clock)::r))(hz: ∀ w,(zeroValue et).run P w= .ok zv w)
 {a:Option (Nat×Value)} (hf:Instr.findNow (.int kd) (.int kd k) es 0=some a):Rd P G p q ⟨d,.lookup t x y false,ty,pos,af,gd⟩ (match a with|some (_,v)=>v|none=>zv):=
 fun tm w e s=>by
  have f:=(s.le hq).has (fD _ _ _);have c:MapKept.IsKey (.int kd) (.int kd k):=by first|trivial|exact rfl|simp [MapKept.IsKey]
  cases a with
  |none=>simp [execOp,Zh e hx,Zh e hy,Instr.lookup,run_underlying ht,MapKept.run_getObj_map f,MapKept.run_checkKey hk c,MapKept.run_findKey hk hf,hz,Result.andThen]
  |some y=>obtain ⟨i,v⟩:=y;simp [execOp,Zh e hx,Zh e hy,Instr.lookup,run_underlying ht,MapKept.run_getObj_map f,MapKept.run_checkKey hk c,MapKept.run_findKey hk hf,Result.andThen]
theorem Rk {kd:IntKind}{c:Int}: ∀ (l:List (Int×Value×Nat)) (i:Nat),∃ a,Instr.findNow (.int kd) (.int kd c) (l.map fun e=>({ key:= .int kd e.1,val:=e.2.1,born:=e.2.2 } :MapEntry)) i=some a/\
 ((a=none/\ ∀ e∈l,e.1≠c)\/ ∃ j e,a=some (j,e.2.1)/\e∈l/\e.1=c)
 | [],i=>⟨none,rfl,.inl ⟨rfl,by simp⟩⟩
 |e::l,i=>by
  by_cases h:c=e.1
  . exact ⟨some (i,e.2.1),by simp [Instr.findNow,Instr.sameNow,h],.inr ⟨i,e,rfl,bI ..,h.symm⟩⟩
  obtain ⟨a,n,m⟩:=Rk (kd:=kd) (c:=c) l (i+1);refine ⟨a,by simp only [bP,Instr.findNow,Instr.sameNow,if_true];rw [show (c==e.1)=false from dB.2 h];exact n,?_⟩;rcases m with ⟨f,d⟩|⟨j,o,f,d,g⟩
  . exact .inl ⟨f,fun y b=>by rcases cE.1 b with rfl|b;exact fun k=>h k.symm;exact d y b⟩
  exact .inr ⟨j,o,f,bZ _ d,g⟩
end
def CellsAt (q:List HP)(b o:Nat)(vs:List Value):Prop:= ∀ k v,vs[k]? =some v->Cl q ⟨b,o+k,none⟩ v
theorem CellsAt.le {q':List HP}{vs:List Value}(h:CellsAt q' b o vs)(l:Le q q'):CellsAt q b o vs:=fun k v e=>(h k v e).le l
theorem CellsAt.of {l:List Value}{t:TypeId}{fz:Nat×Nat}(h:Has q b (.cells l.toArray t fz)):CellsAt q b 0 l:=fun k v e=>Cl.of h (by rw [Uy];simpa using e)
abbrev iZ:=@CellsAt.of
theorem CellsAt.row {α:Type}{f:α->List Value}{sz bk n:Nat}{j:Int}{l:List α}{q0:List HP}(h:Sees q0 (some ⟨bk,o,none⟩) (l.flatMap f))(hq:Le q q0)(hf: ∀ x,(f x).length=sz)(hn:n<l.length)(hj:j=n):CellsAt q bk (o+j.toNat*sz) (f l[n]):=
 fun k v e=>cT h hq hf hn hj k v e
end
section
theorem Vw: ∀ a b c:List HP,Le (a++(b++c)) (b++(a++c))
 | [],_,_=>aE _
 |A::a,b,c=>by
  refine aS (dD A (Vw a b c)) ?_
  have e: ∀ (b d:List HP),Le (A::(b++d)) (b++(A::d)):=by
   intro b d
   induction b with
   |nil=>exact aE _
   |cons B b ih=>exact aS (iE A B (b++d)) (dD B ih)
  exact e b (a++c)
end
section
variable {G:World}{q:List HP}{a:Option Addr}{c:Nat}
theorem Lu {α:Type}(f:α->Value)(ty:TypeId)(a:Option Addr)(c:Nat)(l:List α)(n:Nat)(q:List HP):Le (lsH f ty a c l::q) (lsH f ty a c (l.take n)::q):=by
 refine .one fun M h p=> ?_
 obtain ⟨v,o⟩:=p;refine ⟨by simp,?_⟩;rcases o with ⟨t,s,r⟩|⟨g,b,m,u,k,j,e,d⟩
 . left;exact ⟨t,s,by have:=aK r;subst this;simp⟩
 right
 refine ⟨g,b,m,?_,k,j,?_,d⟩
 . have:=List.length_take_le n l;have:=bH (i:=n) (l:=l);omega
 rw [List.map_take,<-e,List.take_take];congr 1;have:=bH (i:=n) (l:=l);omega
theorem St.lsCap {w:World}{α:Type}{f:α->Value}{ty:TypeId}{l:List α}(s:St G w (Wx.lsH f ty a c l::q)):l.length<=c:=by
 obtain ⟨_,M,h,_,_,_,_,_,d,b,_,_,_,p,_⟩:=s;rcases p.2 with ⟨_,rfl,h⟩|⟨g,i,o,e,n,m,k,j⟩
 . omega
 exact e
theorem X.lscap {P:Program}{f:Fc}{Q:Yn}{todo:List Item}{p:PE}{ds:List Deferred}{cs:List Frame}{r:List HP}{α:Type}{fl:α->Value}{ty:TypeId}{l:List α}(x:l.length<=c->X P G f Q todo p ds cs q)(hq:Le q (lsH fl ty a c l::r):=by exact Zk):X P G f Q todo p ds cs q:=
 .fact (fun w s=>(s.le hq).lsCap) fun h=>x h
end
section
variable {G:World}{q:List HP}{a:Option Addr}{c:Nat}
theorem St.lsMax {w:World}{α:Type}{f:α->Value}{ty:TypeId}{l:List α}(s:St G w (Wx.lsH f ty a c l::q)):l.length<=maxLen:=by
 obtain ⟨_,M,h,_,_,_,_,_,d,b,_,_,_,p,_⟩:=s;rcases p.2 with ⟨_,_,h⟩|⟨g,j,o,i,e,n,m,k⟩
 . rw [h];exact bB _
 exact cP i e
theorem X.lsmax {P:Program}{f:Fc}{Q:Yn}{todo:List Item}{p:PE}{ds:List Deferred}{cs:List Frame}{r:List HP}{α:Type}{fl:α->Value}{ty:TypeId}{l:List α}(x:l.length<=9223372036854775807->X P G f Q todo p ds cs q)(hq:Le q (Wx.lsH fl ty a c l::r):=by exact Zk):X P G f Q todo p ds cs q:=
 .fact (fun w s=>cP (St.lsMax (s.le hq)) (by decide)) fun h=>x h
end
section
end
section
section
variable {P:Program}{G:World}{f:Fc}{Q:Yn}{ops:List Oper}{k:List Item}{pk p:PE}{ds:List Deferred}{cs:List Frame}{q:List HP}{n:Nat}{done:List Nat}{L:Rds}{o:Oper}{v:Value}{fl:List FlE}
def StepOk (P:Program)(G:World)(f:Fc)(Q:Yn)(ops:List Oper)(k:List Item)(pk:PE)(fl:List FlE)(L:Rds)(n:Nat)(done:List Nat)(p:PE)(ds:List Deferred)(cs:List Frame)(q:List HP)(j:Nat):Prop:=
 ∃ (oj:Oper) (R:Value->List HP->Prop),ops[j]? =some oj/\(∀ E,Ef P G p (q++E) oj fun v q'=> ∃ q1,R v q1/\q'=q1++E)/\(∀ v q1,R v q1->HL q1 (cut oj L)/\XF P G f Q ops k pk fl (cut oj L) n (j::done) (Uc p oj.dst v) ds cs q1)/\
  (fl.map (·.i)).contains j=false/\rdy ops done j=true/\Wt ops p oj=some true/\dOk f.n oj.dst=true
def C2 (ops:List Oper)(fl done js:List Nat):Bool:=(List.range ops.length).all fun j=>js.contains j||fl.contains j|| !rdy ops (fl++done) j
theorem XF.any (js:List Nat)(hR:FlR P G f ops done p fl)(hj0:js≠ [])(hJ: ∀ j∈js,StepOk P G f Q ops k pk fl L n done p ds cs q j)(hL:HL q L)
 (hon:C2 ops (fl.map (·.i)) done js=true) (hlen:Nat.ble fl.length n=true):XF P G f Q ops k pk fl L (n+1) done p ds cs q:=by
 intro a b S m
 induction m generalizing S with
 |zero=>
  intro tm w h1 h2 h3 hn ag fa s;exfalso
  have m0:S.length<=fl.length:=by
   have h4:(Vr S).length<=(fl.map (·.i)).length:=by
    refine List.Nodup.length_le_of_subset h1 fun x hx=> ?_
    obtain ⟨e,o,rfl⟩:=bU.1 hx;exact aP (h2 e o)
   simpa [Vr] using h4
  have:fl.length<=n:=by simpa using hlen
  omega
 |succ m ih=>
  intro tm w h1 h2 h3 hn ag fa s
  have nS: ∀ j,(fl.map (·.i)).contains j=false->j∉Vr S:=fun j l u=>by
   obtain ⟨e,o,e'⟩:=bU.1 u;have:j∈fl.map (·.i):=by rw [<-e'];exact aP (h2 e o)
   simp [this] at l
  refine ⟨fun a0=> ?_,fun x ox t z=> ?_⟩
  . obtain ⟨j,r,rfl⟩:=List.exists_cons_of_ne_nil hj0;obtain ⟨_,_,_,_,_,l,hr,_⟩:=hJ j (bI ..);exact aR (Ha hr (nS j l)) (by simp [a0 j])
  by_cases hxj:x∈js
  . obtain ⟨oj,R,ho,hE,K,l,hr,hw,hd⟩:=hJ x hxj;have j0:=nS x l;rw [ho] at t;cases t
    unfold OW;rw [if_pos (Yh ag hw)];refine ((hE (fCh S)).ap tm w ag s).mono fun en w' _ hh=> ?_
    obtain ⟨q',⟨v,rfl,q1,hv,rfl⟩,s'⟩:=hh;refine ⟨((K v q1 hv).1.le (Y1 q1 (fCh S))).sl s',?_⟩;refine WA.congr _ (done:=Vr S++(x::done)) (fun y=>by simp only [aQ,cE];exact ⟨fun h=>by rcases h with h|h|h<;>simp [h],fun h=>by rcases h with h|h|h<;>simp [h]⟩) ?_;refine (K v q1 hv).2 a b S m _ w' h1 h2 (by omega) (by rw [Yk];exact hn) (ag.put (hn ▸ hd)) ?_ s';intro e o;obtain ⟨o2,h0,l0,b0,_,_,_,_⟩:=hR.get (h2 e o);have i0:e.1.i≠x:=fun e'=>j0 (by rw [<-e'];exact aP o)
    have k0:=Ds a h0 ho i0 b0 hr (Wi hr) (Wi b0) l0;have:=fa e o
    cases hdo:ox.dst with
    |none=>simpa [Y8] using this
    |some d=>
     have c0:d≠e.1.d:=fun e'=>k0 (by rw [hdo,e'])
     simpa [Y8,dI,c0] using this
  have e0:x<ops.length:=(cI.1 t).1
  have f0:x∈fl.map (·.i):=by
   have h4:=cC.1 hon x (by simpa using e0);rcases aX (x∈fl.map (·.i)) with h5|h5
   . exact h5
   have h6:rdy ops (fl.map (·.i)++done) x=true:=Re z (fun y c=>by
    rcases aQ.1 c with c|c
    . obtain ⟨e,o,rfl⟩:=bU.1 c;exact dU _ (aP (h2 e o))
    . exact eA _ c) (fun u=>by
    rcases aQ.1 u with u|u
    . exact h5 u
    exact Wi z (eA _ u))
   simp [hxj,h6] at h4;simp at h5;obtain ⟨y,c,e⟩:=h4;exact aR e (h5 y c)
  obtain ⟨e,o,rfl⟩:=bU.1 f0;have g0:e.i∉Vr S:=fun u=>Wi z (dU _ u)
  refine Tx a hR h1 h2 hn ag fa s o g0 t fun g d0 w' k1 k2 k3 k4 k5 k6=> ?_
  refine ⟨((hL.sub fun y c=>(Uk.1 c).1).le (Y1 q _)).sl k6,?_⟩;exact WA.mono _ (fun y c=>(Uk.1 c).1) (ih ((e,g)::S) d0 w' k1 k2 (by simp;omega) k3 k4 k5 k6)
theorem XF.two (i j:Nat)(hR:FlR P G f ops done p fl)(h1:StepOk P G f Q ops k pk fl L n done p ds cs q i)(h2:StepOk P G f Q ops k pk fl L n done p ds cs q j)(hL:HL q L:=by exact hlA)
 (hon:C2 ops (fl.map (·.i)) done [i,j]=true:=by rfl) (hlen:Nat.ble fl.length n=true:=by rfl):XF P G f Q ops k pk fl L (n+1) done p ds cs q:=
 XF.any [i,j] hR (by simp) (fun x a=>by
  rcases cE.1 a with rfl|a
  . exact h1
  rw [aZ.1 a];exact h2) hL hon hlen
end
end
section
section
variable {P:Program}{G:World}{p:PE}{q r:List HP}{d:Option Tmp}{ty':TypeId}{pos:String}{af:Array Edge}{gd:Option (Nat×Bool)}{x y:Operand}{a b:Option Addr}{c c':Nat}{t t2 e:TypeId}
theorem Ef.copyL {α:Type}{f:α->Value}{l m:List α}{z:Value}{bytes:Nat}(ht:P.underlying t=some (.slice e))(hi:(P.info? e).map (fun i=>(i.zero,i.size,i.bytes))=some (some z,1,bytes))
 (hx:evp p x=some (.slice a l.length c)) (hy:evp p y=some (.slice b m.length c')) (hq:Le q (Wx.lsH f e a c l::r)) (hs:Sees q b (m.map f)) (h1: ∀ u,(f u).oneCell'=true) (hml:m.length<=l.length):
 Ef P G p q ⟨d,.call ⟨.builtin .copy, [x,y].toArray, [t,t2].toArray⟩,ty',pos,af,gd⟩ fun v q'=>v= .int .i64 m.length/\q'=Wx.lsH f e a c (m++l.drop m.length)::r:=by
 obtain ⟨I,hI,e1,e2,e3⟩:=info_parts hi;intro tm w ag s;have m0:evl p [x,y]=some [.slice a l.length c,.slice b m.length c']:=by simp [evl,hx,hy]
 have l0:=Q3 (d:=d) (ty:=ty') (pos:=pos) (af:=af) (gd:=gd) (bi:= .copy) (ats:= [t,t2].toArray) ag m0;rw [l0]
 have n: ∀ v w',(Builtin.copy_ #[t,t2] ty' #[.slice a l.length c,.slice b m.length c']).run P w= .ok v w'->(builtin .copy [t,t2].toArray ty' ([x,y].toArray.map fun| .const _=>true|_=>false) [.slice a l.length c,.slice b m.length c'].toArray).run P w= .ok (.value v) w':=by
  intro v w' h;simp [builtin,h]
 have d0:Nat.min m.length l.length=m.length:=eQ hml;rcases Hg (m:=m.length) (sz:=1) (hs G w s) (by simp) Nat.one_pos with ⟨h0,_⟩|⟨ad,rfl,hc⟩
 . obtain rfl:=aK h0;refine ⟨.int .i64 0,w,_,.inl (n _ _ ?_),?_,rfl,rfl⟩
   . cases b<;>cases a<;>simp [Builtin.copy_,run_underlying ht,Go.sizeOf,typeInfo,hI,Builtin.lenOf,Builtin.firstCells,loadCells,loadCellsFrom,storeCells,goInt]
   simpa using s.le hq
 have c0:=s.le hq;unfold Wx.lsH at c0;obtain ⟨p0,o⟩:=c0.slH_elim;rcases o with ⟨rfl,rfl,h0,s'⟩|⟨g,k,rfl,i0,o0,n0,a0,s'⟩
 . have j0:m= []:=aK (by omega);have k0:l= []:=aK h0;subst j0;subst k0;refine ⟨.int .i64 0,w,_,.inl (n _ _ ?_),?_,rfl,rfl⟩
   . simp [Builtin.copy_,run_underlying ht,Go.sizeOf,typeInfo,hI,Builtin.lenOf,Builtin.firstCells,loadCells,loadCellsFrom,storeCells,goInt]
   simpa using s.le hq
 have hg:w.heap[g]? =some (.cells k e (0,0)):=s'.has (fD _ _ _);have f0:0+(m.map f).length<=k.size:=by rw [aU,n0];omega
 have e0:=run_loadCells_list (P:=P) w ad (m.map f) hc;rw [aU] at e0;have g0:=run_storeCells_at P g 0 e (m.map f) 0 k w hg (by simpa using f0) (fun v hv=>by obtain ⟨u,_,rfl⟩:=bU.1 hv;exact h1 u);refine ⟨.int .i64 m.length,w.setRow g (m.map f++k.toList.drop m.length).toArray,_,.inl (n _ _ ?_),?_,rfl,rfl⟩
 . simp [Builtin.copy_,run_underlying ht,Go.sizeOf,typeInfo,hI,e2,Builtin.lenOf,Builtin.firstCells,d0,e0,goInt];have b0:(storeCells ⟨g,0,none⟩ (m.map f)).run P w= .ok () (w.setRow g (m.map f++k.toList.drop m.length).toArray):=by simpa using g0
   rw [b0];simp
 have s2:=s'.put (o':= .cells (m.map f++k.toList.drop m.length).toArray e (0,0)) (setRow_heap w g k _ e (0,0) hg) (fun j hj=>setRow_other w g j _ hj) (by simp) rfl rfl rfl;unfold Wx.lsH;rw [show (m++l.drop m.length).length=l.length by simp;omega];refine s2.le (Y6 i0 o0 ?_ ?_ r)
 . simp only [gR,aG,aU,bS,iH];omega
 rw [kI] at a0|-;rw [List.take_append,aU,eO (by rw [aU];exact hml),aM,List.map_drop,<-a0,List.drop_take]
end
end
section
section
variable {P:Program}{G:World}{f:Fc}{Q:Yn}{ops:List Oper}{k:List Item}{p:PE}{ds:List Deferred}{cs:List Frame}{q:List HP}{v:Value}
variable {pk:PE}{L:Rds}{n:Nat}{done:List Nat}{args:List Operand}{ats:Array TypeId}{ty:TypeId}{pos:String}{af:Array Edge}{gd:Option (Nat×Bool)}{vs:List Value}{pre:List HP}{R:Value->List HP->Prop}{Rp:List PanicEntry->List HP->Prop}{d:Tmp}{fo:Operand}{fv:Value}
theorem XD.cVP (i:Nat)(hq:Le q pre)(hc:CallV P G fv vs pre (RP R Rp))(xp: ∀ ch q',Rp ch q'->Q (.panic ch) pk ds cs q')
 (K: ∀ v q',R v q'->HL q' (cut ⟨some d,.call ⟨.value fo,args.toArray,ats⟩,ty,pos,af,gd⟩ L)/\XD P G f Q ops k pk (cut ⟨some d,.call ⟨.value fo,args.toArray,ats⟩,ty,pos,af,gd⟩ L) n (i::done) ((d,v)::p) ds cs q')
 (hpk:SubP pk p) (ho:ops[i]? =some ⟨some d,.call ⟨.value fo,args.toArray,ats⟩,ty,pos,af,gd⟩:=by rfl) (hf:evp p fo=some fv:=by rfl) (hv:evl p args=some vs:=by rfl)
 (h1:V2 ops done i=true:=by rfl) (hr:rdy ops done i=true:=by rfl) (hw:Wt ops p ⟨some d,.call ⟨.value fo,args.toArray,ats⟩,ty,pos,af,gd⟩=some true:=by rfl) (hd:Nat.blt d f.n=true:=by rfl):XD P G f Q ops k pk L (n+1) done p ds cs q:=
 .one (R:=fun e a=>RP R Rp e a) i ho (fun tm w g s=>by
  rw [Ky g hf hv];exact (hc [] w ((s.le hq).le (Ur pre))).mono fun e j _ ⟨q',c,b⟩=>⟨q',c,by rw [cA] at b;exact b⟩)
  (fun v a h=>by rcases h with ⟨_,e,r⟩|⟨_,e,_⟩<;>cases e;exact K v a r) (fun ch a h=>by rcases h with ⟨_,e,_⟩|⟨_,e,r⟩<;>cases e;exact ⟨xp ch a r,hpk⟩) h1 hr hw hd
end
end
section
variable {pre:List HP}{fn:FuncId}{args:List Operand}{pos:String}{af:Array Edge}{gd:Option (Nat×Bool)}{vs:List Value}{R:Value->List HP->Prop}
section
variable {P:Program}{G:World}{f:Fc}{Q:Yn}{ops:List Oper}{k:List Item}{pk p:PE}{ds:List Deferred}{cs:List Frame}{q:List HP}{n:Nat}{done:List Nat}{L:Rds}{o:Oper}{v:Value}{fl:List FlE}
def EfA (P:Program)(G:World)(p:PE)(q:List HP)(o:Oper)(R:Value->List HP->Prop):Prop:= ∀ tm w,Agr tm p->St G w q->Ap P (execOp (evA tm) o) w fun e w'=> ∃ q',Ret R e q'/\St G w' q'
def StepA (P:Program)(G:World)(f:Fc)(Q:Yn)(ops:List Oper)(k:List Item)(pk:PE)(fl:List FlE)(L:Rds)(n:Nat)(done:List Nat)(p:PE)(ds:List Deferred)(cs:List Frame)(q:List HP)(j:Nat):Prop:=
 ∃ (oj:Oper) (R:Value->List HP->Prop),ops[j]? =some oj/\(∀ E,EfA P G p (q++E) oj fun v q'=> ∃ q1,R v q1/\q'=q1++E)/\(∀ v q1,R v q1->HL q1 (cut oj L)/\XF P G f Q ops k pk fl (cut oj L) n (j::done) (Uc p oj.dst v) ds cs q1)/\
  (fl.map (·.i)).contains j=false/\rdy ops done j=true/\Wt ops p oj=some true/\dOk f.n oj.dst=true
theorem X1 (js:List Nat)(hR:FlR P G f ops done p fl)(hj0:js≠ [])(hJ: ∀ j∈js,StepA P G f Q ops k pk fl L n done p ds cs q j)(hL:HL q L)
 (hon:C2 ops (fl.map (·.i)) done js=true) (hlen:Nat.ble fl.length n=true):XF P G f Q ops k pk fl L (n+1) done p ds cs q:=by
 intro a b S m
 induction m generalizing S with
 |zero=>
  intro tm w h1 h2 h3 hn ag fa s;exfalso
  have m0:S.length<=fl.length:=by
   have h4:(Vr S).length<=(fl.map (·.i)).length:=by
    refine List.Nodup.length_le_of_subset h1 fun x hx=> ?_
    obtain ⟨e,o,rfl⟩:=bU.1 hx;exact aP (h2 e o)
   simpa [Vr] using h4
  have:fl.length<=n:=by simpa using hlen
  omega
 |succ m ih=>
  intro tm w h1 h2 h3 hn ag fa s
  have nS: ∀ j,(fl.map (·.i)).contains j=false->j∉Vr S:=fun j l u=>by
   obtain ⟨e,o,e'⟩:=bU.1 u;have:j∈fl.map (·.i):=by rw [<-e'];exact aP (h2 e o)
   simp [this] at l
  refine ⟨fun a0=> ?_,fun x ox t z=> ?_⟩
  . obtain ⟨j,r,rfl⟩:=List.exists_cons_of_ne_nil hj0;obtain ⟨_,_,_,_,_,l,hr,_⟩:=hJ j (bI ..);exact aR (Ha hr (nS j l)) (by simp [a0 j])
  by_cases hxj:x∈js
  . obtain ⟨oj,R,ho,hE,K,l,hr,hw,hd⟩:=hJ x hxj;have j0:=nS x l;rw [ho] at t;cases t
    unfold OW;rw [if_pos (Yh ag hw)];refine (hE (fCh S) tm w ag s).mono fun en w' _ hh=> ?_
    obtain ⟨q',⟨v,rfl,q1,hv,rfl⟩,s'⟩:=hh;refine ⟨((K v q1 hv).1.le (Y1 q1 (fCh S))).sl s',?_⟩;refine WA.congr _ (done:=Vr S++(x::done)) (fun y=>by simp only [aQ,cE];exact ⟨fun h=>by rcases h with h|h|h<;>simp [h],fun h=>by rcases h with h|h|h<;>simp [h]⟩) ?_;refine (K v q1 hv).2 a b S m _ w' h1 h2 (by omega) (by rw [Yk];exact hn) (ag.put (hn ▸ hd)) ?_ s';intro e o;obtain ⟨o2,h0,l0,b0,_,_,_,_⟩:=hR.get (h2 e o);have i0:e.1.i≠x:=fun e'=>j0 (by rw [<-e'];exact aP o)
    have k0:=Ds a h0 ho i0 b0 hr (Wi hr) (Wi b0) l0;have:=fa e o
    cases hdo:ox.dst with
    |none=>simpa [Y8] using this
    |some d=>
     have c0:d≠e.1.d:=fun e'=>k0 (by rw [hdo,e'])
     simpa [Y8,dI,c0] using this
  have e0:x<ops.length:=(cI.1 t).1
  have f0:x∈fl.map (·.i):=by
   have h4:=cC.1 hon x (by simpa using e0);rcases aX (x∈fl.map (·.i)) with h5|h5
   . exact h5
   have h6:rdy ops (fl.map (·.i)++done) x=true:=Re z (fun y c=>by
    rcases aQ.1 c with c|c
    . obtain ⟨e,o,rfl⟩:=bU.1 c;exact dU _ (aP (h2 e o))
    . exact eA _ c) (fun u=>by
    rcases aQ.1 u with u|u
    . exact h5 u
    exact Wi z (eA _ u))
   simp [hxj,h6] at h4;simp at h5;obtain ⟨y,c,e⟩:=h4;exact aR e (h5 y c)
  obtain ⟨e,o,rfl⟩:=bU.1 f0;have g0:e.i∉Vr S:=fun u=>Wi z (dU _ u)
  refine Tx a hR h1 h2 hn ag fa s o g0 t fun g d0 w' k1 k2 k3 k4 k5 k6=> ?_
  refine ⟨((hL.sub fun y c=>(Uk.1 c).1).le (Y1 q _)).sl k6,?_⟩;exact WA.mono _ (fun y c=>(Uk.1 c).1) (ih ((e,g)::S) d0 w' k1 k2 (by simp;omega) k3 k4 k5 k6)
theorem EfA.callF {d:Option Tmp}{ats:Array TypeId}{ty:TypeId}{F:List HP}
 (hcf: ∀ args w,(callFunc fn args).run P w= .ok (.enter fn args) w) (hc:CallF P G fn vs pre (Ret R)) (hv:evl p args=some vs) (hq:Le q (pre++F)) (E:List HP):
 EfA P G p (q++E) ⟨d,.call ⟨.value (.func fn),args.toArray,ats⟩,ty,pos,af,gd⟩ fun v q'=> ∃ q1,(∃ q0,R v q0/\q1=q0++F)/\q'=q1++E:=by
 intro tm w k s;rw [Ky k (show evp p (.func fn)=some (.func (.func fn) #[] #[]) from rfl) hv];have f:St G w (pre++(F++E)):=by rw [<-aA];exact s.le (hq.liftR E)
 have c:CallV P G (.func (.func fn) #[] #[]) vs pre (Ret R):=Vy (a:= []) (b:= []) hcf (by simpa using hc);refine (c (F++E) w f).mono fun e l _ h=> ?_
 obtain ⟨q',⟨v,i,j⟩,g⟩:=h;exact ⟨q'++F++E,⟨v,i,q'++F,⟨q',j,rfl⟩,rfl⟩,by rw [aA];exact g⟩
theorem Fi (i:Nat){d:Tmp}{ats:Array TypeId}{ty:TypeId}
 (hR:FlR P G f ops done p fl) (hcf: ∀ args w,(callFunc fn args).run P w= .ok (.enter fn args) w) (hq:Le q pre) (hc:CallF P G fn vs pre (Ret R))
 (K: ∀ v q',R v q'->HL q' (cut ⟨some d,.call ⟨.value (.func fn),args.toArray,ats⟩,ty,pos,af,gd⟩ L)/\XF P G f Q ops k pk fl (cut ⟨some d,.call ⟨.value (.func fn),args.toArray,ats⟩,ty,pos,af,gd⟩ L) n (i::done) ((d,v)::p) ds cs q')
 (ho:ops[i]? =some ⟨some d,.call ⟨.value (.func fn),args.toArray,ats⟩,ty,pos,af,gd⟩:=by rfl) (hv:evl p args=some vs:=by rfl) (hL:HL q L:=by exact hlA)
 (hon:C2 ops (fl.map (·.i)) done [i]=true:=by rfl) (hif:(fl.map (·.i)).contains i=false:=by rfl) (hr:rdy ops done i=true:=by rfl) (hw:Wt ops p ⟨some d,.call ⟨.value (.func fn),args.toArray,ats⟩,ty,pos,af,gd⟩=some true:=by rfl)
 (hd:Nat.blt d f.n=true:=by rfl) (hlen:Nat.ble fl.length n=true:=by rfl):XF P G f Q ops k pk fl L (n+1) done p ds cs q:=
 X1 [i] hR (by simp) (fun x a=>by
  rw [aZ.1 a];exact ⟨_,_,ho,EfA.callF hcf hc hv (hq.trans (Ur pre)),fun v b ⟨q0,h,e⟩=>by rw [cA] at e;subst e;exact K v _ h,hif,hr,hw,hd⟩) hL hon hlen
end
end
section
end
section
variable {r:List HP}{n b o sz:Nat}{l vs:List Value}
section
variable {P:Program}{G:World}{f:Fc}{Q:Yn}{ops:List Oper}{k:List Item}{p:PE}{ds:List Deferred}{cs:List Frame}{q:List HP}{rest:List Oper}{v:Value}{T:Tr}
variable {d:Tmp}{t ty:TypeId}{pos:String}{af:Array Edge}{gd:Option (Nat×Bool)}{x y:Operand}{A:Addr}
def Tr.lf (T:Tr)(t:TypeId):Bool:=match T.get t with|some x=> !x.agg|none=>false
def Tr.ag (T:Tr)(t:TypeId):Option Nat:=match T.get t with|some x=>bif x.agg then some x.sz else none|none=>none
def Tr.s1 (T:Tr)(t:TypeId):Bool:=match T.get t with|some x=>Nat.beq x.sz 1|none=>false
theorem P9 (hT:T.ok P id)(h:T.lf t=true)(w:World):(isAgg t).run P w= .ok false w:=by
 unfold Tr.lf at h;split at h
 . rename_i x a;have:=(Zl hT a).2.1 w;rw [show x.agg=false by simpa using h] at this;exact this
 cases h
theorem Qt (hT:T.ok P id)(h:T.ag t=some n):(∀ w,(isAgg t).run P w= .ok true w)/\ ∀ w,(Go.sizeOf t).run P w= .ok n w:=by
 unfold Tr.ag at h;split at h
 . rename_i x a;have b:=(Zl hT a).2.1;have c:=(Zl hT a).2.2.1
   cases hb:x.agg with
   |true=>rw [hb] at h b;simp only [cond_true,Option.some.injEq] at h;subst h;exact ⟨b,c⟩
   |false=>rw [hb] at h;simp at h
 cases h
theorem P8 (hT:T.ok P id)(h:T.s1 t=true)(w:World):(Go.sizeOf t).run P w= .ok 1 w:=by
 unfold Tr.s1 at h;split at h
 . rename_i x a;have:=(Zl hT a).2.2.1 w;rw [cK h] at this;exact this
 cases h
theorem XO.al {z:Value}(hz: ∀ w,(zeroValue t).run P w= .ok z w)(K: ∀ n,XO P G f Q ops.toArray k rest ((d,.pointer (some ⟨n,0,none⟩))::p) ds cs (pto n (.cells z.cells t (0,0))::q))
 (hw:Wt ops p ⟨some d,.alloc t,ty,pos,af,gd⟩=some true:=by rfl) (hd:Nat.blt d f.n=true:=by rfl):XO P G f Q ops.toArray k (⟨some d,.alloc t,ty,pos,af,gd⟩::rest) p ds cs q:=
 .ef (bX hz) (by rintro _ _ ⟨n,rfl,rfl⟩;exact K n) hw hd
abbrev bW:=@XO.al
theorem Ww (K: ∀ n,XO P G f Q ops.toArray k rest ((d,.pointer (some ⟨n,0,none⟩))::p) ds cs (pto n (.cells v.cells t (0,0))::q))(hx:evp p x=some v:=by rfl)
 (hw:Wt ops p ⟨some d,.box t x,ty,pos,af,gd⟩=some true:=by rfl) (hd:Nat.blt d f.n=true:=by rfl):XO P G f Q ops.toArray k (⟨some d,.box t x,ty,pos,af,gd⟩::rest) p ds cs q:=
 .ef (Ef.box hx) (by rintro _ _ ⟨n,rfl,rfl⟩;exact K n) hw hd
theorem XO.st {t':TypeId}(hT:T.ok P id)(hs:T.s1 t=true)(K:XO P G f Q ops.toArray k rest p ds cs (pto b (.cells (Hl l o v).toArray t' (0,0))::r))
 (hx:evp p x=some (.pointer (some ⟨b,o,none⟩)):=by rfl) (hy:evp p y=some v:=by rfl)
 (hv:v.cells= #[v]:=by rfl) (h1:v.oneCell'=true:=by rfl) (hq:Le q (pto b (.cells l.toArray t' (0,0))::r):=by exact Zk) (ho:Nat.blt o l.length=true:=by rfl)
 (hw:Wt ops p ⟨none,.store t x y,ty,pos,af,gd⟩=some true:=by rfl):XO P G f Q ops.toArray k (⟨none,.store t x y,ty,pos,af,gd⟩::rest) p ds cs q:=
 .ef0 (Ef.st (P8 hT hs) hx hy hv h1 hq ho) (by rintro _ _ ⟨rfl,rfl⟩;exact K) hw
theorem XO.stA {t':TypeId}(hT:T.ok P id)(hs:T.ag t=some sz)(K:XO P G f Q ops.toArray k rest p ds cs (pto b (.cells (V5 l o vs).toArray t' (0,0))::r))
 (hx:evp p x=some (.pointer (some ⟨b,o,none⟩)):=by rfl) (hy:evp p y=some (.agg vs.toArray):=by rfl)
 (hl:vs.length=sz:=by rfl) (h1:vs.all (·.oneCell')=true:=by rfl) (hq:Le q (pto b (.cells l.toArray t' (0,0))::r):=by exact Zk) (ho:Nat.ble (o+sz) l.length=true:=by rfl)
 (hw:Wt ops p ⟨none,.store t x y,ty,pos,af,gd⟩=some true:=by rfl):XO P G f Q ops.toArray k (⟨none,.store t x y,ty,pos,af,gd⟩::rest) p ds cs q:=
 .ef0 (Ef.stA (Qt hT hs).2 hx hy hl h1 hq ho) (by rintro _ _ ⟨rfl,rfl⟩;exact K) hw
variable {pk:PE}{L:Rds}{done:List Nat}
theorem XD.bx (i:Nat)(K: ∀ n',XD P G f Q ops k pk (cut ⟨some d,.box t x,ty,pos,af,gd⟩ L) n (i::done) ((d,.pointer (some ⟨n',0,none⟩))::p) ds cs (pto n' (.cells v.cells t (0,0))::q))
 (ho:ops[i]? =some ⟨some d,.box t x,ty,pos,af,gd⟩:=by rfl) (hx:evp p x=some v:=by rfl) (hh: ∀ n',HL (pto n' (.cells v.cells t (0,0))::q) (cut ⟨some d,.box t x,ty,pos,af,gd⟩ L):=by intro _;exact hlA)
 (h1:V2 ops done i=true:=by rfl) (hr:rdy ops done i=true:=by rfl) (hw:Wt ops p ⟨some d,.box t x,ty,pos,af,gd⟩=some true:=by rfl) (hd:Nat.blt d f.n=true:=by rfl):XD P G f Q ops k pk L (n+1) done p ds cs q:=
 .ef i ho (Ef.box hx) (by rintro _ _ ⟨n',rfl,rfl⟩;exact ⟨hh n',K n'⟩) h1 hr hw hd
theorem XD.st (i:Nat){t':TypeId}(hT:T.ok P id)(hs:T.s1 t=true)(K:XD P G f Q ops k pk (cut ⟨none,.store t x y,ty,pos,af,gd⟩ L) n (i::done) p ds cs (pto b (.cells (Hl l o v).toArray t' (0,0))::r))
 (ho:ops[i]? =some ⟨none,.store t x y,ty,pos,af,gd⟩:=by rfl) (hx:evp p x=some (.pointer (some ⟨b,o,none⟩)):=by rfl) (hy:evp p y=some v:=by rfl)
 (hv:v.cells= #[v]:=by rfl) (h1:v.oneCell'=true:=by rfl) (hq:Le q (pto b (.cells l.toArray t' (0,0))::r):=by exact Zk) (ho2:Nat.blt o l.length=true:=by rfl)
 (hh:HL (pto b (.cells (Hl l o v).toArray t' (0,0))::r) (cut ⟨none,.store t x y,ty,pos,af,gd⟩ L):=by exact hlA)
 (h2:V2 ops done i=true:=by rfl) (hr:rdy ops done i=true:=by rfl) (hw:Wt ops p ⟨none,.store t x y,ty,pos,af,gd⟩=some true:=by rfl):XD P G f Q ops k pk L (n+1) done p ds cs q:=
 .ef0 i ho (Ef.st (P8 hT hs) hx hy hv h1 hq ho2) (by rintro _ _ ⟨rfl,rfl⟩;exact ⟨hh,K⟩) h2 hr hw
theorem XD.stA (i:Nat){t':TypeId}(hT:T.ok P id)(hs:T.ag t=some sz)(K:XD P G f Q ops k pk (cut ⟨none,.store t x y,ty,pos,af,gd⟩ L) n (i::done) p ds cs (pto b (.cells (V5 l o vs).toArray t' (0,0))::r))
 (ho:ops[i]? =some ⟨none,.store t x y,ty,pos,af,gd⟩:=by rfl) (hx:evp p x=some (.pointer (some ⟨b,o,none⟩)):=by rfl) (hy:evp p y=some (.agg vs.toArray):=by rfl)
 (hl:vs.length=sz:=by rfl) (h1:vs.all (·.oneCell')=true:=by rfl) (hq:Le q (pto b (.cells l.toArray t' (0,0))::r):=by exact Zk) (ho2:Nat.ble (o+sz) l.length=true:=by rfl)
 (hh:HL (pto b (.cells (V5 l o vs).toArray t' (0,0))::r) (cut ⟨none,.store t x y,ty,pos,af,gd⟩ L):=by exact hlA)
 (h2:V2 ops done i=true:=by rfl) (hr:rdy ops done i=true:=by rfl) (hw:Wt ops p ⟨none,.store t x y,ty,pos,af,gd⟩=some true:=by rfl):XD P G f Q ops k pk L (n+1) done p ds cs q:=
 .ef0 i ho (Ef.stA (Qt hT hs).2 hx hy hl h1 hq ho2) (by rintro _ _ ⟨rfl,rfl⟩;exact ⟨hh,K⟩) h2 hr hw
theorem kw {b c:Bool}(h:b=c:=by first|rfl|exact aN (by omega)|exact aW (by omega)|(rw [dC];omega)|(rw [dB];omega)|(rw [iY];omega)|(rw [kG];omega)|(simp;done)|(simp;omega)|(rw [dC];assumption)|(rw [dB];assumption)):b=c:=h
section
variable {b:Bool}{todo:List Item}{l:List Oper}
theorem X.kt (s:Nat)(K:X P G f Q todo ((s,.bool true)::p) ds cs q)(h:lkp p s=some (.bool b):=by rfl)(e:b=true:=by exact kw):X P G f Q todo p ds cs q:= .know s _ h (bK Value.bool e) K
theorem Jc (s:Nat)(K:X P G f Q todo ((s,.bool false)::p) ds cs q)(h:lkp p s=some (.bool b):=by rfl)(e:b=false:=by exact kw):X P G f Q todo p ds cs q:= .know s _ h (bK Value.bool e) K
theorem XO.kt (s:Nat)(K:XO P G f Q ops.toArray k l ((s,.bool true)::p) ds cs q)(h:lkp p s=some (.bool b):=by rfl)(e:b=true:=by exact kw):XO P G f Q ops.toArray k l p ds cs q:= .know s _ h (bK Value.bool e) K
theorem XO.kf (s:Nat)(K:XO P G f Q ops.toArray k l ((s,.bool false)::p) ds cs q)(h:lkp p s=some (.bool b):=by rfl)(e:b=false:=by exact kw):XO P G f Q ops.toArray k l p ds cs q:= .know s _ h (bK Value.bool e) K
theorem XD.kt (s:Nat)(K:XD P G f Q ops k pk L n done ((s,.bool true)::p) ds cs q)(h:lkp p s=some (.bool b):=by rfl)(e:b=true:=by exact kw):XD P G f Q ops k pk L n done p ds cs q:= .know s _ h (bK Value.bool e) K
theorem XD.kf (s:Nat)(K:XD P G f Q ops k pk L n done ((s,.bool false)::p) ds cs q)(h:lkp p s=some (.bool b):=by rfl)(e:b=false:=by exact kw):XD P G f Q ops k pk L n done p ds cs q:= .know s _ h (bK Value.bool e) K
end
end
end
section
variable {P:Program}{p:PE}{M M':Hp}{a:Option Addr}{vs:List Value}{c n ty sz:Nat}
abbrev Bs:=List UInt8
def bs (s:ByteArray):Bs:=s.data.toList
def ba (l:Bs):ByteArray:=⟨l.toArray⟩
def em:ByteArray:=⟨#[]⟩
theorem V3 (l:Bs):bs (ba l)=l:=rfl
theorem ba_bs (s:ByteArray):ba (bs s)=s:=by cases s;rfl
theorem Ko (s:ByteArray):(bs s).length=s.size:=rfl
theorem Sk (a b:ByteArray):(a.toList==b.toList)=(bs a==bs b):=by rw [ByteArray.toList_eq,ByteArray.toList_eq];rfl
def s8 (s:ByteArray)(n:Nat):Int:=(((bs s).getD n 0).toNat:Int)
section
variable {d:Option Tmp}{ty:TypeId}{pos:String}{af:Array Edge}{gd:Option (Nat×Bool)}{x y z:Operand}{t:TypeId}{kd kd':IntKind}{s:ByteArray}{i j:Int}
theorem Wb (hx:evp p x=some (.string s))(hy:evp p y=some (.int kd i))(ht:P.underlying t=some .string)(h0:0<=i)(h1:i.toNat<s.size):Pu P p ⟨d,.index t x y,ty,pos,af,gd⟩ (.int .u8 (s8 s i.toNat)):=fun tm w b=>by
 have e:s[i.toNat]? =some s[i.toNat]:=getElem?_pos s i.toNat h1
 have f:s8 s i.toNat=(s[i.toNat].toNat:Int):=by
  have a:i.toNat<s.data.toList.length:=h1;unfold s8 bs;have c:s.data.toList[i.toNat]? =some s.data.toList[i.toNat]:=aD a;unfold List.getD;rw [c];rfl
 rw [f];simp [execOp,Zh b hx,Zh b hy,Instr.index,asIntOf,run_underlying ht,h0,e]
theorem Fe (hx:evp p x=some (.string s))(hy:evp p y=some (.int kd i))(hz:evp p z=some (.int kd' j))(ht:P.underlying t=some .string)(h0:0<=i)(h1:i<=j)(h2:j.toNat<=s.size):Pu P p ⟨d,.slice t x (some y) (some z) none,ty,pos,af,gd⟩ (.string (s.extract i.toNat j.toNat)):=fun tm w a=>by
 have c:0<=j/\j<=(s.size:Int):=⟨by omega,by omega⟩;have b:0<=i/\i<=(j.toNat:Int):=⟨h0,by omega⟩;simp [execOp,Zh a hx,Zh a hy,Zh a hz,Instr.sliceAt,Instr.slice,Instr.sliceBounds,Instr.sliceBound,asIntOf,run_underlying ht,c,b];intro h;omega
end
theorem Iv (s:ByteArray)(i j:Nat):bs (s.extract i j)=((bs s).drop i).take (j - i):=by
 simp [bs,ByteArray.data_extract,Array.toList_extract,List.extract_eq_take_drop]
def Kn (q:List HP)(φ:Hp->Prop):Prop:= ∀ M h,(stars q).p M h->φ M
def lst (φ:Hp->Prop)(mono: ∀ {M M':Hp},Hle M M'->φ M->φ M'):HP:=⟨fun M _=>φ M,fun e _ p=>mono e p⟩
section
variable {G w:World}{f:Fc}{Q:Yn}{ops:List Oper}{k:List Item}{l:List Oper}{ds:List Deferred}{cs:List Frame}{q q0:List HP}{φ ψ:Hp->Prop}{mn: ∀ {M M':Hp},Hle M M'->φ M->φ M'}{A:HP}
theorem Kn.le (h:Kn q0 φ)(k:Le q q0:=by exact leA):Kn q φ:=fun M x p=>h M x (k M x p)
abbrev dW:=@Kn.le
theorem Kn.here:Kn (lst φ mn::q) φ:=fun _ _ ⟨_,_,_,_,_,p,_⟩=>p
abbrev fL:=@Kn.here
theorem Kn.there (h:Kn q φ):Kn (A::q) φ:=h.le (eD A q)
theorem Kn.imp (h:Kn q φ)(k: ∀ M,φ M->ψ M):Kn q ψ:=fun M x p=>k M (h M x p)
abbrev kA:=@Kn.imp
theorem Kn.and (h:Kn q φ)(k:Kn q ψ):Kn q fun M=>φ M/\ψ M:=fun M x p=>⟨h M x p,k M x p⟩
abbrev gL:=@Kn.and
theorem Kn.add (h:Kn q φ):Le q (lst φ mn::q):=fun M x p=>⟨fun _=>none,x,fun _=> .inl rfl,fun _ _ e=>by simp at e,.refl _,h M x p,p⟩
abbrev cZ:=@Kn.add
def SeesZ (M:Hp)(a:Option Addr)(vs:List Value):Prop:= ∀ i u,vs[i]? =some u-> ∃ b o cur ty,a=some ⟨b,o,none⟩/\M b=some (.cells cur ty (0,0))/\cur[o+i]? =some u
theorem SeesZ.mono (e:Hle M M')(h:SeesZ M a vs):SeesZ M' a vs:=fun i u hu=>
 let ⟨b,o,cur,ty,e1,e2,e3⟩:=h i u hu;⟨b,o,cur,ty,e1,e _ _ e2,e3⟩
theorem Kn.sees (h:Kn q fun M=>SeesZ M a vs):Sees q a vs:=by
 rintro G w ⟨_,M,x,d,_,_,_,_,p⟩ i u e;obtain ⟨b,o,c,ty,k,j,g⟩:=h M x p i u e;have f:w.heap[b]? =some (.cells c ty (0,0)):=d _ _ j;exact ⟨b,o,k,by simp [World.cell?,f,g]⟩
abbrev fM:=@Kn.sees
theorem Kn.fact {χ:Prop}(h:Kn q φ)(k: ∀ M,φ M->χ)(s:St G w q):χ:=let ⟨_,M,x,_,_,_,_,_,p⟩:=s;k M (h M x p)
theorem knA {m: ∀ {M M':Hp},Hle M M'->φ M->φ M'}(h:Le q (lst φ m::q0):=by exact Zk):Kn q φ:=Kn.here.le h
def SlAt (M:Hp)(a:Option Addr)(c n:Nat)(vs:List Value):Prop:=n<=c/\c<=maxLen/\SeesZ M a vs
theorem SlAt.mono (e:Hle M M')(h:SlAt M a c n vs):SlAt M' a c n vs:=⟨h.1,h.2.1,h.2.2.mono e⟩
abbrev gM:=@SlAt.mono
theorem Zqp {h:Hp}(p:slP a c ty sz n vs h):SeesZ h a vs:=by
 obtain ⟨q,k⟩:=p;intro i u b;rcases k with ⟨rfl,rfl,rfl⟩|⟨g,d,j,o,m,l,f,e⟩
 . have:vs= []:=aK (by omega);subst this;simp at b
 refine ⟨g,0,d,ty,j,e,?_⟩;rw [<-f] at b;rw [eW] at b;split at b
 . rw [eC];simpa using b
 cases b
theorem slP.at (p:slP a c ty sz n vs M):SlAt M a c n vs:=by
 have l:=Zqp p;refine ⟨?_,?_,l⟩
 . rcases p.2 with ⟨_,rfl,h⟩|⟨g,b,k,e,d,j,i,f⟩
   . rw [h];exact aL _
   exact e
 rcases p.2 with ⟨_,rfl,h⟩|⟨g,b,k,e,d,j,i,f⟩
 . simp [maxLen]
 exact d
theorem SlAt.nil (M:Hp):SlAt M none 0 0 []:=⟨aL _,by simp [maxLen],fun i u h=>by simp at h⟩
theorem Kn.slM {a:Option Addr}{c ty sz n:Nat}{vs:List Value}:Kn (slM a c ty sz n vs::q) fun M=>SlAt M a c n vs:=fun _ _ ⟨_,_,_,_,_,p,_⟩=>slP.at p
theorem frz (hq:Le q (slH a c ty sz n vs::q0):=by exact Zk)(h:Kn (lst (fun M=>SlAt M a c n vs) gM::q0) φ)(s:St G w q):St G w (lst φ mn::q0):=by
 have e:=(s.le hq).slFreeze;have d:=e.le (cZ (mn:=gM) Kn.slM);have b:=d.le (aS (iE _ _ _) (eD _ _));exact (b.le (cZ h)).le (aS (iE _ _ _) (eD _ _))
theorem X.frz {todo:List Item}(h:Kn (lst (fun M=>SlAt M a c n vs) gM::q0) φ)(x:X P G f Q todo p ds cs (lst φ mn::q0))(hq:Le q (slH a c ty sz n vs::q0):=by exact Zk):X P G f Q todo p ds cs q:= .turn (fun w=>Wx.frz hq h) x
end
end
section
section
variable {α:Type}{P:Program}{G:World}{fr:Fc}{Q:Yn}{k:List Item}{p:PE}{ds:List Deferred}{cs:List Frame}{q q0 r:List HP}{ops lo:List Oper}{f:α->List Value}{sz ty:Nat}{a b:Option Addr}{c c':Nat}{l m:List α}
section
variable {d:Option Tmp}{ty':TypeId}{pos:String}{af:Array Edge}{gd:Option (Nat×Bool)}{x y:Operand}{t:TypeId}{z:Value}{bytes i:Nat}
theorem Pp (off:Nat): ∀ (us:List Value) (n:Nat) (pre post:List Value),pre.length=off+n->us.length<=post.length->(us.zipIdx n).foldl (fun cs (c,i)=>cs.setIfInBounds (off+i) c) (pre++post).toArray=(pre++us++post.drop us.length).toArray:=by
 intro us
 induction us with
 |nil=>intro n pre post _ h;simp
 |cons u r ih=>
  intro n pre post a h
  obtain ⟨x,post,rfl⟩: ∃ x l,post=x::l:=by cases post with
   |nil=>cases h
   |cons x l=>exact ⟨x,l,rfl⟩
  rw [List.zipIdx_cons,iN];have:=ih (n+1) (pre++ [u]) post (by simp;omega) (by simpa using h);simp only [aA,fS] at this;simpa [<-a] using this
theorem Ef.litR2 {u v:α}(f:α->List Value)(ht:P.underlying t=some (.slice ty))(hi:(P.info? ty).map (fun i=>(i.zero,i.size,i.bytes))=some (some z,sz,bytes))(h0:Nat.ble (2*sz) 16777216=true)(hn:Nat.blt 0 sz=true)
 (hf: ∀ x,(f x).length=sz) (hx:evp p x=some (.agg (f u).toArray)) (hy:evp p y=some (.agg (f v).toArray)):
 Ef P G p q ⟨d,.buildSlice t 2 [(0,x),(1,y)].toArray,ty',pos,af,gd⟩ fun w q'=> ∃ g,w= .slice (some ⟨g,0,none⟩) 2 2/\q'=Wx.rsH f sz ty (some ⟨g,0,none⟩) 2 [u,v]::q:=by
 have l: ∀ u,(Value.agg (f u).toArray).cells=(f u).toArray:=fun _=>rfl
 have b:Instr.fill (fun i=>some (i*sz,sz)) ((Array.range (2*sz)).map (z.cells[· % z.cells.size]!)) (([(0,x),(1,y)].map (·.1)).zip [Value.agg (f u).toArray,Value.agg (f v).toArray])=some (f u++f v).toArray:=by
  obtain ⟨A,m,r⟩: ∃ A:List Value,(Array.range (2*sz)).map (z.cells[· % z.cells.size]!)=A.toArray/\A.length=2*sz:=⟨((Array.range (2*sz)).map (z.cells[· % z.cells.size]!)).toList,Array.toArray_toList.symm,by rw [iH,Array.size_map,Array.size_range]⟩;have e:=Pp (0*sz) (f u) 0 [] A (by simp) (by rw [hf];omega);have k:=Pp (1*sz) (f v) 0 (f u) (A.drop (f u).length) (by rw [hf];omega) (by rw [bS,hf,hf];omega);rw [aT,aT] at e;have j: ∀ (a:Nat) (us:List Value) (A:Array Value),(us.toArray.zipIdx).foldl (fun cs (c,i)=>cs.setIfInBounds (a+i) c) A=(us.zipIdx 0).foldl (fun cs (c,i)=>cs.setIfInBounds (a+i) c) A:=by intro a us A;simp
  have o:=(j (0*sz) (f u) A.toArray).trans e;have n:=(j (1*sz) (f v) (f u++A.drop (f u).length).toArray).trans k;rw [m];simp only [bP,eM,fO,List.zip_nil_left,List.zip_nil_right,Instr.fill,l];rw [if_neg (by simp [hf];omega),o,if_neg (by simp [hf];omega),n];congr 2;rw [cO (by rw [bS,hf,hf];omega),cA]
 have:=jM (P:=P) (G:=G) (p:=p) (q:=q) (d:=d) (ty:=ty') (pos:=pos) (af:=af) (gd:=gd) (ps:= [(0,x),(1,y)]) (len:=2) ht hi (us:= [.agg (f u).toArray,.agg (f v).toArray]) (by simp [evl,hx,hy]) (by simpa using h0) (by have h:=hn;simp [dY] at h|-;omega) b (by simp [hf];omega);simpa [Wx.rsH] using this
end
variable {φ:Hp->Prop}{mn: ∀ {M M':Hp},Hle M M'->φ M->φ M'}
theorem X.frzR {todo:List Item}(h:Kn (lst (fun M=>SlAt M a c l.length (l.flatMap f)) gM::q0) φ)(x:X P G fr Q todo p ds cs (lst φ mn::q0))(hq:Le q (rsH f sz ty a c l::q0):=by exact Zk):X P G fr Q todo p ds cs q:= .frz h x hq
end
end
section
end
section
variable {P:Program}{w:World}{ds:List Deferred}{cs:List Frame}{v:Value}{cst:Array Bool}
def Brn (w:World)(a:Addr):Prop:= ∃ cs ty,w.heap[a.block]? =some (.cells cs ty (0,0))
def U4 (e:Addr×Value×Nat):MapEntry:= { key:= .pointer (some e.1),val:=e.2.1,born:=e.2.2 }
section
variable {G:World}{f:Fc}{Q:Yn}{ops:List Oper}{k:List Item}{rest:List Oper}{p:PE}{q r:List HP}{d:Option Tmp}{ty:TypeId}{pos:String}{af:Array Edge}{gd:Option (Nat×Bool)}{x y z:Operand}{t t' kt et te:TypeId}{kd:IntKind}{u:Value}{b clock:Nat}{es:List (Addr×Value×Nat)}{a:Addr}{j:TypeInfo}
theorem Mp {c:Addr}(hp:P.underlying kt=some (.pointer te))(hte:P.info? te=some j)(hsz:j.size≠0)(hne:a≠c)(ha:Brn w a)(hb:Brn w c):
 (Op.equal kt (.pointer (some a)) (.pointer (some c))).run P w= .ok false w:=by
 obtain ⟨ca,e,ha⟩:=ha;obtain ⟨f,b,hb⟩:=hb
 have h: ∀ d:Nat,(Op.equalIn (d+1) kt (.pointer (some a)) (.pointer (some c))).run P w= .ok false w:=fun d=>by
  simp [Op.equalIn,run_underlying hp,Go.sizeOf,typeInfo,hte,hsz,run_sameAddr_other w hne ha hb]
 simp [Op.equal,Op.maxDepth,h 9999]
theorem Gj (hp:P.underlying kt=some (.pointer te))(hte:P.info? te=some j):(Op.equal kt (.pointer (some a)) (.pointer (some a))).run P w= .ok true w:=by
 have h: ∀ d:Nat,(Op.equalIn (d+1) kt (.pointer (some a)) (.pointer (some a))).run P w= .ok true w:=fun d=>by
  simp [Op.equalIn,run_underlying hp,Go.sizeOf,typeInfo,hte,run_sameAddr_same]
 simp [Op.equal,Op.maxDepth,h 9999]
theorem H2 {w:World}(hp:P.underlying kt=some (.pointer te))(hte:P.info? te=some j)(hsz:j.size≠0)(ha:Brn w a): ∀ (es:List (Addr×Value×Nat)) (i:Nat),(∀ e∈es,a≠e.1/\Brn w e.1)->
 (Instr.findAsking kt (.pointer (some a)) (es.map U4) i).run P w= .ok none w
 | [],i,_=>by simp [Instr.findAsking]
 |e::es,i,h=>by
  have b:=h e (bI ..);simp [Instr.findAsking,U4,Mp hp hte hsz b.1 ha b.2,H2 hp hte hsz ha es (i+1) (fun y c=>h y (bZ _ c)),Result.andThen]
theorem Rw {w:World}{v:Value}{n:Nat}(hp:P.underlying kt=some (.pointer te))(hte:P.info? te=some j)(hsz:j.size≠0)(ha:Brn w a): ∀ (es:List (Addr×Value×Nat)) (i:Nat),(∀ e∈es,a≠e.1/\Brn w e.1)->
 (Instr.findAsking kt (.pointer (some a)) ((es++ [(a,v,n)]).map U4) i).run P w= .ok (some (i+es.length,v)) w
 | [],i,_=>by simp [Instr.findAsking,U4,Gj hp hte,Result.andThen]
 |e::es,i,h=>by
  have c:=h e (bI ..);have b:=Rw (v:=v) (n:=n) hp hte hsz ha es (i+1) (fun y d=>h y (bZ _ d));rw [show i+1+es.length=i+(e::es).length by simp;omega] at b;simp only [cM,bP,Instr.findAsking,U4,Sem.run_bind,Mp hp hte hsz c.1 ha c.2,Result.andThen];simpa [U4] using b
theorem Gd {es:List MapEntry}{o:Option (Nat×Value)}(hp:P.underlying kt=some (.pointer te))(h:(Instr.findAsking kt (.pointer (some a)) es 0).run P w= .ok o w):(Instr.findKey kt (.pointer (some a)) es).run P w= .ok o w:=by
 unfold Instr.findKey
 cases es with
 |nil=>simp [run_underlying hp,Instr.findNow,Result.andThen];simpa [Instr.findAsking] using h
 |cons e es=>simp [run_underlying hp,Instr.findNow,Instr.sameNow,Result.andThen,h]
theorem Bn (hp:P.underlying kt=some (.pointer te))(e:Bool)(n:Nat):(Instr.checkKey e (n+1) kt (.pointer (some a))).run P w= .ok () w:=by
 unfold Instr.checkKey;simp [run_underlying hp,Result.andThen]
def KeysAt (q:List HP)(a:Addr)(es:List (Addr×Value×Nat)):Prop:= ∀ G w,St G w q->Brn w a/\ ∀ e∈es,a≠e.1/\Brn w e.1
theorem KeysAt.le {q':List HP}(h:KeysAt q' a es)(l:Le q q'):KeysAt q a es:=fun G w s=>h G w (s.le l)
theorem F3 (ht:P.underlying t=some (.map kt et))(hp:P.underlying kt=some (.pointer te))(hte:P.info? te=some j)(hsz:j.size≠0)(hx:evp p x=some (.map (some b)))(hy:evp p y=some (.pointer (some a)))(hz:evp p z=some v)(hK:KeysAt q a es)
 (hq:Le q (pto b (.map (es.map U4).toArray clock)::r)):Ef P G p q ⟨d,.mapUpdate t x y z,ty,pos,af,gd⟩ fun u q'=>u=undef/\q'=pto b (.map ((es++ [(a,v,clock)]).map U4).toArray (clock+1))::r:=
 fun tm w f s=>by
  obtain ⟨e,c⟩:=hK G w s;have g:=s.le hq;have h:=g.has (fD _ _ _);have i:=Gd (P:=P) (w:=w) hp (H2 hp hte hsz e es 0 c);refine ⟨undef,_,_,.inr ⟨rfl,?_⟩,g.setObjM (o:= .map ((es.map U4).toArray.push { key:= .pointer (some a),val:=v,born:=clock }) (clock+1)),rfl,by simp [U4]⟩;simp [execOp,Zh f hx,Zh f hy,Zh f hz,Instr.mapUpdate,run_underlying ht,MapKept.run_getObj_map h,Bn hp,i,MapKept.run_setObj_map _ h,Result.andThen]
theorem Ek {zv:Value}(ht:P.underlying t=some (.map kt et))(hp:P.underlying kt=some (.pointer te))(hte:P.info? te=some j)(hsz:j.size≠0)(hx:evp p x=some (.map (some b)))(hy:evp p y=some (.pointer (some a)))(hK:KeysAt q a es)
 (hq:Le q (pto b (.map (es.map U4).toArray clock)::r)) (hz: ∀ w,(zeroValue et).run P w= .ok zv w):Rd P G p q ⟨d,.lookup t x y true,ty,pos,af,gd⟩ (.tuple [zv,.bool false].toArray):=
 fun tm w f s=>by
  obtain ⟨e,c⟩:=hK G w s;have h:=(s.le hq).has (fD _ _ _);have g:=Gd (P:=P) (w:=w) hp (H2 hp hte hsz e es 0 c);simp [execOp,Zh f hx,Zh f hy,Instr.lookup,run_underlying ht,MapKept.run_getObj_map h,Bn hp,g,hz,Result.andThen]
def dfDel (ats:Array TypeId)(ty:TypeId)(cst:Array Bool)(b:Nat)(a:Addr):Deferred:= { target:= .builtin .delete ats ty cst,args:= #[.map (some b),.pointer (some a)] }
theorem XO.dfDel {ats:Array TypeId}{m y:Operand}(K: ∀ cst,XO P G f Q ops.toArray k rest (Uc p d undef) (Wx.dfDel ats ty cst b a::ds) cs q)(hm:evp p m=some (.map (some b)):=by rfl)(hy:evp p y=some (.pointer (some a)):=by rfl)(hro:f.round=none:=by rfl)(hd:dOk f.n d=true:=by rfl)
 (hw:Wt ops p ⟨d,.defer ⟨.builtin .delete, [m,y].toArray,ats⟩,ty,pos,af,gd⟩=some true:=by rfl):
 XO P G f Q ops.toArray k (⟨d,.defer ⟨.builtin .delete, [m,y].toArray,ats⟩,ty,pos,af,gd⟩::rest) p ds cs q:=by
 intro is h tm w n j s
 cases is with
 |nil=>simp at h
 |cons i r=>
  obtain ⟨z,t⟩:=fV h;have h1:=Zh j hm;have h2:=Zh j hy;have c: ∃ cst,∀ w,(resolve (evA tm) ⟨.builtin .delete, [m,y].toArray,ats⟩ ty).run P w= .ok (Wx.dfDel ats ty cst b a) w:=⟨_,fun w=>by simp [resolve,h1,h2,Wx.dfDel];rfl⟩;obtain ⟨cst,c⟩:=c;obtain ⟨o',l,p',u,g,w',q',hQ,hn,ha,hs,v⟩:=K cst r t (Y8 tm d undef) w (by rw [Yk];exact n) (j.put (n ▸ hd)) s;refine ⟨o',l,p',u,g,w',q',hQ,hn,ha,hs,v.head (.one (step_lone_go ?_))⟩;have e:=Ve f tm (Wx.dfDel ats ty cst b a::ds) _ i r k undef z;simp only at e;rw [<-e];have he:(f.fr tm ds (.inRegion ops.toArray (i::r)::k)).eval=evA tm:=funext fun x=>Jy ..
  simp only [Fc.fr,hro] at he;have o:=Yh j hw;simp only [stepG,stepG.exec,stepG.oper,Frame.oper?,Fc.fr,z,o,he,gJ,jO,if_true,hro];simp [stepG.apply,execOp,c,Fc.fr]
theorem Cu {fr:Frame}{w':World}{bi:Builtin}{ats:Array TypeId}{tt:TypeId}{args:Array Value}(hm:fr.mode≠ .run)(hd:fr.defers= { target:= .builtin bi ats tt cst,args:=args } ::ds)
 (hi:(invoke (.builtin bi ats tt cst) args).run P w= .ok (.value v) w'):step P (lone fr cs w)= .next (lone { fr with defers:=ds } cs w'):=by
 refine step_lone_go ?_
 cases hmode:fr.mode with
 |run=>exact aR hmode hm
 |returning=>simp [stepG,unwind,callDeferred,hmode,hd,hi]
 |panicking chain=>simp [stepG,unwind,callDeferred,hmode,hd,hi]
theorem Lv.del {fn:FuncId}{R:U5}{F:List HP}{ats:Array TypeId}{ty:TypeId}{mt:TypeId}{n:Nat}(hat:ats[0]? =some mt)(ht:P.underlying mt=some (.map kt et))(hp:P.underlying kt=some (.pointer te))(hte:P.info? te=some j)(hsz:j.size≠0)(hK:KeysAt q a es)
 (hq:Le q (pto b (.map ((es++ [(a,v,n)]).map U4).toArray clock)::r)) (K:Lv P G fn R F ds .returning p (pto b (.map (es.map U4).toArray clock)::r)):Lv P G fn R F (Wx.dfDel ats ty cst b a::ds) .returning p q:=by
 intro tm w fr cs h1 h2 h3 h4 h5 ag s;obtain ⟨t,m⟩:=hK G w s;have x:=s.le hq;have z:=x.has (fD _ _ _);have y:=Gd (P:=P) (w:=w) hp (Rw (v:=v) (n:=n) hp hte hsz t es 0 m);rw [eC] at y;have s2:=x.setObjM (o:= .map (es.map U4).toArray clock)
 have d:(es.map U4++ [U4 (a,v,n)]).eraseIdx es.length=es.map U4:=by
  rw [jI (by simp)];simp
 have c:=y;rw [aM] at c
 have a0:(((es++ [(a,v,n)]).map U4).toArray).eraseIdxIfInBounds es.length=(es.map U4).toArray:=by
  apply Array.toList_inj.1;simp [Array.eraseIdxIfInBounds,jI]
 have hi:(invoke (.builtin .delete ats ty cst) #[.map (some b),.pointer (some a)]).run P w= .ok (.value (.tuple #[])) { w with heap:=w.heap.setIfInBounds b (.map (es.map U4).toArray clock) } :=by
  simp only [invoke,builtin,Builtin.delete_,hat];simp [run_underlying ht,MapKept.run_getObj_map z,Bn hp,show (Instr.findKey kt (.pointer (some a)) (es.map U4++ [U4 (a,v,n)])).run P w= .ok (some (es.length,v)) w from c,Result.andThen,MapKept.run_setObj_map _ z,d]
 have st:=Cu (P:=P) (cs:=cs) (w:=w) (fr:=fr) (ds:=ds) (by rw [h4];intro h;cases h) h3 hi;obtain ⟨e,f,u,q',hR,k,i,g,l,hl⟩:=K tm _ { fr with defers:=ds } cs h1 h2 rfl h4 h5 ag s2;exact ⟨e,f,u,q',hR,k,i,Steps.head st g,l,hl⟩
end
end
section
def IterR {τ:Type}(P:Program)(G:World)(gv:Value)(R:τ->List Value->HP->Prop)(xs:List τ)(pre:List HP):Prop:=
 ∀ (l:Nat) (J:Nat->HP) (Jf:HP->Prop),
  (∀ i (h:i<xs.length) vs A,R xs[i] vs A->CallV P G (.func (.yield l) #[] #[]) vs (J i::A::pre) (Ret fun v q=>(v= .bool true/\q=J (i+1)::pre)\/(v= .bool false/\ ∃ B,Jf B/\q=B::pre)))->
  CallV P G gv [.func (.yield l) #[] #[]] (J 0::pre) (Ret fun _ q=>q=J xs.length::pre\/ ∃ B,Jf B/\q=B::pre)
section
variable {P:Program}{G:World}{f:Fc}{Q:Yn}{k:List Item}{p:PE}{ds:List Deferred}{cs:List Frame}{q:List HP}
theorem X.rangeR {τ:Type}{g:Operand}{ps:List Tmp}{as bd:Code}{gv:Value}{R:τ->List Value->HP->Prop}{xs:List τ}{F:List HP}(pre:List HP)(Inv:Nat->List HP)(Jmp:Code->List HP->Prop)(hI:IterR P G gv R xs pre)(hg:evp p g=some gv)(hq:Le q (Inv 0++(pre++F)))
 (hxs: ∀ x vs A,R x vs A->vs.length=ps.length) (hps:ps.all (Nat.blt · f.n)=true) (hf:(P.funcs[f.fn]?).isSome=true) (hro:f.round=none)
 (round: ∀ i (h:i<xs.length) vs A,R xs[i] vs A-> ∀ l rec F₀ cs₀,X P G ⟨f.fn,f.n,.normal,some l⟩ (RQ cs₀ rec l (Inv (i+1)) Jmp (pre++F₀)) [.code as,.beginRound,.code bd] (L0 ps vs p) [] cs₀ (lp rec l .ready none::(Inv i++(A::(pre++F₀)))))
 (cont: ∀ r,X P G f Q k p (markD r::ds) cs (pto r (.deferred (some []))::(Inv xs.length++(pre++F))))
 (contJ: ∀ r c qs,Jmp c qs->X P G f Q (.code c::k) p (markD r::ds) cs (pto r (.deferred (some []))::(qs++(pre++F)))):
 X P G f Q (.code (.rangeFunc g ps.toArray as bd)::k) p ds cs q:=by
 refine X.rangeFunc (pre:=Inv 0++pre) (F:=F) (R':=fun a m=>(a=none/\m=Inv xs.length++pre)\/ ∃ c qs,a=some c/\Jmp c qs/\m=qs++pre) hro hg (by rw [aA];exact hq) (fun l rec d=> ?_) fun r a m h=> ?_
 . have t:=hI l (fun i=>stars (lp rec l .ready none::Inv i)) (fun A=> ∃ c qs,Jmp c qs/\A=stars (lp rec l .done (some c)::qs)) fun i h vs A hR=> ?_
   . refine jY (pre':=stars (lp rec l .ready none::Inv 0)::pre) ?_ t ?_
     . rw [show lp rec l .ready none::(Inv 0++pre)=(lp rec l .ready none::Inv 0)++pre from rfl];exact Z5 _ _
     rintro e q' ⟨v,rfl,rfl|⟨A,⟨c,qs,b,rfl⟩,rfl⟩⟩
     . exact ⟨lp rec l .ready none::(Inv xs.length++pre),⟨v,rfl,.ready,none,_,by simp,rfl,.inl ⟨rfl,rfl⟩⟩,Z1 _ _⟩
     exact ⟨lp rec l .done (some c)::(qs++pre),⟨v,rfl,.done,some c,_,by simp,rfl,.inr ⟨c,qs,rfl,b,rfl⟩⟩,Z1 _ _⟩
   refine jY (pre':=lp rec l .ready none::(Inv i++(A::pre))) (Z1 (lp rec l .ready none::Inv i) (A::pre))
    (CallV.yield (R:=Ret fun v q=>(v= .bool true/\q=lp rec l .ready none::(Inv (i+1)++pre))\/(v= .bool false/\ ∃ c qs,Jmp c qs/\q=lp rec l .done (some c)::(qs++pre))) d hps (by simpa using hxs _ _ _ hR) hf (fun F₀ cs₀=> ?_)) ?_
   . intro tm w hn ha s;obtain ⟨o,j,p',b0,c0,w',q',⟨a0,z,u⟩,h1,h2,h3,h4⟩:=round i h vs A hR l rec F₀ cs₀ tm w hn ha (by rw [aA] at s;exact s);refine ⟨o,j,p',b0,c0,w',q',⟨a0,z,?_⟩,h1,h2,h3,h4⟩
     cases o with
     |fall=>exact ⟨Inv (i+1)++pre,⟨_,rfl,.inl ⟨rfl,rfl⟩⟩,by rw [aA];exact u⟩
     |jump c=>obtain ⟨qs,b,y⟩:=u;exact ⟨qs++pre,⟨_,rfl,.inr ⟨rfl,c,qs,b,rfl⟩⟩,by rw [aA];exact y⟩
     |panic ch=>exact u.elim
   rintro e q' ⟨v,rfl,⟨rfl,rfl⟩|⟨rfl,c,qs,b,rfl⟩⟩
   . exact ⟨stars (lp rec l .ready none::Inv (i+1))::pre,⟨_,rfl,.inl ⟨rfl,rfl⟩⟩,Z5 (lp rec l .ready none::Inv (i+1)) pre⟩
   exact ⟨stars (lp rec l .done (some c)::qs)::pre,⟨_,rfl,.inr ⟨rfl,_,⟨c,qs,b,rfl⟩,rfl⟩⟩,Z5 (lp rec l .done (some c)::qs) pre⟩
 rcases h with ⟨rfl,rfl⟩|⟨c,qs,rfl,b,rfl⟩
 . have:=cont r;rw [<-aA] at this;exact this
 have:=contJ r c qs b;rw [<-aA] at this;exact this
end
end
section
variable {d:Option Tmp}{b sz:Nat}{us:List Value}
section
variable {P:Program}{G:World}{f:Fc}{Q:Yn}{ops:List Oper}{k:List Item}{rest:List Oper}{ds:List Deferred}{cs:List Frame}{p:PE}{q r:List HP}{ty:TypeId}{pos:String}{af:Array Edge}{gd:Option (Nat×Bool)}{x y:Operand}{t:TypeId}
theorem Rd.loadC {o:Nat}(hx:evp p x=some (.pointer (some ⟨b,o,none⟩)))(ht: ∀ w,(isAgg t).run P w= .ok true w)(hs: ∀ w,(Go.sizeOf t).run P w= .ok sz w)(hl:us.length=sz)
 (hc:CellsAt q b o us):Rd P G p q ⟨d,.load t x,ty,pos,af,gd⟩ (.agg us.toArray):=fun tm w c s=>by
 have hc:=run_loadCells_list (P:=P) w ⟨b,o,none⟩ us (fun j u a=>by rw [Wp];exact hc j u a G w s);rw [hl] at hc;simp [execOp,Zh c hx,Instr.loadAt,Instr.sureAddr,loadVar,ht,hs,hc]
theorem XO.ldC {d:Tmp}{o:Nat}(ht: ∀ w,(isAgg t).run P w= .ok true w)(hs: ∀ w,(Go.sizeOf t).run P w= .ok sz w)(hl:us.length=sz)(hc:CellsAt q b o us)(K:XO P G f Q ops.toArray k rest ((d,.agg us.toArray)::p) ds cs q)
 (hx:evp p x=some (.pointer (some ⟨b,o,none⟩)):=by rfl) (hw:Wt ops p ⟨some d,.load t x,ty,pos,af,gd⟩=some true:=by rfl) (hd:Nat.blt d f.n=true:=by rfl):
 XO P G f Q ops.toArray k (⟨some d,.load t x,ty,pos,af,gd⟩::rest) p ds cs q:= .rd (Rd.loadC hx ht hs hl hc) K hw hd
theorem Rd.efE {o:Oper}{v:Value}(h:Rd P G p q o v)(E:List HP):Ef P G p (q++E) o fun v' q'=> ∃ q1,(v'=v/\q1=q)/\q'=q1++E:=fun tm w ag s=>
 ⟨v,w,q++E,.inl (h tm w ag (s.le (Y1 q E))),s,q,⟨rfl,rfl⟩,rfl⟩
theorem Lo {α:Type}{fl:α->List Value}{l:List α}{a:Option Addr}{c et:Nat}{u:α}{n g:Nat}{j:Int}(hx:evp p x=some (.pointer (some ⟨g,0+j.toNat*sz,none⟩)))(hy:evp p y=some (.agg (fl u).toArray))(hsz: ∀ w,(Go.sizeOf t).run P w= .ok sz w)(hf: ∀ x,(fl x).length=sz)
 (hj:j=n) (hn:n<l.length) (h1:(fl u).all (·.oneCell')=true) (hq:Le q (Wx.rsH fl sz et (some ⟨g,0,none⟩) c l::r)):
 Ef P G p q ⟨d,.store t x y,ty,pos,af,gd⟩ fun z q'=>z=undef/\q'=Wx.rsH fl sz et (some ⟨g,0,none⟩) c (l.set n u)::r:=by
 subst hj;rw [fB,eC] at hx;intro tm w ag s;obtain ⟨h0,h2|⟨g',b,q1,o,q3,m,q5,s'⟩⟩:=(s.le hq).slH_elim
 . obtain ⟨_,_,h3,_⟩:=h2;omega
 cases q1
 have h:n*sz+sz<=l.length*sz:=by
  have:=eJ sz (show n+1<=l.length from hn);rw [eH,Nat.one_mul] at this;omega
 have hc:n*sz+sz<=b.size:=by rw [m];exact cP h (eJ _ o)
 obtain ⟨z,v,q',hr,hs,rfl,rfl⟩:=Ef.storeA (G:=G) (d:=d) (ty:=ty) (pos:=pos) (af:=af) (gd:=gd) (q:=pto g (.cells b.toList.toArray et (0,0))::r) hx hy hsz (hf u) h1 (Le.here _ _) (by simpa [Nat.ble_eq] using hc) tm w ag (by simpa using s');refine ⟨_,v,_,hr,?_,rfl,rfl⟩;have hl:(l.set n u).length=l.length:=by simp
 unfold Wx.rsH;rw [hl];have k:b.toList.length=c*sz:=by simpa using m
 have f:(V5 b.toList (n*sz) (fl u)).length=b.toList.length:=by
  unfold V5;rw [aG,aG,bH,bS,hf];omega
 refine hs.le (Y6 o q3 (by rw [gR,f,k]) ?_ r);rw [List.toList_toArray]
 have e1:(l.set n u).flatMap fl=(l.flatMap fl).take (n*sz)++fl u++(l.flatMap fl).drop (n*sz+sz):=by
  rw [Ka hf,show n*sz+sz=(n+1)*sz by rw [eH];omega,Gu hf,jH,if_pos hn,iI,cH,aA]
 rw [e1,<-q5];unfold V5;rw [hf];have hA:(b.toList.take (n*sz)).length=n*sz:=by rw [bH];omega
 apply fW;intro i;simp only [eW,List.getElem?_append,aG,bH,fG,hf,hA];have hm:min (n*sz) (l.length*sz)=n*sz:=by omega
 have a0:min (n*sz) b.toList.length=n*sz:=by omega
 have e:min (n*sz) (min (l.length*sz) b.size)=n*sz:=by omega
 by_cases c1:i<n*sz
 . simp [c1,e,show i<l.length*sz by omega,show i<n*sz+sz by omega]
 by_cases c2:i<n*sz+sz
 . simp [c1,c2,e,show i<l.length*sz by omega]
 by_cases c3:i<l.length*sz
 . simp [c1,c2,c3,e,show n*sz+sz+(i - (n*sz+sz))=i by omega]
 simp [c1,c2,c3,e,show n*sz+sz+(i - (n*sz+sz))=i by omega]
end
end
section
section
variable {P:Program}{G:World}{f:Fc}{Q:Yn}{ops:List Oper}{k:List Item}{pk p:PE}{fl:List FlE}{L:Rds}{n:Nat}{done:List Nat}{ds:List Deferred}{cs:List Frame}{q r:List HP}{op:Op}{ty:TypeId}{pos:String}{af:Array Edge}{gd:Option (Nat×Bool)}{x y:Operand}{t:TypeId}
theorem D7 (j:Nat){R:Value->List HP->Prop}(hE: ∀ E,Ef P G p (q++E) ⟨none,op,ty,pos,af,gd⟩ fun v q'=> ∃ q1,R v q1/\q'=q1++E)
 (K: ∀ v q1,R v q1->HL q1 (cut ⟨none,op,ty,pos,af,gd⟩ L)/\XF P G f Q ops k pk fl (cut ⟨none,op,ty,pos,af,gd⟩ L) n (j::done) p ds cs q1)
 (ho:ops[j]? =some ⟨none,op,ty,pos,af,gd⟩:=by rfl) (hif:(fl.map (·.i)).contains j=false:=by rfl) (hr:rdy ops done j=true:=by rfl) (hw:Wt ops p ⟨none,op,ty,pos,af,gd⟩=some true:=by rfl):StepOk P G f Q ops k pk fl L n done p ds cs q j:=
 ⟨_,R,ho,hE,K,hif,hr,hw,rfl⟩
theorem Zz3 {α:Type}{fl:α->List Value}{l:List α}{c sz et:Nat}{u:α}{n g:Nat}{j:Int}{d:Option Tmp}(hx:evp p x=some (.pointer (some ⟨g,0+j.toNat*sz,none⟩)))(hy:evp p y=some (.agg (fl u).toArray))(hsz: ∀ w,(Go.sizeOf t).run P w= .ok sz w)(hf: ∀ x,(fl x).length=sz)
 (hj:j=n) (hn:n<l.length) (h1:(fl u).all (·.oneCell')=true) (hq:Le q (Wx.rsH fl sz et (some ⟨g,0,none⟩) c l::r)) (E:List HP):
 Ef P G p (q++E) ⟨d,.store t x y,ty,pos,af,gd⟩ fun z q'=> ∃ q1,(z=undef/\q1=Wx.rsH fl sz et (some ⟨g,0,none⟩) c (l.set n u)::r)/\q'=q1++E:=by
 intro tm w k s;obtain ⟨v,f,q',e,b,i,h⟩:=Lo (P:=P) (G:=G) (d:=d) (ty:=ty) (pos:=pos) (af:=af) (gd:=gd) (a:=none) (r:=r++E) hx hy hsz hf hj hn h1 (hq.liftR E) tm w k s;exact ⟨v,f,q',e,b,_,⟨i,rfl⟩,h⟩
theorem Kn.im {b:Nat}{o:Obj}:Kn (Wx.im b o::q) fun M=>M b=some o:=fun _ _ ⟨_,_,_,_,_,p,_⟩=>p
end
end
end Wx
