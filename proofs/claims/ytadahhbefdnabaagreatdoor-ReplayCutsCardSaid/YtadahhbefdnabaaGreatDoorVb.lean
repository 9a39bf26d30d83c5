/- Contracts. -/
import Derived.Test.YtadahhbefdnabaaGreatDoorVa
import Derived.Recover
import Derived.ChangeArms
import Derived.OpenShut
import Derived.DataReads
import Derived.Laws.IdiomStrings
import Derived.Laws.MakeOwn
import Derived.WideShapes
import Derived.ChangeKeysEq
import Derived.MapKept
set_option maxHeartbeats 16000000
set_option linter.all false
namespace Wx
open Go Go.RowKit
section
variable {P:Program}{G:World}{q pre:List HP}{v:Value}{vs:List Value}{ds:List Deferred}{u:FrameMode}{p:PE}{fd:Func}
def CallD (P:Program)(G:World)(fn:FuncId)(vs:List Value)(u:FrameMode)(pre:List HP)(R:Ending->FrameMode->List HP->Prop):Prop:=
 ∀ (F:List HP) w,St G w (pre++F)->CallsD P fn vs.toArray u w fun e u' w'=>e≠ .outgrown/\ ∃ q,R e u' q/\St G w' (q++F)
def DQ (P:Program)(G:World)(fd:Func)(c₀:Frame)(cs₀:List Frame)(R:Ending->FrameMode->List HP->Prop)(F:List HP):Yp:=fun o p ds cs q=>
 ds= []/\ ∃ u',cs= { c₀ with mode:=u' } ::cs₀/\match o with
 | .fall| .jump .ret=> ∃ v q',(∀ tm w,Agr tm p->St G w q->(results fd tm).run P w= .ok v w)/\R (.returned v) u' q'/\Le q (q'++F)
 | .panic ch=> ∃ q',R (.panicked ch) u' q'/\Le q (q'++F)
 |_=>False
section
variable {fn:FuncId}{R:Uc}{F:List HP}
def Lv.defer {fv}{cap args}{f}{F₀}{R₀}(hu:u≠ .run)
 (hi: ∀ w,(invoke (.fn fv cap) args).run P w= .ok (.enter f vs.toArray) w) (hc:CallD P G f vs u pre R₀) (hq:Le q (pre++F₀))  (hf:P.funcs[fn]? =some fd)
 (hr: ∀ v u' q',R₀ (.returned v) u' q'->Lv P G fn R F ds (settle u') p (q'++F₀)) (hp: ∀ ch u' q',R₀ (.panicked ch) u' q'->Lv P G fn R F ds (raised u' ch) p (q'++F₀)):
 Lv P G fn R F ({ target:= .fn fv cap,args:=args } ::ds) u p q:=by
 intro tm w fr cs h1 h2 h3 h4 h5 ag s;have o:=step_defer (cs:=cs) (h4 ▸ hu) h3 rfl (hi w);have ⟨e,u',z,b0,⟨a0,q',hR,r⟩,g,hk,t⟩:=hc F₀ w (s.le hq) { fr with defers:=ds } cs h4
 cases e with
 |returned v=>
  have m:=step_going_returned (c:= { { fr with defers:=ds } with mode:=u' }) (cs:=cs) hk t;have ⟨y,h,n,i,l,b,a,j,k,x⟩:=hr v u' q' hR tm z { { { fr with defers:=ds } with mode:=u' } with mode:=settle u' } cs h1 h2 rfl rfl h5 ag r;exact ⟨y,h,n,i,l,b,a,(Steps.head o (Steps.trans g (.one m))).trans j,k,x⟩
 |panicked ch=>
  have m:=step_going_panicked (c:= { { fr with defers:=ds } with mode:=u' }) (cs:=cs) t;have ⟨y,h,n,i,l,b,a,j,k,x⟩:=hp ch u' q' hR tm z { { { fr with defers:=ds } with mode:=u' } with mode:=raised u' ch } cs h1 h2 rfl rfl h5 ag r;exact ⟨y,h,n,i,l,b,a,(Steps.head o (Steps.trans g (.one m))).trans j,k,x⟩
 |outgrown=>grind
def CallD.of {c}{n}{R}(hf:P.funcs[fn]? =some fd)(hn:fd.ntmps=n)(hb:fd.body=some c)
 (h: ∀ F c₀ cs₀,c₀.mode=u->X P G ⟨fn,n,.deferred,none⟩ (DQ P G fd c₀ cs₀ R F) [.code c] (Zqv 0 vs) [] (c₀::cs₀) (pre++F)) (hl:Nat.ble vs.length n=true:=by rfl):CallD P G fn vs u pre R:=by
 intro F w s c₀ cs₀ x;subst hn;have z:vs.length<=fd.ntmps:=by simp_all
 obtain ⟨o,b,p',a0,b0,e,q',⟨rfl,i,rfl,p⟩,y,t,j,a⟩:=h F c₀ cs₀ x (vs.toArray++Array.replicate (fd.ntmps - vs.length) undef) w Zi (Zku vs _) s
 have f:Frame.enter P fn vs.toArray .deferred=Fc.fr ⟨fn,fd.ntmps,.deferred,none⟩ (vs.toArray++Array.replicate (fd.ntmps - vs.length) undef) [] [.code c]:=by
  grind [Frame.enter,Fc.fr]
 rw [<-f] at a
 cases o with
 |fall=>
  have ⟨v,d,q,m,l⟩:=p
  have r:step P (lone (Fc.fr ⟨fn,fd.ntmps,.deferred,none⟩ b [] []) ({ c₀ with mode:=i } ::cs₀) e)= .next (lone { Fc.fr ⟨fn,fd.ntmps,.deferred,none⟩ b [] [] with mode:= .returning } ({ c₀ with mode:=i } ::cs₀) e):=
   step_lone_go (by simp [stepG,stepG.exec,Fc.fr])
  exact ⟨.returned v,i,e,_,⟨Zf,d,m,j.le l⟩,a.trans (.one r),rfl,rfl,rfl,fd,hf,q b e t j⟩
 |jump c'=>
  have ⟨k,g,a⟩:=a
  cases c' with
  |ret=>
   have ⟨v,d,q,m,l⟩:=p
   have r:step P (lone (Fc.fr ⟨fn,fd.ntmps,.deferred,none⟩ b [] (.code .ret::k)) ({ c₀ with mode:=i } ::cs₀) e)= .next (lone { Fc.fr ⟨fn,fd.ntmps,.deferred,none⟩ b [] (.code .ret::k) with mode:= .returning } ({ c₀ with mode:=i } ::cs₀) e):=
    step_lone_go (by simp [stepG,stepG.exec,Fc.fr])
   exact ⟨.returned v,i,e,_,⟨Zf,d,m,j.le l⟩,a.trans (.one r),rfl,rfl,rfl,fd,hf,q b e t j⟩
  |_=>exact p.elim
 |panic ch=>
  have ⟨k,a⟩:=a;have ⟨d,m,l⟩:=p;exact ⟨.panicked ch,i,e,_,⟨Zf,d,m,j.le l⟩,a,rfl,rfl,rfl,fd,hf⟩
end
section
variable {f:Fc}{Q:Yp}{ops:List Oper}{k:List Item}{cs:List Frame}{rest:List Oper}{d:Option Tmp}{ty:TypeId}{pos:String}{af:Array Edge}{gd:Option (Nat×Bool)}{x:Operand}
def Pn.panic {t}(hx:evp p x=some (.iface t v)):Pn P G p q ⟨d,.panic x,ty,pos,af,gd⟩ (.iface t v):=fun tm w a s=>
 ⟨w,by simp [execOp,Zu a hx,Instr.panic],s⟩
def XO.recover_ {ats}{cs'}(hk:f.kind= .deferred)(hro:f.round=none)(hrec:(recoverD cs).getD (.nilIface,cs)=(v,cs'))(hd:dOk f.n d=true)
 (x:XO P G f Q ops.toArray k rest (Jt p d v) ds cs' q) (hw:Wt ops p ⟨d,.call ⟨.builtin .recover,#[],ats⟩,ty,pos,af,gd⟩=some true:=by rfl):
 XO P G f Q ops.toArray k (⟨d,.call ⟨.builtin .recover,#[],ats⟩,ty,pos,af,gd⟩::rest) p ds cs q:=by
 intro is h tm w n a s
 cases is with
 |nil=>simp at h
 |cons i r=>
  have ⟨u,m⟩:=gJ h;have ⟨o',l,p',o,j,z,q',hQ,hn,ha,hs,t⟩:=x r m _ w (by rw [Yr];exact n) (a.put (n ▸ hd)) s;refine ⟨o',l,p',o,j,z,q',hQ,hn,ha,hs,t.head (.one (step_lone_go ?_))⟩;rw [Jx f tm ds cs w _ i r k u (Y6 a hw) Zf];have e:=U0 f tm ds _ i r k v u;have b:tryRecover (f.fr tm ds (.inRegion ops.toArray (i::r)::k)) cs=recoverD cs:=tryRecover_deferred hk cs;have c:(f.fr tm ds (.inRegion ops.toArray (i::r)::k)).roundOf=none:=hro;have g:(execOp (evA tm) ⟨d,.call ⟨.builtin .recover,#[],ats⟩,ty,pos,af,gd⟩).run P w= .ok .recover w:=by simp [execOp,resolve,invoke,builtin]
  rw [<-e]
  cases hc:recoverD cs with
  |none=>
   rw [hc] at hrec b;obtain ⟨rfl,rfl⟩:=hrec;simp [stepG.apply,g,b,c]
  |some y=>
   rw [hc] at hrec b;subst hrec;simp [stepG.apply,g,b,c]
def XO.defer_ {fo}{args}{ats}{fv}{D}(hro:f.round=none)(hf:evp p fo=some fv)(hv:evl p args=some vs)(hD: ∀ w,(Deferred.ofValue fv vs.toArray).run P w= .ok D w)(hd:dOk f.n d=true)
 (x:XO P G f Q ops.toArray k rest (Jt p d undef) (D::ds) cs q) (hw:Wt ops p ⟨d,.defer ⟨.value fo,args.toArray,ats⟩,ty,pos,af,gd⟩=some true:=by rfl):
 XO P G f Q ops.toArray k (⟨d,.defer ⟨.value fo,args.toArray,ats⟩,ty,pos,af,gd⟩::rest) p ds cs q:=by
 intro y h tm w n a s
 cases y with
 |nil=>simp at h
 |cons i r=>
  have ⟨o,j⟩:=gJ h;have ⟨v,e,p',l,c,u,q',hQ,hn,ha,z,m⟩:=x r j _ w (by rw [Yr];exact n) (a.put (n ▸ hd)) s;refine ⟨v,e,p',l,c,u,q',hQ,hn,ha,z,m.head (.one (step_lone_go ?_))⟩;have b:=U0 f tm (D::ds) _ i r k undef o;rw [<-b];have h2:args.toArray.map (evA tm)=vs.toArray:=by grind [Rw]
  have t:(f.fr tm ds (.inRegion ops.toArray (i::r)::k)).eval=evA tm:=funext fun x=>M6 ..
  simp [Fc.fr,hro] at t;simp [stepG,stepG.exec,stepG.oper,Frame.oper?,Fc.fr,o,Y6 a hw,t,hro];simp [stepG.apply,execOp,resolve,Zu a hf,h2,hD]
end
end
section
variable {G₀ w:World}{base:Nat}{P:Program}{spare:Nat->Bool}{held:Bool}
def old (G₀:World):HP:=⟨fun M _=>Hle (wh G₀) M,fun h _ p=>fun b o e=>h b o (p b o e)⟩
def St.old (G:World):St G G [Wx.old G]:=
 ⟨.refl _ _,wh G,fun _=>none,.refl _,fun _ _ e=>by simp at e,fun _ _ e=>by simp at e,fun _=> .inr rfl,.refl _,
  fun _=>none,fun _=>none,fun _=> .inl rfl,fun _ _ e=>by simp at e,fun _ _ e=>by simp at e,.refl _,trivial⟩
inductive Sh where
 |bool
 |int (k:IntKind)
 |str
 |slice (e:Sh)
 |nil
 |cons (a b:Sh)
structure SlV (α:Type) where
 a:Option Addr
 c:Nat
 l:List α
@[reducible] def Sh.T:Sh->Type
 | .bool=>Bool
 | .int _=>Int
 | .str=>ByteArray
 | .slice e=>SlV e.T
 | .nil=>Unit
 | .cons a b=>a.T×b.T
def Sh.sz:Sh->Nat
 | .bool=>1
 | .int _=>1
 | .str=>1
 | .slice _=>1
 | .nil=>0
 | .cons a b=>a.sz+b.sz
def Sh.cells:(s:Sh)->s.T->List Value
 | .bool,b=> [.bool b]
 | .int k,n=> [.int k n]
 | .str,s=> [.string s]
 | .slice _,x=> [.slice x.a x.l.length x.c]
 | .nil,_=> []
 | .cons a b,x=>a.cells x.1++b.cells x.2
theorem Gf (s:Sh)(v:s.T):(s.cells v).length=s.sz:=by
 induction s<;>grind [Sh.cells,Sh.sz]
def SeesW (w:World)(a:Option Addr)(vs:List Value):Prop:= ∀ i u,vs[i]? =some u-> ∃ b o,a=some ⟨b,o,none⟩/\w.cell? ⟨b,o+i,none⟩=some u
def Sh.ok (w:World):(s:Sh)->s.T->Prop
 | .bool,_=>True
 | .int k,n=>(Lit.int k n).wf=true
 | .str,s=>s.size<=maxLen
 | .slice e,x=>x.l.length<=x.c/\x.c<=maxLen/\(x.a=none->x.c=0)/\SeesW w x.a (x.l.flatMap e.cells)/\ ∀ y∈x.l,e.ok w y
 | .nil,_=>True
 | .cons a b,x=>a.ok w x.1/\b.ok w x.2
def Sh.okQ (q:List HP):(s:Sh)->s.T->Prop
 | .bool,_=>True
 | .int k,n=>(Lit.int k n).wf=true
 | .str,s=>s.size<=maxLen
 | .slice e,x=>x.l.length<=x.c/\x.c<=maxLen/\(x.a=none->x.c=0)/\Sees q x.a (x.l.flatMap e.cells)/\ ∀ y∈x.l,e.okQ q y
 | .nil,_=>True
 | .cons a b,x=>a.okQ q x.1/\b.okQ q x.2
def SeesW.sees {a}{vs}(h:SeesW G₀ a vs)(q:List HP):Sees (Wx.old G₀::q) a vs:=by
 intro G w s i u j;obtain ⟨b,o,k,n⟩:=h i u j;refine ⟨b,o,k,?_⟩;obtain ⟨_,M,h,l,_,_,_,_,g,f,_,_,_,p,_⟩:=s
 have e: ∃ d,G₀.heap[b]? =some d/\(match d with| .cells c _ _=>c[o+i]? =some u|_=>False):=by
  grind [World.cell?]
 obtain ⟨d,m,t⟩:=e;have r:w.heap[b]? =some d:=l _ _ (p _ _ m);grind [World.cell?]
def Sh.ok.okQ (q:List HP): ∀ {s:Sh} {v},s.ok G₀ v->s.okQ (Wx.old G₀::q) v:=by
 intro s
 induction s with
 |slice e ih=>exact fun ⟨d,c,j,i,g⟩=>⟨d,c,j,i.sees q,fun y f=>ih (g y f)⟩
 |cons a b iha ihb=>exact fun ⟨d,c⟩=>⟨iha d,ihb c⟩
 |_=>exact fun h=>h
def Sh.fits (P:Program):Sh->(TypeId ⊕ List Field×Nat)->Bool
 | .bool,.inl t=>match P.underlying t with|some .bool=>true|_=>false
 | .int k,.inl t=>match P.underlying t with|some (.int k')=>decide (k'=k)|_=>false
 | .str,.inl t=>match P.underlying t with|some .string=>true|_=>false
 | .slice e,.inl t=>match P.underlying t with|some (.slice e')=>e.fits P (.inl e') && Nat.beq (P.cellsOf e') e.sz|_=>false
 | .nil,.inl t=>match P.underlying t with|some (.struct fs)=>fs.toList.isEmpty && Nat.beq (P.cellsOf t) 0|_=>false
 | .nil,.inr (fs,_)=>fs.isEmpty
 | .cons a b,.inl t=>match P.underlying t with
  |some (.struct fs)=>Nat.beq (P.cellsOf t) (a.sz+b.sz) && match fs.toList with
   |f::r=>Nat.beq f.offset 0 && a.fits P (.inl f.type) && Nat.beq (P.cellsOf f.type) a.sz && b.fits P (.inr (r,a.sz))
   | []=>false
  |_=>false
 | .cons a b,.inr (fs,o)=>match fs with
  |f::r=>Nat.beq f.offset o && a.fits P (.inl f.type) && Nat.beq (P.cellsOf f.type) a.sz && b.fits P (.inr (r,o+a.sz))
  | []=>false
 |_,.inr _=>false
def Zj9 {α:Type}{n}{Q:Nat->α->Prop}(h: ∀ i,i<n-> ∃ y,Q i y): ∃ l:List α,l.length=n/\ ∀ i u,l[i]? =some u->Q i u:=by
 induction n with
 |zero=>simp
 |succ n ih=>
  have ⟨l,a,d⟩:=ih fun i e=>h i Zq
  have ⟨y,b⟩:=h n Zq;refine ⟨l++ [y],by simp [a],fun i u c=> ?_⟩;grind
def Zj6 {α β:Type}{f}{sz}(hf: ∀ x,(f x).length=sz): ∀ (l:List α) (i:Nat) (u:β),(l.flatMap f)[i]? =some u->
 ∃ j k x,i=j*sz+k/\k<sz/\l[j]? =some x/\(f x)[k]? =some u:=by
 intro l
 induction l with
 |nil=>simp
 |cons y r ih=>
  intro i u h;rw [cM] at h;rcases dN i sz with a|a
  . rw [dX (by grind)] at h;exact ⟨0,i,y,Zf,a,rfl,h⟩
  rw [dT (by grind)] at h;have ⟨j,k,x,e,c,d,b⟩:=ih _ _ h;exact ⟨j+1,k,x,by grind,c,by grind,b⟩
def Bm {α β:Type}{f:α->List β}{sz}(hf: ∀ x,(f x).length=sz): ∀ (l:List α) (j k:Nat) (x:α),k<sz->l[j]? =some x->(l.flatMap f)[j*sz+k]? =(f x)[k]? :=by
 intro l
 induction l with
 |nil=>simp
 |cons y r ih=>
  intro j k x a h
  cases j<;>grind
def open_sh {H}{enc}: ∀ (s:Sh),
 (∀ {t} {fuel} {cs} {x:DataW H×List MemPlace},s.fits P (.inl t)=true->DataW.trod enc P w base spare held fuel t cs=some x-> ∃ v,cs=s.cells v/\s.ok w v)/\
 (∀ {fs:List Field} {off n:Nat} {cs:List Value},s.fits P (.inr (fs,off))=true->cs.length=off+s.sz->
  (∀ (i:Nat) (f:Field),fs[i]? =some f-> ∃ y,DataW.trod enc P w base spare held n f.type ((cs.drop f.offset).take (P.cellsOf f.type))=some y)-> ∃ v,cs.drop off=s.cells v/\s.ok w v):=by
 intro s
 induction s with
 |bool=>
  refine ⟨fun {t fuel cs x} c h=> ?_,fun c=>by simp [Sh.fits] at c⟩;simp [Sh.fits] at c;split at c
  . obtain ⟨b,rfl,_⟩:=DataW.trod_bool Vp h;exact ⟨b,rfl,trivial⟩
  cases c
 |int k=>
  refine ⟨fun {t fuel cs x} c h=> ?_,fun c=>by simp [Sh.fits] at c⟩;simp [Sh.fits] at c;split at c
  . rename_i k' d;have:k'=k:=cY c;subst this;obtain ⟨n,rfl,_,hw⟩:=DataW.trod_int d h;exact ⟨n,rfl,hw⟩
  cases c
 |str=>
  refine ⟨fun {t fuel cs x} c h=> ?_,fun c=>by simp [Sh.fits] at c⟩;simp [Sh.fits] at c;split at c
  . obtain ⟨b,rfl,_,hs⟩:=DataW.trod_string Vp h;exact ⟨b,rfl,hs⟩
  cases c
 |nil=>
  refine ⟨fun {t fuel cs x} c h=> ?_,fun {fs off n cs} c g _=>⟨(),?_,trivial⟩⟩
  . simp [Sh.fits] at c;split at c
    . rename_i fs d;have ⟨xs,n,_,_,g,_⟩:=DataW.trod_struct d h;simp at c;refine ⟨(),?_,trivial⟩;rw [c.2] at g;exact aW g
    cases c
  simp_all [Sh.sz,Sh.cells]
 |slice e ih=>
  refine ⟨fun {t fuel cs x} c h=> ?_,fun c=>by simp [Sh.fits] at c⟩;simp [Sh.fits] at c;split at c
  . rename_i e' d;simp [] at c;rcases DataW.trod_slice d h with ⟨rfl,_⟩|⟨a,m,d0,c0,rest,n,rfl,rfl,_,_,b0,m0,l0,f0,_,_⟩
    . exact ⟨⟨none,0, []⟩,rfl,Zf,Zf,Zf,by intro i u d;simp at d,Zf⟩
    have p: ∀ i,i<m-> ∃ y:e.T,w.cells? base (a.add (i*e.sz)) e.sz=some (e.cells y)/\e.ok w y:=by
     grind [Option.bind_eq_some_iff]
    have ⟨l,g,hq⟩:=Zj9 p;refine ⟨⟨some a,d0,l⟩,by simp [Sh.cells,g],by simp [g,b0],Zq,Zf,?_,?_⟩
    . intro i u d;obtain ⟨j,k,y,rfl,hk,q,hc⟩:=Zj6 (Gf e) l i u d;have ⟨h1,_⟩:=hq j y q;have ⟨_,_,h2⟩:=World.cells?_some h1;have h3:=h2 k hk;rw [hc] at h3
      have a0:a.spot=none:=by
       have i0:0<l.length:=by
        grind
       grind [World.cells?_some,Gf,Addr.add,World.cell?_spot]
      have ⟨b,o,e0⟩:=a;grind [Vu]
    grind [List.getElem?_of_mem]
  cases c
 |cons a b iha ihb=>
  have B: ∀ {fs:List Field} {off n:Nat} {cs:List Value},(Sh.cons a b).fits P (.inr (fs,off))=true->cs.length=off+(Sh.cons a b).sz->
   (∀ (i:Nat) (f:Field),fs[i]? =some f-> ∃ y,DataW.trod enc P w base spare held n f.type ((cs.drop f.offset).take (P.cellsOf f.type))=some y)-> ∃ v,cs.drop off=(Sh.cons a b).cells v/\(Sh.cons a b).ok w v:=by
   intro fs off n cs c g z
   cases fs with
   |nil=>simp [Sh.fits] at c
   |cons f r=>
    simp [Sh.fits,bA] at c;have ⟨⟨⟨ho,ha⟩,hs⟩,hb⟩:=c;have ⟨y,q⟩:=z 0 f rfl;have ⟨v1,h1,k1⟩:=iha.1 ha q;have ⟨v2,h2,k2⟩:=ihb.2 hb (by grind [Sh.sz]) (fun i f c=>z (i+1) f (by grind));refine ⟨(v1,v2),?_,k1,k2⟩;grind [Sh.cells,List.drop_drop,List.take_append_drop]
  refine ⟨fun {t fuel cs x} c h=> ?_,B⟩;simp [Sh.fits] at c;split at c
  . rename_i fs d;simp [] at c;have ⟨hs,c⟩:=c;have ⟨xs,n,_,_,g,g0,z⟩:=DataW.trod_struct d h
    have:=B (fs:=fs.toList) (off:=0) (n:=n) (cs:=cs) (by
     grind [Sh.fits]) (by grind [Sh.sz]) (fun i f j0=>by
      grind)
    grind
  cases c
theorem open_arg {H}{enc:TypeId×Value->H}{t}{v}{d}{p}(s:Sh)(hf:s.fits P (.inl t)=true)
 (h:DataW.Trod enc P w base spare held t v d p): ∃ x:s.T,v.cells.toList=s.cells x/\s.ok w x:=by
 have ⟨a,h⟩:=h;exact (open_sh s).1 hf h
end
section
variable {P:Program}{G w:World}{p:PE}{q:List HP}{sz bk o n bytes:Nat}{a b:ByteArray}{v z:Value}{j:Int}{d:Option Tmp}{pos:String}{af:Array Edge}{gd:Option (Nat×Bool)}{x y:Operand}{us:List Value}
section
variable {α:Type}{fr:Fc}{Q:Yp}{k:List Item}{ds:List Deferred}{cs:List Frame}{q0 r:List HP}{ops lo:List Oper}{f:α->List Value}{ty:Nat}{a b:Option Addr}{c c':Nat}{l m:List α}
def rsH (f:α->List Value)(sz ty:Nat)(a:Option Addr)(c:Nat)(l:List α):HP:=slH a c ty sz l.length (l.flatMap f)
def Zx (hf: ∀ x,(f x).length=sz)(l:List α):(l.flatMap f).length=l.length*sz:=by
 induction l<;>grind
def Ul (hf: ∀ x,(f x).length=sz)(l:List α)(i:Nat):(l.flatMap f).take (i*sz)=(l.take i).flatMap f:=by
 induction l generalizing i with
 |nil=>simp
 |cons x r ih=>
  cases i with
  |zero=>simp
  |succ i=>
   rw [cM,lM,cM,<-ih,fT,List.take_append,hf,bX (by rw [hf];omega)];congr 2;omega
def Rj (hf: ∀ x,(f x).length=sz)(l:List α)(i:Nat):(l.flatMap f).drop (i*sz)=(l.drop i).flatMap f:=by
 induction l generalizing i with
 |nil=>simp
 |cons x r ih=>
  cases i<;>simp_all [fT,List.drop_append]
theorem Zj5 (hf: ∀ x,(f x).length=sz)(l:List α)(n k:Nat)(u:α)(v:Value)(hk:k<sz)(hn:n<l.length)(hu:(f l[n]).set k v=f u):(l.flatMap f).set (n*sz+k) v=(l.set n u).flatMap f:=by
 induction l generalizing n with
 |nil=>simp at hn
 |cons x r ih=>
  cases n<;>grind
theorem Sees.rsH (q:List HP):Sees (Wx.rsH f sz ty a c l::q) a (l.flatMap f):=Sees.slH q
abbrev bJ:=@Sees.rsH
def Zc (f:α->List Value)(sz ty:Nat)(q:List HP):Le q (Wx.rsH f sz ty none 0 []::q):=Nw _ _ _
def St.rsAddr (s:St G w (Wx.rsH f sz ty a c l::q))(h:0<l.length): ∃ g,a=some ⟨g,0,none⟩:=by
 obtain ⟨i,e|⟨g,b,d,_⟩⟩:=s.slH_elim
 all_goals grind
def St.rsLen (s:St G w (Wx.rsH f sz ty a c l::q)):l.length<=c/\c<=9223372036854775807:=by
 have:=s.slLen.2;simpa [maxLen] using this
def nth_lt {l}{k}(h:nth l k=some v):k<l.length:=by
 grind [Qi]
def Cl.el {k}(h:Sees q0 (some ⟨bk,o,none⟩) (l.flatMap f))(hq:Le q q0)(hf: ∀ x,(f x).length=sz)(hn:n<l.length)(hj:j=n)(hk:nth (f l[n]) k=some v):Cl q ⟨bk,o+j.toNat*sz+k,none⟩ v:=by
 subst hj;have a:=nth_lt hk;rw [fW];refine (h.le hq).cl ?_;simp_all [Bm,Qi]
def Cl.elp {k}(h:Sees q0 (some ⟨bk,o,none⟩) (l.flatMap f))(hq:Le q q0)(hf: ∀ x,(f x).length=sz)(h0:0<n)(hn:n<l.length)(hk:nth (f (l[n - 1]'(Nat.lt_of_le_of_lt (Nat.sub_le _ _) hn))) k=some v):Cl q ⟨bk,o+((n:Int) - 1).toNat*sz+k,none⟩ v:=
 Cl.el h hq hf _ Zq hk
def Cl.elz {k}(h:Sees q0 (some ⟨bk,o,none⟩) (l.flatMap f))(hq:Le q q0)(hf: ∀ x,(f x).length=sz)(h0:0<l.length)(hk:nth (f (l[l.length - 1]'(Nat.sub_lt h0 Nat.one_pos))) k=some v):Cl q ⟨bk,o+((l.length:Int) - 1).toNat*sz+k,none⟩ v:=
 Cl.el h hq hf _ Zq hk
def Cl.e1z {g}(h:Sees q0 (some ⟨bk,o,none⟩) (l.map g))(hq:Le q q0)(h0:0<l.length):Cl q ⟨bk,o+((l.length:Int) - 1).toNat*1,none⟩ (g (l[l.length - 1]'(Nat.sub_lt h0 Nat.one_pos))):=(h.le hq).at Zq _
def Cl.e1 {g}(h:Sees q0 (some ⟨bk,o,none⟩) (l.map g))(hq:Le q q0)(hn:n<l.length)(hj:j=n):Cl q ⟨bk,o+j.toNat*1,none⟩ (g l[n]):=(h.le hq).at hj hn
abbrev gF:=@Cl.e1
def Cl.e1p {g}(h:Sees q0 (some ⟨bk,o,none⟩) (l.map g))(hq:Le q q0)(h0:0<n)(hn:n<l.length):Cl q ⟨bk,o+((n:Int) - 1).toNat*1,none⟩ (g (l[n - 1]'(Nat.lt_of_le_of_lt (Nat.sub_le _ _) hn))):=(h.le hq).at Zq _
theorem Cl.row (h:Sees q0 (some ⟨bk,o,none⟩) (l.flatMap f))(hq:Le q q0)(hf: ∀ x,(f x).length=sz)(hn:n<l.length)(hj:j=n)(k:Nat)(v:Value)(hk:(f l[n])[k]? =some v):Cl q ⟨bk,o+j.toNat*sz+k,none⟩ v:=
 Cl.el h hq hf hn hj (by rw [Qi];exact hk)
abbrev cX:=@Cl.row
section
variable {ty':TypeId}{t:TypeId}{i:Nat}
def Rd.loadCs {A}(hx:evp p x=some (.pointer (some A)))(ht: ∀ w,(isAgg t).run P w= .ok true w)(hs: ∀ w,(Go.sizeOf t).run P w= .ok sz w)
 (hl:us.length=sz) (hc: ∀ (k:Nat) (v:Value),us[k]? =some v->Cl q (A.add k) v):Rd P G p q ⟨d,.load t x,ty',pos,af,gd⟩ (.agg us.toArray):=fun tm w b s=>by
 have hc:=run_loadCells_list (P:=P) w A us (fun j u a=>hc j u a G w s);rw [hl] at hc;simp [execOp,Zu b hx,Instr.loadAt,Instr.sureAddr,loadVar,ht,hs,hc]
def Rd.loadS (hx:evp p x=some (.pointer (some ⟨bk,o+j.toNat*sz,none⟩)))(ht: ∀ w,(isAgg t).run P w= .ok true w)(hs: ∀ w,(Go.sizeOf t).run P w= .ok sz w)
 (h:Sees q0 (some ⟨bk,o,none⟩) (l.flatMap f)) (hf: ∀ x,(f x).length=sz) (hn:n<l.length) (hj:j=n) (hq:Le q q0):Rd P G p q ⟨d,.load t x,ty',pos,af,gd⟩ (.agg (f l[n]).toArray):=
 .loadCs hx ht hs (hf _) fun k v a=>by grind [Vu,Cl.row]
def oneCells (h:us.all (·.oneCell')=true): ∀ u∈us,u.oneCell'=true:=fun u a=>by grind
def Ef.appR (ht:P.underlying t=some (.slice ty))(hi:(P.info? ty).map (fun i=>(i.zero,i.size,i.bytes))=some (some z,sz,bytes))(hz:z.cells.size=sz)(hsz:Nat.blt 0 sz=true)(hf: ∀ x,(f x).length=sz)
 (hx:evp p x=some (.slice a i c)) (hy:evp p y=some (.slice b m.length c')) (hq:Le q (Wx.rsH f sz ty a c l::r)) (hin:i<=l.length) (hs:Sees q b (m.flatMap f)) (h1: ∀ x,(f x).all (·.oneCell')=true)
 (h63:i+m.length<=9223372036854775807) (hby:(i+m.length)*bytes<=140737488355328):
 Ef P G p q ⟨d,.call ⟨.builtin .append, [x,y].toArray, [t,t].toArray⟩,ty',pos,af,gd⟩ fun v q'=> ∃ a' c',v= .slice a' (l.take i++m).length c'/\q'=Wx.rsH f sz ty a' c' (l.take i++m)::r:=by
 have h:=Ef.append (G:=G) (d:=d) (ty:=ty') (pos:=pos) (af:=af) (gd:=gd) ht hi hz hsz hx hy hq hin hs (Zx hf m) (by grind) h63 hby;simp_all [Wx.rsH,Ul]
def Z9 (ht:P.underlying t=some (.slice ty))(hi:(P.info? ty).map (fun i=>(i.zero,i.size,i.bytes))=some (some z,sz,bytes))(hz:z.cells.size=sz)(hsz:Nat.blt 0 sz=true)(hf: ∀ x,(f x).length=sz)
 (hx:evp p x=some (.slice a l.length c)) (hy:evp p y=some (.slice b m.length c')) (hq:Le q (Wx.rsH f sz ty a c l::r)) (hs:Sees q b (m.flatMap f)) (h1: ∀ x,(f x).all (·.oneCell')=true)
 (h63:l.length+m.length<=9223372036854775807) (hby:(l.length+m.length)*bytes<=140737488355328):
 Ef P G p q ⟨d,.call ⟨.builtin .append, [x,y].toArray, [t,t].toArray⟩,ty',pos,af,gd⟩ fun v q'=> ∃ a' c',v= .slice a' (l++m).length c'/\q'=Wx.rsH f sz ty a' c' (l++m)::r:=by
 simpa using (Ef.appR (ty':=ty') ht hi hz hsz hf hx hy hq (aS _) hs h1 h63 hby)
def Yw {u}(f:α->List Value)(ht:P.underlying t=some (.slice ty))(hi:(P.info? ty).map (fun i=>(i.zero,i.size,i.bytes))=some (some z,sz,bytes))(h0:Nat.ble sz 16777216=true)(hn:Nat.blt 0 sz=true)
 (hf: ∀ x,(f x).length=sz) (hx:evp p x=some (.agg (f u).toArray)):
 Ef P G p q ⟨d,.buildSlice t 1 [(0,x)].toArray,ty',pos,af,gd⟩ fun v q'=> ∃ g,v= .slice (some ⟨g,0,none⟩) 1 1/\q'=Wx.rsH f sz ty (some ⟨g,0,none⟩) 1 [u]::q:=by
 have j:(Value.agg (f u).toArray).cells=(f u).toArray:=rfl
 have b: ∀ (us:List Value) (n:Nat) (pre post:List Value),pre.length=n->post.length=us.length->(us.zipIdx n).foldl (fun cs (c,i)=>cs.setIfInBounds (0*sz+i) c) (pre++post).toArray=(pre++us).toArray:=by
  intro us
  induction us with
  |nil=>simp
  |cons u r ih=>
   intro n pre post e h;obtain ⟨x,post,rfl⟩: ∃ x l,post=x::l:=by cases post<;>grind
   have:=ih (pre.length+1) (pre++ [u]) post Zf (by simpa using h);simp_all
 have a:Instr.fill (fun i=>some (i*sz,sz)) ((Array.range (1*sz)).map (z.cells[· % z.cells.size]!)) (([(0,x)].map (·.1)).zip [Value.agg (f u).toArray])=some (f u).toArray:=by
  have:=b (f u) 0 [] ((Array.range (1*sz)).map (z.cells[· % z.cells.size]!)).toList rfl (by simp [hf]);simp only [bL,kX] at this;grind [List.zip_cons_cons,List.zip_nil_right,Instr.fill]
 have:=kS (G:=G) (p:=p) (q:=q) (d:=d) (ty:=ty') (pos:=pos) (af:=af) (gd:=gd) ht hi (by simp [evl,hx]) (by grind) (by grind) a (by simp [hf]);grind [Wx.rsH]
def Q7 (f:α->List Value)(ht:P.underlying t=some (.slice ty))(hi:(P.info? ty).map (fun i=>(i.zero,i.size,i.bytes))=some (some z,sz,bytes)):
 Ef P G p q ⟨d,.buildSlice t 0 #[],ty',pos,af,gd⟩ fun v q'=> ∃ g,v= .slice (some ⟨g,0,none⟩) 0 0/\q'=Wx.rsH f sz ty (some ⟨g,0,none⟩) 0 []::q:=
 B9 ht hi
def Wq {u}{g k}(hx:evp p x=some (.pointer (some ⟨g,0+j.toNat*sz+k,none⟩)))(hy:evp p y=some v)(hsz: ∀ w,(Go.sizeOf t).run P w= .ok 1 w)(hf: ∀ x,(f x).length=sz)
 (hj:j=n) (hn:n<l.length) (hk:Nat.blt k sz=true) (hu:(f l[n]).set k v=f u) (hv:v.cells= #[v]) (h1:v.oneCell'=true) (hq:Le q (Wx.rsH f sz ty (some ⟨g,0,none⟩) c l::r)):
 Ef P G p q ⟨d,.store t x y,ty',pos,af,gd⟩ fun z q'=>z=undef/\q'=Wx.rsH f sz ty (some ⟨g,0,none⟩) c (l.set n u)::r:=by
 subst hj;have b0:k<sz:=by simp_all
 intro tm w ag s;obtain ⟨h0,h2|⟨g',a,o,m,i,h,q5,e⟩⟩:=(s.le hq).slH_elim
 . omega
 cases o
 have a0:n*sz+k<l.length*sz:=by
  have:=eQ sz (hn);grind
 have hc:n*sz+k<a.size:=by grind
 obtain ⟨z,b,q',hr,hs,rfl,rfl⟩:=Ef.store (q:=pto g (.cells a.toList.toArray ty (0,0))::r) hx hy hsz hv h1 (Le.here _ _) (by simp_all) tm w ag (by simpa using e);refine ⟨_,b,_,hr,?_,rfl,rfl⟩;have hl:(l.set n u).length=l.length:=Zf;unfold Wx.rsH;rw [hl];refine hs.le (Yo m i (by simp [Ff,h]) ?_ r);grind [Ff,Zj5,List.take_set]
end
def Ou {ty'}{t}{e m:Nat}{vs ws}(ht:P.underlying t=some (.slice e))(hi:(P.info? e).map (fun i=>(i.zero,i.size,i.bytes))=some (some z,sz,bytes))(hz:z.cells.size=sz)(hsz:Nat.blt 0 sz=true)
 (hx:evp p x=some (.slice a n c)) (hy:evp p y=some (.slice b m c')) (hc:c<n+m) (hm0:0<m) (hn0:0<n) (hs:Sees q a vs) (hn:vs.length=n*sz) (hsw:Sees q b ws) (hm:ws.length=m*sz)
 (h63:n+m<=9223372036854775807) (hby:(n+m)*bytes<=140737488355328):
 Ef P G p q ⟨d,.call ⟨.builtin .append, [x,y].toArray, [t,t].toArray⟩,ty',pos,af,gd⟩ fun v q'=> ∃ a' c',v= .slice a' (n+m) c'/\q'=slH a' c' e sz (n+m) (vs++ws)::q:=by
 have ⟨I,hI,e1,e2,e3⟩:=info_parts hi;have f:0<sz:=by simp_all
 subst e2;subst e3;intro tm w ag s;have l:evl p [x,y]=some [.slice a n c,.slice b m c']:=by simp [evl,hx,hy]
 rw [Qm ag l]
 have g: ∀ v w',(Builtin.append_ #[t,t] ty' #[.slice a n c,.slice b m c']).run P w= .ok v w'->(builtin .append [t,t].toArray ty' ([x,y].toArray.map fun| .const _=>true|_=>false) [.slice a n c,.slice b m c'].toArray).run P w= .ok (.value v) w':=by
  intro v w' h;simp [builtin,h]
 rcases Jj (hs G w s) hn f with ⟨h,_⟩|⟨ad,rfl,r⟩
 . omega
 rcases Jj (hsw G w s) hm f with ⟨h,_⟩|⟨bd,rfl,o⟩
 . omega
 have j:=grownCap_ge w (n+m) c e;refine ⟨_,w.drew.alloc _,_,.inl (g _ _ (run_append_grow w t ty' e I z ht hI e1 ad n c vs hn r bd m c' ws hm o hc Zq (growslice_fits hc hby))),?_,some ⟨w.heap.size,0,none⟩,grownCap w (n+m) c e,rfl,rfl⟩;have s3:St G w.drew q:=s.same rfl rfl rfl rfl;have a0:(vs++ws).length=(n+m)*I.size:=by grind
 refine (St.new (w':=w.drew.alloc _) s3 rfl rfl rfl rfl).le (Yo j (grownCap_le_maxLen w (n+m) c e (by simp [maxLen];omega)) ?_ ?_ q)
 . simp [size_zeroCells,hz,hn,hm,<-fT];congr 1;omega
 grind
end
def orH (A B:HP):HP:=⟨fun M h=>A.p M h\/B.p M h,fun e e' p=>p.imp (A.mono e e') (B.mono e e')⟩
def Le.orl (A B:HP)(q:List HP):Le (A::q) (orH A B::q):= .one fun _ _ p=> .inl p
def St.or_elim {A B}(s:St G w (orH A B::q)):St G w (A::q)\/St G w (B::q):=by
 obtain ⟨b,M,k,a,c,d,e,f,h,g,i,j,l,p|p,q⟩:=s
 . exact .inl ⟨b,M,k,a,c,d,e,f,h,g,i,j,l,p,q⟩
 exact .inr ⟨b,M,k,a,c,d,e,f,h,g,i,j,l,p,q⟩
section
variable {ty:TypeId}{kd ky:IntKind}{m n:Int}{t t':TypeId}
def Pu.and (hx:evp p x=some (.int kd m))(hy:evp p y=some (.int kd n)):Pu P p ⟨d,.binOp .and t x y t',ty,pos,af,gd⟩ (.int kd (kd.wrap ((BitVec.ofInt kd.bits m &&& BitVec.ofInt kd.bits n).toNat:Int))):= .int hx hy (fun w=>by simp [Go.binOp,Op.intBits])
def Pu.or (hx:evp p x=some (.int kd m))(hy:evp p y=some (.int kd n)):Pu P p ⟨d,.binOp .or t x y t',ty,pos,af,gd⟩ (.int kd (kd.wrap ((BitVec.ofInt kd.bits m|||BitVec.ofInt kd.bits n).toNat:Int))):= .int hx hy (fun w=>by simp [Go.binOp,Op.intBits])
def Pu.shl (hx:evp p x=some (.int kd m))(hy:evp p y=some (.int ky n))(h0:0<=n):Pu P p ⟨d,.binOp .shl t x y t',ty,pos,af,gd⟩ (.int kd (kd.wrap (m*2 ^ min n.toNat kd.bits))):=
 fun tm w a=>by
  have b: ¬n<0:=Zq;simp [execOp,Zu a hx,Zu a hy,eqGuard,Go.binOp,Op.shift,b]
def Pu.eqlS (hx:evp p x=some (.string a))(hy:evp p y=some (.string b)):Pu P p ⟨d,.binOp .eql t x y t',ty,pos,af,gd⟩ (.bool (a.toList==b.toList)):=fun tm w c=>by
 simp [execOp,Zu c hx,Zu c hy,eqGuard,Go.binOp,Op.stringOp]
def Pu.neqS (hx:evp p x=some (.string a))(hy:evp p y=some (.string b)):Pu P p ⟨d,.binOp .neq t x y t',ty,pos,af,gd⟩ (.bool !(a.toList==b.toList)):=fun tm w c=>by
 simp [execOp,Zu c hx,Zu c hy,eqGuard,Go.binOp,Op.stringOp]
def Pu.lenS {s}{ats}(hx:evp p x=some (.string s))(ht:P.underlying t=some .string):Pu P p ⟨d,.call ⟨.builtin .len, [x].toArray,(t::ats).toArray⟩,ty,pos,af,gd⟩ (.int .i64 s.size):=
 fun tm w a=>by simp [execOp,resolve,invoke,builtin,Zu a hx,Builtin.len_,run_underlying ht,goInt]
end
end
section
variable {todo:List Item}{pk:PE}{q q' r q0 pre F:List HP}{v fv:Value}{A B:Prop}{b o bk sz n:Nat}{L:Rds}{j:Int}{d:Tmp}{pos:String}{af:Array Edge}{gd:Option (Nat×Bool)}{x y fo:Operand}{l vs:List Value}{args:List Operand}{R:Value->List HP->Prop}{fn:FuncId}{done:List Nat}{a:Option Addr}
section
variable {α:Type}{P:Program}{G:World}{f:Fc}{Q:Yp}{ops:List Oper}{k:List Item}{p:PE}{ds:List Deferred}{cs:List Frame}{rest:List Oper}
def ca (x:HP)(l m:List HP):(x::l)++m=x::(l++m):=rfl
def na (m:List HP):([]:List HP)++m=m:=rfl
def leA (h:Le q q':=by repeat (first|exact aG _|exact Wi _ _|exact Le.nil _|(apply bC; · (repeat first|exact Le.here _ _|apply Le.there))|refine Ps ?_)):Le q q':=h
def clA {A}(h:Cl q A v:=by first
 |exact fC (by repeat first|exact dV _ _ _|exact iQ _ _ _|refine Has.there ?_) (by rfl)
 |exact Cl.el Vp leA (fun _=>rfl) (by first|assumption|omega) rfl rfl
 |exact gF Vp leA (by first|assumption|omega) rfl
 |exact Cl.elp Vp leA (fun _=>rfl) Zq (by first|assumption|omega) rfl
 |exact Cl.e1p Vp leA Zq (by first|assumption|omega)
 |exact Cl.elz Vp leA (fun _=>rfl) (by first|assumption|omega) rfl
 |exact Cl.e1z Vp leA (by first|assumption|omega)
 |assumption):Cl q A v:=h
def V2 {o}(h:Has q b o:=by repeat first|exact dV _ _ _|exact iQ _ _ _|refine Has.there ?_):Has q b o:=h
def Zj {A}(h:Le q (A::r):=by repeat first|exact Le.here _ _|apply Le.there):Le q (A::r):=h
def hlA (h:HL q L:=by repeat first|exact trivial|refine ⟨clA,?_⟩):HL q L:=h
def Hv {k}{α:Type}{f}{l:List α}(h:Sees q0 (some ⟨bk,o,none⟩) (l.flatMap f))(hq:Le q q0)(hf: ∀ x,(f x).length=sz)(h0:0<=j)(hn:j.toNat<l.length)(hk:(f l[j.toNat])[k]? =some v):Cl q ⟨bk,o+j.toNat*sz+k,none⟩ v:=
 cX h hq hf hn Zq k v hk
def Cl.e1A {α:Type}{g}{l:List α}(h:Sees q0 (some ⟨bk,o,none⟩) (l.map g))(hq:Le q q0)(h0:0<=j)(hn:j.toNat<l.length):Cl q ⟨bk,o+j.toNat*1,none⟩ (g l[j.toNat]):=gF h hq hn Zq
def hlR (h:HL q L:=by repeat first|exact trivial|refine ⟨clA,?_⟩|refine ⟨Cl.e1A Vp leA Zq Zq,?_⟩|refine ⟨Hv (k:=0) Vp leA (fun _=>rfl) Zq Zq rfl,?_⟩|refine ⟨Hv (k:=1) Vp leA (fun _=>rfl) Zq Zq rfl,?_⟩|refine ⟨Hv (k:=2) Vp leA (fun _=>rfl) Zq Zq rfl,?_⟩|refine ⟨Hv (k:=3) Vp leA (fun _=>rfl) Zq Zq rfl,?_⟩|refine ⟨Hv (k:=4) Vp leA (fun _=>rfl) Zq Zq rfl,?_⟩|refine ⟨Hv (k:=5) Vp leA (fun _=>rfl) Zq Zq rfl,?_⟩|refine ⟨Hv (k:=6) Vp leA (fun _=>rfl) Zq Zq rfl,?_⟩|refine ⟨Hv (k:=7) Vp leA (fun _=>rfl) Zq Zq rfl,?_⟩|refine ⟨Hv (k:=8) Vp leA (fun _=>rfl) Zq Zq rfl,?_⟩|refine ⟨Hv (k:=9) Vp leA (fun _=>rfl) Zq Zq rfl,?_⟩|refine ⟨Cl.e1A (bV _) Zj Zq Zq,?_⟩):HL q L:=h
def hlF (F:A)(h:A->HL q L:=by intro F;repeat first|exact trivial|refine ⟨clA,?_⟩|refine ⟨(F.le leA) 0 _ rfl,?_⟩|refine ⟨(F.le leA) _ _ rfl,?_⟩|refine ⟨(F.1.le leA).at rfl F.2,?_⟩|refine ⟨F _ leA 0 _ rfl,?_⟩|refine ⟨F _ leA _ _ rfl,?_⟩|refine HL.app (F _ _ leA) ?_):HL q L:=h F
def hlG (F:A)(E:B)(h:A->B->HL q L:=by intro F E;repeat first|exact trivial|refine ⟨clA,?_⟩|refine ⟨(F.le leA) 0 _ rfl,?_⟩|refine ⟨(F.le leA) _ _ rfl,?_⟩|refine ⟨(F.1.le leA).at rfl F.2,?_⟩|refine ⟨F _ leA 0 _ rfl,?_⟩|refine ⟨F _ leA _ _ rfl,?_⟩|refine HL.app (F _ _ leA) ?_|refine ⟨(E.le leA) 0 _ rfl,?_⟩|refine ⟨(E.le leA) _ _ rfl,?_⟩|refine ⟨(E.1.le leA).at rfl E.2,?_⟩|refine ⟨E _ leA 0 _ rfl,?_⟩|refine ⟨E _ leA _ _ rfl,?_⟩|refine HL.app (E _ _ leA) ?_):HL q L:=h F E
def hlH {C:Prop}(F:A)(E:B)(D:C)(h:A->B->C->HL q L:=by intro F E D;repeat first|exact trivial|refine ⟨clA,?_⟩|refine ⟨(F.le leA) 0 _ rfl,?_⟩|refine ⟨(F.le leA) _ _ rfl,?_⟩|refine ⟨(F.1.le leA).at rfl F.2,?_⟩|refine ⟨F _ leA 0 _ rfl,?_⟩|refine ⟨F _ leA _ _ rfl,?_⟩|refine HL.app (F _ _ leA) ?_|refine ⟨(E.le leA) 0 _ rfl,?_⟩|refine ⟨(E.le leA) _ _ rfl,?_⟩|refine ⟨(E.1.le leA).at rfl E.2,?_⟩|refine ⟨E _ leA 0 _ rfl,?_⟩|refine ⟨E _ leA _ _ rfl,?_⟩|refine HL.app (E _ _ leA) ?_|refine ⟨(D.le leA) 0 _ rfl,?_⟩|refine ⟨(D.le leA) _ _ rfl,?_⟩|refine ⟨(D.1.le leA).at rfl D.2,?_⟩|refine ⟨D _ leA 0 _ rfl,?_⟩|refine ⟨D _ leA _ _ rfl,?_⟩|refine HL.app (D _ _ leA) ?_):HL q L:=h F E D
section
variable {ty:TypeId}{t:TypeId}{A:Addr}
def XO.ld (ht: ∀ w,(isAgg t).run P w= .ok false w)(K:XO P G f Q ops.toArray k rest ((d,v)::p) ds cs q)(hx:evp p x=some (.pointer (some A)):=by rfl)(hc:Cl q A v:=by exact clA)
 (hw:Wt ops p ⟨some d,.load t x,ty,pos,af,gd⟩=some true:=by rfl) (hd:Nat.blt d f.n=true:=by rfl):
 XO P G f Q ops.toArray k (⟨some d,.load t x,ty,pos,af,gd⟩::rest) p ds cs q:= .rd (Rd.load hx ht hc) K hw hd
def XO.ldA {t'}{fz}(ht: ∀ w,(isAgg t).run P w= .ok true w)(hs: ∀ w,(Go.sizeOf t).run P w= .ok sz w)
 (K:XO P G f Q ops.toArray k rest ((d,.agg (Wx.sub l o sz).toArray)::p) ds cs q) (hx:evp p x=some (.pointer (some ⟨b,o,none⟩)):=by rfl) (hh:Has q b (.cells l.toArray t' fz):=by exact V2) (hv:Nat.ble (o+sz) l.length=true:=by rfl)
 (hw:Wt ops p ⟨some d,.load t x,ty,pos,af,gd⟩=some true:=by rfl) (hd:Nat.blt d f.n=true:=by rfl):
 XO P G f Q ops.toArray k (⟨some d,.load t x,ty,pos,af,gd⟩::rest) p ds cs q:= .rd (Rd.loadA hx ht hs hh hv) K hw hd
def Jb {α:Type}{fl}{l:List α}(ht: ∀ w,(isAgg t).run P w= .ok true w)(hs: ∀ w,(Go.sizeOf t).run P w= .ok sz w)
 (h:Sees q0 (some ⟨bk,o,none⟩) (l.flatMap fl)) (hn:n<l.length) (K:XO P G f Q ops.toArray k rest ((d,.agg (fl l[n]).toArray)::p) ds cs q) (hx:evp p x=some (.pointer (some ⟨bk,o+j.toNat*sz,none⟩)):=by rfl) (hj:j=n:=by first|rfl|omega) (hf: ∀ x,(fl x).length=sz:=by intro _;rfl) (hq:Le q q0:=by exact leA)
 (hw:Wt ops p ⟨some d,.load t x,ty,pos,af,gd⟩=some true:=by rfl) (hd:Nat.blt d f.n=true:=by rfl):
 XO P G f Q ops.toArray k (⟨some d,.load t x,ty,pos,af,gd⟩::rest) p ds cs q:= .rd (Rd.loadS hx ht hs h hf hn hj hq) K hw hd
def Ef.st {t'}{d}(hs: ∀ w,(Go.sizeOf t).run P w= .ok 1 w)(hx:evp p x=some (.pointer (some ⟨b,o,none⟩)):=by rfl)(hy:evp p y=some v:=by rfl)
 (hv:v.cells= #[v]:=by rfl) (h1:v.oneCell'=true:=by rfl) (hq:Le q (pto b (.cells l.toArray t' (0,0))::r):=by exact Zj) (ho:Nat.blt o l.length=true:=by rfl):
 Ef P G p q ⟨d,.store t x y,ty,pos,af,gd⟩ fun z q'=>z=undef/\q'=pto b (.cells (Ku l o v).toArray t' (0,0))::r:= .store hx hy hs hv h1 hq ho
def Ef.stA {t'}{d}(hs: ∀ w,(Go.sizeOf t).run P w= .ok sz w)(hx:evp p x=some (.pointer (some ⟨bk,o,none⟩)):=by rfl)(hy:evp p y=some (.agg vs.toArray):=by rfl)
 (hl:vs.length=sz:=by rfl) (h1:vs.all (·.oneCell')=true:=by rfl) (hq:Le q (pto bk (.cells l.toArray t' (0,0))::r):=by exact Zj) (ho:Nat.ble (o+sz) l.length=true:=by rfl):
 Ef P G p q ⟨d,.store t x y,ty,pos,af,gd⟩ fun z q'=>z=undef/\q'=pto bk (.cells (Uw l o vs).toArray t' (0,0))::r:= .storeA hx hy hs hl h1 hq ho
end
section
variable {ats:Array TypeId}{ty:TypeId}
def Wn (hc:CallF P G fn vs pre (Ret R))(x: ∀ v q',R v q'-> ∀ q'',q''=q'++F->XO P G f Q ops.toArray k rest ((d,v)::p) ds cs q'')(hv:evl p args=some vs:=by rfl)(hq:Le q (pre++F):=by exact leA)
 (hw:Wt ops p ⟨some d,.call ⟨.value (.func fn),args.toArray,ats⟩,ty,pos,af,gd⟩=some true:=by rfl) (hd:Nat.blt d f.n=true:=by rfl) (hcf: ∀ args w,(callFunc fn args).run P w= .ok (.enter fn args) w:=by intro _ _;exact rfl):
 XO P G f Q ops.toArray k (⟨some d,.call ⟨.value (.func fn),args.toArray,ats⟩,ty,pos,af,gd⟩::rest) p ds cs q:= .callF hcf hc hv hq x hw hd
def XO.cV (hc:CallV P G fv vs pre (Ret R))(x: ∀ v q',R v q'-> ∀ q'',q''=q'++F->XO P G f Q ops.toArray k rest ((d,v)::p) ds cs q'')(hf:evp p fo=some fv:=by rfl)(hv:evl p args=some vs:=by rfl)(hq:Le q (pre++F):=by exact leA)
 (hw:Wt ops p ⟨some d,.call ⟨.value fo,args.toArray,ats⟩,ty,pos,af,gd⟩=some true:=by rfl) (hd:Nat.blt d f.n=true:=by rfl):
 XO P G f Q ops.toArray k (⟨some d,.call ⟨.value fo,args.toArray,ats⟩,ty,pos,af,gd⟩::rest) p ds cs q:= .call hf hv hc hq x hw hd
end
section
variable {ty:TypeId}{t:TypeId}
def XD.ld (i:Nat)(ht: ∀ w,(isAgg t).run P w= .ok false w)(K:XD P G f Q ops k pk ((i,b,o,v)::L) n (i::done) ((d,v)::p) ds cs q)
 (ho:ops[i]? =some ⟨some d,.load t x,ty,pos,af,gd⟩:=by rfl) (hx:evp p x=some (.pointer (some ⟨b,o,none⟩)):=by rfl) (hc:Cl q ⟨b,o,none⟩ v:=by exact clA)
 (hr:rdy ops done i=true:=by rfl) (hw:Wt ops p ⟨some d,.load t x,ty,pos,af,gd⟩=some true:=by rfl) (hd:Nat.blt d f.n=true:=by rfl):XD P G f Q ops k pk L (n+1) done p ds cs q:= .load i ho hx ht hc K hr hw hd
def XD.rdCs (i:Nat){us}(ho:ops[i]? =some ⟨some d,.load t x,ty,pos,af,gd⟩)(hx:evp p x=some (.pointer (some ⟨b,o,none⟩)))(ht: ∀ w,(isAgg t).run P w= .ok true w)(hs: ∀ w,(Go.sizeOf t).run P w= .ok sz w)
 (hl:us.length=sz) (hc: ∀ (k:Nat) (v:Value),us[k]? =some v->Cl q ⟨b,o+k,none⟩ v) (K:XD P G f Q ops k pk (rdA i b o us++L) n (i::done) ((d,.agg us.toArray)::p) ds cs q)
 (hr:rdy ops done i=true:=by rfl) (hw:Wt ops p ⟨some d,.load t x,ty,pos,af,gd⟩=some true:=by rfl) (hd:Nat.blt d f.n=true:=by rfl):XD P G f Q ops k pk L (n+1) done p ds cs q:=by
 refine XD.rdL i ho _ (Zqq _ _ _ _) (HL.rdA hc) (fun tm w e c=> ?_) K hr hw hd
 have hc:=run_loadCells_list (P:=P) w ⟨b,o,none⟩ us (fun j u a=>by
  rw [Vu];exact c _ (X9 a))
 rw [hl] at hc;simp [execOp,Zu e hx,Instr.loadAt,Instr.sureAddr,loadVar,ht,hs,hc]
abbrev iP:=@XD.rdCs
def XD.ldS (i:Nat){α:Type}{fl:α->List Value}{l:List α}{m:Nat}(ht: ∀ w,(isAgg t).run P w= .ok true w)(hs: ∀ w,(Go.sizeOf t).run P w= .ok sz w)
 (h:Sees q0 (some ⟨bk,o,none⟩) (l.flatMap fl)) (hn:m<l.length) (K:XD P G f Q ops k pk (rdA i bk (o+j.toNat*sz) (fl l[m])++L) n (i::done) ((d,.agg (fl l[m]).toArray)::p) ds cs q)
 (ho:ops[i]? =some ⟨some d,.load t x,ty,pos,af,gd⟩:=by rfl) (hx:evp p x=some (.pointer (some ⟨bk,o+j.toNat*sz,none⟩)):=by rfl) (hj:j=m:=by first|rfl|omega) (hf: ∀ x,(fl x).length=sz:=by intro _;rfl) (hq:Le q q0:=by exact leA)
 (hr:rdy ops done i=true:=by rfl) (hw:Wt ops p ⟨some d,.load t x,ty,pos,af,gd⟩=some true:=by rfl) (hd:Nat.blt d f.n=true:=by rfl):XD P G f Q ops k pk L (n+1) done p ds cs q:=
 .rdCs i ho hx ht hs (hf _) (fun k v hk=>cX h hq hf hn hj k v hk) K hr hw hd
section
variable {ats:Array TypeId}
def Q2 (i:Nat)(hc:CallF P G fn vs pre (Ret R))
 (K: ∀ v q',R v q'-> ∀ q'',q''=q'++F->HL q'' (cut ⟨some d,.call ⟨.value (.func fn),args.toArray,ats⟩,ty,pos,af,gd⟩ L)/\XD P G f Q ops k pk (cut ⟨some d,.call ⟨.value (.func fn),args.toArray,ats⟩,ty,pos,af,gd⟩ L) n (i::done) ((d,v)::p) ds cs q'')
 (ho:ops[i]? =some ⟨some d,.call ⟨.value (.func fn),args.toArray,ats⟩,ty,pos,af,gd⟩:=by rfl) (hv:evl p args=some vs:=by rfl) (hq:Le q (pre++F):=by exact leA)
 (h1:Ut ops done i=true:=by rfl) (hr:rdy ops done i=true:=by rfl) (hw:Wt ops p ⟨some d,.call ⟨.value (.func fn),args.toArray,ats⟩,ty,pos,af,gd⟩=some true:=by rfl) (hd:Nat.blt d f.n=true:=by rfl) (hcf: ∀ args w,(callFunc fn args).run P w= .ok (.enter fn args) w:=by intro _ _;exact rfl):XD P G f Q ops k pk L (n+1) done p ds cs q:=
 .callF i hcf hc ho hv hq K h1 hr hw hd
def XD.cV (i:Nat)(hc:CallV P G fv vs pre (Ret R))
 (K: ∀ v q',R v q'-> ∀ q'',q''=q'++F->HL q'' (cut ⟨some d,.call ⟨.value fo,args.toArray,ats⟩,ty,pos,af,gd⟩ L)/\XD P G f Q ops k pk (cut ⟨some d,.call ⟨.value fo,args.toArray,ats⟩,ty,pos,af,gd⟩ L) n (i::done) ((d,v)::p) ds cs q'')
 (ho:ops[i]? =some ⟨some d,.call ⟨.value fo,args.toArray,ats⟩,ty,pos,af,gd⟩:=by rfl) (hf:evp p fo=some fv:=by rfl) (hv:evl p args=some vs:=by rfl) (hq:Le q (pre++F):=by exact leA)
 (h1:Ut ops done i=true:=by rfl) (hr:rdy ops done i=true:=by rfl) (hw:Wt ops p ⟨some d,.call ⟨.value fo,args.toArray,ats⟩,ty,pos,af,gd⟩=some true:=by rfl) (hd:Nat.blt d f.n=true:=by rfl):XD P G f Q ops k pk L (n+1) done p ds cs q:=
 .call i ho hf hv hc hq K h1 hr hw hd
end
end
section
variable {d:Option Tmp}{ty:TypeId}{t t':TypeId}{ats:List TypeId}
def eqlFNil_ (k:Nat){u r}{b}(ht:P.underlying t=some (.func u r b))(fn:Fn)(l m:Array Value)(w:World):(Op.equalIn (k+1) t (.func fn l m) .nilFunc).run P w= .ok false w:=by
 simp [Op.equalIn,run_underlying ht]
end
def J1 (q:List HP):Le q (q++ []):=by rw [cA];exact .refl _
section
variable {ats:Array TypeId}{ty:TypeId}{u:Value}
def XO.cR (hc:CallF P G fn vs q (Ret fun v q'=>v=u/\q'=q))(x:XO P G f Q ops.toArray k rest ((d,u)::p) ds cs q)(hv:evl p args=some vs:=by rfl)
 (hw:Wt ops p ⟨some d,.call ⟨.value (.func fn),args.toArray,ats⟩,ty,pos,af,gd⟩=some true:=by rfl) (hd:Nat.blt d f.n=true:=by rfl) (hcf: ∀ args w,(callFunc fn args).run P w= .ok (.enter fn args) w:=by intro _ _;exact rfl):
 XO P G f Q ops.toArray k (⟨some d,.call ⟨.value (.func fn),args.toArray,ats⟩,ty,pos,af,gd⟩::rest) p ds cs q:=
 .callF hcf hc hv (J1 q) (fun v q' h a e=>by obtain ⟨rfl,rfl⟩:=h;rw [cA] at e;subst e;exact x) hw hd
abbrev bD:=@XO.cR
def XD.cR (i:Nat)(hcf: ∀ args w,(callFunc fn args).run P w= .ok (.enter fn args) w)(hc:CallF P G fn vs q (Ret fun v q'=>v=u/\q'=q))(hL:HL q (cut ⟨some d,.call ⟨.value (.func fn),args.toArray,ats⟩,ty,pos,af,gd⟩ L))
 (K:XD P G f Q ops k pk (cut ⟨some d,.call ⟨.value (.func fn),args.toArray,ats⟩,ty,pos,af,gd⟩ L) n (i::done) ((d,u)::p) ds cs q)
 (ho:ops[i]? =some ⟨some d,.call ⟨.value (.func fn),args.toArray,ats⟩,ty,pos,af,gd⟩:=by rfl) (hv:evl p args=some vs:=by rfl)
 (h1:Ut ops done i=true:=by rfl) (hr:rdy ops done i=true:=by rfl) (hw:Wt ops p ⟨some d,.call ⟨.value (.func fn),args.toArray,ats⟩,ty,pos,af,gd⟩=some true:=by rfl) (hd:Nat.blt d f.n=true:=by rfl):XD P G f Q ops k pk L (n+1) done p ds cs q:=
 .callF i hcf hc ho hv (J1 q) (fun v q' h a e=>by grind) h1 hr hw hd
end
def Yq (hs:Sees q0 a vs)(h:0<vs.length)(x: ∀ b o,a=some ⟨b,o,none⟩->X P G f Q todo p ds cs q)(hq:Le q q0:=by exact leA):X P G f Q todo p ds cs q:= .addr (hs.le hq) h x
def J9 (hs:Sees q0 a vs)(h:0<vs.length)(x: ∀ b o,a=some ⟨b,o,none⟩->XO P G f Q ops.toArray k rest p ds cs q)(hq:Le q q0:=by exact leA):XO P G f Q ops.toArray k rest p ds cs q:= .addr (hs.le hq) h x
def Rh (hs:Sees q0 a vs)(h:0<vs.length)(x: ∀ b o,a=some ⟨b,o,none⟩->XD P G f Q ops k pk L n done p ds cs q)(hq:Le q q0:=by exact leA):XD P G f Q ops k pk L n done p ds cs q:=
 .fact (fun w s=>(hs.le hq).addr h s) fun ⟨b,o,e⟩=>x b o e
def X.part (s:Nat){t}(h:lkp p s=some (.bool t))(ht:t=true->X P G f Q todo ((s,.bool true)::p) ds cs q)
 (hf:t=false->X P G f Q todo ((s,.bool false)::p) ds cs q):X P G f Q todo p ds cs q:=by
 cases t with
 |true=>exact fQ s _ h rfl (ht rfl)
 |false=>exact fQ s _ h rfl (hf rfl)
section
variable {R:Uc}{fd:Func}{p':PE}
def Zl (q':List HP)(hf:P.funcs[fn]? =some fd)(hr: ∀ tm w,Agr tm p->St G w q->(results fd tm).run P w= .ok v w)(h:R (.returned v) q')(hq:Le q (q'++F):=by exact leA):
 X P G f (FQ P G fn cs R F) (.code .ret::k) p [] cs q:=iH ⟨rfl,fS hf hr h hq⟩
def Dn (q':List HP)(hf:P.funcs[fn]? =some fd)(hr: ∀ tm w,Agr tm p->St G w q->(results fd tm).run P w= .ok v w)(h:R (.returned v) q')(hq:Le q (q'++F):=by exact leA):
 X P G f (FQ P G fn cs R F) [] p [] cs q:=gK ⟨rfl,fS hf hr h hq⟩
end
end
end
section
section
variable {P:Program}{G:World}{p:PE}{q r:List HP}{d:Option Tmp}{ty:TypeId}{pos:String}{af:Array Edge}{gd:Option (Nat×Bool)}{x y:Operand}{t t' e:TypeId}{kd ky:IntKind}{m n:Int}
def Zxt {u v}{b}{fn}{l m}(hx:evp p x=some (.func fn l m))(ht:P.underlying t=some (.func u v b)):
 Pu P p ⟨d,.binOp .neq t x (.const .nilFunc) t',ty,pos,af,gd⟩ (.bool true):=fun tm w e=>by
 have c:(Op.equal t _ .nilFunc).run P w= .ok false w:=eqlFNil_ 9999 ht fn l m w;have a:evA tm (.const .nilFunc)= .nilFunc:=rfl;simp [execOp,Zu e hx,a,eqGuard,Go.binOp,c]
def wu8 (n:Int):IntKind.u8.wrap n=n % 256:=by simp [IntKind.wrap,IntKind.bits,IntKind.signed]
def wu32 (n:Int):IntKind.u32.wrap n=n % 4294967296:=by simp [IntKind.wrap,IntKind.bits,IntKind.signed]
def wu64 (n:Int):IntKind.u64.wrap n=n % 18446744073709551616:=by simp [IntKind.wrap,IntKind.bits,IntKind.signed]
def Zvp {g n}{vs}(hx:evp p x=some (.slice (some ⟨g,0,none⟩) n n))(hs:P.underlying t=some (.slice e))(he:P.underlying e=some (.int .u8))(hq:Le q (slH (some ⟨g,0,none⟩) n e 1 n vs::r))(h0:Nat.blt 0 n=true):
 Ef P G p q ⟨d,.convert t t x,ty,pos,af,gd⟩ fun v q'=>v= .slice (some ⟨g,0,none⟩) n n/\q'=im g (.cells vs.toArray e (n,n+1))::r:=by
 intro tm w m s;obtain ⟨z,l|⟨g',a,j,y,u,i,o,c⟩⟩:=(s.le hq).slH_elim
 . cases l.1
 cases j
 have h:w.heap[g]? =some _:=c.has (dV _ _ _)
 have f:a=vs.toArray:=by
  grind
 have b:w.shape? g=some (e,n):=by simp [World.shape?,h,i]
 refine ⟨_,w.freeze ⟨g,n,none⟩ 1,_,.inl ?_,?_,rfl,rfl⟩
 . simp [execOp,Zu m hx,convert,run_underlying hs,run_underlying he,markStringish,b]
 refine (c.put (o':= .cells vs.toArray e _) (w':=w.freeze ⟨g,n,none⟩ 1) ?_ ?_ ?_ rfl rfl rfl).freeze
 all_goals grind [World.freeze]
def Sees.im {b}{cs}{z}(q:List HP):Sees (im b (.cells cs.toArray e z)::q) (some ⟨b,0,none⟩) cs:=by
 intro G w s i u a;refine ⟨b,0,rfl,?_⟩;simp [World.cell?,s.has (iQ b _ q),a]
def Ef.make {z}{bytes sz n:Nat}(hx:evp p x=some (.int kd n))(hy:evp p y=some (.int ky n))(ht:P.underlying t=some (.slice e))(hi:(P.info? e).map (fun i=>(i.zero,i.size,i.bytes))=some (some z,sz,bytes))(hz:z.cells.size=sz)(hsz:Nat.blt 0 sz=true)
 (hby:bytes*n<=140737488355328) (hn:n<=9223372036854775807):
 Ef P G p q ⟨d,.makeSlice t x y,ty,pos,af,gd⟩ fun v q'=> ∃ g,v= .slice (some ⟨g,0,none⟩) n n/\q'=slH (some ⟨g,0,none⟩) n e sz n ((List.replicate n z.cells.toList).flatten)::q:=by
 have ⟨I,u,e1,e2,e3⟩:=info_parts hi;subst e2;subst e3
 intro tm w m s;have j:=run_make w t e I z ht u e1 kd ky (n:Int) (n:Int) Zq (bI _) Zq Zq;refine ⟨_,w.alloc (.cells (madeCells z.cells (n*I.size)) e),_,.inl ?_,?_,w.heap.size,rfl,rfl⟩
 . simp [execOp,Zu m hx,Zu m hy,j]
 have o:St G (w.alloc _) (pto w.heap.size (.cells (madeCells z.cells (n*I.size)) e (0,0))::q):=s.new rfl rfl rfl rfl;refine o.le (Yo (aS _) (by simpa [maxLen] using hn) (size_madeCells _ _) ?_ q)
 have:(madeCells z.cells (n*I.size)).toList=(List.replicate n z.cells.toList).flatten:=by
  apply kM;intro i;have b:((List.replicate n z.cells.toList).flatten).length=n*I.size:=by simp [hz]
  rcases dN i (n*I.size) with h|h
  . have c:i % I.size<I.size:=Nat.mod_lt _ (by simp_all);have r:i / I.size<n:=by simp_all [Nat.div_lt_iff_lt_mul]
    have k:=Bm (f:=fun (l:List Value)=>z.cells.toList) (fun _=>by simp [hz]) (List.replicate n ([]:List Value)) (i / I.size) _ [] c (by simp [r])
    have h2:(List.replicate n ([]:List Value)).flatMap (fun _=>z.cells.toList)=(List.replicate n z.cells.toList).flatten:=by
     simp [List.flatMap]
    rw [h2,Nat.mul_comm,Nat.div_add_mod] at k;rw [k];simp [madeCells,h];simp [c,hz]
  rw [eK (by simp [madeCells];exact h),eK (by rw [b];exact h)]
 simp_all [bX]
def Ih {D}{xt}{v}(hx:evp p x=some (.iface t v))(ht:P.underlying t=some D)(hD:(match D with| .interface _=>false|_=>true)=true):
 Pu P p ⟨d,.typeAssert x xt t true,ty,pos,af,gd⟩ (.tuple [v,.bool true].toArray):=fun tm w a=>by
 simp [execOp,Zu a hx,Instr.typeAssert,run_underlying ht]
 cases D<;>first|(cases hD;done)|simp
def Im {D}{xt}{z}(hx:evp p x=some .nilIface)(ht:P.underlying t=some D)(hD:(match D with| .interface _=>false|_=>true)=true)(hz: ∀ w,(zeroValue t).run P w= .ok z w):
 Pu P p ⟨d,.typeAssert x xt t true,ty,pos,af,gd⟩ (.tuple [z,.bool false].toArray):=fun tm w a=>by
 simp [execOp,Zu a hx,Instr.typeAssert,run_underlying ht]
 cases D<;>first|(cases hD;done)|simp [hz]
end
end
section
variable {p':PE}{r1 b r:Bool}{L:Rds}
def J3:Nat->List Oper->List Oper
 |0,l=>l
 |_+1, []=> []
 |n+1,_::r=>J3 n r
section
variable {P:Program}{G:World}{f:Fc}{Q:Yp}{ops:List Oper}{k:List Item}{p:PE}{ds:List Deferred}{cs:List Frame}{q:List HP}{l:List Oper}
def Vb (n:Nat)(d s:Nat)(h:lkp p s=some (.bool b))
 (ht:b=true->XO P G f Q ops.toArray k (J3 n l) ((d,.bool (b && r1))::p) ds cs q->XO P G f Q ops.toArray k l ((s,.bool true)::p) ds cs q)
 (hf:b=false->XO P G f Q ops.toArray k (J3 n l) ((d,.bool (b && r1))::p) ds cs q->XO P G f Q ops.toArray k l ((s,.bool false)::p) ds cs q)
 (M:XO P G f Q ops.toArray k (J3 n l) ((d,.bool (b && r1))::p) ds cs q):XO P G f Q ops.toArray k l p ds cs q:=
 .part s h (fun e=>ht e M) (fun e=>hf e M)
def V9 (n:Nat)(d s:Nat)(h:lkp p s=some (.bool b))
 (hf:b=false->XO P G f Q ops.toArray k (J3 n l) ((d,.bool (b||r1))::p) ds cs q->XO P G f Q ops.toArray k l ((s,.bool false)::p) ds cs q)
 (ht:b=true->XO P G f Q ops.toArray k (J3 n l) ((d,.bool (b||r1))::p) ds cs q->XO P G f Q ops.toArray k l ((s,.bool true)::p) ds cs q)
 (M:XO P G f Q ops.toArray k (J3 n l) ((d,.bool (b||r1))::p) ds cs q):XO P G f Q ops.toArray k l p ds cs q:=
 .part s h (fun e=>ht e M) (fun e=>hf e M)
def Rb (h:b=true):some (Value.bool r)=some (Value.bool (b && r)):=by rw [h];rfl
def Rf (h:b=false):some (Value.bool false)=some (Value.bool (b && r)):=by rw [h];rfl
def orF (h:b=false):some (Value.bool r)=some (Value.bool (b||r)):=by rw [h];rfl
def orT (h:b=true):some (Value.bool true)=some (Value.bool (b||r)):=by rw [h];rfl
def Z2 (M:XO P G f Q ops.toArray k l p' ds cs q)(h:SubP p' p):XO P G f Q ops.toArray k l p ds cs q:=XO.sub h M
variable {pk:PE}{m:Nat}{done:List Nat}
def sameL (a b:List Nat):Bool:=a.all b.contains && b.all a.contains
def Ud {done'}(M: ∀ L,XD P G f Q ops k pk L m done' p' ds cs q)(h:SubP p' p)(e:sameL done' done=true:=by rfl):XD P G f Q ops k pk L m done p ds cs q:=by
 have c: ∀ j,j∈done'↔j∈done:=by
  grind [sameL]
 apply XD.sub h;exact fun g d tm w b i s a=>WA.congr m c (M L g d tm w b i s a)
def Tu (n':Nat)(done':List Nat)(d s:Nat)(h:lkp p s=some (.bool b))
 (ht:b=true->(∀ L,XD P G f Q ops k pk L n' done' ((d,.bool (b && r1))::p) ds cs q)->XD P G f Q ops k pk L m done ((s,.bool true)::p) ds cs q)
 (hf:b=false->(∀ L,XD P G f Q ops k pk L n' done' ((d,.bool (b && r1))::p) ds cs q)->XD P G f Q ops k pk L m done ((s,.bool false)::p) ds cs q)
 (M: ∀ L,XD P G f Q ops k pk L n' done' ((d,.bool (b && r1))::p) ds cs q):XD P G f Q ops k pk L m done p ds cs q:=
 .part s h (fun e=>ht e M) (fun e=>hf e M)
def Bl (n':Nat)(done':List Nat)(d s:Nat)(h:lkp p s=some (.bool b))
 (hf:b=false->(∀ L,XD P G f Q ops k pk L n' done' ((d,.bool (b||r1))::p) ds cs q)->XD P G f Q ops k pk L m done ((s,.bool false)::p) ds cs q)
 (ht:b=true->(∀ L,XD P G f Q ops k pk L n' done' ((d,.bool (b||r1))::p) ds cs q)->XD P G f Q ops k pk L m done ((s,.bool true)::p) ds cs q)
 (M: ∀ L,XD P G f Q ops k pk L n' done' ((d,.bool (b||r1))::p) ds cs q):XD P G f Q ops k pk L m done p ds cs q:=
 .part s h (fun e=>ht e M) (fun e=>hf e M)
end
end
section
variable {todo:List Item}{pre q':List HP}{c0 c1 x0:Value}{R:Value->List HP->Prop}{Rp:List PanicEntry->List HP->Prop}{fn:FuncId}{ch:List PanicEntry}
def RP (R:Value->List HP->Prop)(Rp:List PanicEntry->List HP->Prop):Uc:=fun e q=>(∃ v,e= .returned v/\R v q)\/(∃ ch,e= .panicked ch/\Rp ch q)
section
variable {P:Program}{G:World}{f:Fc}{Q:Yp}{ops:List Oper}{k:List Item}{p:PE}{ds:List Deferred}{cs:List Frame}{q:List HP}{rest:List Oper}{v:Value}
section
variable {α:Type}{fl:α->List Value}{sz ty:Nat}{a:Option Addr}{c:Nat}{l:List α}{r:List HP}
def Vq (h:0<l.length)(x: ∀ g,a=some ⟨g,0,none⟩->X P G f Q todo p ds cs q)(hq:Le q (rsH fl sz ty a c l::r):=by exact Zj):X P G f Q todo p ds cs q:=
 .fact (fun w s=>(s.le hq).rsAddr h) fun ⟨g,e⟩=>x g e
def Gw (h:0<l.length)(x: ∀ g,a=some ⟨g,0,none⟩->XO P G f Q ops.toArray k rest p ds cs q)(hq:Le q (rsH fl sz ty a c l::r):=by exact Zj):XO P G f Q ops.toArray k rest p ds cs q:=
 .fact (fun w s=>(s.le hq).rsAddr h) fun ⟨g,e⟩=>x g e
def Uz {fl}(h:0<l.length)(x: ∀ g,a=some ⟨g,0,none⟩->X P G f Q todo p ds cs q)(hq:Le q (lsH fl ty a c l::r):=by exact Zj):X P G f Q todo p ds cs q:=
 .fact (fun w s=>(s.le hq).lsAddr h) fun ⟨g,e⟩=>x g e
def XO.lsadr {fl}(h:0<l.length)(x: ∀ g,a=some ⟨g,0,none⟩->XO P G f Q ops.toArray k rest p ds cs q)(hq:Le q (lsH fl ty a c l::r):=by exact Zj):XO P G f Q ops.toArray k rest p ds cs q:=
 .fact (fun w s=>(s.le hq).lsAddr h) fun ⟨g,e⟩=>x g e
def Iw {pk}{L}{n}{done}(h:0<l.length)(x: ∀ g,a=some ⟨g,0,none⟩->XD P G f Q ops k pk L n done p ds cs q)(hq:Le q (rsH fl sz ty a c l::r):=by exact Zj):XD P G f Q ops k pk L n done p ds cs q:=
 .fact (fun w s=>(s.le hq).rsAddr h) fun ⟨g,e⟩=>x g e
end
section
variable {args:List Operand}{ats:Array TypeId}{ty:TypeId}{pos:String}{af:Array Edge}{gd:Option (Nat×Bool)}{vs:List Value}{d:Tmp}{fo:Operand}{fv:Value}
def Zbo {sp}(hcf: ∀ args w,(callFunc fn args).run P w= .ok (.enter fn args) w)(hc:CallF P G fn vs pre sp):CallV P G (.func (.func fn) #[] #[]) vs pre sp:=
 Yh hcf (by simpa using hc)
def Zv (hq:Le q pre)(hc:CallF P G fn vs pre (Ret R))(x: ∀ v q',R v q'->XO P G f Q ops.toArray k rest ((d,v)::p) ds cs q')(hv:evl p args=some vs:=by rfl)
 (hw:Wt ops p ⟨some d,.call ⟨.value (.func fn),args.toArray,ats⟩,ty,pos,af,gd⟩=some true:=by rfl) (hd:Nat.blt d f.n=true:=by rfl) (hcf: ∀ args w,(callFunc fn args).run P w= .ok (.enter fn args) w:=by intro _ _;exact rfl):
 XO P G f Q ops.toArray k (⟨some d,.call ⟨.value (.func fn),args.toArray,ats⟩,ty,pos,af,gd⟩::rest) p ds cs q:=
 .callF hcf hc hv (hq.trans (J1 pre)) (fun v q' h a e=>by rw [cA] at e;rw [e];exact x v q' h) hw hd
def Vj (hq:Le q pre)(hc:CallF P G fn vs pre (RP R Rp))(xp: ∀ ch q',Rp ch q'->Q (.panic ch) p ds cs q')(x: ∀ v q',R v q'->XO P G f Q ops.toArray k rest ((d,v)::p) ds cs q')(hv:evl p args=some vs:=by rfl)
 (hw:Wt ops p ⟨some d,.call ⟨.value (.func fn),args.toArray,ats⟩,ty,pos,af,gd⟩=some true:=by rfl) (hd:Nat.blt d f.n=true:=by rfl) (hcf: ∀ args w,(callFunc fn args).run P w= .ok (.enter fn args) w:=by intro _ _;exact rfl):
 XO P G f Q ops.toArray k (⟨some d,.call ⟨.value (.func fn),args.toArray,ats⟩,ty,pos,af,gd⟩::rest) p ds cs q:=
 .callE hw hd rfl hv (Zbo hcf hc) (hq.trans (J1 pre))
  (fun v q' h=>by rcases h with ⟨_,h,r⟩|⟨_,h,_⟩<;>cases h;rw [cA];exact x v q' r)
  (fun ch q' h=>by rcases h with ⟨_,h,r⟩|⟨_,h,r⟩<;>cases h;grind)
end
section
variable {sp:Uc}
def Mc (hcf: ∀ args w,(callFunc fn args).run P w= .ok (.enter fn args) w)(h:CallF P G fn [c0,c1] pre sp):CallV P G (.func (.func fn) [].toArray [c0,c1].toArray) [] pre sp:=Yh hcf h
def CallV.c10 (hcf: ∀ args w,(callFunc fn args).run P w= .ok (.enter fn args) w)(h:CallF P G fn [x0] pre sp):CallV P G (.func (.func fn) [].toArray [].toArray) [x0] pre sp:=Yh hcf h
def CallV.c11 (hcf: ∀ args w,(callFunc fn args).run P w= .ok (.enter fn args) w)(h:CallF P G fn [x0,c0] pre sp):CallV P G (.func (.func fn) [].toArray [c0].toArray) [x0] pre sp:=Yh hcf h
abbrev gA:=@CallV.c11
def CallV.c12 (hcf: ∀ args w,(callFunc fn args).run P w= .ok (.enter fn args) w)(h:CallF P G fn [x0,c0,c1] pre sp):CallV P G (.func (.func fn) [].toArray [c0,c1].toArray) [x0] pre sp:=Yh hcf h
abbrev kF:=@CallV.c12
def Z3 {x1}(hcf: ∀ args w,(callFunc fn args).run P w= .ok (.enter fn args) w)(h:CallF P G fn [x0,x1] pre sp):CallV P G (.func (.func fn) [].toArray [].toArray) [x0,x1] pre sp:=Yh hcf h
end
def FQ.panic {R}{F}{fd}(hf:P.funcs[fn]? =some fd)(h:R (.panicked ch) q')(hq:Le q (q'++F):=by exact leA):FQ P G fn cs R F (.panic ch) p [] cs q:=⟨rfl,Lv.panic hf h hq⟩
abbrev cZ:=@FQ.panic
def RP.ret (h:R v q'):RP R Rp (.returned v) q':= .inl ⟨v,rfl,h⟩
abbrev dC:=@RP.ret
def RP.thr (h:Rp ch q'):RP R Rp (.panicked ch) q':= .inr ⟨ch,rfl,h⟩
abbrev dZ:=@RP.thr
end
end
section
variable {pk:PE}{pre:List HP}{v:Value}{L:Rds}{n:Nat}{done:List Nat}{args:List Operand}{pos:String}{af:Array Edge}{gd:Option (Nat×Bool)}{vs cl:List Value}{R:Value->List HP->Prop}{d:Tmp}{fn:FuncId}{c:Code}
section
variable {P:Program}{G:World}{f:Fc}{Q:Yp}{ops:List Oper}{k:List Item}{p:PE}{ds:List Deferred}{cs:List Frame}{q:List HP}{rest:List Oper}
section
variable {ats:Array TypeId}{ty:TypeId}{Rp:List PanicEntry->List HP->Prop}
def XD.cP (i:Nat)(hq:Le q pre)(hc:CallF P G fn vs pre (RP R Rp))(xp: ∀ ch q',Rp ch q'->Q (.panic ch) pk ds cs q')
 (K: ∀ v q',R v q'->HL q' (cut ⟨some d,.call ⟨.value (.func fn),args.toArray,ats⟩,ty,pos,af,gd⟩ L)/\XD P G f Q ops k pk (cut ⟨some d,.call ⟨.value (.func fn),args.toArray,ats⟩,ty,pos,af,gd⟩ L) n (i::done) ((d,v)::p) ds cs q')
 (hpk:SubP pk p) (ho:ops[i]? =some ⟨some d,.call ⟨.value (.func fn),args.toArray,ats⟩,ty,pos,af,gd⟩:=by rfl) (hv:evl p args=some vs:=by rfl)
 (h1:Ut ops done i=true:=by rfl) (hr:rdy ops done i=true:=by rfl) (hw:Wt ops p ⟨some d,.call ⟨.value (.func fn),args.toArray,ats⟩,ty,pos,af,gd⟩=some true:=by rfl) (hd:Nat.blt d f.n=true:=by rfl) (hcf: ∀ args w,(callFunc fn args).run P w= .ok (.enter fn args) w:=by intro _ _;exact rfl):XD P G f Q ops k pk L (n+1) done p ds cs q:=
 .one i ho (fun tm w g s=>by
  rw [G8 g (rfl) hv];exact ((Zbo hcf hc) [] w ((s.le hq).le (J1 pre))).mono fun e j _ ⟨q',c,b⟩=>⟨q',c,by rw [cA] at b;exact b⟩)
  (fun v a h=>by rcases h with ⟨_,e,r⟩|⟨_,e,_⟩<;>cases e;exact K v a r) (fun ch a h=>by rcases h with ⟨_,e,_⟩|⟨_,e,r⟩<;>cases e;grind) h1 hr hw hd
end
section
variable {ats:Array TypeId}{ty:TypeId}
def Wk (i:Nat)(hq:Le q pre)(hc:CallF P G fn vs pre (Ret R))
 (K: ∀ v q',R v q'->HL q' (cut ⟨some d,.call ⟨.value (.func fn),args.toArray,ats⟩,ty,pos,af,gd⟩ L)/\XD P G f Q ops k pk (cut ⟨some d,.call ⟨.value (.func fn),args.toArray,ats⟩,ty,pos,af,gd⟩ L) n (i::done) ((d,v)::p) ds cs q')
 (ho:ops[i]? =some ⟨some d,.call ⟨.value (.func fn),args.toArray,ats⟩,ty,pos,af,gd⟩:=by rfl) (hv:evl p args=some vs:=by rfl)
 (h1:Ut ops done i=true:=by rfl) (hr:rdy ops done i=true:=by rfl) (hw:Wt ops p ⟨some d,.call ⟨.value (.func fn),args.toArray,ats⟩,ty,pos,af,gd⟩=some true:=by rfl) (hd:Nat.blt d f.n=true:=by rfl) (hcf: ∀ args w,(callFunc fn args).run P w= .ok (.enter fn args) w:=by intro _ _;exact rfl):XD P G f Q ops k pk L (n+1) done p ds cs q:=
 .callF i hcf hc ho hv (hq.trans (J1 pre)) (fun v q' h a e=>by grind) h1 hr hw hd
end
def dfr (fn:FuncId)(cl:List Value):Deferred:= { target:= .fn (.func fn) cl.toArray,args:= #[] }
def XO.dfr {fo}{ats}{d}{ty}(x:XO P G f Q ops.toArray k rest (Jt p d undef) (Wx.dfr fn cl::ds) cs q)
 (hf:evp p fo=some (.func (.func fn) [].toArray cl.toArray):=by rfl) (hro:f.round=none:=by rfl) (hd:dOk f.n d=true:=by rfl)
 (hw:Wt ops p ⟨d,.defer ⟨.value fo, [].toArray,ats⟩,ty,pos,af,gd⟩=some true:=by rfl):
 XO P G f Q ops.toArray k (⟨d,.defer ⟨.value fo, [].toArray,ats⟩,ty,pos,af,gd⟩::rest) p ds cs q:=
 .defer_ hro hf rfl (fun w=>by simp [Deferred.ofValue,Wx.dfr]) hd x hw
def Quiet (P:Program)(G:World)(fn:FuncId)(cl:List Value):Prop:=CallD P G fn cl .returning [] fun e u q=>(∃ v,e= .returned v)/\u= .returning/\q= []
def Catches (P:Program)(G:World)(fn:FuncId)(cl:List Value)(E:PanicEntry)(pre post:List HP):Prop:=
 CallD P G fn cl (.panicking [E]) pre fun e u q=>(∃ v,e= .returned v)/\u= .panicking [{ E with recovered:=true }]/\q=post
section
variable {fn2:FuncId}{R:Uc}{F:List HP}{fd fd2:Func}{E:PanicEntry}{post F₀:List HP}
def Ii (hcf: ∀ args w,(callFunc fn2 args).run P w= .ok (.enter fn2 args) w)(hf:P.funcs[fn]? =some fd)(hc:Quiet P G fn2 cl)(h:Lv P G fn R F ds .returning p q):Lv P G fn R F (Wx.dfr fn2 cl::ds) .returning p q:=
 Lv.defer Zf (fun w=>by simp [invoke,hcf]) hc (.refl _) hf (fun v a q' ⟨_,c,b⟩=>by subst c;subst b;exact h) (fun ch a q' ⟨⟨v,e⟩,_⟩=>by cases e)
def Lv.catches (hcf: ∀ args w,(callFunc fn2 args).run P w= .ok (.enter fn2 args) w)(hf:P.funcs[fn]? =some fd)(hc:Catches P G fn2 cl E pre post)(hq:Le q (pre++F₀))(hg:E.goexit=false)(h:Lv P G fn R F [] .returning p (post++F₀)):Lv P G fn R F [Wx.dfr fn2 cl] (.panicking [E]) p q:=
 Lv.defer Zf (fun w=>by simp [invoke,hcf]) hc hq hf (fun v a q' ⟨_,c,b⟩=>by subst c;subst b;exact h) (fun ch a q' ⟨⟨v,e⟩,_⟩=>by cases e)
def Quiet.of (hf:P.funcs[fn]? =some fd)(hn:fd.ntmps=n)(hb:fd.body=some c)(h: ∀ F c₀ cs₀,(recoverD (c₀::cs₀)).getD (.nilIface,c₀::cs₀)=(.nilIface,c₀::cs₀)->
 X P G ⟨fn,n,.deferred,none⟩ (fun o p ds cs q=>cs=c₀::cs₀/\ds= []/\(o= .fall\/o= .jump .ret)/\(∃ v,∀ tm w,Agr tm p->St G w q->(results fd tm).run P w= .ok v w)/\Le q F) [.code c] (Zqv 0 cl) [] (c₀::cs₀) F) (hl:Nat.ble cl.length n=true:=by rfl):Quiet P G fn cl:=by
 refine CallD.of hf hn hb (fun F c₀ cs₀ i=> ?_) hl;refine fun tm w hn m s=> ?_
 have ⟨o,a,p',f,g,j,q',⟨e,d,l,⟨v,k⟩,b⟩,x,u,t,r⟩:=h F c₀ cs₀ (by simp [recoverD,i]) tm w hn m s;refine ⟨o,a,p',f,g,j,q',⟨d,.returning,?_,?_⟩,x,u,t,r⟩
 . rw [e,<-i]
 rcases l with rfl|rfl<;>exact ⟨v, [],k,⟨⟨v,rfl⟩,rfl,rfl⟩,b⟩
def Catches.of {ev}(hf:P.funcs[fn]? =some fd)(hn:fd.ntmps=n)(hb:fd.body=some c)(hE:E= { v:=ev,recovered:=false })(h: ∀ F c₀ cs₀,(recoverD (c₀::cs₀)).getD (.nilIface,c₀::cs₀)=(ev, { c₀ with mode:= .panicking [{ E with recovered:=true }] } ::cs₀)->
 X P G ⟨fn,n,.deferred,none⟩ (fun o p ds cs q=>cs= { c₀ with mode:= .panicking [{ E with recovered:=true }] } ::cs₀/\ds= []/\(o= .fall\/o= .jump .ret)/\(∃ v,∀ tm w,Agr tm p->St G w q->(results fd tm).run P w= .ok v w)/\Le q (post++F)) [.code c] (Zqv 0 cl) [] (c₀::cs₀) (pre++F))
 (hl:Nat.ble cl.length n=true:=by rfl):Catches P G fn cl E pre post:=by
 refine CallD.of hf hn hb (fun F c₀ cs₀ l=> ?_) hl;refine fun tm w hn m s=> ?_
 have ⟨o,a,p',f,g,i,q',⟨e,d,k,⟨v,j⟩,b⟩,x,u,t,r⟩:=h F c₀ cs₀ (by simp [recoverD,l,hE]) tm w hn m s;refine ⟨o,a,p',f,g,i,q',⟨d,_,e,?_⟩,x,u,t,r⟩;rcases k with rfl|rfl<;>exact ⟨v,post,j,⟨⟨v,rfl⟩,rfl,rfl⟩,b⟩
end
def Zzq {ats}{cs'}{ty}(hrec:(recoverD cs).getD (.nilIface,cs)=(v,cs'))(x:XO P G f Q ops.toArray k rest ((d,v)::p) ds cs' q)
 (hk:f.kind= .deferred:=by rfl) (hro:f.round=none:=by rfl) (hd:Nat.blt d f.n=true:=by rfl) (hw:Wt ops p ⟨some d,.call ⟨.builtin .recover,#[],ats⟩,ty,pos,af,gd⟩=some true:=by rfl):
 XO P G f Q ops.toArray k (⟨some d,.call ⟨.builtin .recover,#[],ats⟩,ty,pos,af,gd⟩::rest) p ds cs q:= .recover_ hk hro hrec hd x hw
end
end
section
variable {q:List HP}
section
variable {P:Program}{G:World}{f:Fc}{Q:Yp}{ops:List Oper}{k:List Item}{p:PE}{ds:List Deferred}{cs:List Frame}{rest:List Oper}{d:Tmp}{ty:TypeId}{pos:String}{af:Array Edge}{gd:Option (Nat×Bool)}{x:Operand}{s e t:TypeId}{a:Option Addr}{c:Nat}{q0:List HP}
def HL.app : ∀ {L L'},HL q L->HL q L'->HL q (L++L')
 | [],_,_,h=>h
 |(_,_,_,_)::r,_,⟨h,k⟩,h'=>⟨h,HL.app k h'⟩
end
end
section
section
variable {P:Program}{G:World}{f:Fc}{Q:Yp}{ops:List Oper}{k:List Item}{p:PE}{ds:List Deferred}{cs:List Frame}{q:List HP}{pk:PE}{L:Rds}{n:Nat}{done:List Nat}{args:List Operand}{ats:Array TypeId}{ty:TypeId}{pos:String}{af:Array Edge}{gd:Option (Nat×Bool)}{vs:List Value}{u:Value}{d:Tmp}{fn:FuncId}
def Yf (i:Nat)(hc:CallF P G fn vs q (Ret fun v q'=>v=u/\q'=q))
 (K:XD P G f Q ops k pk (cut ⟨some d,.call ⟨.value (.func fn),args.toArray,ats⟩,ty,pos,af,gd⟩ L) n (i::done) ((d,u)::p) ds cs q)
 (ho:ops[i]? =some ⟨some d,.call ⟨.value (.func fn),args.toArray,ats⟩,ty,pos,af,gd⟩:=by rfl) (hv:evl p args=some vs:=by rfl)
 (hL:HL q (cut ⟨some d,.call ⟨.value (.func fn),args.toArray,ats⟩,ty,pos,af,gd⟩ L):=by exact hlA)
 (h1:Ut ops done i=true:=by rfl) (hr:rdy ops done i=true:=by rfl) (hw:Wt ops p ⟨some d,.call ⟨.value (.func fn),args.toArray,ats⟩,ty,pos,af,gd⟩=some true:=by rfl) (hd:Nat.blt d f.n=true:=by rfl) (hcf: ∀ args w,(callFunc fn args).run P w= .ok (.enter fn args) w:=by intro _ _;exact rfl):XD P G f Q ops k pk L (n+1) done p ds cs q:= .cR i hcf hc hL K ho hv h1 hr hw hd
end
end
end Wx
namespace Wx
open Go Go.RowKit Go.WideShapes
def Zv9 {H:Type}{enc:TypeId×Value->H}{P:Program}{w w2:World}{base base2:Nat}{r:Reach}{spare:Nat->Bool}{held:Bool}{t e:TypeId}{v:Value}{d:DataW H}{p:List MemPlace}(es:Sh)(ht:P.underlying t=some (.slice e))(hok:Value.okWide P w2 r base2 t v)
 (h:DataW.Trod enc P w base spare held t v d p) (hf:(Sh.slice es).fits P (.inl t)=true): ∃ x:SlV es.T,v= .slice x.a x.l.length x.c/\(Sh.slice es).ok w x:=by
 grind [okWide_slice,open_arg,Value.cells,Sh.cells]
def wfi64 {n:Int}(h:(Lit.int .i64 n).wf=true): -9223372036854775808<=n/\n<=9223372036854775807:=wf64 h
def Zke {q}{k}{x:SlV Int}(h:(Sh.slice (.int k)).okQ q x):x.l.length<=x.c/\x.c<=maxLen/\Sees q x.a (x.l.map (Value.int k))/\ ∀ n∈x.l,(Lit.int k n).wf=true:=by
 have ⟨e,d,_,f,b⟩:=h;refine ⟨e,d,?_,b⟩
 have:x.l.flatMap (Sh.cells (.int k))=x.l.map (Value.int k):=by
  induction x.l with
  |nil=>rfl
  |cons y r ih=>rw [cM,ih];rfl
 grind
end Wx
namespace Wx
open Go Go.RowKit
section
variable {p:PE}{q F:List HP}
def Iter (P:Program)(G:World)(gv:Value)(xs:List (List Value))(pre:List HP):Prop:=
 ∀ (l:Nat) (J:Nat->HP) (Jf:HP->Prop),
  (∀ i (h:i<xs.length),CallV P G (.func (.yield l) #[] #[]) xs[i] (J i::pre) (Ret fun v q=>(v= .bool true/\q=J (i+1)::pre)\/(v= .bool false/\ ∃ A,Jf A/\q=A::pre)))->
  CallV P G gv [.func (.yield l) #[] #[]] (J 0::pre) (Ret fun _ q=>q=J xs.length::pre\/ ∃ A,Jf A/\q=A::pre)
def RQ (cs₀:List Frame)(rec:Loop)(l:Nat)(next:List HP)(Jmp:Code->List HP->Prop)(R:List HP):Yp:=fun o p ds cs q=>cs=cs₀/\ds= []/\match o with
 | .fall=>Le q (lp rec l .busy none::(next++R))
 | .jump c=> ∃ qs,Jmp c qs/\Le q (lp rec l .busy none::(qs++R))
 | .panic _=>False
section
variable {P:Program}{G:World}{f:Fc}{Q:Yp}{k:List Item}{ds:List Deferred}{cs:List Frame}
def X.range {g}{ps}{asc bd}{gv}{xs}(pre:List HP)(Inv:Nat->List HP)(Jmp:Code->List HP->Prop)(hI:Iter P G gv xs pre)(hg:evp p g=some gv)(hq:Le q (Inv 0++(pre++F)))
 (hxs: ∀ x∈xs,x.length=ps.length) (hps:ps.all (Nat.blt · f.n)=true) (hf:(P.funcs[f.fn]?).isSome=true) (hro:f.round=none)
 (round: ∀ i (h:i<xs.length) l rec F₀ cs₀,X P G ⟨f.fn,f.n,.normal,some l⟩ (RQ cs₀ rec l (Inv (i+1)) Jmp (pre++F₀)) [.code asc,.beginRound,.code bd] (Pe ps xs[i] p) [] cs₀ (lp rec l .ready none::(Inv i++(pre++F₀))))
 (cont: ∀ r,X P G f Q k p (markD r::ds) cs (pto r (.deferred (some []))::(Inv xs.length++(pre++F))))
 (contJ: ∀ r c qs,Jmp c qs->X P G f Q (.code c::k) p (markD r::ds) cs (pto r (.deferred (some []))::(qs++(pre++F)))):
 X P G f Q (.code (.rangeFunc g ps.toArray asc bd)::k) p ds cs q:=by
 refine X.rangeFunc (R':=fun a m=>(a=none/\m=Inv xs.length++pre)\/ ∃ c qs,a=some c/\Jmp c qs/\m=qs++pre) hro hg (by rw [aO];exact hq) (fun l rec d=> ?_) fun r a m h=> ?_
 . have t:=hI l (fun i=>stars (lp rec l .ready none::Inv i)) (fun A=> ∃ c qs,Jmp c qs/\A=stars (lp rec l .done (some c)::qs)) fun i h=> ?_
   . refine gY (pre':=stars _::pre) ?_ t ?_
     . rw [show lp rec l .ready none::(Inv 0++pre)=(lp rec l .ready none::Inv 0)++pre from rfl];exact Zh _ _
     rintro e q' ⟨v,rfl,rfl|⟨A,⟨c,qs,b,rfl⟩,rfl⟩⟩
     . exact ⟨lp rec l .ready none::(Inv xs.length++pre),⟨v,rfl,.ready,none,_,Zf,rfl,.inl ⟨rfl,rfl⟩⟩,Zb _ _⟩
     exact ⟨lp rec l .done _::(qs++pre),⟨v,rfl,.done,some c,_,Zf,rfl,.inr ⟨c,qs,rfl,b,rfl⟩⟩,Zb _ _⟩
   refine gY (pre':=lp rec l .ready none::(Inv i++pre)) (Zb _ _)
    (CallV.yield (R:=Ret fun v q=>(v= .bool true/\q=lp rec l .ready none::(Inv (i+1)++pre))\/(v= .bool false/\ ∃ c qs,Jmp c qs/\q=lp rec l .done (some c)::(qs++pre))) d hps (by simp_all) hf (fun F₀ cs₀=> ?_)) ?_
   . intro tm w hn ha s;have ⟨o,j,p',b0,c0,w',q',⟨a0,z,u⟩,h1,h2,h3,h4⟩:=round i h l rec F₀ cs₀ tm w hn ha (by rw [aO] at s;exact s);refine ⟨o,j,p',b0,c0,w',q',⟨a0,z,?_⟩,h1,h2,h3,h4⟩
     cases o with
     |fall=>exact ⟨Inv (i+1)++pre,⟨_,rfl,.inl ⟨rfl,rfl⟩⟩,by rw [aO];exact u⟩
     |jump c=>have ⟨qs,b,y⟩:=u;exact ⟨qs++pre,⟨_,rfl,.inr ⟨rfl,c,qs,b,rfl⟩⟩,by rw [aO];exact y⟩
     |panic ch=>exact u.elim
   rintro e q' ⟨v,rfl,⟨rfl,rfl⟩|⟨rfl,c,qs,b,rfl⟩⟩
   . exact ⟨stars _::pre,⟨_,rfl,.inl ⟨rfl,rfl⟩⟩,Zh (lp rec l .ready none::Inv (i+1)) pre⟩
   exact ⟨stars _::pre,⟨_,rfl,.inr ⟨rfl,_,⟨c,qs,b,rfl⟩,rfl⟩⟩,Zh (lp rec l .done _::qs) pre⟩
 rcases h with ⟨rfl,rfl⟩|⟨c,qs,rfl,b,rfl⟩
 . grind
 grind
def Kx {fn}{R}{u}{q'}{r}(h:Lv P G fn R F ds u p q')(hu:u≠ .run:=by simp)(hq:Le q (pto r (.deferred (some []))::q'):=by exact Zj):Lv P G fn R F (markD r::ds) u p q:=Lv.mark hu hq h
end
end
section
variable {q q':List HP}{i:Nat}{P:Program}{G:World}{f:Fc}{Q:Yp}{p:PE}{ds:List Deferred}{cs:List Frame}
section
variable {α β:Type}{h:α->HP}{l:List α}
def Q5 (A:HP)(l:List HP)(q:List HP):Le (A::stars l::q) (stars (A::l)::q):=Le.fuse _ _ _
theorem Pv (A:HP)(l:List HP)(q:List HP):Le (stars (A::l)::q) (A::stars l::q):=Le.split _ _ _
def Y9 (q:List HP):Le q (stars []::q):=fun _ k p=>⟨fun _=>none,k,fun _=> .inl rfl,fun _ _ e=>by simp at e,.refl _,trivial,p⟩
theorem Rr (a b:List HP)(q:List HP):Le (stars a::stars b::q) (stars (a++b)::q):=by
 refine (Zb a _).trans ?_;apply aK (Kb a (Zb b q));rw [<-aO];exact Zh _ _
theorem B5 (a b:List HP)(q:List HP):Le (stars (a++b)::q) (stars a::stars b::q):=by
 refine (Zb _ q).trans ?_;rw [aO];exact (Kb a (Zh b q)).trans (Zh a _)
def Le.focus (h:α->HP){l:List α}(hi:i<l.length)(q:List HP):Le (stars (l.map h)::q) (h l[i]::stars ((l.eraseIdx i).map h)::q):=by
 have e:l.map h=(l.take i).map h++(h l[i]::(l.drop (i+1)).map h):=by
  conv=>lhs;rw [<-dJ i l,aP hi]
  rw [aN,bG]
 have a:(l.eraseIdx i).map h=(l.take i).map h++(l.drop (i+1)).map h:=by grind
 grind [B5,Le.trans,Le.cons,Pv,Le.swap,Rr]
abbrev kG:=@Le.focus
def Fv (h:α->HP){l:List α}(hi:i<l.length)(x:α)(q:List HP):Le (h x::stars ((l.eraseIdx i).map h)::q) (stars ((l.set i x).map h)::q):=by
 have e:(l.set i x).map h=(l.take i).map h++(h x::(l.drop (i+1)).map h):=by
  rw [eW,if_pos hi];simp
 have a:(l.eraseIdx i).map h=(l.take i).map h++(l.drop (i+1)).map h:=by grind
 rw [e,a];refine (cC _ (B5 _ _ q)).trans<|(iL _ _ _).trans<|(cC _ (Q5 _ _ q)).trans (Rr _ _ q)
def Q4 (h:α->HP)(l:List α)(x:α)(q:List HP):Le (stars (l.map h)::h x::q) (stars ((l++ [x]).map h)::q):=by
 rw [aN];refine aK (cC _ ?_) (Rr _ _ q);exact (cC _ (Y9 q)).trans (Q5 _ _ q)
def Zzm (h:α->HP)(x:α)(hx: ∀ q,Le q (h x::q))(n:Nat)(q:List HP):Le q (stars ((List.replicate n x).map h)::q):=by
 induction n with
 |zero=>exact Y9 q
 |succ n ih=>
  exact ih.trans ((hx _).trans (Q5 _ _ q))
def Sees.star {h}{l:List α}(hi:i<l.length){a}{vs}(hs: ∀ q,Sees (h l[i]::q) a vs)(q:List HP):Sees (stars (l.map h)::q) a vs:=
 (hs _).le (kG h hi q)
end
def X.turn {todo}(h: ∀ w,St G w q->St G w q')(x:X P G f Q todo p ds cs q'):X P G f Q todo p ds cs q:=fun tm w hn ag s=>x tm w hn ag (h w s)
def XO.turn {ops:List Oper}{k}{l}(h: ∀ w,St G w q->St G w q')(x:XO P G f Q ops.toArray k l p ds cs q'):XO P G f Q ops.toArray k l p ds cs q:=fun is e=> .turn h (x is e)
end
section
variable {p:PE}{d j:Nat}{tm:Array Value}{v:Value}{q q':List HP}{ops:List Oper}{done:List Nat}{R:Value->List HP->Prop}{pos:String}{af:Array Edge}{gd:Option (Nat×Bool)}
structure FlE where
 i:Nat
 d:Nat
 V:Nat->Value
 A:Nat->HP
variable {e e0:FlE}
abbrev FlS:=List (FlE×Nat)
def U9 (S:FlS):List Nat:=S.map (·.1.i)
def fCh (S:FlS):List HP:=S.map fun e=>e.1.A e.2
def fAgr (tm:Array Value)(S:FlS):Prop:= ∀ e∈S,tm.getD e.1.d undef=e.1.V e.2
def Mv (p:PE)(d:Nat):Bool:=p.all fun x=> !(x.1==d)
theorem Zjo (h:Mv p d=true):lkp p d=none:=by
 induction p<;>grind [Mv,lkp,Nat.eq_of_beq_eq_true]
def Agr.put_free (h:Mv p d=true)(a:Agr tm p):Agr (Vn tm (some d) v) p:=by
 intro t u e;have b:d≠t:=by grind [Zjo]
 have:=a t u e;simp_all [Vn]
def HL.le (l:Le q q'): ∀ {L},HL q' L->HL q L
 | [],_=>trivial
 |(_,_,_,_)::_,h=>⟨fun G w s=>h.1 G w (s.le l),HL.le l h.2⟩
theorem HL.sub : ∀ {L L'},(∀ e∈L',e∈L)->HL q L->HL q L':=by
 intro L L' c h
 have b: ∀ {L:Rds},HL q L-> ∀ e∈L,Cl q ⟨e.2.1,e.2.2.1,none⟩ e.2.2.2:=by
  intro L
  induction L with
  |nil=>simp
  |cons x r ih=>intro h e a;rcases bS.1 a with rfl|a;exact h.1;exact ih h.2 e a
 induction L' with
 |nil=>trivial
 |cons x r ih=>exact ⟨b h x (c x (bO ..)),ih fun e a=>c e (bQ _ a)⟩
def Ug (h:rdy ops done j=true):j∉done:=by
 grind [rdy]
def Bv {E}(h:rdy ops done j=true)(hn:j∉E):rdy ops (E++done) j=true:=by
 induction E<;>grind [Dk,List.mem_cons_of_mem]
theorem Ph {done'}(h:rdy ops done j=true)(hs: ∀ x∈done,x∈done')(hn:j∉done'):rdy ops done' j=true:=by
 grind [rdy,Zf3]
section
variable {P:Program}{G:World}{f:Fc}{Q:Yp}{k:List Item}{pk:PE}{ds:List Deferred}{cs:List Frame}{n:Nat}{L:Rds}{o:Oper}{fl:List FlE}
def XF (P:Program)(G:World)(f:Fc)(Q:Yp)(ops:List Oper)(k:List Item)(pk:PE)(fl:List FlE)(L:Rds)(n:Nat)(done:List Nat)(p:PE)(ds:List Deferred)(cs:List Frame)(q:List HP):Prop:=
 okR ops=true->Bw ops pk=true-> ∀ (S:FlS) m tm w,(U9 S).Nodup->(∀ e∈S,e.1∈fl)->m+S.length=n->tm.size=f.n->Agr tm p->fAgr tm S->St G w (q++fCh S)->
  WA P ops (Ke' P G f Q k ds cs) (Kp' G Q f.n pk ds cs) m L (U9 S++done) tm w
def FlR (P:Program)(G:World)(f:Fc)(ops:List Oper)(done:List Nat)(p:PE):List FlE->Prop
 | []=>True
 |e::r=>(∃ o,ops[e.i]? =some o/\o.dst=some e.d/\rdy ops done e.i=true/\Wt ops p o=some true/\Nat.blt e.d f.n=true/\Mv p e.d=true/\ ∀ q,Ef P G p q o fun v q'=> ∃ g,v=e.V g/\q'=e.A g::q)/\FlR P G f ops done p r
def FlR.get : ∀ {fl},FlR P G f ops done p fl->e∈fl-> ∃ o,ops[e.i]? =some o/\o.dst=some e.d/\rdy ops done e.i=true/\Wt ops p o=some true/\Nat.blt e.d f.n=true/\Mv p e.d=true/\ ∀ q,Ef P G p q o fun v q'=> ∃ g,v=e.V g/\q'=e.A g::q
 |x::r,⟨h,h2⟩,a=>by
  rcases bS.1 a with rfl|a
  . exact h
  exact h2.get a
def Zfv (A:HP)(q E:List HP):Le (A::(q++E)) (q++(A::E)):=by
 induction q with
 |nil=>exact aG _
 |cons B r ih=>exact (iL A B _).trans (ih.cons B)
def Le.midB (A:HP)(q E:List HP):Le (q++(A::E)) (A::(q++E)):=by
 induction q with
 |nil=>exact aG _
 |cons B r ih=>exact (ih.cons B).trans (iL B A _)
def S6 (hok:okR ops=true){i:Nat}{x y}(hx:ops[i]? =some x)(hy:ops[j]? =some y)(hne:i≠j){D D'}(hi:rdy ops D i=true)(hj:rdy ops D' j=true)(hiD:j∉D)(hjD:i∉D')(hd:x.dst=some d):y.dst≠some d:=by
 rcases Zjy hok hx hy hne with h|h|h
 all_goals grind [Zwv,Iz]
def Gy (hok:okR ops=true)(hR:FlR P G f ops done p fl){S}{w}(h1:(U9 S).Nodup)(h2: ∀ e∈S,e.1∈fl)(hn:tm.size=f.n)(ag:Agr tm p)(fa:fAgr tm S)(s:St G w (q++fCh S))
  (he:e∈fl) (hx:e.i∉U9 S) {oe} (ho:ops[e.i]? =some oe) {K} {Kp}
 (hK: ∀ g tm' w',(U9 ((e,g)::S)).Nodup->(∀ x∈(e,g)::S,x.1∈fl)->tm'.size=f.n->Agr tm' p->fAgr tm' ((e,g)::S)->St G w' (q++fCh ((e,g)::S))->K tm' w'):OW P ops oe tm w K Kp:=by
 have ⟨o,c,t,y,hw,a0,m,hE⟩:=hR.get he;rw [ho] at c;cases c
 unfold OW;rw [if_pos (Y6 ag hw)];refine ((hE _).ap tm w ag s).mono fun en w' _ hh=> ?_
 obtain ⟨q',⟨v,rfl,g,rfl,rfl⟩,s'⟩:=hh;have j:e.d<tm.size:=by simp_all
 refine hK g _ w' ?_ ?_ ?_ ?_ ?_ ?_
 . exact jW.2 ⟨hx,h1⟩
 . grind
 . rw [Yr];exact hn
 . rw [t];exact ag.put_free m
 . intro x a;rw [t];rcases bS.1 a with rfl|a
   . simp [Vn,j]
   have ⟨o2,k,r,b,_,_,_,_⟩:=hR.get (h2 x a)
   have h:=S6 hok ho k (fun u=>hx (by rw [u];exact cW a)) y b (Ug b) (Ug y) t;rw [r] at h;have z:e.d≠x.1.d:=fun u=>h (by rw [u])
   have:=fa x a;simp_all [Vn]
 exact s'.le (Zfv _ _ _)
def Vd (h:XF P G f Q ops k pk fl L n done p ds cs q):XD P G f Q ops k pk L n done p ds cs q:=fun a b tm w c g s i=>by
 have:=h a b [] n tm w (by simp [U9]) Zf Zf c g (by intro e d;cases d) (by simpa [fCh] using s);simpa [U9] using this
def XF.back (h:XD P G f Q ops k pk L n done p ds cs q)(hL:HL q L:=by exact hlA):XF P G f Q ops k pk [] L n done p ds cs q:=fun a b S m tm w l j i d g o s=>by
 cases S with
 |nil=>
  have e:m=n:=Zq;subst e;have c:St G w q:=by simpa [fCh] using s
  exact h a b tm w d g c (hL.sl c)
 |cons x r=>grind
abbrev fR:=@XF.back
def onlyF (ops:List Oper)(fl done:List Nat)(i:Nat):Bool:=(List.range ops.length).all fun j=>j==i||fl.contains j|| !rdy ops (fl++done) j
theorem XF.step (j:Nat){oj}(hR:FlR P G f ops done p fl)(ho:ops[j]? =some oj)(hE: ∀ E,Ef P G p (q++E) oj fun v q'=> ∃ q1,R v q1/\q'=q1++E)(hL:HL q L)
 (K: ∀ v q1,R v q1->XF P G f Q ops k pk fl (cut oj L) n (j::done) (Jt p oj.dst v) ds cs q1)
 (hon:onlyF ops (fl.map (·.i)) done j=true) (hjf:(fl.map (·.i)).contains j=false) (hr:rdy ops done j=true) (hw:Wt ops p oj=some true) (hd:dOk f.n oj.dst=true) (hlen:Nat.ble fl.length n=true) (hKL: ∀ v q1,R v q1->HL q1 (cut oj L)):
 XF P G f Q ops k pk fl L (n+1) done p ds cs q:=by
 intro a b S m
 induction m generalizing S with
 |zero=>
  intro tm w h1 h2 h3 hn z fa s;exfalso
  have i0:S.length<=fl.length:=by
   have h4:(U9 S).length<=(fl.map (·.i)).length:=by
    refine List.Nodup.length_le_of_subset h1 fun x hx=> ?_
    obtain ⟨e,r,rfl⟩:=cF.1 hx;grind
   simpa [U9] using h4
  simp_all;omega
 |succ m ih=>
  intro tm w h1 h2 h3 hn z fa s
  have u:j∉U9 S:=fun d=>by
   have ⟨e,r,e'⟩:=cF.1 d;grind
  refine ⟨fun o=>aV (Bv hr u) (by simp [o j]),fun x ox c l=> ?_⟩;by_cases hxj:x=j
  . subst hxj;rw [ho] at c;cases c
    unfold OW;rw [if_pos (Y6 z hw)];refine ((hE (fCh S)).ap tm w z s).mono fun en w' _ hh=> ?_
    obtain ⟨q',⟨v,rfl,q1,hv,rfl⟩,s'⟩:=hh;refine ⟨((hKL v q1 hv).le (Wi q1 _)).sl s',?_⟩;apply WA.congr _ (done:=U9 S++(x::done)) (fun y=>by grind);refine K v q1 hv a b S m _ w' h1 h2 Zq (by rw [Yr];exact hn) (z.put (hn ▸ hd)) ?_ s';intro e r;have ⟨o2,e0,g0,t,_,_,_,_⟩:=hR.get (h2 e r)
    have j0:=S6 a e0 ho (fun e'=>u (by grind)) t hr (Ug hr) (Ug t) g0;have:=fa e r
    cases hdo:oj.dst<;>simp_all [Vn]
  have b0:x∈fl.map (·.i):=by
   have h4:=dM.1 hon x (by grind);rcases bK (x∈fl.map (·.i)) with h5|h5
   . exact h5
   have h6:rdy ops (fl.map (·.i)++done) x=true:=Ph l (fun y h=>by
    rcases bP.1 h with h|h
    . obtain ⟨e,r,rfl⟩:=cF.1 h;grind
    grind) (fun d=>by
    rcases bP.1 d with d|d
    . exact h5 d
    exact Ug l (gT _ d))
   grind
  obtain ⟨e,r,rfl⟩:=cF.1 b0
  refine Gy a hR h1 h2 hn z fa s r (fun d=>Ug l (eZ _ d)) c fun g a0 w' k1 k2 k3 k4 k5 k6=> ?_
  refine ⟨((hL.sub fun y h=>(Jq.1 h).1).le (Wi q _)).sl k6,?_⟩;exact WA.mono _ (fun y h=>(Jq.1 h).1) (ih _ a0 w' k1 k2 Zi k3 k4 k5 k6)
def XF.absorb (i:Nat)(he0:fl.find? (fun e=>e.i==i)=some e0)(hR:FlR P G f ops done p fl)(hL:HL q L)
 (K: ∀ g,XF P G f Q ops k pk (fl.filter fun e=> !(e.i==i)) L n (i::done) ((e0.d,e0.V g)::p) ds cs (e0.A g::q))
 (hnd:(fl.map (·.i)).Nodup) (hon:((List.range ops.length).all fun j=>(fl.map (·.i)).contains j|| !rdy ops (((fl.filter fun e=> !(e.i==i)).map (·.i))++done) j)=true) (hlen:Nat.ble fl.length (n+1)=true):
 XF P G f Q ops k pk fl L (n+1) done p ds cs q:=by
 have d0:e0∈fl:=jX he0;have g0:e0.i=i:=by grind
 have n0: ∀ e∈fl,e.i=i->e=e0:=by
  intro e l l0;have h1:=jK.1 l;have z:=jK.1 d0;obtain ⟨x,hx,rfl⟩:=h1;obtain ⟨y,c,rfl⟩:=z
  have:x=y:=by
   have h3:(fl.map (·.i))[x]'(by grind)=(fl.map (·.i))[y]'(by grind):=by simp [l0,g0]
   exact (List.getElem_inj hnd).1 h3
  subst this;rfl
 intro a b
 have o0: ∀ (S:FlS) m tm w g,(e0,g)∈S->(U9 S).Nodup->(∀ e∈S,e.1∈fl)->m+S.length=n+1->tm.size=f.n->Agr tm p->fAgr tm S->St G w (q++fCh S)->WA P ops (Ke' P G f Q k ds cs) (Kp' G Q f.n pk ds cs) m L (U9 S++done) tm w:=by
  intro S m tm w g hg h1 z h3 hn ag fa s;obtain ⟨S1,S2,rfl⟩:=List.append_of_mem hg
  have o:(U9 (S1++S2)).Nodup/\i∉U9 (S1++S2):=by
   grind [U9]
  have:=K g a b _ m tm w o.1 (fun e l=>by
   refine List.mem_filter.2 ⟨z e (by grind),?_⟩;have:e.1.i≠i:=fun e'=>o.2 (by rw [<-e'];exact cW l)
   simp [this]) (by grind) hn (by
   intro t u hu;simp [lkp] at hu
   cases hb:Nat.beq e0.d t with
   |true=>
    rw [hb] at hu;have:=cS hb;subst this;simp at hu;subst hu;exact fa (e0,g) hg
   |false=>rw [hb] at hu;exact ag t u (by grind)) (fun e l=>fa e (by grind)) (s.le (by
   unfold fCh;rw [aN,bG,aN];rw [<-aO];refine (Le.midB _ _ _).trans ?_;rw [aO];exact aG _))
  refine this.congr _ fun y=> ?_
  grind [U9]
 intro S m
 induction m generalizing S with
 |zero=>
  intro tm w h1 z h3 hn ag fa s;by_cases hg: ∃ g,(e0,g)∈S
  . grind
  exfalso
  have h4:(e0.i::U9 S).length<=(fl.map (·.i)).length:=by
   refine List.Nodup.length_le_of_subset (jW.2 ⟨fun h=> ?_,h1⟩) fun x hx=> ?_
   . have ⟨e,l,e'⟩:=cF.1 h;grind
   rcases bS.1 hx with rfl|hx
   . grind
   obtain ⟨e,l,rfl⟩:=cF.1 hx;grind
  simp_all [U9];omega
 |succ m ih=>
  intro tm w h1 z h3 hn ag fa s;by_cases hg: ∃ g,(e0,g)∈S
  . grind
  have f0:i∉U9 S:=fun h=>by
   have ⟨e,l,e'⟩:=cF.1 h;grind
  have ⟨oi,k0,r0,b0,_⟩:=hR.get d0;rw [g0] at k0 b0;refine ⟨fun v=>aV (Bv b0 f0) (by simp [v i]),fun x ox c0 r=> ?_⟩
  have i0:x∈fl.map (·.i):=by
   rcases bK (x∈fl.map (·.i)) with h5|h5
   . exact h5
   have h6:rdy ops ((fl.filter fun e=> !(e.i==i)).map (·.i)++done) x=true:=Ph r (fun y c=>by
    rcases bP.1 c with c|c
    . have p0:y≠i:=fun e=>f0 (e ▸ c)
      obtain ⟨e,l,rfl⟩:=cF.1 c;grind
    grind) (fun h=>by
    rcases bP.1 h with h|h
    . grind
    exact Ug r (gT _ h))
   grind
  obtain ⟨e,l,rfl⟩:=cF.1 i0
  refine Gy a hR h1 z hn ag fa s l (fun h=>Ug r (eZ _ h)) c0 fun g h0 w' k1 k2 k3 k4 k5 k6=> ?_
  refine ⟨((hL.sub fun y c=>(Jq.1 c).1).le (Wi q _)).sl k6,?_⟩;exact WA.mono _ (fun y c=>(Jq.1 c).1) (ih _ h0 w' k1 k2 Zi k3 k4 k5 k6)
def Zzn: ∀ a b:List HP,Le (a++b) (b++a)
 | [],b=>by rw [cA];exact aG _
 |A::a,b=>((Zzn a b).cons A).trans (Zfv A b a)
def Le.liftR (h:Le q q')(E:List HP):Le (q++E) (q'++E):=(Zzn q E).trans ((Kb E h).trans (Zzn E q'))
def XF.pu_ (i:Nat)(hR:FlR P G f ops done p fl)(ho:ops[i]? =some o)(h:Pu P p o v)(hL:HL q L)(K:XF P G f Q ops k pk fl L n (i::done) (Jt p o.dst v) ds cs q)
 (hif:(fl.map (·.i)).contains i=false) (hr:rdy ops done i=true) (hw:Wt ops p o=some true) (hd:dOk f.n o.dst=true) (hlen:Nat.ble fl.length n=true):XF P G f Q ops k pk fl L (n+1) done p ds cs q:=by
 intro a b S m tm w h1 z h3 u t fa s
 have g:i∉U9 S:=fun hm=>by
  have ⟨e,c,e'⟩:=cF.1 hm;grind
 have a0:S.length<=fl.length:=by
  have h4:(U9 S).length<=(fl.map (·.i)).length:=by
   refine List.Nodup.length_le_of_subset h1 fun x hx=> ?_
   obtain ⟨e,c,rfl⟩:=cF.1 hx;grind
  simpa [U9] using h4
 have h5:fl.length<=n:=by simp_all
 obtain ⟨m,rfl⟩: ∃ m',m=m'+1:=⟨m - 1,Zq⟩;refine WA.first (Li:= []) a ho (fun ch tm w=>kW b ho ch tm w) (fun e c=>by cases c) m L _ tm w (fun e c=>by cases c) (Bv hr g) (.inl ⟨Y6 t hw,fun w' _=>h tm w' t⟩) ((hL.le (Wi q _)).sl s) ?_;apply WA.congr _ (done:=U9 S++(i::done)) (fun y=>by grind);refine K a b S m _ w h1 z Zq (by rw [Yr];exact u) (t.put (u ▸ hd)) ?_ s;intro e c;have ⟨o2,j,r,d,_,_,_,_⟩:=hR.get (z e c)
 have b0:=S6 a j ho (fun e'=>g (by grind)) d hr (Ug hr) (Ug d) r;have:=fa e c
 cases hdo:o.dst<;>simp_all [Vn]
section
variable {d:Tmp}{op:Op}{ty:TypeId}
def Kq (i:Nat)(hR:FlR P G f ops done p fl)(h:Pu P p ⟨some d,op,ty,pos,af,gd⟩ v)(K:XF P G f Q ops k pk fl L n (i::done) ((d,v)::p) ds cs q)(ho:ops[i]? =some ⟨some d,op,ty,pos,af,gd⟩:=by rfl)(hL:HL q L:=by exact hlA)
 (hif:(fl.map (·.i)).contains i=false:=by rfl) (hr:rdy ops done i=true:=by rfl) (hw:Wt ops p ⟨some d,op,ty,pos,af,gd⟩=some true:=by rfl) (hd:Nat.blt d f.n=true:=by rfl) (hlen:Nat.ble fl.length n=true:=by rfl):XF P G f Q ops k pk fl L (n+1) done p ds cs q:=
 .pu_ i hR ho h hL K hif hr hw hd hlen
def Qs (i:Nat)(hR:FlR P G f ops done p fl)(K: ∀ g,XF P G f Q ops k pk (fl.filter fun e=> !(e.i==i)) L n (i::done) ((e0.d,e0.V g)::p) ds cs (e0.A g::q))(he0:fl.find? (fun e=>e.i==i)=some e0:=by rfl)(hL:HL q L:=by exact hlA)
 (hnd:(fl.map (·.i)).Nodup:=by decide) (hon:((List.range ops.length).all fun j=>(fl.map (·.i)).contains j|| !rdy ops (((fl.filter fun e=> !(e.i==i)).map (·.i))++done) j)=true:=by rfl) (hlen:Nat.ble fl.length (n+1)=true:=by rfl):
 XF P G f Q ops k pk fl L (n+1) done p ds cs q:= .absorb i he0 hR hL K hnd hon hlen
def XF.ef (i:Nat)(hR:FlR P G f ops done p fl)(hE: ∀ E,Ef P G p (q++E) ⟨some d,op,ty,pos,af,gd⟩ fun v q'=> ∃ q1,R v q1/\q'=q1++E)
 (K: ∀ v q1,R v q1->HL q1 (cut ⟨some d,op,ty,pos,af,gd⟩ L)/\XF P G f Q ops k pk fl (cut ⟨some d,op,ty,pos,af,gd⟩ L) n (i::done) ((d,v)::p) ds cs q1)
 (ho:ops[i]? =some ⟨some d,op,ty,pos,af,gd⟩:=by rfl) (hL:HL q L:=by exact hlA) (hon:onlyF ops (fl.map (·.i)) done i=true:=by rfl) (hif:(fl.map (·.i)).contains i=false:=by rfl) (hr:rdy ops done i=true:=by rfl) (hw:Wt ops p ⟨some d,op,ty,pos,af,gd⟩=some true:=by rfl) (hd:Nat.blt d f.n=true:=by rfl) (hlen:Nat.ble fl.length n=true:=by rfl):
 XF P G f Q ops k pk fl L (n+1) done p ds cs q:= .step i hR ho hE hL (fun v q1 h=>(K v q1 h).2) hon hif hr hw hd hlen (fun v q1 h=>(K v q1 h).1)
end
def Ef.appE {α:Type}{r:List HP}{fe:α->Value}{a b:Option Addr}{c c':Nat}{l m:List α}{e:TypeId}{d:Option Tmp}{ty':TypeId}{x y:Operand}{t:TypeId}{z:Value}{bytes:Nat}(ht:P.underlying t=some (.slice e))(hi:(P.info? e).map (fun i=>(i.zero,i.size,i.bytes))=some (some z,1,bytes))(hz:z.cells.size=1)
 (hx:evp p x=some (.slice a l.length c)) (hy:evp p y=some (.slice b m.length c')) (hq:Le q (Wx.lsH fe e a c l::r)) (hs:Sees q b (m.map fe)) (h1: ∀ u,(fe u).oneCell'=true)
 (h63:l.length+m.length<=9223372036854775807) (hby:(l.length+m.length)*bytes<=140737488355328) (E:List HP):
 Ef P G p (q++E) ⟨d,.call ⟨.builtin .append, [x,y].toArray, [t,t].toArray⟩,ty',pos,af,gd⟩ fun v q'=> ∃ q1,(∃ a' c',v= .slice a' (l++m).length c'/\q1=Wx.lsH fe e a' c' (l++m)::r)/\q'=q1++E:=by
 intro tm w j s;have ⟨v,k,q',g,f,a',h,o,n⟩:=Wu (d:=d) (ty':=ty') (pos:=pos) (af:=af) (gd:=gd) (r:=r++E) ht hi hz hx hy (hq.liftR E) (hs.le (Wi q E)) h1 h63 hby tm w j s;grind
end
end
section
section
variable {P:Program}{G:World}{f:Fc}{Q:Yp}{ops:List Oper}{k:List Item}{pk p:PE}{ds:List Deferred}{cs:List Frame}{q r:List HP}{n:Nat}{done:List Nat}{L:Rds}{v:Value}{fl:List FlE}{op:Op}{ty:TypeId}{pos:String}{af:Array Edge}{gd:Option (Nat×Bool)}{t:TypeId}{x y:Operand}
def Ef.stE {b o}{l}{t'}{d}(hs: ∀ w,(Go.sizeOf t).run P w= .ok 1 w)(hx:evp p x=some (.pointer (some ⟨b,o,none⟩)))(hy:evp p y=some v)
 (hv:v.cells= #[v]) (h1:v.oneCell'=true) (hq:Le q (pto b (.cells l.toArray t' (0,0))::r)) (ho:Nat.blt o l.length=true) (E:List HP):
 Ef P G p (q++E) ⟨d,.store t x y,ty,pos,af,gd⟩ fun z q'=> ∃ q1,(z=undef/\q1=pto b (.cells (Ku l o v).toArray t' (0,0))::r)/\q'=q1++E:=by
 intro tm w e s;have ⟨z,f,q',c,a,h,g⟩:=Ef.store (d:=d) (ty:=ty) (pos:=pos) (af:=af) (gd:=gd) (r:=r++E) hx hy hs hv h1 (hq.liftR E) ho tm w e s;grind
end
end
section
variable {P:Program}{p:PE}{d:Option Tmp}{pos:String}{af:Array Edge}{gd:Option (Nat×Bool)}{x y:Operand}
section
variable {ty:TypeId}{t t':TypeId}
def Zxd {ty}{z}{t e}{a}{n c sz}{kd kd'}{h m}(hx:evp p x=some (.slice a n c))(hy:evp p y=some (.int kd h))(hm:evp p z=some (.int kd' m))(ht:P.underlying t=some (.slice e))(hs: ∀ w,(Go.sizeOf e).run P w= .ok sz w)(h0:0<=h)(h1:h<=m)(h2:m<=c):
 Pu P p ⟨d,.slice t x none (some y) (some z),ty,pos,af,gd⟩ (.slice a h.toNat m.toNat):=fun tm w f=>by
 have i:0<=h/\h<=m:=⟨h0,h1⟩;have b:0<=m/\m<=(c:Int):=⟨Zq,h2⟩;have g:a.map (fun x:Addr=>x.add 0)=a:=by simp_all [Addr.add]
 simp [execOp,Zu f hx,Zu f hy,Zu f hm,Instr.sliceAt,Instr.slice,run_underlying ht,Instr.sliceBounds,Instr.sliceBound,asIntOf,b,hs,g];omega
def Pu.cap {ty}{t e}{A}{n m}{ats}(hx:evp p x=some (.slice A n m))(ht:P.underlying t=some (.slice e)):Pu P p ⟨d,.call ⟨.builtin .cap, [x].toArray,(t::ats).toArray⟩,ty,pos,af,gd⟩ (.int .i64 m):=
 fun tm w a=>by simp [execOp,resolve,invoke,builtin,Zu a hx,Builtin.cap_,run_underlying ht,goInt]
end
end
section
variable {v a b:Value}{p:PE}{x:Operand}{op:BinOp}
inductive TD where
 |ptr|fn|ifc|bool|str|other
 |slc (e:Nat)
 |int (k:IntKind)
 |strct (fs:List (Nat×Nat))
structure TF where
 d:TD
 agg:Bool
 sz:Nat
 bz:Option (List (Nat×Nat)×List Value):=none
inductive Tr where
 |e
 |n (v:Option TF) (l r:Tr)
def Tr.get:Tr->Nat->Option TF
 | .e,_=>none
 | .n v l r,t=>bif Nat.beq t 0 then v else bif Nat.beq (t % 2) 1 then l.get (t / 2) else r.get (t / 2 - 1)
def TD.ok (P:Program)(t:TypeId):TD->Prop
 | .ptr=> ∃ e,P.underlying t=some (.pointer e)
 | .fn=> ∃ u r b,P.underlying t=some (.func u r b)
 | .ifc=> ∃ m,P.underlying t=some (.interface m)
 | .bool=>P.underlying t=some .bool
 | .str=>P.underlying t=some .string
 | .other=> ∃ D,P.underlying t=some D/\(match D with| .interface _=>false|_=>true)=true
 | .slc e=>P.underlying t=some (.slice e)
 | .int k=>P.underlying t=some (.int k)
 | .strct l=> ∃ fs,P.underlying t=some (.struct fs)/\fs.toList.map (fun F=>(F.type,F.offset))=l
def TF.ok (P:Program)(t:TypeId)(x:TF):Prop:=
 x.d.ok P t/\(∀ w,(isAgg t).run P w= .ok x.agg w)/\(∀ w,(Go.sizeOf t).run P w= .ok x.sz w)/\
 match x.bz with
 |none=>True
 |some (pl,z)=>(∀ w,(zeroValue t).run P w= .ok (.agg z.toArray) w)/\ ∃ fs,P.underlying t=some (.struct fs)/\fs.toList.mapM (fun f=>(P.info? f.type).map fun i=>(f.offset,i.size))=some pl
def Tr.ok (P:Program):Tr->(Nat->Nat)->Prop
 | .e,_=>True
 | .n v l r,f=>(match v with|none=>True|some x=>x.ok P (f 0))/\l.ok P (fun i=>f (2*i+1))/\r.ok P (fun i=>f (2*i+2))
def Ze {P}: ∀ {T:Tr} {f} {t} {x},T.ok P f->T.get t=some x->x.ok P (f t)
 | .e,_,_,_,_,h=>by simp [Tr.get] at h
 | .n v l r,f,t,x,⟨h1,h2,h3⟩,h=>by
  unfold Tr.get at h
  cases hb:Nat.beq t 0 with
  |true=>
   have:=cS hb;subst this;subst h;exact h1
  |false=>
   have a:=iY hb;rw [hb] at h
   cases hc:Nat.beq _ 1 with
   |true=>
    have:=cS hc;rw [hc] at h;have:=Ze h2 h;have e:2*(t / 2)+1=t:=Zq;simpa only [e] using this
   |false=>
    have:=iY hc;rw [hc] at h;have:=Ze h3 h;have e:2*(t / 2 - 1)+2=t:=Zq;simpa only [e] using this
def Zz5:List Value->Nat->List Value->Option (List Value)
 |l,_, []=>some l
 | [],_,_=>none
 |_::l,0,v::vs=>match Zz5 l 0 vs with
  |some r=>some (v::r)
  |none=>none
 |x::l,n+1,vs=>match Zz5 l n vs with
  |some r=>some (x::r)
  |none=>none
def X5: ∀ {l} {n} {vs r},Zz5 l n vs=some r->spl l n vs=r/\n+vs.length<=l.length\/vs= []/\r=l
 |l,n, [],r,h=>by right;cases l<;>cases n<;>simp [Zz5] at h<;>simp [h]
 | [],n,v::vs,r,h=>by cases n<;>simp [Zz5] at h
 |x::l,0,v::vs,r,h=>by
  simp [Zz5] at h;split at h
  . rename_i b a
    cases h
    left
    rcases X5 a with ⟨e,c⟩|⟨rfl,rfl⟩
    . exact ⟨by simp [spl,e],Zi⟩
    exact ⟨by cases b<;>simp [spl],Zf⟩
  cases h
 |x::l,n+1,v::vs,r,h=>by
  simp [Zz5] at h;split at h
  . rename_i b a
    cases h
    left
    rcases X5 a with ⟨e,c⟩|⟨h,_⟩
    . exact ⟨by simp [spl,e],by simp at c|-;omega⟩
    cases h
  cases h
def Zxz:Value->Option (List Value)
 | .agg ⟨l⟩=>some l
 | .tuple _=>none
 |v=>some [v]
def Zhw {l}(h:Zxz v=some l):v.cells.toList=l:=by
 unfold Zxz at h;split at h
 . cases h;rfl
 . cases h
 cases h
 cases v<;>first|rfl|grind|grind
def bldF (pl:List (Nat×Nat))(p:PE):List Value->List (Nat×Operand)->Option (List Value)
 |cs, []=>some cs
 |cs,(i,x)::r=>match Zqg pl i,evp p x with
  |some (off,sz),some v=>match Zxz v with
   |some vs=>match Nat.beq vs.length sz && Nat.ble (off+sz) cs.length with
    |true=>match Zz5 cs off vs with
     |some cs'=>bldF pl p cs' r
     |none=>none
    |false=>none
   |none=>none
  |_,_=>none
def evl_cons {l}{vs}(h:evp p x=some v)(k:evl p l=some vs):evl p (x::l)=some (v::vs):=by simp [evl,h,k]
def Zb0 {pl}{p}: ∀ {ps} {cs r},bldF pl p cs ps=some r-> ∃ us,evl p (ps.map (·.2))=some us/\S3 pl cs ((ps.map (·.1)).zip us)=some r
 | [],cs,r,h=>by cases h;exact ⟨[],rfl,by cases pl<;>rfl⟩
 |(i,x)::ps,cs,r,h=>by
  simp [bldF] at h;split at h
  . rename_i b sz v k j;split at h
    . rename_i vs g;split at h
      . rename_i d;split at h
        . rename_i c f;have ⟨us,o,n⟩:=Zb0 h;refine ⟨v::us,evl_cons j o,?_⟩;have a:=d;simp only [bA] at a;simp [S3,k,Zhw g,d];
          have l:spl cs b vs=c:=by
           rcases X5 f with ⟨e,_⟩|⟨rfl,rfl⟩
           . exact e
           cases c<;>cases b<;>rfl
          rw [l];exact n
        cases h
      cases h
    cases h
  cases h
abbrev SR:=Option (Value×Option Prop)
def bin (op:BinOp)(T:Tr)(t:TypeId):Value->Value->SR
 | .int kd m,.int kd' n=>match decide (kd=kd') with
  |true=>match op with
   | .eql=>some (.bool (m==n),none)
   | .neq=>some (.bool (m !=n),none)
   | .lss=>some (.bool (decide (m<n)),none)
   | .leq=>some (.bool (decide (m<=n)),none)
   | .gtr=>some (.bool (decide (n<m)),none)
   | .geq=>some (.bool (decide (n<=m)),none)
   | .add=>match kd with
    | .i64=>some (.int .i64 (m+n),some (-9223372036854775808<=m+n/\m+n<=9223372036854775807))
    |k=>some (.int k (k.wrap (m+n)),none)
   | .sub=>match kd with
    | .i64=>some (.int .i64 (m - n),some (-9223372036854775808<=m - n/\m - n<=9223372036854775807))
    |k=>some (.int k (k.wrap (m - n)),none)
   | .mul=>match kd with
    | .i64=>some (.int .i64 (m*n),some (-9223372036854775808<=m*n/\m*n<=9223372036854775807))
    |k=>some (.int k (k.wrap (m*n)),none)
   | .rem=>some (.int kd (m.tmod n),some (n≠0))
   | .quo=>some (.int kd (kd.wrap (m.tdiv n)),some (n≠0))
   | .shr=>some (.int kd (m.fdiv (2 ^ min n.toNat kd.bits)),some (0<=n))
   | .shl=>some (.int kd (kd.wrap (m*2 ^ min n.toNat kd.bits)),some (0<=n))
   | .and=>some (.int kd (kd.wrap ((BitVec.ofInt kd.bits m &&& BitVec.ofInt kd.bits n).toNat:Int)),none)
   | .or=>some (.int kd (kd.wrap ((BitVec.ofInt kd.bits m|||BitVec.ofInt kd.bits n).toNat:Int)),none)
   |_=>none
  |false=>match op with
   | .shr=>some (.int kd (m.fdiv (2 ^ min n.toNat kd.bits)),some (0<=n))
   | .shl=>some (.int kd (kd.wrap (m*2 ^ min n.toNat kd.bits)),some (0<=n))
   |_=>none
 | .bool a,.bool b=>match op,T.get t with
  | .eql,some ⟨.bool,_,_,_⟩=>some (.bool (a==b),none)
  | .neq,some ⟨.bool,_,_,_⟩=>some (.bool (a !=b),none)
  |_,_=>none
 | .string a,.string b=>match op with
  | .eql=>some (.bool (a.toList==b.toList),none)
  | .neq=>some (.bool (!(a.toList==b.toList)),none)
  |_=>none
 |_,_=>none
def nilc (op:BinOp)(T:Tr)(t:TypeId):Value->Value->SR
 | .pointer A,.pointer none=>match op,T.get t with
  | .eql,some ⟨.ptr,_,_,_⟩=>some (.bool A.isNone,none)
  | .neq,some ⟨.ptr,_,_,_⟩=>some (.bool A.isSome,none)
  |_,_=>none
 | .slice A _ _,.slice none 0 0=>match op,T.get t with
  | .eql,some ⟨.slc _,_,_,_⟩=>some (.bool A.isNone,none)
  | .neq,some ⟨.slc _,_,_,_⟩=>some (.bool A.isSome,none)
  |_,_=>none
 |_,_=>none
def sxO (T:Tr)(p:PE):Op->SR
 | .move x=>match evp p x with
  |some v=>some (v,none)
  |none=>none
 | .assign x=>match evp p x with
  |some v=>some (v,none)
  |none=>none
 | .pick c a b=>match evp p c with
  |some (.bool true)=>match evp p a with
   |some v=>some (v,none)
   |none=>none
  |some (.bool false)=>match evp p b with
   |some v=>some (v,none)
   |none=>none
  |_=>none
 | .extract x n=>match evp p x with
  |some (.tuple ⟨vs⟩)=>match nth vs n with
   |some v=>some (v,none)
   |none=>none
  |_=>none
 | .makeFunc fn ⟨l⟩ ⟨m⟩=>match evl p l,evl p m with
  |some fs,some ms=>some (.func fn fs.toArray ms.toArray,none)
  |_,_=>none
 | .makeInterface t x=>match evp p x,T.get t with
  |some v,some ⟨d,_,_,_⟩=>match d with
   | .ifc=>none
   |_=>some (.iface t v,none)
  |_,_=>none
 | .nilCheck x=>match evp p x with
  |some (.pointer (some A))=>some (.pointer (some A),none)
  |some (.func (.func f) l m)=>some (.func (.func f) l m,none)
  |_=>none
 | .unOp .not _ x=>match evp p x with
  |some (.bool b)=>some (.bool (!b),none)
  |_=>none
 | .unOp .neg _ x=>match evp p x with
  |some (.int kd n)=>some (.int kd (kd.wrap (0 - n)),none)
  |_=>none
 | .convert s t x=>match evp p x,T.get s,T.get t with
  |some (.int _ n),some ⟨.int _,_,_,_⟩,some ⟨.int kd,_,_,_⟩=>match kd with
   | .i64=>some (.int .i64 n,some (-9223372036854775808<=n/\n<=9223372036854775807))
   |k=>some (.int k (k.wrap n),none)
  |_,_,_=>none
 | .fieldAddr t x n=>match evp p x,T.get t with
  |some (.pointer (some ⟨b,o,none⟩)),some ⟨.strct l,_,_,_⟩=>match Zqg l n with
   |some (ft,off)=>match T.get ft with
    |some ⟨_,_,_+1,_⟩=>some (.pointer (some ⟨b,o+off,none⟩),none)
    |_=>none
   |none=>none
  |_,_=>none
 | .field t x n=>match evp p x,T.get t with
  |some (.agg ⟨vs⟩),some ⟨.strct l,_,_,_⟩=>match Zqg l n with
   |some (ft,off)=>match T.get ft with
    |some ⟨_,false,_,_⟩=>match nth vs off with
     |some v=>some (v,none)
     |none=>none
    |some ⟨_,true,sz,_⟩=>some (.agg (Wx.sub vs off sz).toArray,none)
    |none=>none
   |none=>none
  |_,_=>none
 | .indexAddr t x i=>match evp p x,evp p i,T.get t with
  |some (.slice (some ⟨b,o,none⟩) n _),some (.int _ j),some ⟨.slc e,_,_,_⟩=>match T.get e with
   |some ⟨_,_,sz,_⟩=>some (.pointer (some ⟨b,o+j.toNat*sz,none⟩),some (0<=j/\j<n))
   |none=>none
  |_,_,_=>none
 | .slice t x none (some h) none=>match evp p x,evp p h,T.get t with
  |some (.slice a _ c),some (.int _ j),some ⟨.slc e,_,_,_⟩=>match T.get e with
   |some _=>some (.slice a j.toNat c,some (0<=j/\j<=c))
   |none=>none
  |_,_,_=>none
 | .slice t x none (some h) (some m)=>match evp p x,evp p h,evp p m,T.get t with
  |some (.slice a _ c),some (.int _ j),some (.int _ m),some ⟨.slc e,_,_,_⟩=>match T.get e with
   |some _=>some (.slice a j.toNat m.toNat,some (0<=j/\j<=m/\m<=c))
   |none=>none
  |_,_,_,_=>none
 | .slice t x (some h) none none=>match evp p x,evp p h,T.get t with
  |some (.slice a n c),some (.int _ j),some ⟨.slc e,_,_,_⟩=>match T.get e with
   |some ⟨_,_,sz,_⟩=>some (.slice (I7 a c j.toNat sz) (n - j.toNat) (c - j.toNat),some (0<=j/\j<=n))
   |none=>none
  |_,_,_=>none
 | .build t ⟨ps⟩=>match T.get t with
  |some ⟨_,_,_,some (pl,z)⟩=>match bldF pl p z ps with
   |some cells=>some (.agg cells.toArray,none)
   |none=>none
  |_=>none
 | .call ⟨.builtin .len,⟨[x]⟩,⟨t::_⟩⟩=>match evp p x,T.get t with
  |some (.slice _ n _),some ⟨.slc _,_,_,_⟩=>some (.int .i64 n,none)
  |some (.string s),some ⟨.str,_,_,_⟩=>some (.int .i64 s.size,none)
  |_,_=>none
 | .call ⟨.builtin .cap,⟨[x]⟩,⟨t::_⟩⟩=>match evp p x,T.get t with
  |some (.slice _ _ c),some ⟨.slc _,_,_,_⟩=>some (.int .i64 c,none)
  |_,_=>none
 | .call ⟨.builtin .max,⟨[x,y]⟩,_⟩=>match evp p x,evp p y with
  |some (.int kd m),some (.int _ n)=>some (.int kd (max m n),none)
  |_,_=>none
 | .call ⟨.builtin .min,⟨[x,y]⟩,_⟩=>match evp p x,evp p y with
  |some (.int kd m),some (.int _ n)=>some (.int kd (min m n),none)
  |_,_=>none
 | .binOp op t x y _=>match y with
  | .const (.pointer none)=>match evp p x with
   |some v=>nilc op T t v (.pointer none)
   |none=>none
  | .const (.slice none 0 0)=>match evp p x with
   |some v=>nilc op T t v (.slice none 0 0)
   |none=>none
  |y=>match evp p x,evp p y with
   |some v,some u=>bin op T t v u
   |_,_=>none
 |_=>none
section sound
variable {P:Program}{T:Tr}{c:Option Prop}{d:Option Tmp}{ty:TypeId}{pos:String}{af:Array Edge}{gd:Option (Nat×Bool)}
def kd_of {a b:IntKind}(h:decide (a=b)=true):b=a:=(cY h).symm
def bin_ok {t t'}{y}(hT:T.ok P id)(hx:evp p x=some a)(hy:evp p y=some b)(h:bin op T t a b=some (v,c))(hc: ∀ φ,c=some φ->φ):
 Pu P p ⟨d,.binOp op t x y t',ty,pos,af,gd⟩ v:=by
 unfold bin at h;split at h
 . split at h
   . rename_i f;have:=kd_of f;subst this;split at h<;>try (split at h)
     all_goals first
      |cases h
      |skip
     all_goals first
      |exact Pu.eql hx hy
      |exact Pu.neq hx hy
      |exact Pu.lss hx hy
      |exact Pu.leq hx hy
      |exact Pu.gtr hx hy
      |exact Pu.geq hx hy
      |exact Pu.add hx hy (hc _ rfl).1 (hc _ rfl).2
      |exact Zfz hx hy
      |exact Pu.sub hx hy (hc _ rfl).1 (hc _ rfl).2
      |exact Zb8 hx hy
      |exact Pu.mul hx hy (hc _ rfl).1 (hc _ rfl).2
      |exact Zfq hx hy
      |exact Pu.rem hx hy (hc _ rfl)
      |exact Zzx hx hy (hc _ rfl)
      |exact Pu.shr hx hy (hc _ rfl)
      |exact Pu.shl hx hy (hc _ rfl)
      |exact Pu.and hx hy
      |exact Pu.or hx hy
   split at h<;>cases h
   . exact Pu.shr hx hy (hc _ rfl)
   exact Pu.shl hx hy (hc _ rfl)
 . split at h<;>first|(cases h;done)|skip
   . rename_i e
     cases h;exact Pu.eqlB hx hy (Ze hT e).1
   rename_i e
   cases h;exact Pu.neqB hx hy (Ze hT e).1
 . split at h<;>cases h
   . exact Pu.eqlS hx hy
   exact Pu.neqS hx hy
 cases h
def Zy6 {t t'}(hT:T.ok P id)(hx:evp p x=some a)(h:nilc op T t a b=some (v,c)):
 Pu P p ⟨d,.binOp op t x (.const b) t',ty,pos,af,gd⟩ v:=by
 unfold nilc at h;split at h
 . split at h
   . rename_i f;have ⟨⟨e,g⟩,_⟩:=Ze hT f
     cases h;exact Zht hx g
   . rename_i f;have ⟨⟨e,g⟩,_⟩:=Ze hT f
     cases h;exact Zhd hx g
   cases h
 . split at h
   . rename_i f;have g:=(Ze hT f).1
     cases h;exact Zxr hx g
   . rename_i f
     cases h;exact Zxc hx ((Ze hT f).1)
   cases h
 cases h
def TD.some {t}{D:TD}(h:D.ok P t): ∃ E,P.underlying t=some E/\((∀ _:D= .ifc,False)->(match E with| .interface _=>false|_=>true)=true):=by
 cases D with
 |ptr=>have ⟨e,a⟩:=h;grind
 |fn=>have ⟨u,r,b,a⟩:=h;grind
 |ifc=>have ⟨u,a⟩:=h;grind
 |bool=>exact ⟨_,h,fun _=>rfl⟩
 |str=>exact ⟨_,h,fun _=>rfl⟩
 |other=>have ⟨E,a,c⟩:=h;grind
 |slc e=>exact ⟨_,h,fun _=>rfl⟩
 |int k=>exact ⟨_,h,fun _=>rfl⟩
 |strct l=>have ⟨u,a,_⟩:=h;grind
def fld {l:List (Nat×Nat)}{n}{ft off}{fs:Array Field}(h:fs.toList.map (fun F=>(F.type,F.offset))=l)(k:Zqg l n=some (ft,off)):(fs[n]?).map (fun F=>(F.type,F.offset))=some (ft,off):=by
 grind [Zy5]
def sxO_ok {op}(hT:T.ok P id)(h:sxO T p op=some (v,c))(hc: ∀ φ,c=some φ->φ):Pu P p ⟨d,op,ty,pos,af,gd⟩ v:=by
 unfold sxO at h;split at h
 . split at h<;>cases h;exact Pu.move ‹_›
 . split at h<;>cases h;exact Pu.assign ‹_›
 . split at h
   . split at h<;>cases h;exact Pu.pickT ‹_› ‹_›
   . split at h<;>cases h;exact Pu.pickF ‹_› ‹_›
   cases h
 . split at h
   . split at h<;>cases h;exact fP ‹_› ‹_›
   cases h
 . split at h<;>cases h;exact Pu.makeFunc ‹_› ‹_›
 . split at h
   . rename_i a s;obtain ⟨E,f,n⟩:=TD.some (Ze hT s).1;split at h
     . cases h
     rename_i k
     cases h;apply Pu.makeInterface a f;have m:=n fun e=>k e;clear n;revert m;cases E<;>exact fun e=>e
   cases h
 . split at h<;>cases h
   . exact Pu.nilCheck ‹_›
   exact Zzy ‹_›
 . split at h<;>cases h;exact Pu.not ‹_›
 . split at h<;>cases h;exact Pu.negW ‹_›
 . split at h
   . rename_i a q b;have i:=(Ze hT q).1;have g:=(Ze hT b).1;split at h<;>cases h
     . exact Pu.conv a i g (Ue (hc _ rfl).1 (hc _ rfl).2)
     exact Zk3 a i g
   cases h
 . split at h
   . rename_i a b;obtain ⟨⟨o,i,g⟩,_⟩:=Ze hT b;split at h
     . rename_i k;split at h<;>cases h
       rename_i l;exact Pu.fieldAddr _ _ _ a i (fld g k) (Ze hT l).2.2.1
     cases h
   cases h
 . split at h
   . rename_i a b;obtain ⟨⟨o,i,g⟩,_⟩:=Ze hT b;split at h
     . rename_i k;split at h
       . rename_i l;split at h<;>cases h
         exact Pu.field _ _ a i (fld g k) (Ze hT l).2.1 ‹_›
       . rename_i l
         cases h
         exact Zhc _ _ a i (fld g k) (Ze hT l).2.1 (Ze hT l).2.2.1
       cases h
     cases h
   cases h
 . split at h
   . rename_i a j b;split at h<;>cases h
     rename_i f;exact Pu.indexAddr a j (Ze hT b).1 (Ze hT f).2.2.1 (hc _ rfl).1 (hc _ rfl).2
   cases h
 . split at h
   . rename_i a j b;split at h<;>cases h
     rename_i f;exact Zxu a j (Ze hT b).1 (Ze hT f).2.2.1 (hc _ rfl).1 (hc _ rfl).2
   cases h
 . split at h
   . rename_i a j r b;split at h<;>cases h
     rename_i f;exact Zxd a j r (Ze hT b).1 (Ze hT f).2.2.1 (hc _ rfl).1 (hc _ rfl).2.1 (hc _ rfl).2.2
   cases h
 . split at h
   . rename_i a j b;split at h<;>cases h
     rename_i f;exact Zxp a j (Ze hT b).1 (Ze hT f).2.2.1 (hc _ rfl).1 (hc _ rfl).2
   cases h
 . split at h
   . rename_i b;obtain ⟨_,_,_,i,o,g,u⟩:=Ze hT b;split at h<;>cases h
     rename_i t;obtain ⟨us,x,w⟩:=Zb0 t;exact Pu.build _ i g u x w
   cases h
 . split at h
   . rename_i a b
     cases h;exact Pu.len a (Ze hT b).1
   . rename_i a b
     cases h;exact Pu.lenS a (Ze hT b).1
   cases h
 . split at h
   . rename_i a b
     cases h;exact Pu.cap a (Ze hT b).1
   cases h
 . split at h<;>cases h;exact Pu.max2 ‹_› ‹_›
 . split at h<;>cases h;exact Pu.min2 ‹_› ‹_›
 . split at h
   . split at h
     . exact Zy6 hT ‹_› h
     cases h
   . split at h
     . exact Zy6 hT ‹_› h
     cases h
   split at h
   . exact bin_ok hT ‹_› ‹_› h hc
   cases h
 cases h
end sound
inductive Md where
 |code
 |ops (ops l:List Oper)
def Y (P:Program)(G:World)(f:Fc)(Q:Yp)(md:Md)(k:List Item)(p:PE)(ds:List Deferred)(cs:List Frame)(q:List HP):Prop:=
 match md with
 | .code=>X P G f Q k p ds cs q
 | .ops ops l=>XO P G f Q ops.toArray k l p ds cs q
structure Sta where
 md:Md
 k:List Item
 p:PE
 c:List Prop
def Jm:List Prop->Prop
 | []=>True
 |φ::r=>φ/\Jm r
def opS (T:Tr)(ops:List Oper)(p:PE)(o:Oper):SR:=
 match Wt ops p o with
 |some true=>sxO T p o.op
 |some false=>some (undef,none)
 |none=>none
def putO (n:Nat)(p:PE)(v:Value):Option Tmp->Option PE
 |none=>some p
 |some d=>match Nat.blt d n with
  |true=>some ((d,v)::p)
  |false=>none
def Zbw:Op->Bool
 | .defer _=>true
 |_=>false
def st1 (T:Tr)(n:Nat):Md->List Item->PE->List Prop->Option Sta
 | .ops ops [],k,p,c=>some ⟨.code,k,p,c⟩
 | .ops ops (o::l),k,p,c=>match opS T ops p o with
  |some (v,φ)=>match putO n p v o.dst,Zbw o.op with
   |some p',false=>match φ with
    |none=>some ⟨.ops ops l,k,p',c⟩
    |some φ=>some ⟨.ops ops l,k,p',φ::c⟩
   |_,_=>none
  |none=>none
 | .code,.code (.seq a b)::k,p,c=>some ⟨.code,.code a:: .code b::k,p,c⟩
 | .code,.code .skip::k,p,c=>some ⟨.code,k,p,c⟩
 | .code,.code (.label _)::k,p,c=>some ⟨.code,k,p,c⟩
 | .code,.inBlock _::k,p,c=>some ⟨.code,k,p,c⟩
 | .code,.inScope _::k,p,c=>some ⟨.code,k,p,c⟩
 | .code,.code (.block i b)::k,p,c=>some ⟨.code,.code b:: .inBlock i::k,p,c⟩
 | .code,.code (.scope b)::k,p,c=>some ⟨.code,.code b:: .inScope b::k,p,c⟩
 | .code,.code (.exit i)::k,p,c=>match exitTo i k with
  |some k'=>some ⟨.code,k',p,c⟩
  |none=>none
 | .code,.code (.region _ ⟨ops⟩ false)::k,p,c=>some ⟨.ops ops ops,k,p,c⟩
 | .code,.code (.cond x a b)::k,p,c=>match evp p x with
  |some (.bool true)=>some ⟨.code,.code a::k,p,c⟩
  |some (.bool false)=>some ⟨.code,.code b::k,p,c⟩
  |_=>none
 |_,_,_,_=>none
def stn (T:Tr)(n:Nat):Nat->Md->List Item->PE->List Prop->Option Sta
 |0,md,k,p,c=>some ⟨md,k,p,c⟩
 |m+1,md,k,p,c=>match st1 T n md k p c with
  |some ⟨md',k',p',c'⟩=>stn T n m md' k' p' c'
  |none=>none
section
variable {P:Program}{G:World}{f:Fc}{Q:Yp}{T:Tr}{md:Md}{k:List Item}{p:PE}{c:List Prop}{ds:List Deferred}{cs:List Frame}{q:List HP}
def opS_ok {ops}{o}{v}{φ}(hT:T.ok P id)(h:opS T ops p o=some (v,φ))(hc: ∀ ψ,φ=some ψ->ψ):
 (Wt ops p o=some true/\Pu P p o v)\/(Wt ops p o=some false/\v=undef):=by
 unfold opS at h;split at h
 . rename_i a;exact .inl ⟨a,sxO_ok hT h hc⟩
 all_goals grind
def Zye {n}{v}{d}{p'}(h:putO n p v d=some p'):dOk n d=true/\p'=Jt p d v:=by
 unfold putO at h;split at h
 . cases h;exact ⟨rfl,rfl⟩
 split at h
 . rename_i a;cases h;exact ⟨a,rfl⟩
 cases h
def st1_ok {s}(hT:T.ok P id)(h:st1 T f.n md k p c=some s)(hc:Jm s.c)(K:Y P G f Q s.md s.k s.p ds cs q):Y P G f Q md k p ds cs q/\Jm c:=by
 unfold st1 at h;split at h
 . cases h;exact ⟨XO.nil K,hc⟩
 . rename_i ops o l;split at h
   . rename_i v φ j;split at h
     . rename_i p' t w
       have m: ∀ c,o.op≠ .defer c:=by
        grind [Zbw]
       have ⟨r,u⟩:=Zye t;subst u
       have b: ∀ (a:Option Prop),φ=a->(∀ ψ,a=some ψ->ψ)->XO P G f Q ops.toArray k l (Jt p o.dst v) ds cs q->XO P G f Q ops.toArray k (o::l) p ds cs q:=by
        rintro _ rfl d K;rcases opS_ok hT j d with ⟨g,i⟩|⟨g,rfl⟩
        . exact .pu_ i K g r m
        exact .pass_ g r K
       split at h
       . cases h;exact ⟨b _ rfl (fun _ e=>by cases e) K,hc⟩
       cases h;exact ⟨b _ rfl (fun _ e=>by cases e;exact hc.1) K,hc.2⟩
     cases h
   cases h
 . cases h;exact ⟨X.seq K,hc⟩
 . cases h;exact ⟨X.skip K,hc⟩
 . cases h;exact ⟨X.label K,hc⟩
 . cases h;exact ⟨X.inBlock K,hc⟩
 . cases h;exact ⟨X.inScope K,hc⟩
 . cases h;exact ⟨X.block K,hc⟩
 . cases h;exact ⟨X.scope K,hc⟩
 . split at h
   . cases h;exact ⟨X.exit ‹_› K,hc⟩
   cases h
 . cases h;exact ⟨X.region K,hc⟩
 . split at h
   . cases h;exact ⟨X.condT ‹_› K,hc⟩
   . cases h;exact ⟨X.condF ‹_› K,hc⟩
   cases h
 cases h
def Ei (hT:T.ok P id): ∀ {m} {md} {k} {p} {c} {s},stn T f.n m md k p c=some s->Jm s.c->Y P G f Q s.md s.k s.p ds cs q->Y P G f Q md k p ds cs q/\Jm c
 |0,md,k,p,c,s,h,hc,K=>by cases h;exact ⟨K,hc⟩
 |m+1,md,k,p,c,s,h,hc,K=>by
  simp [stn] at h;split at h
  . rename_i b k' p' c' d;have ⟨e,a⟩:=Ei hT h hc K;exact st1_ok hT d a e
  cases h
variable {k':List Item}{p':PE}{ops l ops' l':List Oper}
def stXX (hT:T.ok P id)(m:Nat)(h:stn T f.n m .code k p []=some ⟨.code,k',p',c⟩)(hc:Jm c)(K:X P G f Q k' p' ds cs q):X P G f Q k p ds cs q:=(Ei hT h hc K).1
def stXO (hT:T.ok P id)(m:Nat)(h:stn T f.n m .code k p []=some ⟨.ops ops' l',k',p',c⟩)(hc:Jm c)(K:XO P G f Q ops'.toArray k' l' p' ds cs q):X P G f Q k p ds cs q:=(Ei hT h hc K).1
def stOX (hT:T.ok P id)(m:Nat)(h:stn T f.n m (.ops ops l) k p []=some ⟨.code,k',p',c⟩)(hc:Jm c)(K:X P G f Q k' p' ds cs q):XO P G f Q ops.toArray k l p ds cs q:=(Ei hT h hc K).1
def stOO (hT:T.ok P id)(m:Nat)(h:stn T f.n m (.ops ops l) k p []=some ⟨.ops ops' l',k',p',c⟩)(hc:Jm c)(K:XO P G f Q ops'.toArray k' l' p' ds cs q):XO P G f Q ops.toArray k l p ds cs q:=(Ei hT h hc K).1
end
structure StD where
 n:Nat
 done:List Nat
 p:PE
 c:List Prop
def sdn (T:Tr)(fn:Nat)(ops:List Oper):List Nat->Nat->List Nat->PE->List Prop->Option StD
 | [],n,done,p,c=>some ⟨n,done,p,c⟩
 |i::r,n,done,p,c=>match n,ops[i]?,rdy ops done i with
  |m+1,some o,true=>match opS T ops p o with
   |some (v,φ)=>match putO fn p v o.dst with
    |some p'=>match φ with
     |none=>sdn T fn ops r m (i::done) p' c
     |some φ=>sdn T fn ops r m (i::done) p' (φ::c)
    |none=>none
   |none=>none
  |_,_,_=>none
section
variable {P:Program}{G:World}{f:Fc}{Q:Yp}{T:Tr}{ops:List Oper}{k:List Item}{pk:PE}{L:Rds}{ds:List Deferred}{cs:List Frame}{q:List HP}
def Zv2 (hT:T.ok P id): ∀ {is} {n} {done} {p} {c} {s},sdn T f.n ops is n done p c=some s->Jm s.c->XD P G f Q ops k pk L s.n s.done s.p ds cs q->XD P G f Q ops k pk L n done p ds cs q/\Jm c
 | [],n,done,p,c,s,h,hc,K=>by cases h;exact ⟨K,hc⟩
 |i::r,n,done,p,c,s,h,hc,K=>by
  simp [sdn] at h;split at h
  . rename_i m o x w;split at h
    . rename_i v φ t;split at h
      . rename_i p' z;have ⟨y,h2⟩:=Zye z;subst h2
        have d: ∀ (b:Option Prop),φ=b->(∀ ψ,b=some ψ->ψ)->XD P G f Q ops k pk L m (i::done) (Jt p o.dst v) ds cs q->XD P G f Q ops k pk L (m+1) done p ds cs q:=by
         rintro _ rfl g K;rcases opS_ok hT t g with ⟨j,l⟩|⟨j,rfl⟩
         . exact .pu_ i x l K w j y
         exact .pass_ i x K w j y
        split at h
        . have ⟨u,a⟩:=Zv2 hT h hc K;exact ⟨d _ rfl (fun _ e=>by cases e) u,a⟩
        have ⟨u,a⟩:=Zv2 hT h hc K;exact ⟨d _ rfl (fun _ e=>by cases e;exact a.1) u,a.2⟩
      cases h
    cases h
  cases h
variable {n n':Nat}{done done':List Nat}{p p':PE}{c:List Prop}
def stDD (hT:T.ok P id)(is:List Nat)(h:sdn T f.n ops is n done p []=some ⟨n',done',p',c⟩)(hc:Jm c)(K:XD P G f Q ops k pk L n' done' p' ds cs q):XD P G f Q ops k pk L n done p ds cs q:=(Zv2 hT h hc K).1
end
def O1:List Nat->PE->Option PE
 | [],_=>some []
 |d::r,p=>match lkp p d,O1 r p with
  |some v,some p'=>some ((d,v)::p')
  |_,_=>none
def Fp: ∀ {l} {p p'},O1 l p=some p'->SubP p' p
 | [],p,p',h=>by cases h;trivial
 |d::r,p,p',h=>by
  simp [O1] at h;split at h
  . cases h;exact ⟨‹_›,Fp ‹_›⟩
  cases h
def Z5 {p p'}(h:SubP p' p:=by repeat (first|exact trivial|refine ⟨(by first|rfl|exact aQ some (aQ (Value.int _) Zq)|(show some _=some _;simp;done)|(show some _=some _;simp;omega)),?_⟩)):SubP p' p:=h
def X.sb {P}{G}{f}{Q}{todo}{p p'}{ds}{cs}{q}(l:List Nat)(x:X P G f Q todo p' ds cs q)(h:O1 l p=some p':=by exact rfl):X P G f Q todo p ds cs q:=x.sub (Fp h)
def XO.sb {P}{G}{f}{Q}{ops:List Oper}{k}{p p'}{ds}{cs}{q}{r}(l:List Nat)(x:XO P G f Q ops.toArray k r p' ds cs q)(h:O1 l p=some p':=by exact rfl):XO P G f Q ops.toArray k r p ds cs q:=x.sub (Fp h)
abbrev fL:=@XO.sb
def Wf {φ}{r}(h:φ)(k:Jm r):Jm (φ::r):=⟨h,k⟩
end
section
variable {P:Program}{G:World}{f:Fc}{Q:Yp}{ops:List Oper}{k:List Item}{p p':PE}{ds:List Deferred}{cs:List Frame}{q:List HP}
def sp {φ ψ:Prop}(h:φ)(e:φ->ψ:=by intro h;(try simp only [dQ,dG,jI,fH,ne_eq,lN,dD,Bool.not_eq_true',Bool.not_eq_false',Int.not_lt,Int.not_le,Bool.not_not,bA,Bool.and_eq_false_iff,gU,Bool.and_true,beq_self_eq_true,jV,jL] at h);exact h):ψ:=e h
def XD.sb {pk}{L}{n}{done}(l:List Nat)(x:XD P G f Q ops k pk L n done p' ds cs q)(h:O1 l p=some p':=by exact rfl):XD P G f Q ops k pk L n done p ds cs q:=x.sub (Fp h)
def Yt (h:SubP p' p:=by repeat (first|exact trivial|refine ⟨(by first|rfl|exact aQ (fun x=>some (Value.bool x)) (Eq.symm Vp)),?_⟩)):SubP p' p:=h
def Rd.ef {o}{v}(h:Rd P G p q o v):Ef P G p q o fun u q'=>u=v/\q'=q:=fun tm w ag s=>⟨v,w,q,.inl (h tm w ag s),s,rfl,rfl⟩
section
variable {rest:List Oper}{args:List Operand}{ats:Array TypeId}{ty:TypeId}{pos:String}{af:Array Edge}{gd:Option (Nat×Bool)}{vs:List Value}{pre:List HP}{R:Value->List HP->Prop}{d:Tmp}{fo:Operand}{fv:Value}
def XO.cVX (hq:Le q pre)(hc:CallV P G fv vs pre (Ret R))(x: ∀ v q',R v q'->XO P G f Q ops.toArray k rest ((d,v)::p) ds cs q')(hf:evp p fo=some fv:=by rfl)(hv:evl p args=some vs:=by rfl)
 (hw:Wt ops p ⟨some d,.call ⟨.value fo,args.toArray,ats⟩,ty,pos,af,gd⟩=some true:=by rfl) (hd:Nat.blt d f.n=true:=by rfl):
 XO P G f Q ops.toArray k (⟨some d,.call ⟨.value fo,args.toArray,ats⟩,ty,pos,af,gd⟩::rest) p ds cs q:=
 .cV hc (fun v q' r a e=>by rw [cA] at e;rw [e];exact x v q' r) hf hv (by rw [cA];exact hq) hw hd
abbrev jE:=@XO.cVX
end
end
section
section
variable {P:Program}{G:World}{p:PE}{q:List HP}{d:Option Tmp}{ty:TypeId}{pos:String}{af:Array Edge}{gd:Option (Nat×Bool)}{x y:Operand}{t e:TypeId}{kd:IntKind}
def Tj {b o n}{i}{sz}(hx:evp p x=some (.pointer (some ⟨b,o,none⟩)))(hy:evp p y=some (.int kd i))(ht:P.underlying t=some (.array n e))(hs: ∀ w,(Go.sizeOf e).run P w= .ok sz w)
 (h0:0<=i) (h1:i<n):Pu P p ⟨d,.indexAddr t x y,ty,pos,af,gd⟩ (.pointer (some ⟨b,o+i.toNat*sz,none⟩)):=
 fun tm w a=>by
  have c:0<=i/\i<(n:Int):=⟨h0,h1⟩;simp [execOp,Zu a hx,Zu a hy,Instr.indexAt,Instr.sureAddr,asIntOf,run_underlying ht,c,hs,Vu]
end
end
section
variable {q q':List HP}
section
variable {P:Program}{G:World}{f:Fc}{Q:Yp}{ops:List Oper}{k:List Item}{p:PE}{ds:List Deferred}{cs:List Frame}{rest:List Oper}{args:List Operand}{ats:Array TypeId}{ty:TypeId}{pos:String}{af:Array Edge}{gd:Option (Nat×Bool)}{vs:List Value}{u:Value}{d:Tmp}{fo:Operand}{fv:Value}
def Rg (hc:CallV P G fv vs q (Ret fun v q'=>v=u/\q'=q))(x:XO P G f Q ops.toArray k rest ((d,u)::p) ds cs q)(hf:evp p fo=some fv:=by rfl)(hv:evl p args=some vs:=by rfl)
 (hw:Wt ops p ⟨some d,.call ⟨.value fo,args.toArray,ats⟩,ty,pos,af,gd⟩=some true:=by rfl) (hd:Nat.blt d f.n=true:=by rfl):
 XO P G f Q ops.toArray k (⟨some d,.call ⟨.value fo,args.toArray,ats⟩,ty,pos,af,gd⟩::rest) p ds cs q:=
 .cVX (aG _) hc (fun v q' h=>by obtain ⟨rfl,rfl⟩:=h;exact x) hf hv hw hd
def Ix {pk}{L}{n}{done}(i:Nat)(hc:CallV P G fv vs q (Ret fun v q'=>v=u/\q'=q))
 (K:XD P G f Q ops k pk (cut ⟨some d,.call ⟨.value fo,args.toArray,ats⟩,ty,pos,af,gd⟩ L) n (i::done) ((d,u)::p) ds cs q)
 (ho:ops[i]? =some ⟨some d,.call ⟨.value fo,args.toArray,ats⟩,ty,pos,af,gd⟩:=by rfl) (hf:evp p fo=some fv:=by rfl) (hv:evl p args=some vs:=by rfl)
 (hL:HL q (cut ⟨some d,.call ⟨.value fo,args.toArray,ats⟩,ty,pos,af,gd⟩ L):=by exact hlA)
 (h1:Ut ops done i=true:=by rfl) (hr:rdy ops done i=true:=by rfl) (hw:Wt ops p ⟨some d,.call ⟨.value fo,args.toArray,ats⟩,ty,pos,af,gd⟩=some true:=by rfl) (hd:Nat.blt d f.n=true:=by rfl):XD P G f Q ops k pk L (n+1) done p ds cs q:=
 .call i ho hf hv hc (J1 q) (fun v q' h a e=>by grind) h1 hr hw hd
def Cl.le {A}{v}(h:Cl q' A v)(l:Le q q'):Cl q A v:=fun G w s=>h G w (s.le l)
def Rdr {α:Type}(P:Program)(G:World)(fv:Value)(E:α->Value)(u:α->Value)(q:List HP)(l:List α):Prop:=
 ∀ q1,Le q1 q-> ∀ x∈l,CallV P G fv [E x] q1 (Ret fun v q'=>v=u x/\q'=q1)
def Rdr.le {α}{E:α->Value}{u}{l}(h:Rdr P G fv E u q l)(k:Le q' q):Rdr P G fv E u q' l:=fun q1 h1=>h q1 (h1.trans k)
end
end
section
variable {G:World}{q:List HP}{b clock o:Nat}
section
variable {P:Program}{p:PE}{r:List HP}{d:Option Tmp}{ty:TypeId}{pos:String}{af:Array Edge}{gd:Option (Nat×Bool)}{x y z:Operand}{t t' kt et:TypeId}{kd:IntKind}{v u:Value}{k:Int}{es:List MapEntry}
def St.setObjM {w}{es}{o}(s:St G w (pto b (.map es clock)::q)):St G { w with heap:=w.heap.setIfInBounds b o } (pto b o::q):=s.setObj
def Ef.insert (ht:P.underlying t=some (.map kt et))(hk:P.underlying kt=some (.int kd))(hx:evp p x=some (.map (some b)))(hy:evp p y=some (.int kd k))(hz:evp p z=some v)(hq:Le q (pto b (.map es.toArray clock)::r))
 (hf:Instr.findNow (.int kd) (.int kd k) es 0=some none):Ef P G p q ⟨d,.insert t x y z,ty,pos,af,gd⟩ fun u q'=>u=undef/\q'=pto b (.map (es++ [({ key:= .int kd k,val:=v,born:=clock } :MapEntry)]).toArray (clock+1))::r:=
 fun tm w c s=>by
  have e:=s.le hq;have f:=e.has (dV _ _ _);have a:MapKept.IsKey (.int kd) (.int kd k):=by grind [MapKept.IsKey]
  refine ⟨undef,_,_,.inr ⟨rfl,?_⟩,e.setObjM (o:= .map (es.toArray.push { key:= .int kd k,val:=v,born:=clock }) (clock+1)),rfl,Zf⟩;simp [execOp,Zu c hx,Zu c hy,Zu c hz,Instr.mapUpdate,run_underlying ht,MapKept.run_getObj_map f,MapKept.run_checkKey hk a,MapKept.run_findKey hk hf,MapKept.run_setObj_map _ f]
abbrev dH:=@Ef.insert
def Rd.lookup {zv}(ht:P.underlying t=some (.map kt et))(hk:P.underlying kt=some (.int kd))(hx:evp p x=some (.map (some b)))(hy:evp p y=some (.int kd k))(hq:Le q (pto b (.map es.toArray clock)::r))(hz: ∀ w,(zeroValue et).run P w= .ok zv w)
 {a} (hf:Instr.findNow (.int kd) (.int kd k) es 0=some a):Rd P G p q ⟨d,.lookup t x y false,ty,pos,af,gd⟩ (match a with|some (_,v)=>v|none=>zv):=
 fun tm w e s=>by
  have f:=(s.le hq).has (dV _ _ _);have c:MapKept.IsKey (.int kd) (.int kd k):=by grind [MapKept.IsKey]
  cases a with
  |none=>simp [execOp,Zu e hx,Zu e hy,Instr.lookup,run_underlying ht,MapKept.run_getObj_map f,MapKept.run_checkKey hk c,MapKept.run_findKey hk hf,hz]
  |some y=>simp [execOp,Zu e hx,Zu e hy,Instr.lookup,run_underlying ht,MapKept.run_getObj_map f,MapKept.run_checkKey hk c,MapKept.run_findKey hk hf]
def Ca {kd}{c}: ∀ (l:List (Int×Value×Nat)) (i:Nat),∃ a,Instr.findNow (.int kd) (.int kd c) (l.map fun e=>({ key:= .int kd e.1,val:=e.2.1,born:=e.2.2 } :MapEntry)) i=some a/\
 ((a=none/\ ∀ e∈l,e.1≠c)\/ ∃ j e,a=some (j,e.2.1)/\e∈l/\e.1=c)
 | [],i=>⟨none,rfl,.inl ⟨rfl,Zf⟩⟩
 |e::l,i=>by
  by_cases h:c=e.1
  . grind [Instr.findNow,Instr.sameNow]
  have ⟨a,k,f⟩:=Ca (kd:=kd) (c:=c) l (i+1);refine ⟨a,by grind [Instr.findNow,Instr.sameNow],?_⟩;rcases f with ⟨d,b⟩|⟨j,m,d,b,g⟩
  all_goals grind
def Zgg (k:Nat){u r}{b}(ht:P.underlying t=some (.func u r b))(w:World):(Op.equalIn (k+1) t .nilFunc .nilFunc).run P w= .ok true w:=by
 simp [Op.equalIn,run_underlying ht]
def Zk2 {u r}{b}(hx:evp p x=some .nilFunc)(ht:P.underlying t=some (.func u r b)):Pu P p ⟨d,.binOp .neq t x (.const .nilFunc) t',ty,pos,af,gd⟩ (.bool false):=fun tm w e=>by
 have c:(Op.equal t .nilFunc .nilFunc).run P w= .ok true w:=Zgg 9999 ht w;have a:evA tm (.const .nilFunc)= .nilFunc:=rfl;simp [execOp,Zu e hx,a,eqGuard,Go.binOp,c]
end
def CellsAt (q:List HP)(b o:Nat)(vs:List Value):Prop:= ∀ k v,vs[k]? =some v->Cl q ⟨b,o+k,none⟩ v
def CellsAt.le {q'}{vs}(h:CellsAt q' b o vs)(l:Le q q'):CellsAt q b o vs:=fun k v e=>(h k v e).le l
abbrev eR:=@CellsAt.le
def CellsAt.of {l}{t}{fz}(h:Has q b (.cells l.toArray t fz)):CellsAt q b 0 l:=fun k v e=>fC h (by grind [Qi])
abbrev dK:=@CellsAt.of
theorem CellsAt.row {α:Type}{f}{sz bk n}{j:Int}{l:List α}{q0}(h:Sees q0 (some ⟨bk,o,none⟩) (l.flatMap f))(hq:Le q q0)(hf: ∀ x,(f x).length=sz)(hn:n<l.length)(hj:j=n):CellsAt q bk (o+j.toNat*sz) (f l[n]):=
 fun k v e=>cX h hq hf hn hj k v e
abbrev eX:=@CellsAt.row
end
section
variable {P:Program}{G w:World}{v:Value}{name:String}{fn:FuncId}{vs:List Value}{pre q:List HP}{m:Method}{f:Fc}{Q:Yp}{p:PE}{ds:List Deferred}{cs:List Frame}{n:Nat}
def CallM (P:Program)(G:World)(recv:Value)(name:String)(vs:List Value)(pre:List HP)(R:Uc):Prop:=
 ∀ (F:List HP) w,St G w (pre++F)->Ap P (invoke (.fn (.method name) #[]) (#[recv]++vs.toArray)) w fun e w'=> ∃ q,R e q/\St G w' (q++F)
def CallM.of {t}{rv}{R}(hcf: ∀ args w,(callFunc fn args).run P w= .ok (.enter fn args) w)
 (hm: ∀ F w,St G w (pre++F)->(Go.method (P.types.size+Made.depth) t v name).run P w= .ok (fn,rv) w) (h:CallF P G fn (rv::vs) pre R):CallM P G (.iface t v) name vs pre R:=by
 intro F w s fr cs c n;obtain ⟨e,m,p,g,k,l,w1,j,f⟩:=(Yh (a:= []) (b:= []) (vs:=rv::vs) hcf (by simpa using h) F w s fr cs c n);refine ⟨e,m,p,g,k,l,w1,?_,f⟩;rw [<-j]
 have r:(invoke (.fn (.method name) #[]) (#[Value.iface t v]++vs.toArray)).run P w=(callFunc fn (#[rv]++vs.toArray)).run P w:=by
  have i:(Go.method (P.types.size+100) t v name).run P w= .ok (fn,rv) w:=hm F w s;simp [invoke,callMethod,go_sem,i]
 have q:(do let d<-Deferred.ofValue (.func (.func fn) [].toArray [].toArray) (rv::vs).toArray;invoke d.target d.args:Sem Next).run P w=(callFunc fn (#[rv]++vs.toArray)).run P w:=by
  simp [Deferred.ofValue,invoke,Sem.run_bind,Result.andThen,bind,Sem.bind,Pure.pure]
 grind [stepG.apply,Sem.runT_eq,GStep.bare_after]
def Sw {t el}{ti}(hti: ∀ w,(typeInfo t).run P w= .ok ti w)(hu:P.underlying t=some (.pointer el))
 (hf:ti.methods.find? (fun m=>m.name==name)=some m) (hp:m.path= #[]) (hfn:m.func=some (fn,true)):(Go.method (P.types.size+Made.depth) t v name).run P w= .ok (fn,v) w:=by
 rw [show P.types.size+Made.depth=(P.types.size+99)+1 from rfl];generalize P.types.size+99=fuel;simp [Go.method,hti,hf,hp,hfn,follow,receiverAt,Place.get,run_underlying hu]
def ssaWrap (a:Addr)(xt yt:TypeId)(u v:String):Builtin.ssaWrapNilChk_ #[xt] yt #[.pointer (some a),strVal u,strVal v]=Pure.pure (.pointer (some a)):=rfl
def Es {t el}{ti}{a}{u}(s:St G w q)(hc:Cl q a u)(hti: ∀ w,(typeInfo t).run P w= .ok ti w)(hu:P.underlying t=some (.pointer el))
 (hag: ∀ w,(isAgg el).run P w= .ok false w) (hf:ti.methods.find? (fun m=>m.name==name)=some m) (hp:m.path= #[]) (hfn:m.func=some (fn,false)):(Go.method (P.types.size+Made.depth) t (.pointer (some a)) name).run P w= .ok (fn,u) w:=by
 rw [show P.types.size+Made.depth=(P.types.size+99)+1 from rfl];generalize P.types.size+99=fuel;simp [Go.method,hti,hf,hp,hfn,follow,receiverAt,Place.get,run_underlying hu,ssaWrap,asAddr,loadVar,hag,hc G w s]
section
variable {ops:List Oper}{k:List Item}{F:List HP}{rest:List Oper}{args:List Operand}{ats:Array TypeId}{ty:TypeId}{pos:String}{af:Array Edge}{gd:Option (Nat×Bool)}{R:Value->List HP->Prop}{ro:Operand}{recv:Value}
def XO.callM_ {d}(hf:evp p ro=some recv)(hv:evl p args=some vs)(hc:CallM P G recv name vs pre (Ret R))(hq:Le q (pre++F))
 (x: ∀ v q',R v q'->XO P G f Q ops.toArray k rest (Jt p d v) ds cs (q'++F))
 (hw:Wt ops p ⟨d,.call ⟨.invoke ro name,args.toArray,ats⟩,ty,pos,af,gd⟩=some true) (hd:dOk f.n d=true):
 XO P G f Q ops.toArray k (⟨d,.call ⟨.invoke ro name,args.toArray,ats⟩,ty,pos,af,gd⟩::rest) p ds cs q:=by
 intro is h tm w n a s
 cases is with
 |nil=>simp at h
 |cons i r=>
  have ⟨ho,z⟩:=gJ h;have ⟨e,m,⟨t,hR,o⟩,d0,g,j,l,a0,y⟩:=hc F w (s.le hq) (f.fr tm ds (.inRegion ops.toArray (i::r)::k)) cs rfl trivial
  have c:execOp (evA tm) ⟨d,.call ⟨.invoke ro name,args.toArray,ats⟩,ty,pos,af,gd⟩=invoke (.fn (.method name) #[]) (#[recv]++vs.toArray):=by
   have:(args.toArray.map (evA tm))=vs.toArray:=by rw [<-(Rw a hv)];simp
   simp only [execOp,resolve,Zu a hf,this];rfl
  have b:step P (lone (f.fr tm ds (.inRegion ops.toArray (i::r)::k)) cs w)= .next (lone g j l):=by
   refine step_lone_go ?_;rw [Jx f tm ds cs w _ i r k ho (Y6 a hw) Zf,c];exact a0
  obtain ⟨v,rfl,hR⟩:=hR;have ⟨o',u,p',b0,c0,w',q',hQ,hn,ha,hs,e0⟩:=x v t hR r z _ m (by rw [Yr];exact n) (a.put (n ▸ hd)) o;refine ⟨o',u,p',b0,c0,w',q',hQ,hn,ha,hs,Arr.head ((Steps.one b).trans y) ?_⟩;simp_all [U0,Zvc]
def Re {d:Tmp}(hc:CallM P G recv name vs pre (Ret R))(x: ∀ v q',R v q'-> ∀ q'',q''=q'++F->XO P G f Q ops.toArray k rest ((d,v)::p) ds cs q'')(hf:evp p ro=some recv:=by rfl)(hv:evl p args=some vs:=by rfl)(hq:Le q (pre++F):=by exact leA)
 (hw:Wt ops p ⟨some d,.call ⟨.invoke ro name,args.toArray,ats⟩,ty,pos,af,gd⟩=some true:=by rfl) (hd:Nat.blt d f.n=true:=by rfl):
 XO P G f Q ops.toArray k (⟨some d,.call ⟨.invoke ro name,args.toArray,ats⟩,ty,pos,af,gd⟩::rest) p ds cs q:= .callM_ hf hv hc hq (fun v q' r=>x v q' r _ rfl) hw hd
end
def bxH {α:Type}(f:α->Value)(ts te:TypeId)(n:Nat)(l:List α):HP:=ex fun s:Option Addr×Nat=>stars [pto n (.cells [.slice s.1 l.length s.2].toArray ts (0,0)),lsH f te s.1 s.2 l]
def Le.bx {α}{f}{ts te}{l:List α}{a}{c}{r}(h:Le q (pto n (.cells [.slice a l.length c].toArray ts (0,0))::lsH f te a c l::r)):Le q (bxH f ts te n l::r):=
 Vt (a,c) (h.trans (by exact Zh [_,_] r))
def X.bx {todo}{α}{g:α->Value}{ts te}{l}
 (x: ∀ a c,X P G f Q todo p ds cs (pto n (.cells [.slice a l.length c].toArray ts (0,0))::lsH g te a c l::q)):X P G f Q todo p ds cs (bxH g ts te n l::q):=
 X.ex (fun s=>cE (Zb _ _) (x s.1 s.2))
def Nk: ∀ a b c:List HP,Le (a++(b++c)) (b++(a++c))
 | [],_,_=>aG _
 |A::a,b,c=>by
  apply aK (cC A (Nk a b c))
  have e: ∀ (b d:List HP),Le (A::(b++d)) (b++(A::d)):=by
   intro b d
   induction b with
   |nil=>exact aG _
   |cons B b ih=>exact aK (iL A B _) (cC B ih)
  grind
def Le.pushR (A:HP)(b d:List HP):Le (A::(b++d)) (b++(A::d)):=Nk [A] b d
def Zvk: ∀ q pre F:List HP,Le (q++(pre++F)) (q++F):=fun q pre F=>Kb q (by
 induction pre with
 |nil=>exact aG _
 |cons A r ih=>exact Ps ih)
def Zhl (q F:List HP)(A B:HP):Le (q++(A::B::F)) (q++F):=Zvk q [A,B] F
def Zhi (q F:List HP)(A B C:HP):Le (q++(A::B::C::F)) (q++F):=Zvk q [A,B,C] F
def leB {q'}(h:Le q q':=by repeat (first|exact aG _|exact Le.pushR _ _ _|exact Zhl _ _ _ _|exact Zhi _ _ _ _ _|(apply bC; · (repeat first|exact Le.here _ _|apply Le.there))|refine Ps ?_)):Le q q':=h
end
section
variable {P:Program}{G:World}{p:PE}{q r:List HP}{v:Value}{c:Nat}{a:Option Addr}
section
variable {d:Option Tmp}{ty:TypeId}{pos:String}{af:Array Edge}{gd:Option (Nat×Bool)}{x y z:Operand}{t:TypeId}{u:Value}
def Ip {D}{xt}(hx:evp p x=some (.iface t v))(ht:P.underlying t=some D)(hD:(match D with| .interface _=>false|_=>true)=true):
 Pu P p ⟨d,.typeAssert x xt t false,ty,pos,af,gd⟩ v:=fun tm w a=>by
 simp [execOp,Zu a hx,Instr.typeAssert,run_underlying ht]
 cases D<;>first|(cases hD;done)|simp
end
def C8 {α}(f:α->Value)(ty:TypeId)(a:Option Addr)(c:Nat)(l:List α)(n:Nat)(q:List HP):Le (lsH f ty a c l::q) (lsH f ty a c (l.take n)::q):=by
 refine .one fun M h p=> ?_
 have ⟨d,b⟩:=p;refine ⟨Zf,?_⟩;grind [List.map_take]
section
variable {recv:Value}{name:String}{vs:List Value}{pre pre':List HP}{R R':Value->List HP->Prop}
def Zh3 {α}{A:α->HP}{S}(h: ∀ y,CallM P G recv name vs (A y::pre) S):CallM P G recv name vs (ex A::pre) S:=by
 intro F w s fr cs d c;have ⟨y,b⟩:=s.get_ex;exact h y F w b fr cs d c
def CallM.conv (h:CallM P G recv name vs pre (Ret R))(hq:Le pre' pre)(hr: ∀ v q,R v q-> ∃ q',R' v q'/\Le q q'):CallM P G recv name vs pre' (Ret R'):=by
 intro F w s fr cs f d;obtain ⟨e,b,⟨q,⟨v,rfl,i⟩,c⟩,rest⟩:=h F w (s.le (hq.liftR F)) fr cs f d;have ⟨q',a,g⟩:=hr v q i;exact ⟨_,b,⟨q',⟨v,rfl,a⟩,c.le (g.liftR F)⟩,rest⟩
def Dq {α}{f}{ts te}{n}{l}{φ:Value->List α->Prop}(h: ∀ a c,CallM P G recv name vs [pto n (.cells [.slice a l.length c].toArray ts (0,0)),lsH f te a c l] (Ret fun v q'=> ∃ l' a' c',φ v l'/\q'= [pto n (.cells [.slice a' l'.length c'].toArray ts (0,0)),lsH f te a' c' l'])):
 CallM P G recv name vs [bxH f ts te n l] (Ret fun v q'=> ∃ l',φ v l'/\q'= [bxH f ts te n l']):=
 Zh3 fun y=>(h y.1 y.2).conv (Zb _ _) fun v q ⟨l',a',c',d,b⟩=>⟨_,⟨l',d,rfl⟩,by subst b;exact Le.bx (aG _)⟩
end
def St.lsCap {w}{α}{f:α->Value}{ty}{l}(s:St G w (Wx.lsH f ty a c l::q)):l.length<=c:=by
 have ⟨_,M,h,_,_,_,_,_,d,b,_,_,_,p,_⟩:=s;rcases p.2 with ⟨_,rfl,h⟩|⟨g,e,o,n,m,k,j,i⟩
 all_goals omega
def Zb4 {f}{Q}{todo}{ds}{cs}{α}{fl:α->Value}{ty}{l}(x:l.length<=c->X P G f Q todo p ds cs q)(hq:Le q (lsH fl ty a c l::r):=by exact Zj):X P G f Q todo p ds cs q:=
 .fact (fun w s=>(s.le hq).lsCap) fun h=>x h
end
section
variable {P:Program}{G:World}{f:Fc}{Q:Yp}{cs:List Frame}{fn:FuncId}{R:Uc}{F q q':List HP}{u:FrameMode}{p:PE}{ds:List Deferred}{a:Option Addr}{c:Nat}
section
variable {k:List Item}
def Zb5 {b}{α}(Inv:α->Prop)(pI:α->PE)(dI:α->List Deferred)(qI:α->List HP)(μ:α->Nat)
 (round: ∀ a,Inv a->(∀ a',Inv a'->μ a'<μ a->X P G f Q (.inLoop b::k) (pI a') (dI a') cs (qI a'))->X P G f Q (.code b:: .inLoop b::k) (pI a) (dI a) cs (qI a))
 (a:α) (h:Inv a):X P G f Q (.code (.loop b)::k) (pI a) (dI a) cs (qI a):=by
 have c: ∀ n a,μ a=n->Inv a->X P G f Q (.code b:: .inLoop b::k) (pI a) (dI a) cs (qI a):=by
  intro n
  induction n using Nat.strongRecOn with
  |_ n ih=>exact fun a d h=>round a h fun a' g e=> .inLoop (ih _ (d ▸ e) a' rfl g)
 grind [Zb6]
end
def mks (rs:List Nat):HP:=stars (rs.map fun r=>pto r (.deferred (some [])))
def Il (q:List HP):Le q (mks []::q):=Zh [] q
def C7 (r:Nat)(rs:List Nat)(q:List HP):Le (pto r (.deferred (some []))::mks rs::q) (mks (r::rs)::q):=
 aK (cC _ (Zb (rs.map fun r=>pto r _) q)) (Zh (pto r _::rs.map fun r=>pto r _) q)
def Og (r:Nat)(rs:List Nat)(q:List HP):Le (mks (r::rs)::q) (pto r (.deferred (some []))::mks rs::q):=
 aK (Zb (pto r _::rs.map fun r=>pto r _) q) (cC _ (Zh (rs.map fun r=>pto r _) q))
def Zfk {P}{G}{fn}{R}{F}{u}{p}{ds}(hu:u≠ .run)(hl: ∀ q q',Le q q'->Lv P G fn R F ds u p q'->Lv P G fn R F ds u p q): ∀ (rs:List Nat) {q q'},Lv P G fn R F ds u p q'->Le q (Wx.mks rs::q')->Lv P G fn R F (rs.map markD++ds) u p q
 | [],q,q',h,hq=>hl _ _ (hq.trans (Ps (aG _))) h
 |r::rs,q,q',h,hq=>Lv.mark hu (hq.trans (Og r rs q')) (Zfk hu hl rs h (aG _))
def Lv.le_ (hl:Le q q')(h:Lv P G fn R F ds u p q'):Lv P G fn R F ds u p q:=fun tm w fr cs a b c d e f s=>h tm w fr cs a b c d e f (s.le hl)
def Lv.mks {rs}(h:Lv P G fn R F ds u p q')(hu:u≠ .run:=by simp)(hq:Le q (Wx.mks rs::q'):=by exact Zj):Lv P G fn R F (rs.map markD++ds) u p q:=
 Zfk hu (fun _ _ l h=>Lv.le_ l h) rs h hq
def St.lsMax {w}{α}{f:α->Value}{ty}{l}(s:St G w (Wx.lsH f ty a c l::q)):l.length<=maxLen:=by
 have ⟨_,M,h,_,_,_,_,_,d,b,_,_,_,p,_⟩:=s;rcases p.2 with ⟨_,_,h⟩|⟨g,e,o,n,m,k,j,i⟩
 all_goals omega
def X.lsmax {todo}{r}{α}{fl:α->Value}{ty}{l}(x:l.length<=9223372036854775807->X P G f Q todo p ds cs q)(hq:Le q (Wx.lsH fl ty a c l::r):=by exact Zj):X P G f Q todo p ds cs q:=
 .fact (fun w s=>dO (St.lsMax (s.le hq)) Zw) fun h=>x h
end
section
def Dm {α β:Type}(F:α->List β)(sz:Nat): ∀ (ds:List α) (cs:List β),cs.length=ds.length*sz->(∀ i (h:i<ds.length),(cs.drop (i*sz)).take sz=F ds[i])->cs=ds.flatMap F
 | [],cs,h,_=>by
  have:cs= []:=aW (by simpa using h);subst this;rfl
 |d::ds,cs,h,hF=>by
  have b:=hF 0 Zf;rw [Nat.zero_mul,iD,fU] at b;have e:cs.length=(ds.length+1)*sz:=by simpa using h
  have c:=Dm F sz ds (cs.drop sz) (by rw [bY,e,Nat.succ_mul];omega) (fun i f=>by
   have a:=hF (i+1) Zi;rw [fV] at a;rw [fZ,<-a,Nat.succ_mul,kZ])
  rw [cM,<-b,<-c,dJ]
end
section
section
variable {P:Program}{G:World}{f:Fc}{Q:Yp}{ops:List Oper}{k:List Item}{pk p:PE}{ds:List Deferred}{cs:List Frame}{q:List HP}{n:Nat}{done:List Nat}{L:Rds}{o:Oper}{v:Value}{fl:List FlE}
def StepOk (P:Program)(G:World)(f:Fc)(Q:Yp)(ops:List Oper)(k:List Item)(pk:PE)(fl:List FlE)(L:Rds)(n:Nat)(done:List Nat)(p:PE)(ds:List Deferred)(cs:List Frame)(q:List HP)(j:Nat):Prop:=
 ∃ (oj:Oper) (R:Value->List HP->Prop),ops[j]? =some oj/\(∀ E,Ef P G p (q++E) oj fun v q'=> ∃ q1,R v q1/\q'=q1++E)/\(∀ v q1,R v q1->HL q1 (cut oj L)/\XF P G f Q ops k pk fl (cut oj L) n (j::done) (Jt p oj.dst v) ds cs q1)/\
  (fl.map (·.i)).contains j=false/\rdy ops done j=true/\Wt ops p oj=some true/\dOk f.n oj.dst=true
def Zy4 (ops:List Oper)(fl done js:List Nat):Bool:=(List.range ops.length).all fun j=>js.contains j||fl.contains j|| !rdy ops (fl++done) j
def XF.any (js:List Nat)(hR:FlR P G f ops done p fl)(hj0:js≠ [])(hJ: ∀ j∈js,StepOk P G f Q ops k pk fl L n done p ds cs q j)(hL:HL q L)
 (hon:Zy4 ops (fl.map (·.i)) done js=true) (hlen:Nat.ble fl.length n=true):XF P G f Q ops k pk fl L (n+1) done p ds cs q:=by
 intro a b S m
 induction m generalizing S with
 |zero=>
  intro tm w h1 h2 h3 z t fa s;exfalso
  have j0:S.length<=fl.length:=by
   have h4:(U9 S).length<=(fl.map (·.i)).length:=by
    refine List.Nodup.length_le_of_subset h1 fun x hx=> ?_
    obtain ⟨e,l,rfl⟩:=cF.1 hx;grind
   simpa [U9] using h4
  simp_all;omega
 |succ m ih=>
  intro tm w h1 h2 h3 z t fa s
  have nS: ∀ j,(fl.map (·.i)).contains j=false->j∉U9 S:=fun j d hm=>by
   have ⟨e,l,e'⟩:=cF.1 hm;grind
  refine ⟨fun h=> ?_,fun x ox c d0=> ?_⟩
  . obtain ⟨j,r,rfl⟩:=gV hj0;have ⟨_,_,_,_,_,d,u,_⟩:=hJ j (bO ..);exact aV (Bv u (nS j d)) (by simp [h j])
  by_cases hxj:x∈js
  . have ⟨oj,R,ho,hE,K,d,u,hw,hd⟩:=hJ x hxj;rw [ho] at c;cases c
    unfold OW;rw [if_pos (Y6 t hw)];refine ((hE (fCh S)).ap tm w t s).mono fun en w' _ hh=> ?_
    obtain ⟨q',⟨v,rfl,q1,hv,rfl⟩,s'⟩:=hh;refine ⟨((K v q1 hv).1.le (Wi q1 (fCh S))).sl s',?_⟩;apply WA.congr _ (done:=U9 S++(x::done)) (fun y=>by grind);refine (K v q1 hv).2 a b S m _ w' h1 h2 Zq (by rw [Yr];exact z) (t.put (z ▸ hd)) ?_ s';intro e l;have ⟨o2,e0,h0,o,_,_,_,_⟩:=hR.get (h2 e l);have f0:e.1.i≠x:=fun e'=>(nS x d) (by grind)
    have k0:=S6 a e0 ho f0 o u (Ug u) (Ug o) h0;have:=fa e l
    cases hdo:ox.dst<;>simp_all [Vn]
  have b0:x∈fl.map (·.i):=by
   have h4:=dM.1 hon x (by grind);grind [rdy,Ph]
  obtain ⟨e,l,rfl⟩:=cF.1 b0
  refine Gy a hR h1 h2 z t fa s l (fun hm=>Ug d0 (eZ _ hm)) c fun g a0 w' k1 k2 k3 k4 k5 k6=> ?_
  refine ⟨((hL.sub fun y hy=>(Jq.1 hy).1).le (Wi q _)).sl k6,?_⟩;exact WA.mono _ (fun y hy=>(Jq.1 hy).1) (ih _ a0 w' k1 k2 Zi k3 k4 k5 k6)
def XF.two (i j:Nat)(hR:FlR P G f ops done p fl)(h1:StepOk P G f Q ops k pk fl L n done p ds cs q i)(h2:StepOk P G f Q ops k pk fl L n done p ds cs q j)(hL:HL q L:=by exact hlA)
 (hon:Zy4 ops (fl.map (·.i)) done [i,j]=true:=by rfl) (hlen:Nat.ble fl.length n=true:=by rfl):XF P G f Q ops k pk fl L (n+1) done p ds cs q:=
 XF.any [i,j] hR Zf (fun x a=>by
  grind) hL hon hlen
end
end
section
section
variable {P:Program}{G:World}{p:PE}{q r:List HP}{d:Option Tmp}{ty':TypeId}{pos:String}{af:Array Edge}{gd:Option (Nat×Bool)}{x y:Operand}{a b:Option Addr}{c c':Nat}{t t2 e:TypeId}
def Zvn {α:Type}{f:α->Value}{l m:List α}{z:Value}{bytes:Nat}(ht:P.underlying t=some (.slice e))(hi:(P.info? e).map (fun i=>(i.zero,i.size,i.bytes))=some (some z,1,bytes))
 (hx:evp p x=some (.slice a l.length c)) (hy:evp p y=some (.slice b m.length c')) (hq:Le q (Wx.lsH f e a c l::r)) (hs:Sees q b (m.map f)) (h1: ∀ u,(f u).oneCell'=true) (hml:m.length<=l.length):
 Ef P G p q ⟨d,.call ⟨.builtin .copy, [x,y].toArray, [t,t2].toArray⟩,ty',pos,af,gd⟩ fun v q'=>v= .int .i64 m.length/\q'=Wx.lsH f e a c (m++l.drop m.length)::r:=by
 have ⟨I,hI,e1,e2,e3⟩:=info_parts hi;intro tm w ag s;have j0:evl p [x,y]=some [.slice a l.length c,.slice b m.length c']:=by simp [evl,hx,hy]
 have i0:=Qm (d:=d) (ty:=ty') (pos:=pos) (af:=af) (gd:=gd) (bi:= .copy) (ats:= [t,t2].toArray) ag j0;rw [i0]
 have n: ∀ v w',(Builtin.copy_ #[t,t2] ty' #[.slice a l.length c,.slice b m.length c']).run P w= .ok v w'->(builtin .copy [t,t2].toArray ty' ([x,y].toArray.map fun| .const _=>true|_=>false) [.slice a l.length c,.slice b m.length c'].toArray).run P w= .ok (.value v) w':=by
  intro v w' h;simp [builtin,h]
 have c0:Nat.min m.length l.length=m.length:=fG hml;rcases Jj (m:=m.length) (hs G w s) Zf Nat.one_pos with ⟨h0,_⟩|⟨ad,rfl,hc⟩
 . obtain rfl:=aW h0;refine ⟨.int .i64 0,w,_,.inl (n _ _ ?_),?_,rfl,rfl⟩
   . cases b<;>cases a<;>simp [Builtin.copy_,run_underlying ht,Go.sizeOf,typeInfo,hI,Builtin.lenOf,Builtin.firstCells,loadCells,loadCellsFrom,storeCells,goInt]
   simpa using s.le hq
 have b0:=s.le hq;unfold Wx.lsH at b0;have ⟨l0,o⟩:=b0.slH_elim;rcases o with ⟨rfl,rfl,h0,s'⟩|⟨g,k,rfl,e0,k0,o0,a0,s'⟩
 . have f0:m= []:=aW Zq;have g0:l= []:=aW h0;subst f0;subst g0;refine ⟨.int .i64 0,w,_,.inl (n _ _ ?_),?_,rfl,rfl⟩
   . simp [Builtin.copy_,run_underlying ht,Go.sizeOf,typeInfo,hI,Builtin.lenOf,Builtin.firstCells,loadCells,loadCellsFrom,storeCells,goInt]
   simpa using s.le hq
 have hg:w.heap[g]? =some (.cells k e (0,0)):=s'.has (dV _ _ _);have m0:0+(m.map f).length<=k.size:=by grind
 have d0:=run_loadCells_list (P:=P) w ad (m.map f) hc;rw [aI] at d0;have n0:=run_storeCells_at P g 0 e (m.map f) 0 k w hg Zq (fun v hv=>by grind);refine ⟨.int .i64 m.length,w.setRow g (m.map f++k.toList.drop m.length).toArray,_,.inl (n _ _ ?_),?_,rfl,rfl⟩
 . simp [Builtin.copy_,run_underlying ht,Go.sizeOf,typeInfo,hI,e2,Builtin.lenOf,Builtin.firstCells,c0,d0,goInt];simp_all
 have s2:=s'.put (o':= .cells (m.map f++k.toList.drop m.length).toArray e (0,0)) (setRow_heap w g k _ e (0,0) hg) (fun j hj=>setRow_other w g j _ hj) Zf rfl rfl rfl;unfold Wx.lsH;rw [show (m++l.drop m.length).length=l.length by simp;omega];refine s2.le (Yo e0 k0 ?_ ?_ r)
 . grind
 rw [jR] at a0|-;rw [List.take_append,aI,bX (by rw [aI];exact hml),aN,List.map_drop,<-a0,List.drop_take]
end
end
section
end
section
variable {pre:List HP}{fn:FuncId}{args:List Operand}{pos:String}{af:Array Edge}{gd:Option (Nat×Bool)}{vs:List Value}{R:Value->List HP->Prop}
section
variable {P:Program}{G:World}{f:Fc}{Q:Yp}{ops:List Oper}{k:List Item}{pk p:PE}{ds:List Deferred}{cs:List Frame}{q:List HP}{n:Nat}{done:List Nat}{L:Rds}{o:Oper}{v:Value}{fl:List FlE}
def EfA (P:Program)(G:World)(p:PE)(q:List HP)(o:Oper)(R:Value->List HP->Prop):Prop:= ∀ tm w,Agr tm p->St G w q->Ap P (execOp (evA tm) o) w fun e w'=> ∃ q',Ret R e q'/\St G w' q'
def StepA (P:Program)(G:World)(f:Fc)(Q:Yp)(ops:List Oper)(k:List Item)(pk:PE)(fl:List FlE)(L:Rds)(n:Nat)(done:List Nat)(p:PE)(ds:List Deferred)(cs:List Frame)(q:List HP)(j:Nat):Prop:=
 ∃ (oj:Oper) (R:Value->List HP->Prop),ops[j]? =some oj/\(∀ E,EfA P G p (q++E) oj fun v q'=> ∃ q1,R v q1/\q'=q1++E)/\(∀ v q1,R v q1->HL q1 (cut oj L)/\XF P G f Q ops k pk fl (cut oj L) n (j::done) (Jt p oj.dst v) ds cs q1)/\
  (fl.map (·.i)).contains j=false/\rdy ops done j=true/\Wt ops p oj=some true/\dOk f.n oj.dst=true
def XF.anyA (js:List Nat)(hR:FlR P G f ops done p fl)(hj0:js≠ [])(hJ: ∀ j∈js,StepA P G f Q ops k pk fl L n done p ds cs q j)(hL:HL q L)
 (hon:Zy4 ops (fl.map (·.i)) done js=true) (hlen:Nat.ble fl.length n=true):XF P G f Q ops k pk fl L (n+1) done p ds cs q:=by
 intro a b S m
 induction m generalizing S with
 |zero=>
  intro tm w h1 h2 h3 z t fa s;exfalso
  have j0:S.length<=fl.length:=by
   have h4:(U9 S).length<=(fl.map (·.i)).length:=by
    refine List.Nodup.length_le_of_subset h1 fun x hx=> ?_
    obtain ⟨e,l,rfl⟩:=cF.1 hx;grind
   simpa [U9] using h4
  simp_all;omega
 |succ m ih=>
  intro tm w h1 h2 h3 z t fa s
  have nS: ∀ j,(fl.map (·.i)).contains j=false->j∉U9 S:=fun j d hm=>by
   have ⟨e,l,e'⟩:=cF.1 hm;grind
  refine ⟨fun h=> ?_,fun x ox c d0=> ?_⟩
  . obtain ⟨j,r,rfl⟩:=gV hj0;have ⟨_,_,_,_,_,d,u,_⟩:=hJ j (bO ..);exact aV (Bv u (nS j d)) (by simp [h j])
  by_cases hxj:x∈js
  . have ⟨oj,R,ho,hE,K,d,u,hw,hd⟩:=hJ x hxj;rw [ho] at c;cases c
    unfold OW;rw [if_pos (Y6 t hw)];refine (hE (fCh S) tm w t s).mono fun en w' _ hh=> ?_
    obtain ⟨q',⟨v,rfl,q1,hv,rfl⟩,s'⟩:=hh;refine ⟨((K v q1 hv).1.le (Wi q1 (fCh S))).sl s',?_⟩;apply WA.congr _ (done:=U9 S++(x::done)) (fun y=>by grind);refine (K v q1 hv).2 a b S m _ w' h1 h2 Zq (by rw [Yr];exact z) (t.put (z ▸ hd)) ?_ s';intro e l;have ⟨o2,e0,h0,o,_,_,_,_⟩:=hR.get (h2 e l);have f0:e.1.i≠x:=fun e'=>(nS x d) (by grind)
    have k0:=S6 a e0 ho f0 o u (Ug u) (Ug o) h0;have:=fa e l
    cases hdo:ox.dst<;>simp_all [Vn]
  have b0:x∈fl.map (·.i):=by
   have h4:=dM.1 hon x (by grind);grind [rdy,Ph]
  obtain ⟨e,l,rfl⟩:=cF.1 b0
  refine Gy a hR h1 h2 z t fa s l (fun hm=>Ug d0 (eZ _ hm)) c fun g a0 w' k1 k2 k3 k4 k5 k6=> ?_
  refine ⟨((hL.sub fun y hy=>(Jq.1 hy).1).le (Wi q _)).sl k6,?_⟩;exact WA.mono _ (fun y hy=>(Jq.1 hy).1) (ih _ a0 w' k1 k2 Zi k3 k4 k5 k6)
def EfA.callF {d}{ats}{ty}{F}
 (hcf: ∀ args w,(callFunc fn args).run P w= .ok (.enter fn args) w) (hc:CallF P G fn vs pre (Ret R)) (hv:evl p args=some vs) (hq:Le q (pre++F)) (E:List HP):
 EfA P G p (q++E) ⟨d,.call ⟨.value (.func fn),args.toArray,ats⟩,ty,pos,af,gd⟩ fun v q'=> ∃ q1,(∃ q0,R v q0/\q1=q0++F)/\q'=q1++E:=by
 intro tm w k s;rw [G8 k (rfl) hv];have f:St G w (pre++(F++E)):=by rw [<-aO];exact s.le (hq.liftR E)
 refine ((Yh hcf (by simpa using hc)) _ w f).mono fun e l _ h=> ?_
 have ⟨q',⟨v,i,j⟩,g⟩:=h;exact ⟨q'++F++E,⟨v,i,q'++F,⟨q',j,rfl⟩,rfl⟩,by rw [aO];exact g⟩
def Bi (i:Nat){d}{ats}{ty}
 (hR:FlR P G f ops done p fl) (hq:Le q pre) (hc:CallF P G fn vs pre (Ret R))
 (K: ∀ v q',R v q'->HL q' (cut ⟨some d,.call ⟨.value (.func fn),args.toArray,ats⟩,ty,pos,af,gd⟩ L)/\XF P G f Q ops k pk fl (cut ⟨some d,.call ⟨.value (.func fn),args.toArray,ats⟩,ty,pos,af,gd⟩ L) n (i::done) ((d,v)::p) ds cs q')
 (ho:ops[i]? =some ⟨some d,.call ⟨.value (.func fn),args.toArray,ats⟩,ty,pos,af,gd⟩:=by rfl) (hv:evl p args=some vs:=by rfl) (hL:HL q L:=by exact hlA)
 (hon:Zy4 ops (fl.map (·.i)) done [i]=true:=by rfl) (hif:(fl.map (·.i)).contains i=false:=by rfl) (hr:rdy ops done i=true:=by rfl) (hw:Wt ops p ⟨some d,.call ⟨.value (.func fn),args.toArray,ats⟩,ty,pos,af,gd⟩=some true:=by rfl)
 (hd:Nat.blt d f.n=true:=by rfl) (hlen:Nat.ble fl.length n=true:=by rfl) (hcf: ∀ args w,(callFunc fn args).run P w= .ok (.enter fn args) w:=by intro _ _;exact rfl):XF P G f Q ops k pk fl L (n+1) done p ds cs q:=
 XF.anyA [i] hR Zf (fun x a=>by
  rw [bE.1 a];exact ⟨_,_,ho,EfA.callF hcf hc hv (hq.trans (J1 pre)),fun v b ⟨q0,h,e⟩=>by rw [cA] at e;subst e;exact K v _ h,hif,hr,hw,hd⟩) hL hon hlen
end
end
section
end
section
variable {r:List HP}{z:Value}{n b o sz:Nat}{l vs:List Value}
section
variable {P:Program}{G:World}{f:Fc}{Q:Yp}{ops:List Oper}{k:List Item}{p:PE}{ds:List Deferred}{cs:List Frame}{q:List HP}{rest:List Oper}{v:Value}{T:Tr}
variable {d:Tmp}{t ty:TypeId}{pos:String}{af:Array Edge}{gd:Option (Nat×Bool)}{x y:Operand}{A:Addr}
def Tr.lf (T:Tr)(t:TypeId):Bool:=match T.get t with|some x=> !x.agg|none=>false
def Tr.ag (T:Tr)(t:TypeId):Option Nat:=match T.get t with|some x=>bif x.agg then some x.sz else none|none=>none
def Tr.s1 (T:Tr)(t:TypeId):Bool:=match T.get t with|some x=>Nat.beq x.sz 1|none=>false
def Iy (hT:T.ok P id)(h:T.lf t=true)(w:World):(isAgg t).run P w= .ok false w:=by
 unfold Tr.lf at h;split at h
 . rename_i x a;have:=(Ze hT a).2.1 w;grind
 cases h
def Hr (hT:T.ok P id)(h:T.ag t=some n):(∀ w,(isAgg t).run P w= .ok true w)/\ ∀ w,(Go.sizeOf t).run P w= .ok n w:=by
 unfold Tr.ag at h;split at h
 . rename_i x a;have c:=(Ze hT a).2.1;have b:=(Ze hT a).2.2.1;grind
 cases h
def Zka (hT:T.ok P id)(h:T.s1 t=true)(w:World):(Go.sizeOf t).run P w= .ok 1 w:=by
 unfold Tr.s1 at h;split at h
 . rename_i x a;have:=(Ze hT a).2.2.1 w;simp_all
 cases h
def XO.al (hz: ∀ w,(zeroValue t).run P w= .ok z w)(K: ∀ n,XO P G f Q ops.toArray k rest ((d,.pointer (some ⟨n,0,none⟩))::p) ds cs (pto n (.cells z.cells t (0,0))::q))
 (hw:Wt ops p ⟨some d,.alloc t,ty,pos,af,gd⟩=some true:=by rfl) (hd:Nat.blt d f.n=true:=by rfl):XO P G f Q ops.toArray k (⟨some d,.alloc t,ty,pos,af,gd⟩::rest) p ds cs q:=
 .ef (Ef.alloc hz) (by rintro _ _ ⟨n,rfl,rfl⟩;exact K n) hw hd
abbrev iR:=@XO.al
def Gx (K: ∀ n,XO P G f Q ops.toArray k rest ((d,.pointer (some ⟨n,0,none⟩))::p) ds cs (pto n (.cells v.cells t (0,0))::q))(hx:evp p x=some v:=by rfl)
 (hw:Wt ops p ⟨some d,.box t x,ty,pos,af,gd⟩=some true:=by rfl) (hd:Nat.blt d f.n=true:=by rfl):XO P G f Q ops.toArray k (⟨some d,.box t x,ty,pos,af,gd⟩::rest) p ds cs q:=
 .ef (Ef.box hx) (by rintro _ _ ⟨n,rfl,rfl⟩;exact K n) hw hd
def XO.st {t'}(hT:T.ok P id)(hs:T.s1 t=true)(K:XO P G f Q ops.toArray k rest p ds cs (pto b (.cells (Ku l o v).toArray t' (0,0))::r))
 (hx:evp p x=some (.pointer (some ⟨b,o,none⟩)):=by rfl) (hy:evp p y=some v:=by rfl)
 (hv:v.cells= #[v]:=by rfl) (h1:v.oneCell'=true:=by rfl) (hq:Le q (pto b (.cells l.toArray t' (0,0))::r):=by exact Zj) (ho:Nat.blt o l.length=true:=by rfl)
 (hw:Wt ops p ⟨none,.store t x y,ty,pos,af,gd⟩=some true:=by rfl):XO P G f Q ops.toArray k (⟨none,.store t x y,ty,pos,af,gd⟩::rest) p ds cs q:=
 .ef0 (Ef.st (Zka hT hs) hx hy hv h1 hq ho) (by rintro _ _ ⟨rfl,rfl⟩;exact K) hw
def XO.stA {t'}(hT:T.ok P id)(hs:T.ag t=some sz)(K:XO P G f Q ops.toArray k rest p ds cs (pto b (.cells (Uw l o vs).toArray t' (0,0))::r))
 (hx:evp p x=some (.pointer (some ⟨b,o,none⟩)):=by rfl) (hy:evp p y=some (.agg vs.toArray):=by rfl)
 (hl:vs.length=sz:=by rfl) (h1:vs.all (·.oneCell')=true:=by rfl) (hq:Le q (pto b (.cells l.toArray t' (0,0))::r):=by exact Zj) (ho:Nat.ble (o+sz) l.length=true:=by rfl)
 (hw:Wt ops p ⟨none,.store t x y,ty,pos,af,gd⟩=some true:=by rfl):XO P G f Q ops.toArray k (⟨none,.store t x y,ty,pos,af,gd⟩::rest) p ds cs q:=
 .ef0 (Ef.stA (Hr hT hs).2 hx hy hl h1 hq ho) (by rintro _ _ ⟨rfl,rfl⟩;exact K) hw
variable {pk:PE}{L:Rds}{done:List Nat}
def XD.al (i:Nat)(hz: ∀ w,(zeroValue t).run P w= .ok z w)(K: ∀ n',XD P G f Q ops k pk (cut ⟨some d,.alloc t,ty,pos,af,gd⟩ L) n (i::done) ((d,.pointer (some ⟨n',0,none⟩))::p) ds cs (pto n' (.cells z.cells t (0,0))::q))
 (ho:ops[i]? =some ⟨some d,.alloc t,ty,pos,af,gd⟩:=by rfl) (hh: ∀ n',HL (pto n' (.cells z.cells t (0,0))::q) (cut ⟨some d,.alloc t,ty,pos,af,gd⟩ L):=by intro _;exact hlA)
 (h1:Ut ops done i=true:=by rfl) (hr:rdy ops done i=true:=by rfl) (hw:Wt ops p ⟨some d,.alloc t,ty,pos,af,gd⟩=some true:=by rfl) (hd:Nat.blt d f.n=true:=by rfl):XD P G f Q ops k pk L (n+1) done p ds cs q:=
 .ef i ho (Ef.alloc hz) (by grind) h1 hr hw hd
def XD.bx (i:Nat)(K: ∀ n',XD P G f Q ops k pk (cut ⟨some d,.box t x,ty,pos,af,gd⟩ L) n (i::done) ((d,.pointer (some ⟨n',0,none⟩))::p) ds cs (pto n' (.cells v.cells t (0,0))::q))
 (ho:ops[i]? =some ⟨some d,.box t x,ty,pos,af,gd⟩:=by rfl) (hx:evp p x=some v:=by rfl) (hh: ∀ n',HL (pto n' (.cells v.cells t (0,0))::q) (cut ⟨some d,.box t x,ty,pos,af,gd⟩ L):=by intro _;exact hlA)
 (h1:Ut ops done i=true:=by rfl) (hr:rdy ops done i=true:=by rfl) (hw:Wt ops p ⟨some d,.box t x,ty,pos,af,gd⟩=some true:=by rfl) (hd:Nat.blt d f.n=true:=by rfl):XD P G f Q ops k pk L (n+1) done p ds cs q:=
 .ef i ho (Ef.box hx) (by grind) h1 hr hw hd
def XD.st (i:Nat){t'}(hT:T.ok P id)(hs:T.s1 t=true)(K:XD P G f Q ops k pk (cut ⟨none,.store t x y,ty,pos,af,gd⟩ L) n (i::done) p ds cs (pto b (.cells (Ku l o v).toArray t' (0,0))::r))
 (ho:ops[i]? =some ⟨none,.store t x y,ty,pos,af,gd⟩:=by rfl) (hx:evp p x=some (.pointer (some ⟨b,o,none⟩)):=by rfl) (hy:evp p y=some v:=by rfl)
 (hv:v.cells= #[v]:=by rfl) (h1:v.oneCell'=true:=by rfl) (hq:Le q (pto b (.cells l.toArray t' (0,0))::r):=by exact Zj) (ho2:Nat.blt o l.length=true:=by rfl)
 (hh:HL (pto b (.cells (Ku l o v).toArray t' (0,0))::r) (cut ⟨none,.store t x y,ty,pos,af,gd⟩ L):=by exact hlA)
 (h2:Ut ops done i=true:=by rfl) (hr:rdy ops done i=true:=by rfl) (hw:Wt ops p ⟨none,.store t x y,ty,pos,af,gd⟩=some true:=by rfl):XD P G f Q ops k pk L (n+1) done p ds cs q:=
 .ef0 i ho (Ef.st (Zka hT hs) hx hy hv h1 hq ho2) (by grind) h2 hr hw
def XD.stA (i:Nat){t'}(hT:T.ok P id)(hs:T.ag t=some sz)(K:XD P G f Q ops k pk (cut ⟨none,.store t x y,ty,pos,af,gd⟩ L) n (i::done) p ds cs (pto b (.cells (Uw l o vs).toArray t' (0,0))::r))
 (ho:ops[i]? =some ⟨none,.store t x y,ty,pos,af,gd⟩:=by rfl) (hx:evp p x=some (.pointer (some ⟨b,o,none⟩)):=by rfl) (hy:evp p y=some (.agg vs.toArray):=by rfl)
 (hl:vs.length=sz:=by rfl) (h1:vs.all (·.oneCell')=true:=by rfl) (hq:Le q (pto b (.cells l.toArray t' (0,0))::r):=by exact Zj) (ho2:Nat.ble (o+sz) l.length=true:=by rfl)
 (hh:HL (pto b (.cells (Uw l o vs).toArray t' (0,0))::r) (cut ⟨none,.store t x y,ty,pos,af,gd⟩ L):=by exact hlA)
 (h2:Ut ops done i=true:=by rfl) (hr:rdy ops done i=true:=by rfl) (hw:Wt ops p ⟨none,.store t x y,ty,pos,af,gd⟩=some true:=by rfl):XD P G f Q ops k pk L (n+1) done p ds cs q:=
 .ef0 i ho (Ef.stA (Hr hT hs).2 hx hy hl h1 hq ho2) (by grind) h2 hr hw
def kw {b c:Bool}(h:b=c:=by first|rfl|exact dB Zq|exact bM Zq|(rw [fH];omega)|(rw [dD];omega)|(rw [jI];omega)|(rw [lN];omega)|(simp;done)|(simp;omega)|(rw [fH];assumption)|(rw [dD];assumption)):b=c:=h
section
variable {b:Bool}{todo:List Item}{l:List Oper}
def X.kt (s:Nat)(K:X P G f Q todo ((s,.bool true)::p) ds cs q)(h:lkp p s=some (.bool b):=by rfl)(e:b=true:=by exact kw):X P G f Q todo p ds cs q:= .know s _ h (aQ Value.bool e) K
abbrev iJ:=@X.kt
def Wc (s:Nat)(K:X P G f Q todo ((s,.bool false)::p) ds cs q)(h:lkp p s=some (.bool b):=by rfl)(e:b=false:=by exact kw):X P G f Q todo p ds cs q:= .know s _ h (aQ Value.bool e) K
def XO.kt (s:Nat)(K:XO P G f Q ops.toArray k l ((s,.bool true)::p) ds cs q)(h:lkp p s=some (.bool b):=by rfl)(e:b=true:=by exact kw):XO P G f Q ops.toArray k l p ds cs q:= .know s _ h (aQ Value.bool e) K
def Ew (s:Nat)(K:XO P G f Q ops.toArray k l ((s,.bool false)::p) ds cs q)(h:lkp p s=some (.bool b):=by rfl)(e:b=false:=by exact kw):XO P G f Q ops.toArray k l p ds cs q:= .know s _ h (aQ Value.bool e) K
def XD.kt (s:Nat)(K:XD P G f Q ops k pk L n done ((s,.bool true)::p) ds cs q)(h:lkp p s=some (.bool b):=by rfl)(e:b=true:=by exact kw):XD P G f Q ops k pk L n done p ds cs q:= .know s _ h (aQ Value.bool e) K
def XD.kf (s:Nat)(K:XD P G f Q ops k pk L n done ((s,.bool false)::p) ds cs q)(h:lkp p s=some (.bool b):=by rfl)(e:b=false:=by exact kw):XD P G f Q ops k pk L n done p ds cs q:= .know s _ h (aQ Value.bool e) K
end
end
end
end Wx
