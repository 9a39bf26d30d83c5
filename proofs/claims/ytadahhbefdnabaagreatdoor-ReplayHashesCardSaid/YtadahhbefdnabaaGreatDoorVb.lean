/- Contracts. -/
import Derived.Test.YtadahhbefdnabaaGreatDoorVa
import Derived.Recover
import Derived.ChangeArms
import Derived.OpenShut
import Derived.DataReads
import Derived.Laws.IdiomStrings
import Derived.Laws.MakeOwn
import Derived.WideShapes
import Derived.ChangeKeysEq
import Derived.MapKept
set_option maxHeartbeats 16000000
set_option linter.all false
namespace Wx
open Go Go.RowKit
section
variable {P:Program}{G:World}{q pre:List HP}{v:Value}{vs:List Value}{ds:List Deferred}{u:FrameMode}{p:PE}{fd:Func}
def CallD (P:Program)(G:World)(fn:FuncId)(vs:List Value)(u:FrameMode)(pre:List HP)(R:Ending->FrameMode->List HP->Prop):Prop:=
 ∀ (F:List HP) w,St G w (pre++F)->CallsD P fn vs.toArray u w fun e u' w'=>e≠ .outgrown/\ ∃ q,R e u' q/\St G w' (q++F)
def DQ (P:Program)(G:World)(fd:Func)(c₀:Frame)(cs₀:List Frame)(R:Ending->FrameMode->List HP->Prop)(F:List HP):Yw:=fun o p ds cs q=>
 ds= []/\ ∃ u',cs= { c₀ with mode:=u' } ::cs₀/\match o with
 | .fall| .jump .ret=> ∃ v q',(∀ tm w,Agr tm p->St G w q->(results fd tm).run P w= .ok v w)/\R (.returned v) u' q'/\Le q (q'++F)
 | .panic ch=> ∃ q',R (.panicked ch) u' q'/\Le q (q'++F)
 |_=>False
section
variable {fn:FuncId}{R:Ub}{F:List HP}
theorem Lv.defer {fv:Fn}{cap args:Array Value}{f:FuncId}{F₀:List HP}{R₀:Ending->FrameMode->List HP->Prop}(hu:u≠ .run)
 (hi: ∀ w,(invoke (.fn fv cap) args).run P w= .ok (.enter f vs.toArray) w) (hc:CallD P G f vs u pre R₀) (hq:Le q (pre++F₀))  (hf:P.funcs[fn]? =some fd)
 (hr: ∀ v u' q',R₀ (.returned v) u' q'->Lv P G fn R F ds (settle u') p (q'++F₀)) (hp: ∀ ch u' q',R₀ (.panicked ch) u' q'->Lv P G fn R F ds (raised u' ch) p (q'++F₀)):
 Lv P G fn R F ({ target:= .fn fv cap,args:=args } ::ds) u p q:=by
 intro tm w fr cs h1 h2 h3 h4 h5 ag s;have o:=step_defer (P:=P) (cs:=cs) (w:=w) (fr:=fr) (d:= { target:= .fn fv cap,args:=args }) (ds:=ds) (h4 ▸ hu) h3 rfl (hi w);obtain ⟨e,u',w',a0,⟨x,q',hR,r⟩,g,hk,t⟩:=hc F₀ w (s.le hq) { fr with defers:=ds } cs h4
 cases e with
 |returned v=>
  have m:=step_going_returned (c:= { { fr with defers:=ds } with mode:=u' }) (cs:=cs) hk t;obtain ⟨z,h,n,i,l,b,a,j,k,y⟩:=hr v u' q' hR tm w' { { { fr with defers:=ds } with mode:=u' } with mode:=settle u' } cs h1 h2 rfl rfl h5 ag r;exact ⟨z,h,n,i,l,b,a,(Steps.head o (Steps.trans g (.one m))).trans j,k,y⟩
 |panicked ch=>
  have m:=step_going_panicked (c:= { { fr with defers:=ds } with mode:=u' }) (cs:=cs) t;obtain ⟨z,h,n,i,l,b,a,j,k,y⟩:=hp ch u' q' hR tm w' { { { fr with defers:=ds } with mode:=u' } with mode:=raised u' ch } cs h1 h2 rfl rfl h5 ag r;exact ⟨z,h,n,i,l,b,a,(Steps.head o (Steps.trans g (.one m))).trans j,k,y⟩
 |outgrown=>exact aV rfl x
theorem CallD.of {c:Code}{n:Nat}{R:Ending->FrameMode->List HP->Prop}(hf:P.funcs[fn]? =some fd)(hn:fd.ntmps=n)(hb:fd.body=some c)
 (h: ∀ F c₀ cs₀,c₀.mode=u->X P G ⟨fn,n,.deferred,none⟩ (DQ P G fd c₀ cs₀ R F) [.code c] (Se 0 vs) [] (c₀::cs₀) (pre++F)) (hl:Nat.ble vs.length n=true:=by rfl):CallD P G fn vs u pre R:=by
 intro F w s c₀ cs₀ x;subst hn;have z:vs.length<=fd.ntmps:=by simpa using hl
 obtain ⟨o,b,p',a0,b0,e,q',⟨rfl,i,rfl,p⟩,y,t,j,a⟩:=h F c₀ cs₀ x (vs.toArray++Array.replicate (fd.ntmps - vs.length) undef) w (by simp;omega) (Zqv vs _) s
 have f:Frame.enter P fn vs.toArray .deferred=Fc.fr ⟨fn,fd.ntmps,.deferred,none⟩ (vs.toArray++Array.replicate (fd.ntmps - vs.length) undef) [] [.code c]:=by
  simp [Frame.enter,Fc.fr,hf,hb]
 rw [<-f] at a
 cases o with
 |fall=>
  obtain ⟨v,d,q,m,l⟩:=p
  have r:step P (lone (Fc.fr ⟨fn,fd.ntmps,.deferred,none⟩ b [] []) ({ c₀ with mode:=i } ::cs₀) e)= .next (lone { Fc.fr ⟨fn,fd.ntmps,.deferred,none⟩ b [] [] with mode:= .returning } ({ c₀ with mode:=i } ::cs₀) e):=
   step_lone_go (by simp [stepG,stepG.exec,Fc.fr])
  exact ⟨.returned v,i,e,_,⟨by simp,d,m,j.le l⟩,a.trans (.one r),rfl,rfl,rfl,fd,hf,q b e t j⟩
 |jump c'=>
  obtain ⟨k,g,a⟩:=a
  cases c' with
  |ret=>
   obtain ⟨v,d,q,m,l⟩:=p
   have r:step P (lone (Fc.fr ⟨fn,fd.ntmps,.deferred,none⟩ b [] (.code .ret::k)) ({ c₀ with mode:=i } ::cs₀) e)= .next (lone { Fc.fr ⟨fn,fd.ntmps,.deferred,none⟩ b [] (.code .ret::k) with mode:= .returning } ({ c₀ with mode:=i } ::cs₀) e):=
    step_lone_go (by simp [stepG,stepG.exec,Fc.fr])
   exact ⟨.returned v,i,e,_,⟨by simp,d,m,j.le l⟩,a.trans (.one r),rfl,rfl,rfl,fd,hf,q b e t j⟩
  |_=>exact p.elim
 |panic ch=>
  obtain ⟨k,a⟩:=a;obtain ⟨d,m,l⟩:=p;exact ⟨.panicked ch,i,e,_,⟨by simp,d,m,j.le l⟩,a,rfl,rfl,rfl,fd,hf⟩
end
section
variable {f:Fc}{Q:Yw}{ops:List Oper}{k:List Item}{cs:List Frame}{rest:List Oper}{d:Option Tmp}{ty:TypeId}{pos:String}{af:Array Edge}{gd:Option (Nat×Bool)}{x:Operand}
theorem Pn.panic {t:TypeId}(hx:evp p x=some (.iface t v)):Pn P G p q ⟨d,.panic x,ty,pos,af,gd⟩ (.iface t v):=fun tm w a s=>
 ⟨w,by simp [execOp,Zp a hx,Instr.panic,goPanic],s⟩
theorem XO.recover_ {ats:Array TypeId}{cs':List Frame}(hk:f.kind= .deferred)(hro:f.round=none)(hrec:(recoverD cs).getD (.nilIface,cs)=(v,cs'))(hd:dOk f.n d=true)
 (x:XO P G f Q ops.toArray k rest (Qg p d v) ds cs' q) (hw:Wt ops p ⟨d,.call ⟨.builtin .recover,#[],ats⟩,ty,pos,af,gd⟩=some true:=by rfl):
 XO P G f Q ops.toArray k (⟨d,.call ⟨.builtin .recover,#[],ats⟩,ty,pos,af,gd⟩::rest) p ds cs q:=by
 intro is h tm w n a s
 cases is with
 |nil=>simp at h
 |cons i r=>
  obtain ⟨u,m⟩:=fW h;obtain ⟨o',l,p',o,j,z,q',hQ,hn,ha,hs,t⟩:=x r m (Wg tm d v) w (by rw [Yg];exact n) (a.put (n ▸ hd)) s;refine ⟨o',l,p',o,j,z,q',hQ,hn,ha,hs,t.head (.one (step_lone_go ?_))⟩;rw [Qq f tm ds cs w _ i r k u (Yt a hw) (by intro _ h;cases h)];have e:=V7 f tm ds _ i r k v u;have b:tryRecover (f.fr tm ds (.inRegion ops.toArray (i::r)::k)) cs=recoverD cs:=tryRecover_deferred hk cs;have c:(f.fr tm ds (.inRegion ops.toArray (i::r)::k)).roundOf=none:=hro;have g:(execOp (evA tm) ⟨d,.call ⟨.builtin .recover,#[],ats⟩,ty,pos,af,gd⟩).run P w= .ok .recover w:=by simp [execOp,resolve,invoke,builtin]
  simp only at e;rw [<-e]
  cases hc:recoverD cs with
  |none=>
   rw [hc] at hrec b;simp at hrec;obtain ⟨rfl,rfl⟩:=hrec;simp [stepG.apply,g,b,c]
  |some y=>
   rw [hc] at hrec b;simp at hrec;subst hrec;simp [stepG.apply,g,b,c]
theorem XO.defer_ {fo:Operand}{args:List Operand}{ats:Array TypeId}{fv:Value}{D:Deferred}(hro:f.round=none)(hf:evp p fo=some fv)(hv:evl p args=some vs)(hD: ∀ w,(Deferred.ofValue fv vs.toArray).run P w= .ok D w)(hd:dOk f.n d=true)
 (x:XO P G f Q ops.toArray k rest (Qg p d undef) (D::ds) cs q) (hw:Wt ops p ⟨d,.defer ⟨.value fo,args.toArray,ats⟩,ty,pos,af,gd⟩=some true:=by rfl):
 XO P G f Q ops.toArray k (⟨d,.defer ⟨.value fo,args.toArray,ats⟩,ty,pos,af,gd⟩::rest) p ds cs q:=by
 intro y h tm w n a s
 cases y with
 |nil=>simp at h
 |cons i r=>
  obtain ⟨o,j⟩:=fW h;obtain ⟨v,e,p',l,c,u,q',hQ,hn,ha,z,m⟩:=x r j (Wg tm d undef) w (by rw [Yg];exact n) (a.put (n ▸ hd)) s;refine ⟨v,e,p',l,c,u,q',hQ,hn,ha,z,m.head (.one (step_lone_go ?_))⟩;have b:=V7 f tm (D::ds) _ i r k undef o;simp only at b;rw [<-b];have h1:=Zp a hf;have h2:args.toArray.map (evA tm)=vs.toArray:=by rw [<-Nb a hv];simp
  have t:(f.fr tm ds (.inRegion ops.toArray (i::r)::k)).eval=evA tm:=funext fun x=>Kc ..
  simp only [Fc.fr,hro] at t;have g:=Yt a hw;simp only [stepG,stepG.exec,stepG.oper,Frame.oper?,Fc.fr,o,g,t,iL,Option.getD_some,if_true,hro];simp [stepG.apply,execOp,resolve,h1,h2,hD,Fc.fr]
end
end
section
def old (G₀:World):HP:=⟨fun M _=>Hle (wh G₀) M,fun h _ p=>fun b o e=>h b o (p b o e)⟩
theorem St.old (G:World):St G G [Wx.old G]:=
 ⟨.refl _ _,wh G,fun _=>none,.refl _,fun _ _ e=>by simp at e,fun _ _ e=>by simp at e,fun _=> .inr rfl,.refl _,
  fun _=>none,fun _=>none,fun _=> .inl rfl,fun _ _ e=>by simp at e,fun _ _ e=>by simp at e,.refl _,trivial⟩
structure SlV (α:Type) where
 a:Option Addr
 c:Nat
 l:List α
def SeesW (w:World)(a:Option Addr)(vs:List Value):Prop:= ∀ i u,vs[i]? =some u-> ∃ b o,a=some ⟨b,o,none⟩/\w.cell? ⟨b,o+i,none⟩=some u
theorem SeesW.sees {G₀:World}{a:Option Addr}{vs:List Value}(h:SeesW G₀ a vs)(q:List HP):Sees (Wx.old G₀::q) a vs:=by
 intro G w s i u m;obtain ⟨b,o,r,f⟩:=h i u m;refine ⟨b,o,r,?_⟩;obtain ⟨_,M,h,t,_,_,_,_,k,j,_,_,_,p,_⟩:=s;have p':Hle (wh G₀) M:=p
 have g: ∃ d,G₀.heap[b]? =some d/\(match d with| .cells c _ _=>c[o+i]? =some u|_=>False):=by
  simp only [World.cell?] at f;split at f
  . rename_i c e z n;exact ⟨_,n,by simpa using f⟩
  cases f
 obtain ⟨d,x,l⟩:=g;have v:w.heap[b]? =some d:=t _ _ (p' _ _ x)
 cases d with
 |cells c e z=>simp [World.cell?,v];exact l
 |_=>exact l.elim
theorem Tm {α β:Type}{f:α->List β}{sz:Nat}(hf: ∀ x,(f x).length=sz): ∀ (l:List α) (j k:Nat) (x:α),k<sz->l[j]? =some x->(l.flatMap f)[j*sz+k]? =(f x)[k]? :=by
 intro l
 induction l with
 |nil=>intro j k x _ h;simp at h
 |cons y r ih=>
  intro j k x a h;rw [bZ]
  cases j with
  |zero=>simp at h;subst h;rw [dB (by rw [hf];omega)];simp
  |succ j=>
   have e:(j+1)*sz+k=j*sz+k+sz:=by rw [eG];omega
   rw [dG (by rw [hf];omega),hf,e,fO];exact ih j k x a (by simpa using h)
end
section
variable {P:Program}{G w:World}{p:PE}{q:List HP}{sz bk o n bytes:Nat}{a b:ByteArray}{v z:Value}{j:Int}{d:Option Tmp}{pos:String}{af:Array Edge}{gd:Option (Nat×Bool)}{x y:Operand}{us:List Value}
section
variable {α:Type}{fr:Fc}{Q:Yw}{k:List Item}{ds:List Deferred}{cs:List Frame}{q0 r:List HP}{ops lo:List Oper}{f:α->List Value}{ty:Nat}{a b:Option Addr}{c c':Nat}{l m:List α}
def rsH (f:α->List Value)(sz ty:Nat)(a:Option Addr)(c:Nat)(l:List α):HP:=slH a c ty sz l.length (l.flatMap f)
theorem Zx (hf: ∀ x,(f x).length=sz)(l:List α):(l.flatMap f).length=l.length*sz:=by
 induction l with
 |nil=>simp
 |cons x r ih=>rw [bZ,aA,hf,ih,aJ,eG];omega
theorem Qu (hf: ∀ x,(f x).length=sz)(l:List α)(i:Nat):(l.flatMap f).take (i*sz)=(l.take i).flatMap f:=by
 induction l generalizing i with
 |nil=>simp
 |cons x r ih=>
  cases i with
  |zero=>simp
  |succ i=>
   rw [bZ,List.take_succ_cons,bZ,<-ih,eG,lI,kW,List.take_append,hf,bQ (by rw [hf];omega)];congr 2;omega
theorem Nx (hf: ∀ x,(f x).length=sz)(l:List α)(i:Nat):(l.flatMap f).drop (i*sz)=(l.drop i).flatMap f:=by
 induction l generalizing i with
 |nil=>simp
 |cons x r ih=>
  cases i with
  |zero=>simp
  |succ i=>
   rw [bZ,List.drop_succ_cons,<-ih,eG,lI,kW,List.drop_append,hf,List.drop_of_length_le (by rw [hf];omega)];simp
theorem Xe (hf: ∀ x,(f x).length=sz)(l:List α)(n k:Nat)(u:α)(v:Value)(hk:k<sz)(hn:n<l.length)(hu:(f l[n]).set k v=f u):(l.flatMap f).set (n*sz+k) v=(l.set n u).flatMap f:=by
 induction l generalizing n with
 |nil=>simp at hn
 |cons x r ih=>
  cases n with
  |zero=>
   rw [bZ,List.set_cons_zero,bZ,Nat.zero_mul,dO,List.set_append_left _ _ (by rw [hf];exact hk)];simp at hu;rw [hu]
  |succ n=>
   rw [bZ,List.set_cons_succ,bZ,List.set_append_right _ _ (by rw [hf,eG];omega),hf,<-ih n (by simpa using hn) (by simpa using hu)];congr 2;rw [eG];omega
theorem Sees.rsH (q:List HP):Sees (Wx.rsH f sz ty a c l::q) a (l.flatMap f):=Sees.slH q
abbrev cI:=@Sees.rsH
theorem Zc (f:α->List Value)(sz ty:Nat)(q:List HP):Le q (Wx.rsH f sz ty none 0 []::q):=Hq _ _ _
theorem St.rsAddr (s:St G w (Wx.rsH f sz ty a c l::q))(h:0<l.length): ∃ g,a=some ⟨g,0,none⟩:=by
 obtain ⟨j,d|⟨g,e,b,_⟩⟩:=s.slH_elim
 . obtain ⟨_,_,i,_⟩:=d;omega
 exact ⟨g,b⟩
theorem nth_lt {l:List Value}{k:Nat}(h:nth l k=some v):k<l.length:=by
 rw [Ur] at h;exact (cA.1 h).1
theorem Cl.el {k:Nat}(h:Sees q0 (some ⟨bk,o,none⟩) (l.flatMap f))(hq:Le q q0)(hf: ∀ x,(f x).length=sz)(hn:n<l.length)(hj:j=n)(hk:nth (f l[n]) k=some v):Cl q ⟨bk,o+j.toNat*sz+k,none⟩ v:=by
 subst hj;have a:=nth_lt hk;rw [cT,fA];refine (h.le hq).cl ?_;rw [Tm hf l n k l[n] (by rw [hf] at a;exact a) (by simp [hn]),<-Ur];exact hk
theorem Cl.elp {k:Nat}(h:Sees q0 (some ⟨bk,o,none⟩) (l.flatMap f))(hq:Le q q0)(hf: ∀ x,(f x).length=sz)(h0:0<n)(hn:n<l.length)(hk:nth (f (l[n - 1]'(Nat.lt_of_le_of_lt (Nat.sub_le _ _) hn))) k=some v):Cl q ⟨bk,o+((n:Int) - 1).toNat*sz+k,none⟩ v:=
 Cl.el h hq hf _ (by omega) hk
theorem Cl.elz {k:Nat}(h:Sees q0 (some ⟨bk,o,none⟩) (l.flatMap f))(hq:Le q q0)(hf: ∀ x,(f x).length=sz)(h0:0<l.length)(hk:nth (f (l[l.length - 1]'(Nat.sub_lt h0 Nat.one_pos))) k=some v):Cl q ⟨bk,o+((l.length:Int) - 1).toNat*sz+k,none⟩ v:=
 Cl.el h hq hf _ (by omega) hk
theorem Cl.e1z {g:α->Value}(h:Sees q0 (some ⟨bk,o,none⟩) (l.map g))(hq:Le q q0)(h0:0<l.length):Cl q ⟨bk,o+((l.length:Int) - 1).toNat*1,none⟩ (g (l[l.length - 1]'(Nat.sub_lt h0 Nat.one_pos))):=(h.le hq).at (by omega) _
theorem Cl.e1 {g:α->Value}(h:Sees q0 (some ⟨bk,o,none⟩) (l.map g))(hq:Le q q0)(hn:n<l.length)(hj:j=n):Cl q ⟨bk,o+j.toNat*1,none⟩ (g l[n]):=(h.le hq).at hj hn
abbrev gP:=@Cl.e1
theorem Cl.e1p {g:α->Value}(h:Sees q0 (some ⟨bk,o,none⟩) (l.map g))(hq:Le q q0)(h0:0<n)(hn:n<l.length):Cl q ⟨bk,o+((n:Int) - 1).toNat*1,none⟩ (g (l[n - 1]'(Nat.lt_of_le_of_lt (Nat.sub_le _ _) hn))):=(h.le hq).at (by omega) _
theorem Cl.row (h:Sees q0 (some ⟨bk,o,none⟩) (l.flatMap f))(hq:Le q q0)(hf: ∀ x,(f x).length=sz)(hn:n<l.length)(hj:j=n)(k:Nat)(v:Value)(hk:(f l[n])[k]? =some v):Cl q ⟨bk,o+j.toNat*sz+k,none⟩ v:=
 Cl.el h hq hf hn hj (by rw [Ur];exact hk)
abbrev dW:=@Cl.row
section
variable {ty':TypeId}{t:TypeId}{i:Nat}
theorem Rd.loadCs {A:Addr}(hx:evp p x=some (.pointer (some A)))(ht: ∀ w,(isAgg t).run P w= .ok true w)(hs: ∀ w,(Go.sizeOf t).run P w= .ok sz w)
 (hl:us.length=sz) (hc: ∀ (k:Nat) (v:Value),us[k]? =some v->Cl q (A.add k) v):Rd P G p q ⟨d,.load t x,ty',pos,af,gd⟩ (.agg us.toArray):=fun tm w b s=>by
 have hc:=run_loadCells_list (P:=P) w A us (fun j u a=>hc j u a G w s);rw [hl] at hc;simp [execOp,Zp b hx,Instr.loadAt,Instr.sureAddr,loadVar,ht,hs,hc]
theorem Rd.loadS (hx:evp p x=some (.pointer (some ⟨bk,o+j.toNat*sz,none⟩)))(ht: ∀ w,(isAgg t).run P w= .ok true w)(hs: ∀ w,(Go.sizeOf t).run P w= .ok sz w)
 (h:Sees q0 (some ⟨bk,o,none⟩) (l.flatMap f)) (hf: ∀ x,(f x).length=sz) (hn:n<l.length) (hj:j=n) (hq:Le q q0):Rd P G p q ⟨d,.load t x,ty',pos,af,gd⟩ (.agg (f l[n]).toArray):=
 .loadCs hx ht hs (hf _) fun k v a=>by rw [Vj];exact dW h hq hf hn hj k v a
theorem oneCells (h:us.all (·.oneCell')=true): ∀ u∈us,u.oneCell'=true:=fun u a=>by simpa using (cQ.1 h) u a
theorem Ef.appR (ht:P.underlying t=some (.slice ty))(hi:(P.info? ty).map (fun i=>(i.zero,i.size,i.bytes))=some (some z,sz,bytes))(hz:z.cells.size=sz)(hsz:Nat.blt 0 sz=true)(hf: ∀ x,(f x).length=sz)
 (hx:evp p x=some (.slice a i c)) (hy:evp p y=some (.slice b m.length c')) (hq:Le q (Wx.rsH f sz ty a c l::r)) (hin:i<=l.length) (hs:Sees q b (m.flatMap f)) (h1: ∀ x,(f x).all (·.oneCell')=true)
 (h63:i+m.length<=9223372036854775807) (hby:(i+m.length)*bytes<=140737488355328):
 Ef P G p q ⟨d,.call ⟨.builtin .append, [x,y].toArray, [t,t].toArray⟩,ty',pos,af,gd⟩ fun v q'=> ∃ a' c',v= .slice a' (l.take i++m).length c'/\q'=Wx.rsH f sz ty a' c' (l.take i++m)::r:=by
 have h:=Ef.append (P:=P) (G:=G) (d:=d) (ty:=ty') (pos:=pos) (af:=af) (gd:=gd) ht hi hz hsz hx hy hq hin hs (Zx hf m) (by intro u k;obtain ⟨w,_,j⟩:=List.mem_flatMap.1 k;exact oneCells (h1 w) u j) h63 hby;intro tm w o s;obtain ⟨v,g,q',h1,n,a',c',rfl,rfl⟩:=h tm w o s;have e:(l.take i++m).length=i+m.length:=by simp;omega
 refine ⟨_,g,_,h1,?_,a',c',by rw [e],rfl⟩;unfold Wx.rsH;rw [e,eK,<-Qu hf];simpa using n
theorem Z4 (ht:P.underlying t=some (.slice ty))(hi:(P.info? ty).map (fun i=>(i.zero,i.size,i.bytes))=some (some z,sz,bytes))(hz:z.cells.size=sz)(hsz:Nat.blt 0 sz=true)(hf: ∀ x,(f x).length=sz)
 (hx:evp p x=some (.slice a l.length c)) (hy:evp p y=some (.slice b m.length c')) (hq:Le q (Wx.rsH f sz ty a c l::r)) (hs:Sees q b (m.flatMap f)) (h1: ∀ x,(f x).all (·.oneCell')=true)
 (h63:l.length+m.length<=9223372036854775807) (hby:(l.length+m.length)*bytes<=140737488355328):
 Ef P G p q ⟨d,.call ⟨.builtin .append, [x,y].toArray, [t,t].toArray⟩,ty',pos,af,gd⟩ fun v q'=> ∃ a' c',v= .slice a' (l++m).length c'/\q'=Wx.rsH f sz ty a' c' (l++m)::r:=by
 have h:=Ef.appR (P:=P) (G:=G) (d:=d) (ty':=ty') (pos:=pos) (af:=af) (gd:=gd) ht hi hz hsz hf hx hy hq (aU _) hs h1 h63 hby;simpa using h
theorem Yz {u:α}(f:α->List Value)(ht:P.underlying t=some (.slice ty))(hi:(P.info? ty).map (fun i=>(i.zero,i.size,i.bytes))=some (some z,sz,bytes))(h0:Nat.ble sz 16777216=true)(hn:Nat.blt 0 sz=true)
 (hf: ∀ x,(f x).length=sz) (hx:evp p x=some (.agg (f u).toArray)):
 Ef P G p q ⟨d,.buildSlice t 1 [(0,x)].toArray,ty',pos,af,gd⟩ fun v q'=> ∃ g,v= .slice (some ⟨g,0,none⟩) 1 1/\q'=Wx.rsH f sz ty (some ⟨g,0,none⟩) 1 [u]::q:=by
 have j:(Value.agg (f u).toArray).cells=(f u).toArray:=rfl
 have b: ∀ (us:List Value) (n:Nat) (pre post:List Value),pre.length=n->post.length=us.length->(us.zipIdx n).foldl (fun cs (c,i)=>cs.setIfInBounds (0*sz+i) c) (pre++post).toArray=(pre++us).toArray:=by
  intro us
  induction us with
  |nil=>intro n pre post _ h;have:=aS h;subst this;simp
  |cons u r ih=>
   intro n pre post e h
   obtain ⟨x,post,rfl⟩: ∃ x l,post=x::l:=by cases post with
    |nil=>cases h
    |cons x l=>exact ⟨x,l,rfl⟩
   subst e;rw [List.zipIdx_cons,kV];have:=ih (pre.length+1) (pre++ [u]) post (by simp) (by simpa using h);simp only [aK,gW] at this;simpa using this
 have a:Instr.fill (fun i=>some (i*sz,sz)) ((Array.range (1*sz)).map (z.cells[· % z.cells.size]!)) (([(0,x)].map (·.1)).zip [Value.agg (f u).toArray])=some (f u).toArray:=by
  have:=b (f u) 0 [] ((Array.range (1*sz)).map (z.cells[· % z.cells.size]!)).toList rfl (by simp [hf]);simp only [aY,kU] at this;simp only [bA,dC,gS,List.zip_nil_left,List.zip_nil_right,Instr.fill,j];rw [if_neg (by simp [hf])];congr 1;refine Eq.trans ?_ this;simp
 have:=kL (P:=P) (G:=G) (p:=p) (q:=q) (d:=d) (ty:=ty') (pos:=pos) (af:=af) (gd:=gd) (ps:= [(0,x)]) (len:=1) ht hi (us:= [.agg (f u).toArray]) (by simp [evl,hx]) (by simpa using h0) (by simpa using hn) a (by simp [hf]);simpa [Wx.rsH] using this
theorem U3 (f:α->List Value)(ht:P.underlying t=some (.slice ty))(hi:(P.info? ty).map (fun i=>(i.zero,i.size,i.bytes))=some (some z,sz,bytes)):
 Ef P G p q ⟨d,.buildSlice t 0 #[],ty',pos,af,gd⟩ fun v q'=> ∃ g,v= .slice (some ⟨g,0,none⟩) 0 0/\q'=Wx.rsH f sz ty (some ⟨g,0,none⟩) 0 []::q:=
 T2 ht hi
theorem V4 {u:α}{g k:Nat}(hx:evp p x=some (.pointer (some ⟨g,0+j.toNat*sz+k,none⟩)))(hy:evp p y=some v)(hsz: ∀ w,(Go.sizeOf t).run P w= .ok 1 w)(hf: ∀ x,(f x).length=sz)
 (hj:j=n) (hn:n<l.length) (hk:Nat.blt k sz=true) (hu:(f l[n]).set k v=f u) (hv:v.cells= #[v]) (h1:v.oneCell'=true) (hq:Le q (Wx.rsH f sz ty (some ⟨g,0,none⟩) c l::r)):
 Ef P G p q ⟨d,.store t x y,ty',pos,af,gd⟩ fun z q'=>z=undef/\q'=Wx.rsH f sz ty (some ⟨g,0,none⟩) c (l.set n u)::r:=by
 subst hj;rw [cT,dO] at hx;have e:k<sz:=by simpa [fI] using hk
 intro tm w ag s;obtain ⟨h0,h2|⟨g',a,q1,i,q3,h,q5,o⟩⟩:=(s.le hq).slH_elim
 . obtain ⟨_,_,h3,_⟩:=h2;omega
 cases q1
 have b:n*sz+k<l.length*sz:=by
  have:=eJ sz (show n+1<=l.length from hn);rw [eG,lI] at this;omega
 have hc:n*sz+k<a.size:=by rw [h];exact Nat.lt_of_lt_of_le b (eJ _ i)
 obtain ⟨z,m,q',hr,hs,rfl,rfl⟩:=Ef.store (G:=G) (d:=d) (ty:=ty') (pos:=pos) (af:=af) (gd:=gd) (q:=pto g (.cells a.toList.toArray ty (0,0))::r) hx hy hsz hv h1 (Le.here _ _) (by simpa [fI] using hc) tm w ag (by simpa using o);refine ⟨_,m,_,hr,?_,rfl,rfl⟩;have hl:(l.set n u).length=l.length:=by simp
 unfold Wx.rsH;rw [hl];refine hs.le (Yn i q3 (by simp [Bc,h]) ?_ r);rw [Bc,<-Xe hf l n k u v e hn hu,<-q5];simp [List.take_set]
end
theorem Lj {ty':TypeId}{t:TypeId}{e m:Nat}{vs ws:List Value}(ht:P.underlying t=some (.slice e))(hi:(P.info? e).map (fun i=>(i.zero,i.size,i.bytes))=some (some z,sz,bytes))(hz:z.cells.size=sz)(hsz:Nat.blt 0 sz=true)
 (hx:evp p x=some (.slice a n c)) (hy:evp p y=some (.slice b m c')) (hc:c<n+m) (hm0:0<m) (hn0:0<n) (hs:Sees q a vs) (hn:vs.length=n*sz) (hsw:Sees q b ws) (hm:ws.length=m*sz)
 (h63:n+m<=9223372036854775807) (hby:(n+m)*bytes<=140737488355328):
 Ef P G p q ⟨d,.call ⟨.builtin .append, [x,y].toArray, [t,t].toArray⟩,ty',pos,af,gd⟩ fun v q'=> ∃ a' c',v= .slice a' (n+m) c'/\q'=slH a' c' e sz (n+m) (vs++ws)::q:=by
 obtain ⟨I,hI,e1,e2,e3⟩:=info_parts hi;have f:0<sz:=by simpa [fI] using hsz
 subst e2;subst e3;intro tm w ag s;have r:evl p [x,y]=some [.slice a n c,.slice b m c']:=by simp [evl,hx,hy]
 have o:=Un (d:=d) (ty:=ty') (pos:=pos) (af:=af) (gd:=gd) (bi:= .append) (ats:= [t,t].toArray) ag r;rw [o]
 have g: ∀ v j,(Builtin.append_ #[t,t] ty' #[.slice a n c,.slice b m c']).run P w= .ok v j->(builtin .append [t,t].toArray ty' ([x,y].toArray.map fun| .const _=>true|_=>false) [.slice a n c,.slice b m c'].toArray).run P w= .ok (.value v) j:=by
  intro v j h;simp [builtin,h]
 rcases U6 (hs G w s) hn f with ⟨h,_⟩|⟨ad,rfl,a0⟩
 . omega
 rcases U6 (hsw G w s) hm f with ⟨h,_⟩|⟨bd,rfl,u⟩
 . omega
 have hr:=run_append_grow (P:=P) w t ty' e I z ht hI e1 ad n c vs hn a0 bd m c' ws hm u hc (by omega) (growslice_fits hc hby);have l:=grownCap_ge w (n+m) c e;have b0:=grownCap_le_maxLen w (n+m) c e (by simp only [maxLen];omega);refine ⟨_,w.drew.alloc (.cells (vs.toArray++ws.toArray++Builtin.zeroCells z.cells (grownCap w (n+m) c e - (n+m))) e),_,.inl (g _ _ hr),?_,some ⟨w.heap.size,0,none⟩,grownCap w (n+m) c e,rfl,rfl⟩;have s3:St G w.drew q:=s.same rfl rfl rfl rfl;have s2:=St.new (w:=w.drew) (w':=w.drew.alloc (.cells (vs.toArray++ws.toArray++Builtin.zeroCells z.cells (grownCap w (n+m) c e - (n+m))) e)) s3 rfl rfl rfl rfl;have k:(vs++ws).length=(n+m)*I.size:=by rw [aA,hn,hm,eG]
 refine s2.le (Yn l b0 ?_ ?_ q)
 . simp only [kD,fE,size_zeroCells,hz,hn,hm,<-eG];congr 1;omega
 simp only [jO,aK];rw [<-aK,<-k];exact iU
end
def orH (A B:HP):HP:=⟨fun M h=>A.p M h\/B.p M h,fun e e' p=>p.imp (A.mono e e') (B.mono e e')⟩
theorem Le.orl (A B:HP)(q:List HP):Le (A::q) (orH A B::q):= .one fun _ _ p=> .inl p
theorem St.or_elim {A B:HP}(s:St G w (orH A B::q)):St G w (A::q)\/St G w (B::q):=by
 obtain ⟨b,M,k,a,c,d,e,f,h,g,i,j,l,p|p,q⟩:=s
 . exact .inl ⟨b,M,k,a,c,d,e,f,h,g,i,j,l,p,q⟩
 exact .inr ⟨b,M,k,a,c,d,e,f,h,g,i,j,l,p,q⟩
section
variable {ty:TypeId}{kd ky:IntKind}{m n:Int}{t t':TypeId}
theorem Pu.and (hx:evp p x=some (.int kd m))(hy:evp p y=some (.int kd n)):Pu P p ⟨d,.binOp .and t x y t',ty,pos,af,gd⟩ (.int kd (kd.wrap ((BitVec.ofInt kd.bits m &&& BitVec.ofInt kd.bits n).toNat:Int))):= .int hx hy (fun w=>by simp [Go.binOp,Op.intBits])
theorem Pu.or (hx:evp p x=some (.int kd m))(hy:evp p y=some (.int kd n)):Pu P p ⟨d,.binOp .or t x y t',ty,pos,af,gd⟩ (.int kd (kd.wrap ((BitVec.ofInt kd.bits m|||BitVec.ofInt kd.bits n).toNat:Int))):= .int hx hy (fun w=>by simp [Go.binOp,Op.intBits])
theorem Pu.shl (hx:evp p x=some (.int kd m))(hy:evp p y=some (.int ky n))(h0:0<=n):Pu P p ⟨d,.binOp .shl t x y t',ty,pos,af,gd⟩ (.int kd (kd.wrap (m*2 ^ min n.toNat kd.bits))):=
 fun tm w a=>by
  have b: ¬n<0:=by omega
  simp [execOp,Zp a hx,Zp a hy,eqGuard,Go.binOp,Op.shift,b]
theorem Pu.eqlS (hx:evp p x=some (.string a))(hy:evp p y=some (.string b)):Pu P p ⟨d,.binOp .eql t x y t',ty,pos,af,gd⟩ (.bool (a.toList==b.toList)):=fun tm w c=>by
 simp [execOp,Zp c hx,Zp c hy,eqGuard,Go.binOp,Op.stringOp]
theorem Pu.neqS (hx:evp p x=some (.string a))(hy:evp p y=some (.string b)):Pu P p ⟨d,.binOp .neq t x y t',ty,pos,af,gd⟩ (.bool !(a.toList==b.toList)):=fun tm w c=>by
 simp [execOp,Zp c hx,Zp c hy,eqGuard,Go.binOp,Op.stringOp]
theorem Pu.lenS {s:ByteArray}{ats:List TypeId}(hx:evp p x=some (.string s))(ht:P.underlying t=some .string):Pu P p ⟨d,.call ⟨.builtin .len, [x].toArray,(t::ats).toArray⟩,ty,pos,af,gd⟩ (.int .i64 s.size):=
 fun tm w a=>by simp [execOp,resolve,invoke,builtin,Zp a hx,Builtin.len_,run_underlying ht,goInt]
end
end
section
variable {todo:List Item}{pk:PE}{q q' r q0 pre F:List HP}{v fv:Value}{A B:Prop}{b o bk sz n:Nat}{L:Rds}{j:Int}{d:Tmp}{pos:String}{af:Array Edge}{gd:Option (Nat×Bool)}{x y fo:Operand}{l vs:List Value}{args:List Operand}{R:Value->List HP->Prop}{fn:FuncId}{done:List Nat}{a:Option Addr}
section
variable {α:Type}{P:Program}{G:World}{f:Fc}{Q:Yw}{ops:List Oper}{k:List Item}{p:PE}{ds:List Deferred}{cs:List Frame}{rest:List Oper}
theorem ca (x:HP)(l m:List HP):(x::l)++m=x::(l++m):=rfl
theorem na (m:List HP):([]:List HP)++m=m:=rfl
theorem leA (h:Le q q':=by repeat (first|exact aH _|exact Wq _ _|exact Le.nil _|(apply bD; · (repeat first|exact Le.here _ _|apply Le.there))|refine F9 ?_)):Le q q':=h
theorem clA {A:Addr}(h:Cl q A v:=by first
 |exact fK (by repeat first|exact dU _ _ _|exact iT _ _ _|refine Has.there ?_) (by rfl)
 |exact Cl.el (by assumption) leA (fun _=>rfl) (by first|assumption|omega) rfl rfl
 |exact gP (by assumption) leA (by first|assumption|omega) rfl
 |exact Cl.elp (by assumption) leA (fun _=>rfl) (by omega) (by first|assumption|omega) rfl
 |exact Cl.e1p (by assumption) leA (by omega) (by first|assumption|omega)
 |exact Cl.elz (by assumption) leA (fun _=>rfl) (by first|assumption|omega) rfl
 |exact Cl.e1z (by assumption) leA (by first|assumption|omega)
 |assumption):Cl q A v:=h
theorem Vb {o:Obj}(h:Has q b o:=by repeat first|exact dU _ _ _|exact iT _ _ _|refine Has.there ?_):Has q b o:=h
theorem Zj {A:HP}(h:Le q (A::r):=by repeat first|exact Le.here _ _|apply Le.there):Le q (A::r):=h
theorem hlA (h:HL q L:=by repeat first|exact trivial|refine ⟨clA,?_⟩):HL q L:=h
theorem Jn {k:Nat}{α:Type}{f:α->List Value}{l:List α}(h:Sees q0 (some ⟨bk,o,none⟩) (l.flatMap f))(hq:Le q q0)(hf: ∀ x,(f x).length=sz)(h0:0<=j)(hn:j.toNat<l.length)(hk:(f l[j.toNat])[k]? =some v):Cl q ⟨bk,o+j.toNat*sz+k,none⟩ v:=
 dW h hq hf hn (by omega) k v hk
theorem Cl.e1A {α:Type}{g:α->Value}{l:List α}(h:Sees q0 (some ⟨bk,o,none⟩) (l.map g))(hq:Le q q0)(h0:0<=j)(hn:j.toNat<l.length):Cl q ⟨bk,o+j.toNat*1,none⟩ (g l[j.toNat]):=gP h hq hn (by omega)
theorem hlR (h:HL q L:=by repeat first|exact trivial|refine ⟨clA,?_⟩|refine ⟨Cl.e1A (by assumption) leA (by omega) (by omega),?_⟩|refine ⟨Jn (k:=0) (by assumption) leA (fun _=>rfl) (by omega) (by omega) rfl,?_⟩|refine ⟨Jn (k:=1) (by assumption) leA (fun _=>rfl) (by omega) (by omega) rfl,?_⟩|refine ⟨Jn (k:=2) (by assumption) leA (fun _=>rfl) (by omega) (by omega) rfl,?_⟩|refine ⟨Jn (k:=3) (by assumption) leA (fun _=>rfl) (by omega) (by omega) rfl,?_⟩|refine ⟨Jn (k:=4) (by assumption) leA (fun _=>rfl) (by omega) (by omega) rfl,?_⟩|refine ⟨Jn (k:=5) (by assumption) leA (fun _=>rfl) (by omega) (by omega) rfl,?_⟩|refine ⟨Jn (k:=6) (by assumption) leA (fun _=>rfl) (by omega) (by omega) rfl,?_⟩|refine ⟨Jn (k:=7) (by assumption) leA (fun _=>rfl) (by omega) (by omega) rfl,?_⟩|refine ⟨Jn (k:=8) (by assumption) leA (fun _=>rfl) (by omega) (by omega) rfl,?_⟩|refine ⟨Jn (k:=9) (by assumption) leA (fun _=>rfl) (by omega) (by omega) rfl,?_⟩|refine ⟨Cl.e1A (bY _) Zj (by omega) (by omega),?_⟩):HL q L:=h
theorem hlF (F:A)(h:A->HL q L:=by intro F;repeat first|exact trivial|refine ⟨clA,?_⟩|refine ⟨(F.le leA) 0 _ rfl,?_⟩|refine ⟨(F.le leA) _ _ rfl,?_⟩|refine ⟨(F.1.le leA).at rfl F.2,?_⟩|refine ⟨F _ leA 0 _ rfl,?_⟩|refine ⟨F _ leA _ _ rfl,?_⟩|refine HL.app (F _ _ leA) ?_):HL q L:=h F
theorem hlG (F:A)(E:B)(h:A->B->HL q L:=by intro F E;repeat first|exact trivial|refine ⟨clA,?_⟩|refine ⟨(F.le leA) 0 _ rfl,?_⟩|refine ⟨(F.le leA) _ _ rfl,?_⟩|refine ⟨(F.1.le leA).at rfl F.2,?_⟩|refine ⟨F _ leA 0 _ rfl,?_⟩|refine ⟨F _ leA _ _ rfl,?_⟩|refine HL.app (F _ _ leA) ?_|refine ⟨(E.le leA) 0 _ rfl,?_⟩|refine ⟨(E.le leA) _ _ rfl,?_⟩|refine ⟨(E.1.le leA).at rfl E.2,?_⟩|refine ⟨E _ leA 0 _ rfl,?_⟩|refine ⟨E _ leA _ _ rfl,?_⟩|refine HL.app (E _ _ leA) ?_):HL q L:=h F E
theorem hlH {C:Prop}(F:A)(E:B)(D:C)(h:A->B->C->HL q L:=by intro F E D;repeat first|exact trivial|refine ⟨clA,?_⟩|refine ⟨(F.le leA) 0 _ rfl,?_⟩|refine ⟨(F.le leA) _ _ rfl,?_⟩|refine ⟨(F.1.le leA).at rfl F.2,?_⟩|refine ⟨F _ leA 0 _ rfl,?_⟩|refine ⟨F _ leA _ _ rfl,?_⟩|refine HL.app (F _ _ leA) ?_|refine ⟨(E.le leA) 0 _ rfl,?_⟩|refine ⟨(E.le leA) _ _ rfl,?_⟩|refine ⟨(E.1.le leA).at rfl E.2,?_⟩|refine ⟨E _ leA 0 _ rfl,?_⟩|refine ⟨E _ leA _ _ rfl,?_⟩|refine HL.app (E _ _ leA) ?_|refine ⟨(D.le leA) 0 _ rfl,?_⟩|refine ⟨(D.le leA) _ _ rfl,?_⟩|refine ⟨(D.1.le leA).at rfl D.2,?_⟩|refine ⟨D _ leA 0 _ rfl,?_⟩|refine ⟨D _ leA _ _ rfl,?_⟩|refine HL.app (D _ _ leA) ?_):HL q L:=h F E D
section
variable {ty:TypeId}{t:TypeId}{A:Addr}
theorem XO.ld (ht: ∀ w,(isAgg t).run P w= .ok false w)(K:XO P G f Q ops.toArray k rest ((d,v)::p) ds cs q)(hx:evp p x=some (.pointer (some A)):=by rfl)(hc:Cl q A v:=by exact clA)
 (hw:Wt ops p ⟨some d,.load t x,ty,pos,af,gd⟩=some true:=by rfl) (hd:Nat.blt d f.n=true:=by rfl):
 XO P G f Q ops.toArray k (⟨some d,.load t x,ty,pos,af,gd⟩::rest) p ds cs q:= .rd (Rd.load hx ht hc) K hw hd
theorem XO.ldA {t':TypeId}{fz:Nat×Nat}(ht: ∀ w,(isAgg t).run P w= .ok true w)(hs: ∀ w,(Go.sizeOf t).run P w= .ok sz w)
 (K:XO P G f Q ops.toArray k rest ((d,.agg (Wx.sub l o sz).toArray)::p) ds cs q) (hx:evp p x=some (.pointer (some ⟨b,o,none⟩)):=by rfl) (hh:Has q b (.cells l.toArray t' fz):=by exact Vb) (hv:Nat.ble (o+sz) l.length=true:=by rfl)
 (hw:Wt ops p ⟨some d,.load t x,ty,pos,af,gd⟩=some true:=by rfl) (hd:Nat.blt d f.n=true:=by rfl):
 XO P G f Q ops.toArray k (⟨some d,.load t x,ty,pos,af,gd⟩::rest) p ds cs q:= .rd (Rd.loadA hx ht hs hh hv) K hw hd
theorem Qi {α:Type}{fl:α->List Value}{l:List α}(ht: ∀ w,(isAgg t).run P w= .ok true w)(hs: ∀ w,(Go.sizeOf t).run P w= .ok sz w)
 (h:Sees q0 (some ⟨bk,o,none⟩) (l.flatMap fl)) (hn:n<l.length) (K:XO P G f Q ops.toArray k rest ((d,.agg (fl l[n]).toArray)::p) ds cs q) (hx:evp p x=some (.pointer (some ⟨bk,o+j.toNat*sz,none⟩)):=by rfl) (hj:j=n:=by first|rfl|omega) (hf: ∀ x,(fl x).length=sz:=by intro _;rfl) (hq:Le q q0:=by exact leA)
 (hw:Wt ops p ⟨some d,.load t x,ty,pos,af,gd⟩=some true:=by rfl) (hd:Nat.blt d f.n=true:=by rfl):
 XO P G f Q ops.toArray k (⟨some d,.load t x,ty,pos,af,gd⟩::rest) p ds cs q:= .rd (Rd.loadS hx ht hs h hf hn hj hq) K hw hd
theorem Ef.st {t':TypeId}{d:Option Tmp}(hs: ∀ w,(Go.sizeOf t).run P w= .ok 1 w)(hx:evp p x=some (.pointer (some ⟨b,o,none⟩)):=by rfl)(hy:evp p y=some v:=by rfl)
 (hv:v.cells= #[v]:=by rfl) (h1:v.oneCell'=true:=by rfl) (hq:Le q (pto b (.cells l.toArray t' (0,0))::r):=by exact Zj) (ho:Nat.blt o l.length=true:=by rfl):
 Ef P G p q ⟨d,.store t x y,ty,pos,af,gd⟩ fun z q'=>z=undef/\q'=pto b (.cells (J6 l o v).toArray t' (0,0))::r:= .store hx hy hs hv h1 hq ho
theorem Ef.stA {t':TypeId}{d:Option Tmp}(hs: ∀ w,(Go.sizeOf t).run P w= .ok sz w)(hx:evp p x=some (.pointer (some ⟨bk,o,none⟩)):=by rfl)(hy:evp p y=some (.agg vs.toArray):=by rfl)
 (hl:vs.length=sz:=by rfl) (h1:vs.all (·.oneCell')=true:=by rfl) (hq:Le q (pto bk (.cells l.toArray t' (0,0))::r):=by exact Zj) (ho:Nat.ble (o+sz) l.length=true:=by rfl):
 Ef P G p q ⟨d,.store t x y,ty,pos,af,gd⟩ fun z q'=>z=undef/\q'=pto bk (.cells (Vo l o vs).toArray t' (0,0))::r:= .storeA hx hy hs hl h1 hq ho
end
section
variable {ats:Array TypeId}{ty:TypeId}
theorem Vg (hcf: ∀ args w,(callFunc fn args).run P w= .ok (.enter fn args) w)(hc:CallF P G fn vs pre (Ret R))(x: ∀ v q',R v q'-> ∀ q'',q''=q'++F->XO P G f Q ops.toArray k rest ((d,v)::p) ds cs q'')(hv:evl p args=some vs:=by rfl)(hq:Le q (pre++F):=by exact leA)
 (hw:Wt ops p ⟨some d,.call ⟨.value (.func fn),args.toArray,ats⟩,ty,pos,af,gd⟩=some true:=by rfl) (hd:Nat.blt d f.n=true:=by rfl):
 XO P G f Q ops.toArray k (⟨some d,.call ⟨.value (.func fn),args.toArray,ats⟩,ty,pos,af,gd⟩::rest) p ds cs q:= .callF hcf hc hv hq x hw hd
theorem XO.cV (hc:CallV P G fv vs pre (Ret R))(x: ∀ v q',R v q'-> ∀ q'',q''=q'++F->XO P G f Q ops.toArray k rest ((d,v)::p) ds cs q'')(hf:evp p fo=some fv:=by rfl)(hv:evl p args=some vs:=by rfl)(hq:Le q (pre++F):=by exact leA)
 (hw:Wt ops p ⟨some d,.call ⟨.value fo,args.toArray,ats⟩,ty,pos,af,gd⟩=some true:=by rfl) (hd:Nat.blt d f.n=true:=by rfl):
 XO P G f Q ops.toArray k (⟨some d,.call ⟨.value fo,args.toArray,ats⟩,ty,pos,af,gd⟩::rest) p ds cs q:= .call hf hv hc hq x hw hd
end
section
variable {ty:TypeId}{t:TypeId}
theorem XD.ld (i:Nat)(ht: ∀ w,(isAgg t).run P w= .ok false w)(K:XD P G f Q ops k pk ((i,b,o,v)::L) n (i::done) ((d,v)::p) ds cs q)
 (ho:ops[i]? =some ⟨some d,.load t x,ty,pos,af,gd⟩:=by rfl) (hx:evp p x=some (.pointer (some ⟨b,o,none⟩)):=by rfl) (hc:Cl q ⟨b,o,none⟩ v:=by exact clA)
 (hr:rdy ops done i=true:=by rfl) (hw:Wt ops p ⟨some d,.load t x,ty,pos,af,gd⟩=some true:=by rfl) (hd:Nat.blt d f.n=true:=by rfl):XD P G f Q ops k pk L (n+1) done p ds cs q:= .load i ho hx ht hc K hr hw hd
theorem XD.rdCs (i:Nat){us:List Value}(ho:ops[i]? =some ⟨some d,.load t x,ty,pos,af,gd⟩)(hx:evp p x=some (.pointer (some ⟨b,o,none⟩)))(ht: ∀ w,(isAgg t).run P w= .ok true w)(hs: ∀ w,(Go.sizeOf t).run P w= .ok sz w)
 (hl:us.length=sz) (hc: ∀ (k:Nat) (v:Value),us[k]? =some v->Cl q ⟨b,o+k,none⟩ v) (K:XD P G f Q ops k pk (rdA i b o us++L) n (i::done) ((d,.agg us.toArray)::p) ds cs q)
 (hr:rdy ops done i=true:=by rfl) (hw:Wt ops p ⟨some d,.load t x,ty,pos,af,gd⟩=some true:=by rfl) (hd:Nat.blt d f.n=true:=by rfl):XD P G f Q ops k pk L (n+1) done p ds cs q:=by
 refine XD.rdL i ho (rdA i b o us) (Sl _ _ _ _) (HL.rdA hc) (fun tm w e c=> ?_) K hr hw hd
 have hc:=run_loadCells_list (P:=P) w ⟨b,o,none⟩ us (fun j u a=>by
  rw [Vj];exact c _ (Si a))
 rw [hl] at hc;simp [execOp,Zp e hx,Instr.loadAt,Instr.sureAddr,loadVar,ht,hs,hc]
theorem XD.ldS (i:Nat){α:Type}{fl:α->List Value}{l:List α}{m:Nat}(ht: ∀ w,(isAgg t).run P w= .ok true w)(hs: ∀ w,(Go.sizeOf t).run P w= .ok sz w)
 (h:Sees q0 (some ⟨bk,o,none⟩) (l.flatMap fl)) (hn:m<l.length) (K:XD P G f Q ops k pk (rdA i bk (o+j.toNat*sz) (fl l[m])++L) n (i::done) ((d,.agg (fl l[m]).toArray)::p) ds cs q)
 (ho:ops[i]? =some ⟨some d,.load t x,ty,pos,af,gd⟩:=by rfl) (hx:evp p x=some (.pointer (some ⟨bk,o+j.toNat*sz,none⟩)):=by rfl) (hj:j=m:=by first|rfl|omega) (hf: ∀ x,(fl x).length=sz:=by intro _;rfl) (hq:Le q q0:=by exact leA)
 (hr:rdy ops done i=true:=by rfl) (hw:Wt ops p ⟨some d,.load t x,ty,pos,af,gd⟩=some true:=by rfl) (hd:Nat.blt d f.n=true:=by rfl):XD P G f Q ops k pk L (n+1) done p ds cs q:=
 .rdCs i ho hx ht hs (hf _) (fun k v hk=>dW h hq hf hn hj k v hk) K hr hw hd
section
variable {ats:Array TypeId}
theorem Rl (i:Nat)(hcf: ∀ args w,(callFunc fn args).run P w= .ok (.enter fn args) w)(hc:CallF P G fn vs pre (Ret R))
 (K: ∀ v q',R v q'-> ∀ q'',q''=q'++F->HL q'' (cut ⟨some d,.call ⟨.value (.func fn),args.toArray,ats⟩,ty,pos,af,gd⟩ L)/\XD P G f Q ops k pk (cut ⟨some d,.call ⟨.value (.func fn),args.toArray,ats⟩,ty,pos,af,gd⟩ L) n (i::done) ((d,v)::p) ds cs q'')
 (ho:ops[i]? =some ⟨some d,.call ⟨.value (.func fn),args.toArray,ats⟩,ty,pos,af,gd⟩:=by rfl) (hv:evl p args=some vs:=by rfl) (hq:Le q (pre++F):=by exact leA)
 (h1:Uc ops done i=true:=by rfl) (hr:rdy ops done i=true:=by rfl) (hw:Wt ops p ⟨some d,.call ⟨.value (.func fn),args.toArray,ats⟩,ty,pos,af,gd⟩=some true:=by rfl) (hd:Nat.blt d f.n=true:=by rfl):XD P G f Q ops k pk L (n+1) done p ds cs q:=
 .callF i hcf hc ho hv hq K h1 hr hw hd
theorem XD.cV (i:Nat)(hc:CallV P G fv vs pre (Ret R))
 (K: ∀ v q',R v q'-> ∀ q'',q''=q'++F->HL q'' (cut ⟨some d,.call ⟨.value fo,args.toArray,ats⟩,ty,pos,af,gd⟩ L)/\XD P G f Q ops k pk (cut ⟨some d,.call ⟨.value fo,args.toArray,ats⟩,ty,pos,af,gd⟩ L) n (i::done) ((d,v)::p) ds cs q'')
 (ho:ops[i]? =some ⟨some d,.call ⟨.value fo,args.toArray,ats⟩,ty,pos,af,gd⟩:=by rfl) (hf:evp p fo=some fv:=by rfl) (hv:evl p args=some vs:=by rfl) (hq:Le q (pre++F):=by exact leA)
 (h1:Uc ops done i=true:=by rfl) (hr:rdy ops done i=true:=by rfl) (hw:Wt ops p ⟨some d,.call ⟨.value fo,args.toArray,ats⟩,ty,pos,af,gd⟩=some true:=by rfl) (hd:Nat.blt d f.n=true:=by rfl):XD P G f Q ops k pk L (n+1) done p ds cs q:=
 .call i ho hf hv hc hq K h1 hr hw hd
end
end
section
variable {d:Option Tmp}{ty:TypeId}{t t':TypeId}{ats:List TypeId}
theorem eqlFNil_ (k:Nat){u r:Array TypeId}{b:Bool}(ht:P.underlying t=some (.func u r b))(fn:Fn)(l m:Array Value)(w:World):(Op.equalIn (k+1) t (.func fn l m) .nilFunc).run P w= .ok false w:=by
 simp [Op.equalIn,run_underlying ht]
end
theorem Jc (q:List HP):Le q (q++ []):=by rw [bR];exact .refl _
section
variable {ats:Array TypeId}{ty:TypeId}{u:Value}
theorem XO.cR (hcf: ∀ args w,(callFunc fn args).run P w= .ok (.enter fn args) w)(hc:CallF P G fn vs q (Ret fun v q'=>v=u/\q'=q))(x:XO P G f Q ops.toArray k rest ((d,u)::p) ds cs q)(hv:evl p args=some vs:=by rfl)
 (hw:Wt ops p ⟨some d,.call ⟨.value (.func fn),args.toArray,ats⟩,ty,pos,af,gd⟩=some true:=by rfl) (hd:Nat.blt d f.n=true:=by rfl):
 XO P G f Q ops.toArray k (⟨some d,.call ⟨.value (.func fn),args.toArray,ats⟩,ty,pos,af,gd⟩::rest) p ds cs q:=
 .callF hcf hc hv (Jc q) (fun v q' h a e=>by obtain ⟨rfl,rfl⟩:=h;rw [bR] at e;subst e;exact x) hw hd
abbrev bM:=@XO.cR
theorem XD.cR (i:Nat)(hcf: ∀ args w,(callFunc fn args).run P w= .ok (.enter fn args) w)(hc:CallF P G fn vs q (Ret fun v q'=>v=u/\q'=q))(hL:HL q (cut ⟨some d,.call ⟨.value (.func fn),args.toArray,ats⟩,ty,pos,af,gd⟩ L))
 (K:XD P G f Q ops k pk (cut ⟨some d,.call ⟨.value (.func fn),args.toArray,ats⟩,ty,pos,af,gd⟩ L) n (i::done) ((d,u)::p) ds cs q)
 (ho:ops[i]? =some ⟨some d,.call ⟨.value (.func fn),args.toArray,ats⟩,ty,pos,af,gd⟩:=by rfl) (hv:evl p args=some vs:=by rfl)
 (h1:Uc ops done i=true:=by rfl) (hr:rdy ops done i=true:=by rfl) (hw:Wt ops p ⟨some d,.call ⟨.value (.func fn),args.toArray,ats⟩,ty,pos,af,gd⟩=some true:=by rfl) (hd:Nat.blt d f.n=true:=by rfl):XD P G f Q ops k pk L (n+1) done p ds cs q:=
 .callF i hcf hc ho hv (Jc q) (fun v q' h a e=>by obtain ⟨rfl,rfl⟩:=h;rw [bR] at e;subst e;exact ⟨hL,K⟩) h1 hr hw hd
end
theorem Z7 (hs:Sees q0 a vs)(h:0<vs.length)(x: ∀ b o,a=some ⟨b,o,none⟩->X P G f Q todo p ds cs q)(hq:Le q q0:=by exact leA):X P G f Q todo p ds cs q:= .addr (hs.le hq) h x
theorem Ql (hs:Sees q0 a vs)(h:0<vs.length)(x: ∀ b o,a=some ⟨b,o,none⟩->XO P G f Q ops.toArray k rest p ds cs q)(hq:Le q q0:=by exact leA):XO P G f Q ops.toArray k rest p ds cs q:= .addr (hs.le hq) h x
theorem Nh (hs:Sees q0 a vs)(h:0<vs.length)(x: ∀ b o,a=some ⟨b,o,none⟩->XD P G f Q ops k pk L n done p ds cs q)(hq:Le q q0:=by exact leA):XD P G f Q ops k pk L n done p ds cs q:=
 .fact (fun w s=>(hs.le hq).addr h s) fun ⟨b,o,e⟩=>x b o e
theorem X.part (s:Nat){t:Bool}(h:lkp p s=some (.bool t))(ht:t=true->X P G f Q todo ((s,.bool true)::p) ds cs q)
 (hf:t=false->X P G f Q todo ((s,.bool false)::p) ds cs q):X P G f Q todo p ds cs q:=by
 cases t with
 |true=>exact fR s (.bool true) h rfl (ht rfl)
 |false=>exact fR s (.bool false) h rfl (hf rfl)
abbrev cY:=@X.part
section
variable {R:Ub}{fd:Func}{p':PE}
theorem Zq (q':List HP)(hf:P.funcs[fn]? =some fd)(hr: ∀ tm w,Agr tm p->St G w q->(results fd tm).run P w= .ok v w)(h:R (.returned v) q')(hq:Le q (q'++F):=by exact leA):
 X P G f (FQ P G fn cs R F) (.code .ret::k) p [] cs q:=jA ⟨rfl,gE hf hr h hq⟩
theorem Zr (q':List HP)(hf:P.funcs[fn]? =some fd)(hr: ∀ tm w,Agr tm p->St G w q->(results fd tm).run P w= .ok v w)(h:R (.returned v) q')(hq:Le q (q'++F):=by exact leA):
 X P G f (FQ P G fn cs R F) [] p [] cs q:=gC ⟨rfl,gE hf hr h hq⟩
end
end
end
section
section
variable {P:Program}{G:World}{p:PE}{q r:List HP}{d:Option Tmp}{ty:TypeId}{pos:String}{af:Array Edge}{gd:Option (Nat×Bool)}{x y:Operand}{t t' e:TypeId}{kd ky:IntKind}{m n:Int}
theorem Zj2 {u v:Array TypeId}{b:Bool}{fn:Fn}{l m:Array Value}(hx:evp p x=some (.func fn l m))(ht:P.underlying t=some (.func u v b)):
 Pu P p ⟨d,.binOp .neq t x (.const .nilFunc) t',ty,pos,af,gd⟩ (.bool true):=fun tm w e=>by
 have c:(Op.equal t (.func fn l m) .nilFunc).run P w= .ok false w:=eqlFNil_ 9999 ht fn l m w;have a:evA tm (.const .nilFunc)= .nilFunc:=rfl;simp [execOp,Zp e hx,a,eqGuard,Go.binOp,c]
theorem wu8 (n:Int):IntKind.u8.wrap n=n % 256:=by simp [IntKind.wrap,IntKind.bits,IntKind.signed]
theorem wu32 (n:Int):IntKind.u32.wrap n=n % 4294967296:=by simp [IntKind.wrap,IntKind.bits,IntKind.signed]
theorem wu64 (n:Int):IntKind.u64.wrap n=n % 18446744073709551616:=by simp [IntKind.wrap,IntKind.bits,IntKind.signed]
theorem Zzz {g n:Nat}{vs:List Value}(hx:evp p x=some (.slice (some ⟨g,0,none⟩) n n))(hs:P.underlying t=some (.slice e))(he:P.underlying e=some (.int .u8))(hq:Le q (slH (some ⟨g,0,none⟩) n e 1 n vs::r))(h0:Nat.blt 0 n=true):
 Ef P G p q ⟨d,.convert t t x,ty,pos,af,gd⟩ fun v q'=>v= .slice (some ⟨g,0,none⟩) n n/\q'=im g (.cells vs.toArray e (n,n+1))::r:=by
 intro tm w z s;obtain ⟨h1,y|⟨g',a,m,q2,q3,l,j,i⟩⟩:=(s.le hq).slH_elim
 . cases y.1
 cases m
 have f:w.heap[g]? =some (.cells a e (0,0)):=i.has (dU _ _ _)
 have b:a=vs.toArray:=by
  have:a.toList.length=n*1:=by rw [<-l];simp
  rw [bQ (by omega)] at j;rw [<-j]
 have c:w.shape? g=some (e,n):=by simp [World.shape?,f,l]
 have o:g<w.heap.size:=(jK.1 f).1;refine ⟨_,w.freeze ⟨g,n,none⟩ 1,_,.inl ?_,?_,rfl,rfl⟩
 . simp [execOp,Zp z hx,convert,run_underlying hs,run_underlying he,markStringish,c]
 refine (i.put (o':= .cells vs.toArray e (n,n+1)) (w':=w.freeze ⟨g,n,none⟩ 1) ?_ ?_ ?_ rfl rfl rfl).freeze
 . simp only [World.freeze];rw [if_neg (by decide)];simp [Array.getElem?_modify,f,b]
 . intro k u;simp only [World.freeze];rw [if_neg (by decide)];simp only [Array.getElem?_modify];rw [if_neg (fun h=>u h.symm)]
 simp only [World.freeze];rw [if_neg (by decide)];simp
theorem Sees.im {b:Nat}{cs:List Value}{z:Nat×Nat}(q:List HP):Sees (im b (.cells cs.toArray e z)::q) (some ⟨b,0,none⟩) cs:=by
 intro G w s i u a;refine ⟨b,0,rfl,?_⟩;have c:=s.has (iT b (.cells cs.toArray e z) q);simp [World.cell?,c,a]
theorem Ef.make {z:Value}{bytes sz n:Nat}(hx:evp p x=some (.int kd n))(hy:evp p y=some (.int ky n))(ht:P.underlying t=some (.slice e))(hi:(P.info? e).map (fun i=>(i.zero,i.size,i.bytes))=some (some z,sz,bytes))(hz:z.cells.size=sz)(hsz:Nat.blt 0 sz=true)
 (hby:bytes*n<=140737488355328) (hn:n<=9223372036854775807):
 Ef P G p q ⟨d,.makeSlice t x y,ty,pos,af,gd⟩ fun v q'=> ∃ g,v= .slice (some ⟨g,0,none⟩) n n/\q'=slH (some ⟨g,0,none⟩) n e sz n ((List.replicate n z.cells.toList).flatten)::q:=by
 obtain ⟨I,u,e1,e2,e3⟩:=info_parts hi;subst e2;subst e3;have a:0<I.size:=by simpa [fI] using hsz
 intro tm w m s;have j:=run_make (P:=P) w t e I z ht u e1 kd ky (n:Int) (n:Int) (by omega) (bL _) (by omega) (by omega);simp only [cT] at j;refine ⟨_,w.alloc (.cells (madeCells z.cells (n*I.size)) e),_,.inl ?_,?_,w.heap.size,rfl,rfl⟩
 . simp [execOp,Zp m hx,Zp m hy,j]
 have o:St G (w.alloc (.cells (madeCells z.cells (n*I.size)) e)) (pto w.heap.size (.cells (madeCells z.cells (n*I.size)) e (0,0))::q):=s.new rfl rfl rfl rfl;refine o.le (Yn (aU _) (by simpa [maxLen] using hn) (size_madeCells _ _) ?_ q)
 have:(madeCells z.cells (n*I.size)).toList=(List.replicate n z.cells.toList).flatten:=by
  apply kC;intro i;have b:((List.replicate n z.cells.toList).flatten).length=n*I.size:=by simp [hz]
  rcases dJ i (n*I.size) with h|h
  . have c:i % I.size<I.size:=Nat.mod_lt _ a;have r:i / I.size<n:=by rw [Nat.div_lt_iff_lt_mul a];exact h
    have k:=Tm (f:=fun (l:List Value)=>z.cells.toList) (sz:=I.size) (fun _=>by simp [hz]) (List.replicate n ([]:List Value)) (i / I.size) (i % I.size) [] c (by simp [r])
    have h2:(List.replicate n ([]:List Value)).flatMap (fun _=>z.cells.toList)=(List.replicate n z.cells.toList).flatten:=by
     simp [List.flatMap,List.map_replicate]
    rw [h2,Nat.mul_comm,Nat.div_add_mod] at k;rw [k];simp [madeCells,h,hz];rw [getElem!_pos z.cells _ (by rw [hz];exact c)];simp [c,hz]
  rw [eU (by simp [madeCells];exact h),eU (by rw [b];exact h)]
 rw [this,bQ (by simp [hz])]
theorem Pj {D:TypeDesc}{xt:TypeId}{v:Value}(hx:evp p x=some (.iface t v))(ht:P.underlying t=some D)(hD:(match D with| .interface _=>false|_=>true)=true):
 Pu P p ⟨d,.typeAssert x xt t true,ty,pos,af,gd⟩ (.tuple [v,.bool true].toArray):=fun tm w a=>by
 simp only [execOp,Zp a hx,Instr.typeAssert,Sem.run_bind,run_underlying ht,Result.andThen_ok]
 cases D<;>first|(cases hD;done)|simp
theorem Pk {D:TypeDesc}{xt:TypeId}{z:Value}(hx:evp p x=some .nilIface)(ht:P.underlying t=some D)(hD:(match D with| .interface _=>false|_=>true)=true)(hz: ∀ w,(zeroValue t).run P w= .ok z w):
 Pu P p ⟨d,.typeAssert x xt t true,ty,pos,af,gd⟩ (.tuple [z,.bool false].toArray):=fun tm w a=>by
 simp only [execOp,Zp a hx,Instr.typeAssert,Sem.run_bind,run_underlying ht,Result.andThen_ok]
 cases D<;>first|(cases hD;done)|simp [hz]
end
end
section
variable {p':PE}{r1 b r:Bool}{L:Rds}
def Co:Nat->List Oper->List Oper
 |0,l=>l
 |_+1, []=> []
 |n+1,_::r=>Co n r
section
variable {P:Program}{G:World}{f:Fc}{Q:Yw}{ops:List Oper}{k:List Item}{p:PE}{ds:List Deferred}{cs:List Frame}{q:List HP}{l:List Oper}
theorem Zg (n:Nat)(d s:Nat)(h:lkp p s=some (.bool b))
 (ht:b=true->XO P G f Q ops.toArray k (Co n l) ((d,.bool (b && r1))::p) ds cs q->XO P G f Q ops.toArray k l ((s,.bool true)::p) ds cs q)
 (hf:b=false->XO P G f Q ops.toArray k (Co n l) ((d,.bool (b && r1))::p) ds cs q->XO P G f Q ops.toArray k l ((s,.bool false)::p) ds cs q)
 (M:XO P G f Q ops.toArray k (Co n l) ((d,.bool (b && r1))::p) ds cs q):XO P G f Q ops.toArray k l p ds cs q:=
 .part s h (fun e=>ht e M) (fun e=>hf e M)
theorem Zb (n:Nat)(d s:Nat)(h:lkp p s=some (.bool b))
 (hf:b=false->XO P G f Q ops.toArray k (Co n l) ((d,.bool (b||r1))::p) ds cs q->XO P G f Q ops.toArray k l ((s,.bool false)::p) ds cs q)
 (ht:b=true->XO P G f Q ops.toArray k (Co n l) ((d,.bool (b||r1))::p) ds cs q->XO P G f Q ops.toArray k l ((s,.bool true)::p) ds cs q)
 (M:XO P G f Q ops.toArray k (Co n l) ((d,.bool (b||r1))::p) ds cs q):XO P G f Q ops.toArray k l p ds cs q:=
 .part s h (fun e=>ht e M) (fun e=>hf e M)
theorem Yi (h:b=true):some (Value.bool r)=some (Value.bool (b && r)):=by rw [h];rfl
theorem Yl (h:b=false):some (Value.bool false)=some (Value.bool (b && r)):=by rw [h];rfl
theorem orF (h:b=false):some (Value.bool r)=some (Value.bool (b||r)):=by rw [h];rfl
theorem orT (h:b=true):some (Value.bool true)=some (Value.bool (b||r)):=by rw [h];rfl
theorem Zz (M:XO P G f Q ops.toArray k l p' ds cs q)(h:SubP p' p):XO P G f Q ops.toArray k l p ds cs q:=XO.sub h M
variable {pk:PE}{m:Nat}{done:List Nat}
def sameL (a b:List Nat):Bool:=a.all b.contains && b.all a.contains
theorem V0 {done':List Nat}(M: ∀ L,XD P G f Q ops k pk L m done' p' ds cs q)(h:SubP p' p)(e:sameL done' done=true:=by rfl):XD P G f Q ops k pk L m done p ds cs q:=by
 have c: ∀ j,j∈done'↔j∈done:=by
  intro j;simp only [sameL,aR,cQ,List.contains_iff_mem] at e;exact ⟨e.1 j,e.2 j⟩
 refine XD.sub h ?_;exact fun g d tm w b i s a=>WA.congr m c (M L g d tm w b i s a)
theorem Mc (n':Nat)(done':List Nat)(d s:Nat)(h:lkp p s=some (.bool b))
 (ht:b=true->(∀ L,XD P G f Q ops k pk L n' done' ((d,.bool (b && r1))::p) ds cs q)->XD P G f Q ops k pk L m done ((s,.bool true)::p) ds cs q)
 (hf:b=false->(∀ L,XD P G f Q ops k pk L n' done' ((d,.bool (b && r1))::p) ds cs q)->XD P G f Q ops k pk L m done ((s,.bool false)::p) ds cs q)
 (M: ∀ L,XD P G f Q ops k pk L n' done' ((d,.bool (b && r1))::p) ds cs q):XD P G f Q ops k pk L m done p ds cs q:=
 .part s h (fun e=>ht e M) (fun e=>hf e M)
theorem Tc (n':Nat)(done':List Nat)(d s:Nat)(h:lkp p s=some (.bool b))
 (hf:b=false->(∀ L,XD P G f Q ops k pk L n' done' ((d,.bool (b||r1))::p) ds cs q)->XD P G f Q ops k pk L m done ((s,.bool false)::p) ds cs q)
 (ht:b=true->(∀ L,XD P G f Q ops k pk L n' done' ((d,.bool (b||r1))::p) ds cs q)->XD P G f Q ops k pk L m done ((s,.bool true)::p) ds cs q)
 (M: ∀ L,XD P G f Q ops k pk L n' done' ((d,.bool (b||r1))::p) ds cs q):XD P G f Q ops k pk L m done p ds cs q:=
 .part s h (fun e=>ht e M) (fun e=>hf e M)
end
end
section
variable {todo:List Item}{pre q':List HP}{c0 c1 x0:Value}{R:Value->List HP->Prop}{Rp:List PanicEntry->List HP->Prop}{fn:FuncId}{ch:List PanicEntry}
def RP (R:Value->List HP->Prop)(Rp:List PanicEntry->List HP->Prop):Ub:=fun e q=>(∃ v,e= .returned v/\R v q)\/(∃ ch,e= .panicked ch/\Rp ch q)
section
variable {P:Program}{G:World}{f:Fc}{Q:Yw}{ops:List Oper}{k:List Item}{p:PE}{ds:List Deferred}{cs:List Frame}{q:List HP}{rest:List Oper}{v:Value}
section
variable {α:Type}{fl:α->List Value}{sz ty:Nat}{a:Option Addr}{c:Nat}{l:List α}{r:List HP}
theorem U7 (h:0<l.length)(x: ∀ g,a=some ⟨g,0,none⟩->X P G f Q todo p ds cs q)(hq:Le q (rsH fl sz ty a c l::r):=by exact Zj):X P G f Q todo p ds cs q:=
 .fact (fun w s=>(s.le hq).rsAddr h) fun ⟨g,e⟩=>x g e
theorem Dc (h:0<l.length)(x: ∀ g,a=some ⟨g,0,none⟩->XO P G f Q ops.toArray k rest p ds cs q)(hq:Le q (rsH fl sz ty a c l::r):=by exact Zj):XO P G f Q ops.toArray k rest p ds cs q:=
 .fact (fun w s=>(s.le hq).rsAddr h) fun ⟨g,e⟩=>x g e
theorem Rw {fl:α->Value}(h:0<l.length)(x: ∀ g,a=some ⟨g,0,none⟩->X P G f Q todo p ds cs q)(hq:Le q (lsH fl ty a c l::r):=by exact Zj):X P G f Q todo p ds cs q:=
 .fact (fun w s=>(s.le hq).lsAddr h) fun ⟨g,e⟩=>x g e
theorem C7 {pk:PE}{L:Rds}{n:Nat}{done:List Nat}(h:0<l.length)(x: ∀ g,a=some ⟨g,0,none⟩->XD P G f Q ops k pk L n done p ds cs q)(hq:Le q (rsH fl sz ty a c l::r):=by exact Zj):XD P G f Q ops k pk L n done p ds cs q:=
 .fact (fun w s=>(s.le hq).rsAddr h) fun ⟨g,e⟩=>x g e
end
section
variable {args:List Operand}{ats:Array TypeId}{ty:TypeId}{pos:String}{af:Array Edge}{gd:Option (Nat×Bool)}{vs:List Value}{d:Tmp}{fo:Operand}{fv:Value}
theorem callE_F {sp:Ub}(hcf: ∀ args w,(callFunc fn args).run P w= .ok (.enter fn args) w)(hc:CallF P G fn vs pre sp):CallV P G (.func (.func fn) #[] #[]) vs pre sp:=
 Yq (a:= []) (b:= []) hcf (by simpa using hc)
theorem Zv (hcf: ∀ args w,(callFunc fn args).run P w= .ok (.enter fn args) w)(hq:Le q pre)(hc:CallF P G fn vs pre (Ret R))(x: ∀ v q',R v q'->XO P G f Q ops.toArray k rest ((d,v)::p) ds cs q')(hv:evl p args=some vs:=by rfl)
 (hw:Wt ops p ⟨some d,.call ⟨.value (.func fn),args.toArray,ats⟩,ty,pos,af,gd⟩=some true:=by rfl) (hd:Nat.blt d f.n=true:=by rfl):
 XO P G f Q ops.toArray k (⟨some d,.call ⟨.value (.func fn),args.toArray,ats⟩,ty,pos,af,gd⟩::rest) p ds cs q:=
 .callF hcf hc hv (hq.trans (Jc pre)) (fun v q' h a e=>by rw [bR] at e;rw [e];exact x v q' h) hw hd
theorem Wl (hcf: ∀ args w,(callFunc fn args).run P w= .ok (.enter fn args) w)(hq:Le q pre)(hc:CallF P G fn vs pre (RP R Rp))(xp: ∀ ch q',Rp ch q'->Q (.panic ch) p ds cs q')(x: ∀ v q',R v q'->XO P G f Q ops.toArray k rest ((d,v)::p) ds cs q')(hv:evl p args=some vs:=by rfl)
 (hw:Wt ops p ⟨some d,.call ⟨.value (.func fn),args.toArray,ats⟩,ty,pos,af,gd⟩=some true:=by rfl) (hd:Nat.blt d f.n=true:=by rfl):
 XO P G f Q ops.toArray k (⟨some d,.call ⟨.value (.func fn),args.toArray,ats⟩,ty,pos,af,gd⟩::rest) p ds cs q:=
 .callE hw hd rfl hv (callE_F hcf hc) (hq.trans (Jc pre))
  (fun v q' h=>by rcases h with ⟨_,h,r⟩|⟨_,h,_⟩<;>cases h;rw [bR];exact x v q' r)
  (fun ch q' h=>by rcases h with ⟨_,h,r⟩|⟨_,h,r⟩<;>cases h;rw [bR];exact xp ch q' r)
end
section
variable {sp:Ub}
theorem Ky (hcf: ∀ args w,(callFunc fn args).run P w= .ok (.enter fn args) w)(h:CallF P G fn [c0,c1] pre sp):CallV P G (.func (.func fn) [].toArray [c0,c1].toArray) [] pre sp:=Yq (a:= []) (b:= [c0,c1]) hcf h
theorem CallV.c10 (hcf: ∀ args w,(callFunc fn args).run P w= .ok (.enter fn args) w)(h:CallF P G fn [x0] pre sp):CallV P G (.func (.func fn) [].toArray [].toArray) [x0] pre sp:=Yq (a:= []) (b:= []) hcf h
theorem CallV.c11 (hcf: ∀ args w,(callFunc fn args).run P w= .ok (.enter fn args) w)(h:CallF P G fn [x0,c0] pre sp):CallV P G (.func (.func fn) [].toArray [c0].toArray) [x0] pre sp:=Yq (a:= []) (b:= [c0]) hcf h
abbrev gT:=@CallV.c11
theorem Jy (hcf: ∀ args w,(callFunc fn args).run P w= .ok (.enter fn args) w)(h:CallF P G fn [x0,c0,c1] pre sp):CallV P G (.func (.func fn) [].toArray [c0,c1].toArray) [x0] pre sp:=Yq (a:= []) (b:= [c0,c1]) hcf h
theorem Ze {x1:Value}(hcf: ∀ args w,(callFunc fn args).run P w= .ok (.enter fn args) w)(h:CallF P G fn [x0,x1] pre sp):CallV P G (.func (.func fn) [].toArray [].toArray) [x0,x1] pre sp:=Yq (a:= []) (b:= []) hcf h
end
theorem FQ.panic {R:Ub}{F:List HP}{fd:Func}(hf:P.funcs[fn]? =some fd)(h:R (.panicked ch) q')(hq:Le q (q'++F):=by exact leA):FQ P G fn cs R F (.panic ch) p [] cs q:=⟨rfl,Lv.panic hf h hq⟩
abbrev dF:=@FQ.panic
theorem RP.ret (h:R v q'):RP R Rp (.returned v) q':= .inl ⟨v,rfl,h⟩
abbrev fS:=@RP.ret
theorem RP.thr (h:Rp ch q'):RP R Rp (.panicked ch) q':= .inr ⟨ch,rfl,h⟩
abbrev eD:=@RP.thr
end
end
section
variable {pre:List HP}{v:Value}{n:Nat}{pos:String}{af:Array Edge}{gd:Option (Nat×Bool)}{cl:List Value}{d:Tmp}{fn:FuncId}{c:Code}
section
variable {P:Program}{G:World}{f:Fc}{Q:Yw}{ops:List Oper}{k:List Item}{p:PE}{ds:List Deferred}{cs:List Frame}{q:List HP}{rest:List Oper}
section
variable {pk:PE}{L:Rds}{done:List Nat}{args:List Operand}{ats:Array TypeId}{ty:TypeId}{vs:List Value}{R:Value->List HP->Prop}
theorem Wv (i:Nat)(hcf: ∀ args w,(callFunc fn args).run P w= .ok (.enter fn args) w)(hq:Le q pre)(hc:CallF P G fn vs pre (Ret R))
 (K: ∀ v q',R v q'->HL q' (cut ⟨some d,.call ⟨.value (.func fn),args.toArray,ats⟩,ty,pos,af,gd⟩ L)/\XD P G f Q ops k pk (cut ⟨some d,.call ⟨.value (.func fn),args.toArray,ats⟩,ty,pos,af,gd⟩ L) n (i::done) ((d,v)::p) ds cs q')
 (ho:ops[i]? =some ⟨some d,.call ⟨.value (.func fn),args.toArray,ats⟩,ty,pos,af,gd⟩:=by rfl) (hv:evl p args=some vs:=by rfl)
 (h1:Uc ops done i=true:=by rfl) (hr:rdy ops done i=true:=by rfl) (hw:Wt ops p ⟨some d,.call ⟨.value (.func fn),args.toArray,ats⟩,ty,pos,af,gd⟩=some true:=by rfl) (hd:Nat.blt d f.n=true:=by rfl):XD P G f Q ops k pk L (n+1) done p ds cs q:=
 .callF i hcf hc ho hv (hq.trans (Jc pre)) (fun v q' h a e=>by rw [bR] at e;rw [e];exact K v q' h) h1 hr hw hd
end
def dfr (fn:FuncId)(cl:List Value):Deferred:= { target:= .fn (.func fn) cl.toArray,args:= #[] }
theorem XO.dfr {fo:Operand}{ats:Array TypeId}{d:Option Tmp}{ty:TypeId}(x:XO P G f Q ops.toArray k rest (Qg p d undef) (Wx.dfr fn cl::ds) cs q)
 (hf:evp p fo=some (.func (.func fn) [].toArray cl.toArray):=by rfl) (hro:f.round=none:=by rfl) (hd:dOk f.n d=true:=by rfl)
 (hw:Wt ops p ⟨d,.defer ⟨.value fo, [].toArray,ats⟩,ty,pos,af,gd⟩=some true:=by rfl):
 XO P G f Q ops.toArray k (⟨d,.defer ⟨.value fo, [].toArray,ats⟩,ty,pos,af,gd⟩::rest) p ds cs q:=
 .defer_ hro hf rfl (fun w=>by simp [Deferred.ofValue,Wx.dfr]) hd x hw
def Quiet (P:Program)(G:World)(fn:FuncId)(cl:List Value):Prop:=CallD P G fn cl .returning [] fun e u q=>(∃ v,e= .returned v)/\u= .returning/\q= []
def Catches (P:Program)(G:World)(fn:FuncId)(cl:List Value)(E:PanicEntry)(pre post:List HP):Prop:=
 CallD P G fn cl (.panicking [E]) pre fun e u q=>(∃ v,e= .returned v)/\u= .panicking [{ E with recovered:=true }]/\q=post
section
variable {fn2:FuncId}{R:Ub}{F:List HP}{fd fd2:Func}{E:PanicEntry}{post F₀:List HP}
theorem Pf (hcf: ∀ args w,(callFunc fn2 args).run P w= .ok (.enter fn2 args) w)(hf:P.funcs[fn]? =some fd)(hc:Quiet P G fn2 cl)(h:Lv P G fn R F ds .returning p q):Lv P G fn R F (Wx.dfr fn2 cl::ds) .returning p q:=
 Lv.defer (vs:=cl) (F₀:=q) (by simp) (fun w=>by simp [invoke,hcf]) hc (.refl _) hf (fun v a q' ⟨_,c,b⟩=>by subst c;subst b;exact h) (fun ch a q' ⟨⟨v,e⟩,_⟩=>by cases e)
theorem Lv.catches (hcf: ∀ args w,(callFunc fn2 args).run P w= .ok (.enter fn2 args) w)(hf:P.funcs[fn]? =some fd)(hc:Catches P G fn2 cl E pre post)(hq:Le q (pre++F₀))(hg:E.goexit=false)(h:Lv P G fn R F [] .returning p (post++F₀)):Lv P G fn R F [Wx.dfr fn2 cl] (.panicking [E]) p q:=
 Lv.defer (vs:=cl) (F₀:=F₀) (by simp) (fun w=>by simp [invoke,hcf]) hc hq hf (fun v a q' ⟨_,c,b⟩=>by subst c;subst b;exact h) (fun ch a q' ⟨⟨v,e⟩,_⟩=>by cases e)
theorem Quiet.of (hf:P.funcs[fn]? =some fd)(hn:fd.ntmps=n)(hb:fd.body=some c)(h: ∀ F c₀ cs₀,(recoverD (c₀::cs₀)).getD (.nilIface,c₀::cs₀)=(.nilIface,c₀::cs₀)->
 X P G ⟨fn,n,.deferred,none⟩ (fun o p ds cs q=>cs=c₀::cs₀/\ds= []/\(o= .fall\/o= .jump .ret)/\(∃ v,∀ tm w,Agr tm p->St G w q->(results fd tm).run P w= .ok v w)/\Le q F) [.code c] (Se 0 cl) [] (c₀::cs₀) F) (hl:Nat.ble cl.length n=true:=by rfl):Quiet P G fn cl:=by
 refine CallD.of hf hn hb (fun F c₀ cs₀ i=> ?_) hl;refine fun tm w hn m s=> ?_
 obtain ⟨o,a,p',f,g,j,q',⟨e,d,l,⟨v,k⟩,b⟩,x,u,t,r⟩:=h F c₀ cs₀ (by simp [recoverD,i]) tm w hn m s;refine ⟨o,a,p',f,g,j,q',⟨d,.returning,?_,?_⟩,x,u,t,r⟩
 . rw [e,<-i]
 rcases l with rfl|rfl<;>exact ⟨v, [],k,⟨⟨v,rfl⟩,rfl,rfl⟩,b⟩
theorem Catches.of {ev:Value}(hf:P.funcs[fn]? =some fd)(hn:fd.ntmps=n)(hb:fd.body=some c)(hE:E= { v:=ev,recovered:=false })(h: ∀ F c₀ cs₀,(recoverD (c₀::cs₀)).getD (.nilIface,c₀::cs₀)=(ev, { c₀ with mode:= .panicking [{ E with recovered:=true }] } ::cs₀)->
 X P G ⟨fn,n,.deferred,none⟩ (fun o p ds cs q=>cs= { c₀ with mode:= .panicking [{ E with recovered:=true }] } ::cs₀/\ds= []/\(o= .fall\/o= .jump .ret)/\(∃ v,∀ tm w,Agr tm p->St G w q->(results fd tm).run P w= .ok v w)/\Le q (post++F)) [.code c] (Se 0 cl) [] (c₀::cs₀) (pre++F))
 (hl:Nat.ble cl.length n=true:=by rfl):Catches P G fn cl E pre post:=by
 refine CallD.of hf hn hb (fun F c₀ cs₀ l=> ?_) hl;refine fun tm w hn m s=> ?_
 obtain ⟨o,a,p',f,g,i,q',⟨e,d,k,⟨v,j⟩,b⟩,x,u,t,r⟩:=h F c₀ cs₀ (by simp [recoverD,l,hE]) tm w hn m s;refine ⟨o,a,p',f,g,i,q',⟨d,_,e,?_⟩,x,u,t,r⟩;rcases k with rfl|rfl<;>exact ⟨v,post,j,⟨⟨v,rfl⟩,rfl,rfl⟩,b⟩
end
theorem I0 {ats:Array TypeId}{cs':List Frame}{ty:TypeId}(hrec:(recoverD cs).getD (.nilIface,cs)=(v,cs'))(x:XO P G f Q ops.toArray k rest ((d,v)::p) ds cs' q)
 (hk:f.kind= .deferred:=by rfl) (hro:f.round=none:=by rfl) (hd:Nat.blt d f.n=true:=by rfl) (hw:Wt ops p ⟨some d,.call ⟨.builtin .recover,#[],ats⟩,ty,pos,af,gd⟩=some true:=by rfl):
 XO P G f Q ops.toArray k (⟨some d,.call ⟨.builtin .recover,#[],ats⟩,ty,pos,af,gd⟩::rest) p ds cs q:= .recover_ hk hro hrec hd x hw
end
end
section
variable {q:List HP}
section
variable {P:Program}{G:World}{f:Fc}{Q:Yw}{ops:List Oper}{k:List Item}{p:PE}{ds:List Deferred}{cs:List Frame}{rest:List Oper}{d:Tmp}{ty:TypeId}{pos:String}{af:Array Edge}{gd:Option (Nat×Bool)}{x:Operand}{s e t:TypeId}{a:Option Addr}{c:Nat}{q0:List HP}
theorem HL.app : ∀ {L L':Rds},HL q L->HL q L'->HL q (L++L')
 | [],_,_,h=>h
 |(_,_,_,_)::r,_,⟨h,k⟩,h'=>⟨h,HL.app k h'⟩
end
end
section
section
variable {P:Program}{G:World}{f:Fc}{Q:Yw}{ops:List Oper}{k:List Item}{p:PE}{ds:List Deferred}{cs:List Frame}{q:List HP}{pk:PE}{L:Rds}{n:Nat}{done:List Nat}{args:List Operand}{ats:Array TypeId}{ty:TypeId}{pos:String}{af:Array Edge}{gd:Option (Nat×Bool)}{vs:List Value}{u:Value}{d:Tmp}{fn:FuncId}
theorem Ys (i:Nat)(hcf: ∀ args w,(callFunc fn args).run P w= .ok (.enter fn args) w)(hc:CallF P G fn vs q (Ret fun v q'=>v=u/\q'=q))
 (K:XD P G f Q ops k pk (cut ⟨some d,.call ⟨.value (.func fn),args.toArray,ats⟩,ty,pos,af,gd⟩ L) n (i::done) ((d,u)::p) ds cs q)
 (ho:ops[i]? =some ⟨some d,.call ⟨.value (.func fn),args.toArray,ats⟩,ty,pos,af,gd⟩:=by rfl) (hv:evl p args=some vs:=by rfl)
 (hL:HL q (cut ⟨some d,.call ⟨.value (.func fn),args.toArray,ats⟩,ty,pos,af,gd⟩ L):=by exact hlA)
 (h1:Uc ops done i=true:=by rfl) (hr:rdy ops done i=true:=by rfl) (hw:Wt ops p ⟨some d,.call ⟨.value (.func fn),args.toArray,ats⟩,ty,pos,af,gd⟩=some true:=by rfl) (hd:Nat.blt d f.n=true:=by rfl):XD P G f Q ops k pk L (n+1) done p ds cs q:= .cR i hcf hc hL K ho hv h1 hr hw hd
end
end
end Wx
namespace Wx
open Go Go.RowKit Go.WideShapes
end Wx
namespace Wx
open Go Go.RowKit
section
variable {p:PE}{q F:List HP}
def Iter (P:Program)(G:World)(gv:Value)(xs:List (List Value))(pre:List HP):Prop:=
 ∀ (l:Nat) (J:Nat->HP) (Jf:HP->Prop),
  (∀ i (h:i<xs.length),CallV P G (.func (.yield l) #[] #[]) xs[i] (J i::pre) (Ret fun v q=>(v= .bool true/\q=J (i+1)::pre)\/(v= .bool false/\ ∃ A,Jf A/\q=A::pre)))->
  CallV P G gv [.func (.yield l) #[] #[]] (J 0::pre) (Ret fun _ q=>q=J xs.length::pre\/ ∃ A,Jf A/\q=A::pre)
def RQ (cs₀:List Frame)(rec:Loop)(l:Nat)(next:List HP)(Jmp:Code->List HP->Prop)(R:List HP):Yw:=fun o p ds cs q=>cs=cs₀/\ds= []/\match o with
 | .fall=>Le q (lp rec l .busy none::(next++R))
 | .jump c=> ∃ qs,Jmp c qs/\Le q (lp rec l .busy none::(qs++R))
 | .panic _=>False
section
variable {P:Program}{G:World}{f:Fc}{Q:Yw}{k:List Item}{ds:List Deferred}{cs:List Frame}
theorem X.range {g:Operand}{ps:List Tmp}{asc bd:Code}{gv:Value}{xs:List (List Value)}(pre:List HP)(Inv:Nat->List HP)(Jmp:Code->List HP->Prop)(hI:Iter P G gv xs pre)(hg:evp p g=some gv)(hq:Le q (Inv 0++(pre++F)))
 (hxs: ∀ x∈xs,x.length=ps.length) (hps:ps.all (Nat.blt · f.n)=true) (hf:(P.funcs[f.fn]?).isSome=true) (hro:f.round=none)
 (round: ∀ i (h:i<xs.length) l rec F₀ cs₀,X P G ⟨f.fn,f.n,.normal,some l⟩ (RQ cs₀ rec l (Inv (i+1)) Jmp (pre++F₀)) [.code asc,.beginRound,.code bd] (Gq ps xs[i] p) [] cs₀ (lp rec l .ready none::(Inv i++(pre++F₀))))
 (cont: ∀ r,X P G f Q k p (markD r::ds) cs (pto r (.deferred (some []))::(Inv xs.length++(pre++F))))
 (contJ: ∀ r c qs,Jmp c qs->X P G f Q (.code c::k) p (markD r::ds) cs (pto r (.deferred (some []))::(qs++(pre++F)))):
 X P G f Q (.code (.rangeFunc g ps.toArray asc bd)::k) p ds cs q:=by
 refine X.rangeFunc (pre:=Inv 0++pre) (F:=F) (R':=fun a m=>(a=none/\m=Inv xs.length++pre)\/ ∃ c qs,a=some c/\Jmp c qs/\m=qs++pre) hro hg (by rw [aK];exact hq) (fun l rec d=> ?_) fun r a m h=> ?_
 . have t:=hI l (fun i=>stars (lp rec l .ready none::Inv i)) (fun A=> ∃ c qs,Jmp c qs/\A=stars (lp rec l .done (some c)::qs)) fun i h=> ?_
   . refine hY (pre':=stars (lp rec l .ready none::Inv 0)::pre) ?_ t ?_
     . rw [show lp rec l .ready none::(Inv 0++pre)=(lp rec l .ready none::Inv 0)++pre from rfl];exact Zm _ _
     rintro e q' ⟨v,rfl,rfl|⟨A,⟨c,qs,b,rfl⟩,rfl⟩⟩
     . exact ⟨lp rec l .ready none::(Inv xs.length++pre),⟨v,rfl,.ready,none,_,by simp,rfl,.inl ⟨rfl,rfl⟩⟩,Zy _ _⟩
     exact ⟨lp rec l .done (some c)::(qs++pre),⟨v,rfl,.done,some c,_,by simp,rfl,.inr ⟨c,qs,rfl,b,rfl⟩⟩,Zy _ _⟩
   refine hY (pre':=lp rec l .ready none::(Inv i++pre)) (Zy _ _)
    (CallV.yield (R:=Ret fun v q=>(v= .bool true/\q=lp rec l .ready none::(Inv (i+1)++pre))\/(v= .bool false/\ ∃ c qs,Jmp c qs/\q=lp rec l .done (some c)::(qs++pre))) d hps (by simpa using hxs _ (aC h)) hf (fun F₀ cs₀=> ?_)) ?_
   . intro tm w hn ha s;obtain ⟨o,j,p',b0,c0,w',q',⟨a0,z,u⟩,h1,h2,h3,h4⟩:=round i h l rec F₀ cs₀ tm w hn ha (by rw [aK] at s;exact s);refine ⟨o,j,p',b0,c0,w',q',⟨a0,z,?_⟩,h1,h2,h3,h4⟩
     cases o with
     |fall=>exact ⟨Inv (i+1)++pre,⟨_,rfl,.inl ⟨rfl,rfl⟩⟩,by rw [aK];exact u⟩
     |jump c=>obtain ⟨qs,b,y⟩:=u;exact ⟨qs++pre,⟨_,rfl,.inr ⟨rfl,c,qs,b,rfl⟩⟩,by rw [aK];exact y⟩
     |panic ch=>exact u.elim
   rintro e q' ⟨v,rfl,⟨rfl,rfl⟩|⟨rfl,c,qs,b,rfl⟩⟩
   . exact ⟨stars (lp rec l .ready none::Inv (i+1))::pre,⟨_,rfl,.inl ⟨rfl,rfl⟩⟩,Zm (lp rec l .ready none::Inv (i+1)) pre⟩
   exact ⟨stars (lp rec l .done (some c)::qs)::pre,⟨_,rfl,.inr ⟨rfl,_,⟨c,qs,b,rfl⟩,rfl⟩⟩,Zm (lp rec l .done (some c)::qs) pre⟩
 rcases h with ⟨rfl,rfl⟩|⟨c,qs,rfl,b,rfl⟩
 . have:=cont r;rw [<-aK] at this;exact this
 have:=contJ r c qs b;rw [<-aK] at this;exact this
theorem Ke {fn:FuncId}{R:Ub}{u:FrameMode}{q':List HP}{r:Nat}(h:Lv P G fn R F ds u p q')(hu:u≠ .run:=by simp)(hq:Le q (pto r (.deferred (some []))::q'):=by exact Zj):Lv P G fn R F (markD r::ds) u p q:=Zv9 hu hq h
end
end
section
variable {q q':List HP}{i:Nat}{P:Program}{G:World}{f:Fc}{Q:Yw}{p:PE}{ds:List Deferred}{cs:List Frame}
section
variable {α β:Type}{h:α->HP}{l:List α}
theorem U1 (A:HP)(l:List HP)(q:List HP):Le (A::stars l::q) (stars (A::l)::q):=Le.fuse _ _ _
theorem Fl (A:HP)(l:List HP)(q:List HP):Le (stars (A::l)::q) (A::stars l::q):=Le.split _ _ _
theorem Yr (q:List HP):Le q (stars []::q):=fun _ k p=>⟨fun _=>none,k,fun _=> .inl rfl,fun _ _ e=>by simp at e,.refl _,trivial,p⟩
theorem Nt (a b:List HP)(q:List HP):Le (stars a::stars b::q) (stars (a++b)::q):=by
 refine (Zy a _).trans ?_;refine aM (b:=a++(b++q)) (Q2 a (Zy b q)) ?_;rw [<-aK];exact Zm _ _
theorem Ts (a b:List HP)(q:List HP):Le (stars (a++b)::q) (stars a::stars b::q):=by
 refine (Zy (a++b) q).trans ?_;rw [aK];exact (Q2 a (Zm b q)).trans (Zm a _)
theorem Le.focus (h:α->HP){l:List α}(hi:i<l.length)(q:List HP):Le (stars (l.map h)::q) (h l[i]::stars ((l.eraseIdx i).map h)::q):=by
 have e:l.map h=(l.take i).map h++(h l[i]::(l.drop (i+1)).map h):=by
  conv=>lhs;rw [<-dZ i l,aP hi]
  rw [aO,bA]
 have a:(l.eraseIdx i).map h=(l.take i).map h++(l.drop (i+1)).map h:=by rw [List.eraseIdx_eq_take_drop_succ,aO]
 rw [e,a];refine (Ts _ _ q).trans ?_;refine (cG _ (Fl _ _ q)).trans ?_;exact (iS _ _ _).trans (cG _ (Nt _ _ q))
theorem Bh (h:α->HP){l:List α}(hi:i<l.length)(x:α)(q:List HP):Le (h x::stars ((l.eraseIdx i).map h)::q) (stars ((l.set i x).map h)::q):=by
 have e:(l.set i x).map h=(l.take i).map h++(h x::(l.drop (i+1)).map h):=by
  rw [eX,if_pos hi];simp
 have a:(l.eraseIdx i).map h=(l.take i).map h++(l.drop (i+1)).map h:=by rw [List.eraseIdx_eq_take_drop_succ,aO]
 rw [e,a];refine (cG _ (Ts _ _ q)).trans ?_;refine (iS _ _ _).trans ?_;exact (cG _ (U1 _ _ q)).trans (Nt _ _ q)
theorem U0 (h:α->HP)(l:List α)(x:α)(q:List HP):Le (stars (l.map h)::h x::q) (stars ((l++ [x]).map h)::q):=by
 rw [aO];refine aM (cG _ ?_) (Nt _ _ q);exact (cG _ (Yr q)).trans (U1 _ _ q)
theorem Oz (h:α->HP)(x:α)(hx: ∀ q,Le q (h x::q))(n:Nat)(q:List HP):Le q (stars ((List.replicate n x).map h)::q):=by
 induction n with
 |zero=>exact Yr q
 |succ n ih=>
  rw [List.replicate_succ,bA];exact ih.trans ((hx _).trans (U1 _ _ q))
end
theorem X.turn {todo:List Item}(h: ∀ w,St G w q->St G w q')(x:X P G f Q todo p ds cs q'):X P G f Q todo p ds cs q:=fun tm w hn ag s=>x tm w hn ag (h w s)
theorem XO.turn {ops:List Oper}{k:List Item}{l:List Oper}(h: ∀ w,St G w q->St G w q')(x:XO P G f Q ops.toArray k l p ds cs q'):XO P G f Q ops.toArray k l p ds cs q:=fun is e=> .turn h (x is e)
end
section
variable {p:PE}{d j:Nat}{tm:Array Value}{v:Value}{q q':List HP}{ops:List Oper}{done:List Nat}{R:Value->List HP->Prop}{pos:String}{af:Array Edge}{gd:Option (Nat×Bool)}
structure FlE where
 i:Nat
 d:Nat
 V:Nat->Value
 A:Nat->HP
variable {e e0:FlE}
abbrev FlS:=List (FlE×Nat)
def Uv (S:FlS):List Nat:=S.map (·.1.i)
def fCh (S:FlS):List HP:=S.map fun e=>e.1.A e.2
def fAgr (tm:Array Value)(S:FlS):Prop:= ∀ e∈S,tm.getD e.1.d undef=e.1.V e.2
def Dy (p:PE)(d:Nat):Bool:=p.all fun x=> !(x.1==d)
theorem Xr (h:Dy p d=true):lkp p d=none:=by
 induction p with
 |nil=>rfl
 |cons x r ih=>
  obtain ⟨y,z⟩:=x;simp only [Dy,iK,aR] at h;simp only [lkp]
  have:Nat.beq y d=false:=by
   cases hb:Nat.beq y d with
   |false=>rfl
   |true=>rw [cX hb] at h;simp at h
  rw [this];exact ih h.2
theorem Agr.put_free (h:Dy p d=true)(a:Agr tm p):Agr (Wg tm (some d) v) p:=by
 intro t u e;have b:d≠t:=by rintro rfl;rw [Xr h] at e;cases e
 have:=a t u e;simpa [Wg,eC,b] using this
theorem HL.le (l:Le q q'): ∀ {L:Rds},HL q' L->HL q L
 | [],_=>trivial
 |(_,_,_,_)::_,h=>⟨fun G w s=>h.1 G w (s.le l),HL.le l h.2⟩
theorem HL.sub : ∀ {L L':Rds},(∀ e∈L',e∈L)->HL q L->HL q L':=by
 intro L L' c h
 have b: ∀ {L:Rds},HL q L-> ∀ e∈L,Cl q ⟨e.2.1,e.2.2.1,none⟩ e.2.2.2:=by
  intro L
  induction L with
  |nil=>intro _ e a;cases a
  |cons x r ih=>intro h e a;rcases bG.1 a with rfl|a;exact h.1;exact ih h.2 e a
 induction L' with
 |nil=>trivial
 |cons x r ih=>exact ⟨b h x (c x (bW ..)),ih fun e a=>c e (bX _ a)⟩
theorem Vw (h:rdy ops done j=true):j∉done:=by
 intro a;unfold rdy at h;simp [a] at h
theorem Tw {E:List Nat}(h:rdy ops done j=true)(hn:j∉E):rdy ops (E++done) j=true:=by
 induction E with
 |nil=>exact h
 |cons x r ih=>exact T6 (ih fun a=>hn (bX _ a)) (fun e=>hn (e ▸ bW ..))
theorem F3 {done':List Nat}(h:rdy ops done j=true)(hs: ∀ x∈done,x∈done')(hn:j∉done'):rdy ops done' j=true:=by
 unfold rdy at*;simp only [aR,hU] at h|-;refine ⟨by simpa using hn,?_⟩
 cases ho:ops[j]? with
 |none=>rw [ho] at h;simp at h
 |some o=>
  rw [ho] at h;have a:=h.2;simp only [Zwl,cQ] at a|-;intro e b;have:=a e b;simp only [eS] at this|-;rcases this with x|x
  . exact .inl x
  right;simp at x|-;exact hs _ x
section
variable {P:Program}{G:World}{f:Fc}{Q:Yw}{k:List Item}{pk:PE}{ds:List Deferred}{cs:List Frame}{n:Nat}{L:Rds}{o:Oper}{fl:List FlE}
def XF (P:Program)(G:World)(f:Fc)(Q:Yw)(ops:List Oper)(k:List Item)(pk:PE)(fl:List FlE)(L:Rds)(n:Nat)(done:List Nat)(p:PE)(ds:List Deferred)(cs:List Frame)(q:List HP):Prop:=
 okR ops=true->R8 ops pk=true-> ∀ (S:FlS) m tm w,(Uv S).Nodup->(∀ e∈S,e.1∈fl)->m+S.length=n->tm.size=f.n->Agr tm p->fAgr tm S->St G w (q++fCh S)->
  WA P ops (Ke' P G f Q k ds cs) (Kp' G Q f.n pk ds cs) m L (Uv S++done) tm w
def FlR (P:Program)(G:World)(f:Fc)(ops:List Oper)(done:List Nat)(p:PE):List FlE->Prop
 | []=>True
 |e::r=>(∃ o,ops[e.i]? =some o/\o.dst=some e.d/\rdy ops done e.i=true/\Wt ops p o=some true/\Nat.blt e.d f.n=true/\Dy p e.d=true/\ ∀ q,Ef P G p q o fun v q'=> ∃ g,v=e.V g/\q'=e.A g::q)/\FlR P G f ops done p r
theorem FlR.get : ∀ {fl:List FlE},FlR P G f ops done p fl->e∈fl-> ∃ o,ops[e.i]? =some o/\o.dst=some e.d/\rdy ops done e.i=true/\Wt ops p o=some true/\Nat.blt e.d f.n=true/\Dy p e.d=true/\ ∀ q,Ef P G p q o fun v q'=> ∃ g,v=e.V g/\q'=e.A g::q
 |x::r,⟨h,h2⟩,a=>by
  rcases bG.1 a with rfl|a
  . exact h
  exact h2.get a
theorem Zwq (A:HP)(q E:List HP):Le (A::(q++E)) (q++(A::E)):=by
 induction q with
 |nil=>exact aH _
 |cons B r ih=>exact (iS A B _).trans (ih.cons B)
theorem Le.midB (A:HP)(q E:List HP):Le (q++(A::E)) (A::(q++E)):=by
 induction q with
 |nil=>exact aH _
 |cons B r ih=>exact (ih.cons B).trans (iS B A _)
theorem Cs (hok:okR ops=true){i:Nat}{x y:Oper}(hx:ops[i]? =some x)(hy:ops[j]? =some y)(hne:i≠j){D D':List Nat}(hi:rdy ops D i=true)(hj:rdy ops D' j=true)(hiD:j∉D)(hjD:i∉D')(hd:x.dst=some d):y.dst≠some d:=by
 rcases Xy hok hx hy hne with h|h|h
 . exact aV (G7 hx hi h) hiD
 . exact aV (G7 hy hj h) hjD
 exact ((C4 h).1 d hd).2
theorem Dt (hok:okR ops=true)(hR:FlR P G f ops done p fl){S:FlS}{w:World}(h1:(Uv S).Nodup)(h2: ∀ e∈S,e.1∈fl)(hn:tm.size=f.n)(ag:Agr tm p)(fa:fAgr tm S)(s:St G w (q++fCh S))
  (he:e∈fl) (hx:e.i∉Uv S) {oe:Oper} (ho:ops[e.i]? =some oe) {K:Array Value->World->Prop} {Kp:List PanicEntry->Array Value->World->Prop}
 (hK: ∀ g tm' w',(Uv ((e,g)::S)).Nodup->(∀ x∈(e,g)::S,x.1∈fl)->tm'.size=f.n->Agr tm' p->fAgr tm' ((e,g)::S)->St G w' (q++fCh ((e,g)::S))->K tm' w'):OW P ops oe tm w K Kp:=by
 obtain ⟨o,c,y,hr,hw,r,t,hE⟩:=hR.get he;rw [ho] at c;cases c
 unfold OW;rw [if_pos (Yt ag hw)];refine ((hE _).ap tm w ag s).mono fun en w' _ hh=> ?_
 obtain ⟨q',⟨v,rfl,g,rfl,rfl⟩,s'⟩:=hh;have k:e.d<tm.size:=by rw [hn];simpa [fI] using r
 refine hK g _ w' ?_ ?_ ?_ ?_ ?_ ?_
 . exact gX.2 ⟨hx,h1⟩
 . intro x hx;rcases bG.1 hx with rfl|hx;exact he;exact h2 x hx
 . rw [Yg];exact hn
 . rw [y];exact ag.put_free t
 . intro x a;rw [y];rcases bG.1 a with rfl|a
   . simp [Wg,k]
   obtain ⟨o2,l,u,b,_,_,_,_⟩:=hR.get (h2 x a);have m:e.i≠x.1.i:=fun z=>hx (by rw [z];exact aZ a)
   have j:=Cs hok ho l m hr b (Vw b) (Vw hr) y;rw [u] at j;have h:e.d≠x.1.d:=fun z=>j (by rw [z])
   have:=fa x a;simpa [Wg,eC,h] using this
 exact s'.le (Zwq _ _ _)
theorem Yd (h:XF P G f Q ops k pk fl L n done p ds cs q):XD P G f Q ops k pk L n done p ds cs q:=fun a b tm w c g s i=>by
 have:=h a b [] n tm w (by simp [Uv]) (by simp) (by simp) c g (by intro e d;cases d) (by simpa [fCh] using s);simpa [Uv] using this
theorem XF.back (h:XD P G f Q ops k pk L n done p ds cs q)(hL:HL q L:=by exact hlA):XF P G f Q ops k pk [] L n done p ds cs q:=fun a b S m tm w l i g d j o s=>by
 cases S with
 |nil=>
  have e:m=n:=by simpa using g
  subst e;have c:St G w q:=by simpa [fCh] using s
  exact h a b tm w d j c (hL.sl c)
 |cons x r=>exact aV (i x (bW ..)) (by simp)
abbrev eQ:=@XF.back
def onlyF (ops:List Oper)(fl done:List Nat)(i:Nat):Bool:=(List.range ops.length).all fun j=>j==i||fl.contains j|| !rdy ops (fl++done) j
theorem XF.step (j:Nat){oj:Oper}(hR:FlR P G f ops done p fl)(ho:ops[j]? =some oj)(hE: ∀ E,Ef P G p (q++E) oj fun v q'=> ∃ q1,R v q1/\q'=q1++E)(hL:HL q L)
 (K: ∀ v q1,R v q1->XF P G f Q ops k pk fl (cut oj L) n (j::done) (Qg p oj.dst v) ds cs q1)
 (hon:onlyF ops (fl.map (·.i)) done j=true) (hjf:(fl.map (·.i)).contains j=false) (hr:rdy ops done j=true) (hw:Wt ops p oj=some true) (hd:dOk f.n oj.dst=true) (hlen:Nat.ble fl.length n=true) (hKL: ∀ v q1,R v q1->HL q1 (cut oj L)):
 XF P G f Q ops k pk fl L (n+1) done p ds cs q:=by
 intro a b S m
 induction m generalizing S with
 |zero=>
  intro tm w h1 z h3 hn ag fa s;exfalso
  have m0:S.length<=fl.length:=by
   have h4:(Uv S).length<=(fl.map (·.i)).length:=by
    refine List.Nodup.length_le_of_subset h1 fun x hx=> ?_
    obtain ⟨e,l,rfl⟩:=bS.1 hx;exact aZ (z e l)
   simpa [Uv] using h4
  have:fl.length<=n:=by simpa using hlen
  omega
 |succ m ih=>
  intro tm w h1 z h3 hn ag fa s
  have b0:j∉Uv S:=fun r=>by
   obtain ⟨e,l,e'⟩:=bS.1 r;have:j∈fl.map (·.i):=by rw [<-e'];exact aZ (z e l)
   simp [this] at hjf
  have h0:=Tw hr b0;refine ⟨fun u=>aV h0 (by simp [u j]),fun x ox o t=> ?_⟩;by_cases hxj:x=j
  . subst hxj;rw [ho] at o;cases o
    unfold OW;rw [if_pos (Yt ag hw)];refine ((hE (fCh S)).ap tm w ag s).mono fun en w' _ hh=> ?_
    obtain ⟨q',⟨v,rfl,q1,hv,rfl⟩,s'⟩:=hh;refine ⟨((hKL v q1 hv).le (Wq q1 (fCh S))).sl s',?_⟩;refine WA.congr _ (done:=Uv S++(x::done)) (fun y=>by simp only [bE,bG];exact ⟨fun h=>by rcases h with h|h|h<;>simp [h],fun h=>by rcases h with h|h|h<;>simp [h]⟩) ?_;refine K v q1 hv a b S m _ w' h1 z (by omega) (by rw [Yg];exact hn) (ag.put (hn ▸ hd)) ?_ s';intro e l;obtain ⟨o2,i0,l0,a0,_,_,_,_⟩:=hR.get (z e l);have j0:e.1.i≠x:=fun e'=>b0 (by rw [<-e'];exact aZ l)
    have k0:=Cs a i0 ho j0 a0 hr (Vw hr) (Vw a0) l0;have:=fa e l
    cases hdo:oj.dst with
    |none=>simpa [Wg] using this
    |some d=>
     have c0:d≠e.1.d:=fun e'=>k0 (by rw [hdo,e'])
     simpa [Wg,eC,c0] using this
  have e0:x<ops.length:=(cA.1 o).1
  have f0:x∈fl.map (·.i):=by
   have h4:=cQ.1 hon x (by simpa using e0);rcases eB (x∈fl.map (·.i)) with h5|h5
   . exact h5
   have h6:rdy ops (fl.map (·.i)++done) x=true:=F3 t (fun y c=>by
    rcases bE.1 c with c|c
    . obtain ⟨e,l,rfl⟩:=bS.1 c;exact eH _ (aZ (z e l))
    . exact eM _ c) (fun r=>by
    rcases bE.1 r with r|r
    . exact h5 r
    exact Vw t (eM _ r))
   simp [hxj,h6] at h4;simp at h5;obtain ⟨y,c,e⟩:=h4;exact aV e (h5 y c)
  obtain ⟨e,l,rfl⟩:=bS.1 f0;have g0:e.i∉Uv S:=fun r=>Vw t (eH _ r)
  refine Dt a hR h1 z hn ag fa s l g0 o fun g d0 w' k1 k2 k3 k4 k5 k6=> ?_
  refine ⟨((hL.sub fun y c=>(U4.1 c).1).le (Wq q _)).sl k6,?_⟩;exact WA.mono _ (fun y c=>(U4.1 c).1) (ih ((e,g)::S) d0 w' k1 k2 (by simp;omega) k3 k4 k5 k6)
theorem XF.absorb (i:Nat)(he0:fl.find? (fun e=>e.i==i)=some e0)(hR:FlR P G f ops done p fl)(hL:HL q L)
 (K: ∀ g,XF P G f Q ops k pk (fl.filter fun e=> !(e.i==i)) L n (i::done) ((e0.d,e0.V g)::p) ds cs (e0.A g::q))
 (hnd:(fl.map (·.i)).Nodup) (hon:((List.range ops.length).all fun j=>(fl.map (·.i)).contains j|| !rdy ops (((fl.filter fun e=> !(e.i==i)).map (·.i))++done) j)=true) (hlen:Nat.ble fl.length (n+1)=true):
 XF P G f Q ops k pk fl L (n+1) done p ds cs q:=by
 have g0:e0∈fl:=jQ he0;have a0:e0.i=i:=by have:=List.find?_some he0;simpa using this
 have b0: ∀ e∈fl,e.i=i->e=e0:=by
  intro e c s0;have h1:=List.mem_iff_getElem.1 c;have v:=List.mem_iff_getElem.1 g0;obtain ⟨x,hx,rfl⟩:=h1;obtain ⟨y,l,rfl⟩:=v
  have:x=y:=by
   have h3:(fl.map (·.i))[x]'(by simpa using hx)=(fl.map (·.i))[y]'(by simpa using l):=by simp [s0,a0]
   exact (List.getElem_inj hnd).1 h3
  subst this;rfl
 intro a b
 have h0: ∀ (S:FlS) m tm w g,(e0,g)∈S->(Uv S).Nodup->(∀ e∈S,e.1∈fl)->m+S.length=n+1->tm.size=f.n->Agr tm p->fAgr tm S->St G w (q++fCh S)->WA P ops (Ke' P G f Q k ds cs) (Kp' G Q f.n pk ds cs) m L (Uv S++done) tm w:=by
  intro S m tm w g o h1 v h3 hn ag fa s;obtain ⟨S1,S2,rfl⟩:=List.append_of_mem o
  have c0:(Uv (S1++S2)).Nodup/\i∉Uv (S1++S2):=by
   unfold Uv at h1|-;rw [aO,bA,<-a0] at*;have r:=List.perm_middle.nodup_iff.1 h1;exact ⟨(gX.1 r).2,(gX.1 r).1⟩
  have:=K g a b (S1++S2) m tm w c0.1 (fun e c=>by
   have t0:e.1∈fl:=v e (by rcases bE.1 c with c|c<;>simp [c]);refine gY.2 ⟨t0,?_⟩;have:e.1.i≠i:=fun e'=>c0.2 (by rw [<-e'];exact aZ c)
   simp [this]) (by simp at h3|-;omega) hn (by
   intro t u hu;simp only [lkp] at hu
   cases hb:Nat.beq e0.d t with
   |true=>
    rw [hb] at hu;have:=cX hb;subst this;simp at hu;subst hu;exact fa (e0,g) o
   |false=>rw [hb] at hu;exact ag t u (by simpa using hu)) (fun e c=>fa e (by rcases bE.1 c with c|c<;>simp [c])) (s.le (by
   unfold fCh;rw [aO,bA,aO];rw [<-aK];refine (Le.midB _ _ _).trans ?_;rw [aK];exact aH _))
  refine this.congr _ fun y=> ?_
  unfold Uv;simp only [aO,bA,bE,bG,a0];exact ⟨fun h=>by rcases h with (h|h)|h|h<;>simp [h],fun h=>by rcases h with (h|h|h)|h<;>simp [h]⟩
 intro S m
 induction m generalizing S with
 |zero=>
  intro tm w h1 v h3 hn ag fa s;by_cases o: ∃ g,(e0,g)∈S
  . obtain ⟨g,o⟩:=o;exact h0 S 0 tm w g o h1 v h3 hn ag fa s
  exfalso
  have r:(e0.i::Uv S).length<=(fl.map (·.i)).length:=by
   refine List.Nodup.length_le_of_subset (gX.2 ⟨fun z=> ?_,h1⟩) fun x hx=> ?_
   . obtain ⟨e,c,e'⟩:=bS.1 z;have:=b0 e.1 (v e c) (e'.trans a0);exact o ⟨e.2,by rw [<-this];exact c⟩
   rcases bG.1 hx with rfl|hx
   . exact aZ g0
   obtain ⟨e,c,rfl⟩:=bS.1 hx;exact aZ (v e c)
  have:fl.length<=n+1:=by simpa using hlen
  simp [Uv] at r;omega
 |succ m ih=>
  intro tm w h1 v h3 hn ag fa s;by_cases o: ∃ g,(e0,g)∈S
  . obtain ⟨g,o⟩:=o;exact h0 S (m+1) tm w g o h1 v h3 hn ag fa s
  have l0:i∉Uv S:=fun z=>by
   obtain ⟨e,c,e'⟩:=bS.1 z;have:=b0 e.1 (v e c) e';exact o ⟨e.2,by rw [<-this];exact c⟩
  obtain ⟨oi,r0,u0,j0,_⟩:=hR.get g0;rw [a0] at r0 j0;have i0:=Tw j0 l0;refine ⟨fun f0=>aV i0 (by simp [f0 i]),fun x ox k0 d0=> ?_⟩;have o0:x<ops.length:=(cA.1 k0).1
  have p0:x∈fl.map (·.i):=by
   have r:=cQ.1 hon x (by simpa using o0);rcases eB (x∈fl.map (·.i)) with h5|h5
   . exact h5
   have h6:rdy ops ((fl.filter fun e=> !(e.i==i)).map (·.i)++done) x=true:=F3 d0 (fun y l=>by
    rcases bE.1 l with l|l
    . have n0:y≠i:=fun e=>l0 (e ▸ l)
      obtain ⟨e,c,rfl⟩:=bS.1 l;exact eH _ (aZ (gY.2 ⟨v e c,by simpa using n0⟩))
    . exact eM _ l) (fun z=>by
    rcases bE.1 z with z|z
    . obtain ⟨e,c,rfl⟩:=bS.1 z;exact h5 (aZ (gY.1 c).1)
    exact Vw d0 (eM _ z))
   simp only [eS,hU] at r;rcases r with r|r
   . exact aV (by simpa using r) h5
   rw [h6] at r;cases r
  obtain ⟨e,c,rfl⟩:=bS.1 p0;have q0:e.i∉Uv S:=fun z=>Vw d0 (eH _ z)
  refine Dt a hR h1 v hn ag fa s c q0 k0 fun g m0 w' k1 k2 k3 k4 k5 k6=> ?_
  refine ⟨((hL.sub fun y l=>(U4.1 l).1).le (Wq q _)).sl k6,?_⟩;exact WA.mono _ (fun y l=>(U4.1 l).1) (ih ((e,g)::S) m0 w' k1 k2 (by simp;omega) k3 k4 k5 k6)
theorem Oj: ∀ a b:List HP,Le (a++b) (b++a)
 | [],b=>by rw [bR];exact aH _
 |A::a,b=>((Oj a b).cons A).trans (Zwq A b a)
theorem Le.liftR (h:Le q q')(E:List HP):Le (q++E) (q'++E):=(Oj q E).trans ((Q2 E h).trans (Oj E q'))
theorem XF.pu_ (i:Nat)(hR:FlR P G f ops done p fl)(ho:ops[i]? =some o)(h:Pu P p o v)(hL:HL q L)(K:XF P G f Q ops k pk fl L n (i::done) (Qg p o.dst v) ds cs q)
 (hif:(fl.map (·.i)).contains i=false) (hr:rdy ops done i=true) (hw:Wt ops p o=some true) (hd:dOk f.n o.dst=true) (hlen:Nat.ble fl.length n=true):XF P G f Q ops k pk fl L (n+1) done p ds cs q:=by
 intro a b S m tm w h1 t h3 hn ag fa s
 have j:i∉Uv S:=fun hm=>by
  obtain ⟨e,c,r⟩:=bS.1 hm;have:i∈fl.map (·.i):=by rw [<-r];exact aZ (t e c)
  simp [this] at hif
 have c0:S.length<=fl.length:=by
  have h4:(Uv S).length<=(fl.map (·.i)).length:=by
   refine List.Nodup.length_le_of_subset h1 fun x hx=> ?_
   obtain ⟨e,c,rfl⟩:=bS.1 hx;exact aZ (t e c)
  simpa [Uv] using h4
 have h5:fl.length<=n:=by simpa using hlen
 obtain ⟨m,rfl⟩: ∃ m',m=m'+1:=⟨m - 1,by omega⟩;have hS:=(hL.le (Wq q (fCh S))).sl s;refine WA.first (Li:= []) a ho (fun ch tm w=>kT b ho ch tm w) (fun e c=>by cases c) m L _ tm w (fun e c=>by cases c) (Tw hr j) (.inl ⟨Yt ag hw,fun w' _=>h tm w' ag⟩) hS ?_;refine WA.congr _ (done:=Uv S++(i::done)) (fun y=>by simp only [bE,bG];exact ⟨fun h=>by rcases h with h|h|h<;>simp [h],fun h=>by rcases h with h|h|h<;>simp [h]⟩) ?_;refine K a b S m _ w h1 t (by omega) (by rw [Yg];exact hn) (ag.put (hn ▸ hd)) ?_ s;intro e c;obtain ⟨o2,u,b0,g,_,_,_,_⟩:=hR.get (t e c);have z:e.1.i≠i:=fun r=>j (by rw [<-r];exact aZ c)
 have a0:=Cs a u ho z g hr (Vw hr) (Vw g) b0;have:=fa e c
 cases hdo:o.dst with
 |none=>simpa [Wg] using this
 |some d=>
  have l:d≠e.1.d:=fun r=>a0 (by rw [hdo,r])
  simpa [Wg,eC,l] using this
section
variable {d:Tmp}{op:Op}{ty:TypeId}
theorem Qa (i:Nat)(hR:FlR P G f ops done p fl)(h:Pu P p ⟨some d,op,ty,pos,af,gd⟩ v)(K:XF P G f Q ops k pk fl L n (i::done) ((d,v)::p) ds cs q)(ho:ops[i]? =some ⟨some d,op,ty,pos,af,gd⟩:=by rfl)(hL:HL q L:=by exact hlA)
 (hif:(fl.map (·.i)).contains i=false:=by rfl) (hr:rdy ops done i=true:=by rfl) (hw:Wt ops p ⟨some d,op,ty,pos,af,gd⟩=some true:=by rfl) (hd:Nat.blt d f.n=true:=by rfl) (hlen:Nat.ble fl.length n=true:=by rfl):XF P G f Q ops k pk fl L (n+1) done p ds cs q:=
 .pu_ i hR ho h hL K hif hr hw hd hlen
theorem Ws (i:Nat)(hR:FlR P G f ops done p fl)(K: ∀ g,XF P G f Q ops k pk (fl.filter fun e=> !(e.i==i)) L n (i::done) ((e0.d,e0.V g)::p) ds cs (e0.A g::q))(he0:fl.find? (fun e=>e.i==i)=some e0:=by rfl)(hL:HL q L:=by exact hlA)
 (hnd:(fl.map (·.i)).Nodup:=by decide) (hon:((List.range ops.length).all fun j=>(fl.map (·.i)).contains j|| !rdy ops (((fl.filter fun e=> !(e.i==i)).map (·.i))++done) j)=true:=by rfl) (hlen:Nat.ble fl.length (n+1)=true:=by rfl):
 XF P G f Q ops k pk fl L (n+1) done p ds cs q:= .absorb i he0 hR hL K hnd hon hlen
theorem XF.ef (i:Nat)(hR:FlR P G f ops done p fl)(hE: ∀ E,Ef P G p (q++E) ⟨some d,op,ty,pos,af,gd⟩ fun v q'=> ∃ q1,R v q1/\q'=q1++E)
 (K: ∀ v q1,R v q1->HL q1 (cut ⟨some d,op,ty,pos,af,gd⟩ L)/\XF P G f Q ops k pk fl (cut ⟨some d,op,ty,pos,af,gd⟩ L) n (i::done) ((d,v)::p) ds cs q1)
 (ho:ops[i]? =some ⟨some d,op,ty,pos,af,gd⟩:=by rfl) (hL:HL q L:=by exact hlA) (hon:onlyF ops (fl.map (·.i)) done i=true:=by rfl) (hif:(fl.map (·.i)).contains i=false:=by rfl) (hr:rdy ops done i=true:=by rfl) (hw:Wt ops p ⟨some d,op,ty,pos,af,gd⟩=some true:=by rfl) (hd:Nat.blt d f.n=true:=by rfl) (hlen:Nat.ble fl.length n=true:=by rfl):
 XF P G f Q ops k pk fl L (n+1) done p ds cs q:= .step i hR ho hE hL (fun v q1 h=>(K v q1 h).2) hon hif hr hw hd hlen (fun v q1 h=>(K v q1 h).1)
abbrev jZ:=@XF.ef
end
theorem H5 {α:Type}{r:List HP}{fe:α->Value}{a b:Option Addr}{c c':Nat}{l m:List α}{e:TypeId}{d:Option Tmp}{ty':TypeId}{x y:Operand}{t:TypeId}{z:Value}{bytes:Nat}(ht:P.underlying t=some (.slice e))(hi:(P.info? e).map (fun i=>(i.zero,i.size,i.bytes))=some (some z,1,bytes))(hz:z.cells.size=1)
 (hx:evp p x=some (.slice a l.length c)) (hy:evp p y=some (.slice b m.length c')) (hq:Le q (Wx.lsH fe e a c l::r)) (hs:Sees q b (m.map fe)) (h1: ∀ u,(fe u).oneCell'=true)
 (h63:l.length+m.length<=9223372036854775807) (hby:(l.length+m.length)*bytes<=140737488355328) (E:List HP):
 Ef P G p (q++E) ⟨d,.call ⟨.builtin .append, [x,y].toArray, [t,t].toArray⟩,ty',pos,af,gd⟩ fun v q'=> ∃ q1,(∃ a' c',v= .slice a' (l++m).length c'/\q1=Wx.lsH fe e a' c' (l++m)::r)/\q'=q1++E:=by
 intro tm w o s;obtain ⟨v,j,q',g,f,a',h,n,k⟩:=Yb (P:=P) (G:=G) (d:=d) (ty':=ty') (pos:=pos) (af:=af) (gd:=gd) (r:=r++E) ht hi hz hx hy (hq.liftR E) (hs.le (Wq q E)) h1 h63 hby tm w o s;exact ⟨v,j,q',g,f,_,⟨a',h,n,rfl⟩,k⟩
end
end
section
section
variable {P:Program}{G:World}{f:Fc}{Q:Yw}{ops:List Oper}{k:List Item}{pk p:PE}{ds:List Deferred}{cs:List Frame}{q r:List HP}{n:Nat}{done:List Nat}{L:Rds}{v:Value}{fl:List FlE}{op:Op}{ty:TypeId}{pos:String}{af:Array Edge}{gd:Option (Nat×Bool)}{t:TypeId}{x y:Operand}
theorem Ef.stE {b o:Nat}{l:List Value}{t':TypeId}{d:Option Tmp}(hs: ∀ w,(Go.sizeOf t).run P w= .ok 1 w)(hx:evp p x=some (.pointer (some ⟨b,o,none⟩)))(hy:evp p y=some v)
 (hv:v.cells= #[v]) (h1:v.oneCell'=true) (hq:Le q (pto b (.cells l.toArray t' (0,0))::r)) (ho:Nat.blt o l.length=true) (E:List HP):
 Ef P G p (q++E) ⟨d,.store t x y,ty,pos,af,gd⟩ fun z q'=> ∃ q1,(z=undef/\q1=pto b (.cells (J6 l o v).toArray t' (0,0))::r)/\q'=q1++E:=by
 intro tm w h s;obtain ⟨z,e,q',c,a,g,f⟩:=Ef.store (P:=P) (G:=G) (d:=d) (ty:=ty) (pos:=pos) (af:=af) (gd:=gd) (r:=r++E) hx hy hs hv h1 (hq.liftR E) ho tm w h s;exact ⟨z,e,q',c,a,_,⟨g,rfl⟩,f⟩
end
end
section
variable {P:Program}{p:PE}{d:Option Tmp}{pos:String}{af:Array Edge}{gd:Option (Nat×Bool)}{x y:Operand}
section
variable {ty:TypeId}{t t':TypeId}
theorem Zj0 {ty:TypeId}{z:Operand}{t e:TypeId}{a:Option Addr}{n c sz:Nat}{kd kd':IntKind}{h m:Int}(hx:evp p x=some (.slice a n c))(hy:evp p y=some (.int kd h))(hm:evp p z=some (.int kd' m))(ht:P.underlying t=some (.slice e))(hs: ∀ w,(Go.sizeOf e).run P w= .ok sz w)(h0:0<=h)(h1:h<=m)(h2:m<=c):
 Pu P p ⟨d,.slice t x none (some y) (some z),ty,pos,af,gd⟩ (.slice a h.toNat m.toNat):=fun tm w f=>by
 have i:0<=h/\h<=m:=⟨h0,h1⟩;have b:0<=m/\m<=(c:Int):=⟨by omega,h2⟩;have g:a.map (fun x:Addr=>x.add 0)=a:=by cases a<;>simp [Addr.add]
 simp [execOp,Zp f hx,Zp f hy,Zp f hm,Instr.sliceAt,Instr.slice,run_underlying ht,Instr.sliceBounds,Instr.sliceBound,asIntOf,i,b,hs,g];intro j;omega
theorem Pu.cap {ty:TypeId}{t e:TypeId}{A:Option Addr}{n m:Nat}{ats:List TypeId}(hx:evp p x=some (.slice A n m))(ht:P.underlying t=some (.slice e)):Pu P p ⟨d,.call ⟨.builtin .cap, [x].toArray,(t::ats).toArray⟩,ty,pos,af,gd⟩ (.int .i64 m):=
 fun tm w a=>by simp [execOp,resolve,invoke,builtin,Zp a hx,Builtin.cap_,run_underlying ht,goInt]
end
end
section
variable {v a b:Value}{p:PE}{x:Operand}{op:BinOp}
inductive TD where
 |ptr|fn|ifc|bool|str|other
 |slc (e:Nat)
 |int (k:IntKind)
 |strct (fs:List (Nat×Nat))
structure TF where
 d:TD
 agg:Bool
 sz:Nat
 bz:Option (List (Nat×Nat)×List Value):=none
inductive Tr where
 |e
 |n (v:Option TF) (l r:Tr)
def Tr.get:Tr->Nat->Option TF
 | .e,_=>none
 | .n v l r,t=>bif Nat.beq t 0 then v else bif Nat.beq (t % 2) 1 then l.get (t / 2) else r.get (t / 2 - 1)
def TD.ok (P:Program)(t:TypeId):TD->Prop
 | .ptr=> ∃ e,P.underlying t=some (.pointer e)
 | .fn=> ∃ u r b,P.underlying t=some (.func u r b)
 | .ifc=> ∃ m,P.underlying t=some (.interface m)
 | .bool=>P.underlying t=some .bool
 | .str=>P.underlying t=some .string
 | .other=> ∃ D,P.underlying t=some D/\(match D with| .interface _=>false|_=>true)=true
 | .slc e=>P.underlying t=some (.slice e)
 | .int k=>P.underlying t=some (.int k)
 | .strct l=> ∃ fs,P.underlying t=some (.struct fs)/\fs.toList.map (fun F=>(F.type,F.offset))=l
def TF.ok (P:Program)(t:TypeId)(x:TF):Prop:=
 x.d.ok P t/\(∀ w,(isAgg t).run P w= .ok x.agg w)/\(∀ w,(Go.sizeOf t).run P w= .ok x.sz w)/\
 match x.bz with
 |none=>True
 |some (pl,z)=>(∀ w,(zeroValue t).run P w= .ok (.agg z.toArray) w)/\ ∃ fs,P.underlying t=some (.struct fs)/\fs.toList.mapM (fun f=>(P.info? f.type).map fun i=>(f.offset,i.size))=some pl
def Tr.ok (P:Program):Tr->(Nat->Nat)->Prop
 | .e,_=>True
 | .n v l r,f=>(match v with|none=>True|some x=>x.ok P (f 0))/\l.ok P (fun i=>f (2*i+1))/\r.ok P (fun i=>f (2*i+2))
theorem Zs {P:Program}: ∀ {T:Tr} {f:Nat->Nat} {t:Nat} {x:TF},T.ok P f->T.get t=some x->x.ok P (f t)
 | .e,_,_,_,_,h=>by simp [Tr.get] at h
 | .n v l r,f,t,x,⟨h1,h2,h3⟩,h=>by
  unfold Tr.get at h
  cases hb:Nat.beq t 0 with
  |true=>
   have:=cX hb;subst this;rw [hb] at h;simp only [cond_true] at h;subst h;exact h1
  |false=>
   have a:=iQ hb;rw [hb] at h;simp only [cond_false] at h
   cases hc:Nat.beq (t % 2) 1 with
   |true=>
    have:=cX hc;rw [hc] at h;simp only [cond_true] at h;have:=Zs h2 h;have e:2*(t / 2)+1=t:=by omega
    simpa only [e] using this
   |false=>
    have:=iQ hc;rw [hc] at h;simp only [cond_false] at h;have:=Zs h3 h;have e:2*(t / 2 - 1)+2=t:=by omega
    simpa only [e] using this
def O2:List Value->Nat->List Value->Option (List Value)
 |l,_, []=>some l
 | [],_,_=>none
 |_::l,0,v::vs=>match O2 l 0 vs with
  |some r=>some (v::r)
  |none=>none
 |x::l,n+1,vs=>match O2 l n vs with
  |some r=>some (x::r)
  |none=>none
theorem Sc: ∀ {l:List Value} {n:Nat} {vs r:List Value},O2 l n vs=some r->spl l n vs=r/\n+vs.length<=l.length\/vs= []/\r=l
 |l,n, [],r,h=>by right;cases l<;>cases n<;>simp [O2] at h<;>simp [h]
 | [],n,v::vs,r,h=>by cases n<;>simp [O2] at h
 |x::l,0,v::vs,r,h=>by
  simp only [O2] at h;split at h
  . rename_i b a
    cases h
    left
    rcases Sc a with ⟨e,c⟩|⟨rfl,rfl⟩
    . exact ⟨by simp [spl,e],by simp;omega⟩
    exact ⟨by cases b<;>simp [spl],by simp⟩
  cases h
 |x::l,n+1,v::vs,r,h=>by
  simp only [O2] at h;split at h
  . rename_i b a
    cases h
    left
    rcases Sc a with ⟨e,c⟩|⟨h,_⟩
    . exact ⟨by simp [spl,e],by simp at c|-;omega⟩
    cases h
  cases h
def Zjh:Value->Option (List Value)
 | .agg ⟨l⟩=>some l
 | .tuple _=>none
 |v=>some [v]
theorem Zx4 {l:List Value}(h:Zjh v=some l):v.cells.toList=l:=by
 unfold Zjh at h;split at h
 . cases h;rfl
 . cases h
 rename_i c b
 cases h
 cases v<;>first|rfl|exact aV rfl (b _)|(rename_i a;exact aV rfl (c a.toList))
def bldF (pl:List (Nat×Nat))(p:PE):List Value->List (Nat×Operand)->Option (List Value)
 |cs, []=>some cs
 |cs,(i,x)::r=>match P0 pl i,evp p x with
  |some (off,sz),some v=>match Zjh v with
   |some vs=>match Nat.beq vs.length sz && Nat.ble (off+sz) cs.length with
    |true=>match O2 cs off vs with
     |some cs'=>bldF pl p cs' r
     |none=>none
    |false=>none
   |none=>none
  |_,_=>none
theorem evl_cons {l:List Operand}{vs:List Value}(h:evp p x=some v)(k:evl p l=some vs):evl p (x::l)=some (v::vs):=by simp [evl,h,k]
theorem Zvs {pl:List (Nat×Nat)}{p:PE}: ∀ {ps:List (Nat×Operand)} {cs r:List Value},bldF pl p cs ps=some r-> ∃ us,evl p (ps.map (·.2))=some us/\Cr pl cs ((ps.map (·.1)).zip us)=some r
 | [],cs,r,h=>by simp only [bldF] at h;cases h;exact ⟨[],rfl,by cases pl<;>rfl⟩
 |(i,x)::ps,cs,r,h=>by
  simp only [bldF] at h;split at h
  . rename_i b sz v k j;split at h
    . rename_i vs g;split at h
      . rename_i d;split at h
        . rename_i c f;obtain ⟨us,o,n⟩:=Zvs h;refine ⟨v::us,evl_cons j o,?_⟩;have m:=Zx4 g;have a:=d;simp only [aR] at a;simp only [bA,gS,Cr,k,m,d,cond_true];have s:=Nat.le_of_ble_eq_true a.2;have q:=cX a.1
          have l:spl cs b vs=c:=by
           rcases Sc f with ⟨e,_⟩|⟨rfl,rfl⟩
           . exact e
           cases c<;>cases b<;>rfl
          rw [l];exact n
        cases h
      cases h
    cases h
  cases h
abbrev SR:=Option (Value×Option Prop)
def bin (op:BinOp)(T:Tr)(t:TypeId):Value->Value->SR
 | .int kd m,.int kd' n=>match decide (kd=kd') with
  |true=>match op with
   | .eql=>some (.bool (m==n),none)
   | .neq=>some (.bool (m !=n),none)
   | .lss=>some (.bool (decide (m<n)),none)
   | .leq=>some (.bool (decide (m<=n)),none)
   | .gtr=>some (.bool (decide (n<m)),none)
   | .geq=>some (.bool (decide (n<=m)),none)
   | .add=>match kd with
    | .i64=>some (.int .i64 (m+n),some (-9223372036854775808<=m+n/\m+n<=9223372036854775807))
    |k=>some (.int k (k.wrap (m+n)),none)
   | .sub=>match kd with
    | .i64=>some (.int .i64 (m - n),some (-9223372036854775808<=m - n/\m - n<=9223372036854775807))
    |k=>some (.int k (k.wrap (m - n)),none)
   | .mul=>match kd with
    | .i64=>some (.int .i64 (m*n),some (-9223372036854775808<=m*n/\m*n<=9223372036854775807))
    |k=>some (.int k (k.wrap (m*n)),none)
   | .rem=>some (.int kd (m.tmod n),some (n≠0))
   | .quo=>some (.int kd (kd.wrap (m.tdiv n)),some (n≠0))
   | .shr=>some (.int kd (m.fdiv (2 ^ min n.toNat kd.bits)),some (0<=n))
   | .shl=>some (.int kd (kd.wrap (m*2 ^ min n.toNat kd.bits)),some (0<=n))
   | .and=>some (.int kd (kd.wrap ((BitVec.ofInt kd.bits m &&& BitVec.ofInt kd.bits n).toNat:Int)),none)
   | .or=>some (.int kd (kd.wrap ((BitVec.ofInt kd.bits m|||BitVec.ofInt kd.bits n).toNat:Int)),none)
   |_=>none
  |false=>match op with
   | .shr=>some (.int kd (m.fdiv (2 ^ min n.toNat kd.bits)),some (0<=n))
   | .shl=>some (.int kd (kd.wrap (m*2 ^ min n.toNat kd.bits)),some (0<=n))
   |_=>none
 | .bool a,.bool b=>match op,T.get t with
  | .eql,some ⟨.bool,_,_,_⟩=>some (.bool (a==b),none)
  | .neq,some ⟨.bool,_,_,_⟩=>some (.bool (a !=b),none)
  |_,_=>none
 | .string a,.string b=>match op with
  | .eql=>some (.bool (a.toList==b.toList),none)
  | .neq=>some (.bool (!(a.toList==b.toList)),none)
  |_=>none
 |_,_=>none
def nilc (op:BinOp)(T:Tr)(t:TypeId):Value->Value->SR
 | .pointer A,.pointer none=>match op,T.get t with
  | .eql,some ⟨.ptr,_,_,_⟩=>some (.bool A.isNone,none)
  | .neq,some ⟨.ptr,_,_,_⟩=>some (.bool A.isSome,none)
  |_,_=>none
 | .slice A _ _,.slice none 0 0=>match op,T.get t with
  | .eql,some ⟨.slc _,_,_,_⟩=>some (.bool A.isNone,none)
  | .neq,some ⟨.slc _,_,_,_⟩=>some (.bool A.isSome,none)
  |_,_=>none
 |_,_=>none
def sxO (T:Tr)(p:PE):Op->SR
 | .move x=>match evp p x with
  |some v=>some (v,none)
  |none=>none
 | .assign x=>match evp p x with
  |some v=>some (v,none)
  |none=>none
 | .pick c a b=>match evp p c with
  |some (.bool true)=>match evp p a with
   |some v=>some (v,none)
   |none=>none
  |some (.bool false)=>match evp p b with
   |some v=>some (v,none)
   |none=>none
  |_=>none
 | .extract x n=>match evp p x with
  |some (.tuple ⟨vs⟩)=>match nth vs n with
   |some v=>some (v,none)
   |none=>none
  |_=>none
 | .makeFunc fn ⟨l⟩ ⟨m⟩=>match evl p l,evl p m with
  |some fs,some ms=>some (.func fn fs.toArray ms.toArray,none)
  |_,_=>none
 | .makeInterface t x=>match evp p x,T.get t with
  |some v,some ⟨d,_,_,_⟩=>match d with
   | .ifc=>none
   |_=>some (.iface t v,none)
  |_,_=>none
 | .nilCheck x=>match evp p x with
  |some (.pointer (some A))=>some (.pointer (some A),none)
  |some (.func (.func f) l m)=>some (.func (.func f) l m,none)
  |_=>none
 | .unOp .not _ x=>match evp p x with
  |some (.bool b)=>some (.bool (!b),none)
  |_=>none
 | .unOp .neg _ x=>match evp p x with
  |some (.int kd n)=>some (.int kd (kd.wrap (0 - n)),none)
  |_=>none
 | .convert s t x=>match evp p x,T.get s,T.get t with
  |some (.int _ n),some ⟨.int _,_,_,_⟩,some ⟨.int kd,_,_,_⟩=>match kd with
   | .i64=>some (.int .i64 n,some (-9223372036854775808<=n/\n<=9223372036854775807))
   |k=>some (.int k (k.wrap n),none)
  |_,_,_=>none
 | .fieldAddr t x n=>match evp p x,T.get t with
  |some (.pointer (some ⟨b,o,none⟩)),some ⟨.strct l,_,_,_⟩=>match P0 l n with
   |some (ft,off)=>match T.get ft with
    |some ⟨_,_,_+1,_⟩=>some (.pointer (some ⟨b,o+off,none⟩),none)
    |_=>none
   |none=>none
  |_,_=>none
 | .field t x n=>match evp p x,T.get t with
  |some (.agg ⟨vs⟩),some ⟨.strct l,_,_,_⟩=>match P0 l n with
   |some (ft,off)=>match T.get ft with
    |some ⟨_,false,_,_⟩=>match nth vs off with
     |some v=>some (v,none)
     |none=>none
    |some ⟨_,true,sz,_⟩=>some (.agg (Wx.sub vs off sz).toArray,none)
    |none=>none
   |none=>none
  |_,_=>none
 | .indexAddr t x i=>match evp p x,evp p i,T.get t with
  |some (.slice (some ⟨b,o,none⟩) n _),some (.int _ j),some ⟨.slc e,_,_,_⟩=>match T.get e with
   |some ⟨_,_,sz,_⟩=>some (.pointer (some ⟨b,o+j.toNat*sz,none⟩),some (0<=j/\j<n))
   |none=>none
  |_,_,_=>none
 | .slice t x none (some h) none=>match evp p x,evp p h,T.get t with
  |some (.slice a _ c),some (.int _ j),some ⟨.slc e,_,_,_⟩=>match T.get e with
   |some _=>some (.slice a j.toNat c,some (0<=j/\j<=c))
   |none=>none
  |_,_,_=>none
 | .slice t x none (some h) (some m)=>match evp p x,evp p h,evp p m,T.get t with
  |some (.slice a _ c),some (.int _ j),some (.int _ m),some ⟨.slc e,_,_,_⟩=>match T.get e with
   |some _=>some (.slice a j.toNat m.toNat,some (0<=j/\j<=m/\m<=c))
   |none=>none
  |_,_,_,_=>none
 | .slice t x (some h) none none=>match evp p x,evp p h,T.get t with
  |some (.slice a n c),some (.int _ j),some ⟨.slc e,_,_,_⟩=>match T.get e with
   |some ⟨_,_,sz,_⟩=>some (.slice (Oe a c j.toNat sz) (n - j.toNat) (c - j.toNat),some (0<=j/\j<=n))
   |none=>none
  |_,_,_=>none
 | .build t ⟨ps⟩=>match T.get t with
  |some ⟨_,_,_,some (pl,z)⟩=>match bldF pl p z ps with
   |some cells=>some (.agg cells.toArray,none)
   |none=>none
  |_=>none
 | .call ⟨.builtin .len,⟨[x]⟩,⟨t::_⟩⟩=>match evp p x,T.get t with
  |some (.slice _ n _),some ⟨.slc _,_,_,_⟩=>some (.int .i64 n,none)
  |some (.string s),some ⟨.str,_,_,_⟩=>some (.int .i64 s.size,none)
  |_,_=>none
 | .call ⟨.builtin .cap,⟨[x]⟩,⟨t::_⟩⟩=>match evp p x,T.get t with
  |some (.slice _ _ c),some ⟨.slc _,_,_,_⟩=>some (.int .i64 c,none)
  |_,_=>none
 | .call ⟨.builtin .max,⟨[x,y]⟩,_⟩=>match evp p x,evp p y with
  |some (.int kd m),some (.int _ n)=>some (.int kd (max m n),none)
  |_,_=>none
 | .call ⟨.builtin .min,⟨[x,y]⟩,_⟩=>match evp p x,evp p y with
  |some (.int kd m),some (.int _ n)=>some (.int kd (min m n),none)
  |_,_=>none
 | .binOp op t x y _=>match y with
  | .const (.pointer none)=>match evp p x with
   |some v=>nilc op T t v (.pointer none)
   |none=>none
  | .const (.slice none 0 0)=>match evp p x with
   |some v=>nilc op T t v (.slice none 0 0)
   |none=>none
  |y=>match evp p x,evp p y with
   |some v,some u=>bin op T t v u
   |_,_=>none
 |_=>none
section sound
variable {P:Program}{T:Tr}{c:Option Prop}{d:Option Tmp}{ty:TypeId}{pos:String}{af:Array Edge}{gd:Option (Nat×Bool)}
theorem kd_of {a b:IntKind}(h:decide (a=b)=true):b=a:=(cU h).symm
theorem bin_ok {t t':TypeId}{y:Operand}(hT:T.ok P id)(hx:evp p x=some a)(hy:evp p y=some b)(h:bin op T t a b=some (v,c))(hc: ∀ φ,c=some φ->φ):
 Pu P p ⟨d,.binOp op t x y t',ty,pos,af,gd⟩ v:=by
 unfold bin at h;split at h
 . split at h
   . rename_i f;have:=kd_of f;subst this;split at h<;>try (split at h)
     all_goals first
      |cases h
      |skip
     all_goals first
      |exact Pu.eql hx hy
      |exact Pu.neq hx hy
      |exact Pu.lss hx hy
      |exact Pu.leq hx hy
      |exact Pu.gtr hx hy
      |exact Pu.geq hx hy
      |exact Pu.add hx hy (hc _ rfl).1 (hc _ rfl).2
      |exact Zv7 hx hy
      |exact Pu.sub hx hy (hc _ rfl).1 (hc _ rfl).2
      |exact Zv4 hx hy
      |exact Pu.mul hx hy (hc _ rfl).1 (hc _ rfl).2
      |exact Zv6 hx hy
      |exact Pu.rem hx hy (hc _ rfl)
      |exact Zv5 hx hy (hc _ rfl)
      |exact Pu.shr hx hy (hc _ rfl)
      |exact Pu.shl hx hy (hc _ rfl)
      |exact Pu.and hx hy
      |exact Pu.or hx hy
   split at h<;>cases h
   . exact Pu.shr hx hy (hc _ rfl)
   exact Pu.shl hx hy (hc _ rfl)
 . split at h<;>first|(cases h;done)|skip
   . rename_i e
     cases h;exact Pu.eqlB hx hy (Zs hT e).1
   rename_i e
   cases h;exact Pu.neqB hx hy (Zs hT e).1
 . split at h<;>cases h
   . exact Pu.eqlS hx hy
   exact Pu.neqS hx hy
 cases h
theorem Zvz {t t':TypeId}(hT:T.ok P id)(hx:evp p x=some a)(h:nilc op T t a b=some (v,c)):
 Pu P p ⟨d,.binOp op t x (.const b) t',ty,pos,af,gd⟩ v:=by
 unfold nilc at h;split at h
 . split at h
   . rename_i f;obtain ⟨⟨e,g⟩,_⟩:=Zs hT f
     cases h;exact Zyw hx g
   . rename_i f;obtain ⟨⟨e,g⟩,_⟩:=Zs hT f
     cases h;exact Zyk hx g
   cases h
 . split at h
   . rename_i f;have g:=(Zs hT f).1
     cases h;exact Zj3 hx g
   . rename_i f;have g:=(Zs hT f).1
     cases h;exact Zj1 hx g
   cases h
 cases h
theorem TD.some {t:TypeId}{D:TD}(h:D.ok P t): ∃ E,P.underlying t=some E/\((∀ _:D= .ifc,False)->(match E with| .interface _=>false|_=>true)=true):=by
 cases D with
 |ptr=>obtain ⟨e,a⟩:=h;exact ⟨_,a,fun _=>rfl⟩
 |fn=>obtain ⟨u,r,b,a⟩:=h;exact ⟨_,a,fun _=>rfl⟩
 |ifc=>obtain ⟨u,a⟩:=h;exact ⟨_,a,fun k=>(k rfl).elim⟩
 |bool=>exact ⟨_,h,fun _=>rfl⟩
 |str=>exact ⟨_,h,fun _=>rfl⟩
 |other=>obtain ⟨E,a,c⟩:=h;exact ⟨E,a,fun _=>c⟩
 |slc e=>exact ⟨_,h,fun _=>rfl⟩
 |int k=>exact ⟨_,h,fun _=>rfl⟩
 |strct l=>obtain ⟨u,a,_⟩:=h;exact ⟨_,a,fun _=>rfl⟩
theorem fld {l:List (Nat×Nat)}{n:Nat}{ft off:Nat}{fs:Array Field}(h:fs.toList.map (fun F=>(F.type,F.offset))=l)(k:P0 l n=some (ft,off)):(fs[n]?).map (fun F=>(F.type,F.offset))=some (ft,off):=by
 rw [Zvq,<-h] at k;simpa using k
theorem sxO_ok {op:Op}(hT:T.ok P id)(h:sxO T p op=some (v,c))(hc: ∀ φ,c=some φ->φ):Pu P p ⟨d,op,ty,pos,af,gd⟩ v:=by
 unfold sxO at h;split at h
 . split at h<;>cases h;exact Pu.move ‹_›
 . split at h<;>cases h;exact Pu.assign ‹_›
 . split at h
   . split at h<;>cases h;exact Pu.pickT ‹_› ‹_›
   . split at h<;>cases h;exact Pu.pickF ‹_› ‹_›
   cases h
 . split at h
   . split at h<;>cases h;exact fP ‹_› ‹_›
   cases h
 . split at h<;>cases h;exact Pu.makeFunc ‹_› ‹_›
 . split at h
   . rename_i a s;obtain ⟨E,f,n⟩:=TD.some (Zs hT s).1;split at h
     . cases h
     rename_i k
     cases h;refine Pu.makeInterface a f ?_;have m:=n fun e=>k e;clear n;revert m;cases E<;>exact fun e=>e
   cases h
 . split at h<;>cases h
   . exact Pu.nilCheck ‹_›
   exact I6 ‹_›
 . split at h<;>cases h;exact Pu.not ‹_›
 . split at h<;>cases h;exact Pu.negW ‹_›
 . split at h
   . rename_i a q b;have i:=(Zs hT q).1;have g:=(Zs hT b).1;split at h<;>cases h
     . exact Pu.conv a i g (Qk (hc _ rfl).1 (hc _ rfl).2)
     exact Zqc a i g
   cases h
 . split at h
   . rename_i a b;obtain ⟨⟨o,i,g⟩,_⟩:=Zs hT b;split at h
     . rename_i k;split at h<;>cases h
       rename_i l;exact Pu.fieldAddr _ _ _ a i (fld g k) (Zs hT l).2.2.1
     cases h
   cases h
 . split at h
   . rename_i a b;obtain ⟨⟨o,i,g⟩,_⟩:=Zs hT b;split at h
     . rename_i k;split at h
       . rename_i l;split at h<;>cases h
         exact Pu.field _ _ a i (fld g k) (Zs hT l).2.1 ‹_›
       . rename_i l
         cases h
         exact Zyv _ _ a i (fld g k) (Zs hT l).2.1 (Zs hT l).2.2.1
       cases h
     cases h
   cases h
 . split at h
   . rename_i a j b;split at h<;>cases h
     rename_i f;exact Pu.indexAddr a j (Zs hT b).1 (Zs hT f).2.2.1 (hc _ rfl).1 (hc _ rfl).2
   cases h
 . split at h
   . rename_i a j b;split at h<;>cases h
     rename_i f;exact Zje a j (Zs hT b).1 (Zs hT f).2.2.1 (hc _ rfl).1 (hc _ rfl).2
   cases h
 . split at h
   . rename_i a j r b;split at h<;>cases h
     rename_i f;exact Zj0 a j r (Zs hT b).1 (Zs hT f).2.2.1 (hc _ rfl).1 (hc _ rfl).2.1 (hc _ rfl).2.2
   cases h
 . split at h
   . rename_i a j b;split at h<;>cases h
     rename_i f;exact Zjo a j (Zs hT b).1 (Zs hT f).2.2.1 (hc _ rfl).1 (hc _ rfl).2
   cases h
 . split at h
   . rename_i b;obtain ⟨_,_,_,i,o,g,u⟩:=Zs hT b;split at h<;>cases h
     rename_i t;obtain ⟨us,x,w⟩:=Zvs t;exact Pu.build _ i g u x w
   cases h
 . split at h
   . rename_i a b
     cases h;exact Pu.len a (Zs hT b).1
   . rename_i a b
     cases h;exact Pu.lenS a (Zs hT b).1
   cases h
 . split at h
   . rename_i a b
     cases h;exact Pu.cap a (Zs hT b).1
   cases h
 . split at h<;>cases h;exact Pu.max2 ‹_› ‹_›
 . split at h<;>cases h;exact Pu.min2 ‹_› ‹_›
 . split at h
   . split at h
     . exact Zvz hT ‹_› h
     cases h
   . split at h
     . exact Zvz hT ‹_› h
     cases h
   split at h
   . exact bin_ok hT ‹_› ‹_› h hc
   cases h
 cases h
end sound
inductive Md where
 |code
 |ops (ops l:List Oper)
def Y (P:Program)(G:World)(f:Fc)(Q:Yw)(md:Md)(k:List Item)(p:PE)(ds:List Deferred)(cs:List Frame)(q:List HP):Prop:=
 match md with
 | .code=>X P G f Q k p ds cs q
 | .ops ops l=>XO P G f Q ops.toArray k l p ds cs q
structure Sta where
 md:Md
 k:List Item
 p:PE
 c:List Prop
def Q6:List Prop->Prop
 | []=>True
 |φ::r=>φ/\Q6 r
def opS (T:Tr)(ops:List Oper)(p:PE)(o:Oper):SR:=
 match Wt ops p o with
 |some true=>sxO T p o.op
 |some false=>some (undef,none)
 |none=>none
def putO (n:Nat)(p:PE)(v:Value):Option Tmp->Option PE
 |none=>some p
 |some d=>match Nat.blt d n with
  |true=>some ((d,v)::p)
  |false=>none
def Zvg:Op->Bool
 | .defer _=>true
 |_=>false
def st1 (T:Tr)(n:Nat):Md->List Item->PE->List Prop->Option Sta
 | .ops ops [],k,p,c=>some ⟨.code,k,p,c⟩
 | .ops ops (o::l),k,p,c=>match opS T ops p o with
  |some (v,φ)=>match putO n p v o.dst,Zvg o.op with
   |some p',false=>match φ with
    |none=>some ⟨.ops ops l,k,p',c⟩
    |some φ=>some ⟨.ops ops l,k,p',φ::c⟩
   |_,_=>none
  |none=>none
 | .code,.code (.seq a b)::k,p,c=>some ⟨.code,.code a:: .code b::k,p,c⟩
 | .code,.code .skip::k,p,c=>some ⟨.code,k,p,c⟩
 | .code,.code (.label _)::k,p,c=>some ⟨.code,k,p,c⟩
 | .code,.inBlock _::k,p,c=>some ⟨.code,k,p,c⟩
 | .code,.inScope _::k,p,c=>some ⟨.code,k,p,c⟩
 | .code,.code (.block i b)::k,p,c=>some ⟨.code,.code b:: .inBlock i::k,p,c⟩
 | .code,.code (.scope b)::k,p,c=>some ⟨.code,.code b:: .inScope b::k,p,c⟩
 | .code,.code (.exit i)::k,p,c=>match exitTo i k with
  |some k'=>some ⟨.code,k',p,c⟩
  |none=>none
 | .code,.code (.region _ ⟨ops⟩ false)::k,p,c=>some ⟨.ops ops ops,k,p,c⟩
 | .code,.code (.cond x a b)::k,p,c=>match evp p x with
  |some (.bool true)=>some ⟨.code,.code a::k,p,c⟩
  |some (.bool false)=>some ⟨.code,.code b::k,p,c⟩
  |_=>none
 |_,_,_,_=>none
def stn (T:Tr)(n:Nat):Nat->Md->List Item->PE->List Prop->Option Sta
 |0,md,k,p,c=>some ⟨md,k,p,c⟩
 |m+1,md,k,p,c=>match st1 T n md k p c with
  |some ⟨md',k',p',c'⟩=>stn T n m md' k' p' c'
  |none=>none
section
variable {P:Program}{G:World}{f:Fc}{Q:Yw}{T:Tr}{md:Md}{k:List Item}{p:PE}{c:List Prop}{ds:List Deferred}{cs:List Frame}{q:List HP}
theorem opS_ok {ops:List Oper}{o:Oper}{v:Value}{φ:Option Prop}(hT:T.ok P id)(h:opS T ops p o=some (v,φ))(hc: ∀ ψ,φ=some ψ->ψ):
 (Wt ops p o=some true/\Pu P p o v)\/(Wt ops p o=some false/\v=undef):=by
 unfold opS at h;split at h
 . rename_i a;exact .inl ⟨a,sxO_ok hT h hc⟩
 . rename_i a
   cases h;exact .inr ⟨a,rfl⟩
 cases h
theorem Zk5 {n:Nat}{v:Value}{d:Option Tmp}{p':PE}(h:putO n p v d=some p'):dOk n d=true/\p'=Qg p d v:=by
 unfold putO at h;split at h
 . cases h;exact ⟨rfl,rfl⟩
 split at h
 . rename_i a;cases h;exact ⟨a,rfl⟩
 cases h
theorem st1_ok {s:Sta}(hT:T.ok P id)(h:st1 T f.n md k p c=some s)(hc:Q6 s.c)(K:Y P G f Q s.md s.k s.p ds cs q):Y P G f Q md k p ds cs q/\Q6 c:=by
 unfold st1 at h;split at h
 . cases h;exact ⟨XO.nil K,hc⟩
 . rename_i ops o l;split at h
   . rename_i v φ j;split at h
     . rename_i p' u r
       have m: ∀ c,o.op≠ .defer c:=by
        intro c e;rw [e] at r;simp [Zvg] at r
       obtain ⟨t,w⟩:=Zk5 u;subst w
       have b: ∀ (a:Option Prop),φ=a->(∀ ψ,a=some ψ->ψ)->XO P G f Q ops.toArray k l (Qg p o.dst v) ds cs q->XO P G f Q ops.toArray k (o::l) p ds cs q:=by
        rintro _ rfl d K;rcases opS_ok hT j d with ⟨g,i⟩|⟨g,rfl⟩
        . exact .pu_ i K g t m
        exact .pass_ g t K
       split at h
       . cases h;exact ⟨b _ rfl (fun _ e=>by cases e) K,hc⟩
       rename_i ψ
       cases h;exact ⟨b _ rfl (fun _ e=>by cases e;exact hc.1) K,hc.2⟩
     cases h
   cases h
 . cases h;exact ⟨X.seq K,hc⟩
 . cases h;exact ⟨X.skip K,hc⟩
 . cases h;exact ⟨X.label K,hc⟩
 . cases h;exact ⟨X.inBlock K,hc⟩
 . cases h;exact ⟨X.inScope K,hc⟩
 . cases h;exact ⟨X.block K,hc⟩
 . cases h;exact ⟨X.scope K,hc⟩
 . split at h
   . cases h;exact ⟨X.exit ‹_› K,hc⟩
   cases h
 . cases h;exact ⟨X.region K,hc⟩
 . split at h
   . cases h;exact ⟨X.condT ‹_› K,hc⟩
   . cases h;exact ⟨X.condF ‹_› K,hc⟩
   cases h
 cases h
theorem Gb (hT:T.ok P id): ∀ {m:Nat} {md:Md} {k:List Item} {p:PE} {c:List Prop} {s:Sta},stn T f.n m md k p c=some s->Q6 s.c->Y P G f Q s.md s.k s.p ds cs q->Y P G f Q md k p ds cs q/\Q6 c
 |0,md,k,p,c,s,h,hc,K=>by cases h;exact ⟨K,hc⟩
 |m+1,md,k,p,c,s,h,hc,K=>by
  simp only [stn] at h;split at h
  . rename_i b k' p' c' d;obtain ⟨e,a⟩:=Gb hT h hc K;exact st1_ok hT d a e
  cases h
variable {k':List Item}{p':PE}{ops l ops' l':List Oper}
theorem stXX (hT:T.ok P id)(m:Nat)(h:stn T f.n m .code k p []=some ⟨.code,k',p',c⟩)(hc:Q6 c)(K:X P G f Q k' p' ds cs q):X P G f Q k p ds cs q:=(Gb (Q:=Q) (q:=q) (ds:=ds) (cs:=cs) hT h hc K).1
theorem stXO (hT:T.ok P id)(m:Nat)(h:stn T f.n m .code k p []=some ⟨.ops ops' l',k',p',c⟩)(hc:Q6 c)(K:XO P G f Q ops'.toArray k' l' p' ds cs q):X P G f Q k p ds cs q:=(Gb (Q:=Q) (q:=q) (ds:=ds) (cs:=cs) hT h hc K).1
theorem stOX (hT:T.ok P id)(m:Nat)(h:stn T f.n m (.ops ops l) k p []=some ⟨.code,k',p',c⟩)(hc:Q6 c)(K:X P G f Q k' p' ds cs q):XO P G f Q ops.toArray k l p ds cs q:=(Gb (Q:=Q) (q:=q) (ds:=ds) (cs:=cs) hT h hc K).1
theorem stOO (hT:T.ok P id)(m:Nat)(h:stn T f.n m (.ops ops l) k p []=some ⟨.ops ops' l',k',p',c⟩)(hc:Q6 c)(K:XO P G f Q ops'.toArray k' l' p' ds cs q):XO P G f Q ops.toArray k l p ds cs q:=(Gb (Q:=Q) (q:=q) (ds:=ds) (cs:=cs) hT h hc K).1
end
structure StD where
 n:Nat
 done:List Nat
 p:PE
 c:List Prop
def sdn (T:Tr)(fn:Nat)(ops:List Oper):List Nat->Nat->List Nat->PE->List Prop->Option StD
 | [],n,done,p,c=>some ⟨n,done,p,c⟩
 |i::r,n,done,p,c=>match n,ops[i]?,rdy ops done i with
  |m+1,some o,true=>match opS T ops p o with
   |some (v,φ)=>match putO fn p v o.dst with
    |some p'=>match φ with
     |none=>sdn T fn ops r m (i::done) p' c
     |some φ=>sdn T fn ops r m (i::done) p' (φ::c)
    |none=>none
   |none=>none
  |_,_,_=>none
section
variable {P:Program}{G:World}{f:Fc}{Q:Yw}{T:Tr}{ops:List Oper}{k:List Item}{pk:PE}{L:Rds}{ds:List Deferred}{cs:List Frame}{q:List HP}
theorem Zzm (hT:T.ok P id): ∀ {is:List Nat} {n:Nat} {done:List Nat} {p:PE} {c:List Prop} {s:StD},sdn T f.n ops is n done p c=some s->Q6 s.c->XD P G f Q ops k pk L s.n s.done s.p ds cs q->XD P G f Q ops k pk L n done p ds cs q/\Q6 c
 | [],n,done,p,c,s,h,hc,K=>by cases h;exact ⟨K,hc⟩
 |i::r,n,done,p,c,s,h,hc,K=>by
  simp only [sdn] at h;split at h
  . rename_i m o x w;split at h
    . rename_i v φ t;split at h
      . rename_i p' z;obtain ⟨y,h2⟩:=Zk5 z;subst h2
        have d: ∀ (b:Option Prop),φ=b->(∀ ψ,b=some ψ->ψ)->XD P G f Q ops k pk L m (i::done) (Qg p o.dst v) ds cs q->XD P G f Q ops k pk L (m+1) done p ds cs q:=by
         rintro _ rfl g K;rcases opS_ok hT t g with ⟨j,l⟩|⟨j,rfl⟩
         . exact .pu_ i x l K w j y
         exact .pass_ i x K w j y
        split at h
        . obtain ⟨u,a⟩:=Zzm hT h hc K;exact ⟨d _ rfl (fun _ e=>by cases e) u,a⟩
        obtain ⟨u,a⟩:=Zzm hT h hc K;exact ⟨d _ rfl (fun _ e=>by cases e;exact a.1) u,a.2⟩
      cases h
    cases h
  cases h
variable {n n':Nat}{done done':List Nat}{p p':PE}{c:List Prop}
theorem stDD (hT:T.ok P id)(is:List Nat)(h:sdn T f.n ops is n done p []=some ⟨n',done',p',c⟩)(hc:Q6 c)(K:XD P G f Q ops k pk L n' done' p' ds cs q):XD P G f Q ops k pk L n done p ds cs q:=(Zzm (Q:=Q) (q:=q) (ds:=ds) (cs:=cs) hT h hc K).1
end
def Lm:List Nat->PE->Option PE
 | [],_=>some []
 |d::r,p=>match lkp p d,Lm r p with
  |some v,some p'=>some ((d,v)::p')
  |_,_=>none
theorem Be: ∀ {l:List Nat} {p p':PE},Lm l p=some p'->SubP p' p
 | [],p,p',h=>by cases h;trivial
 |d::r,p,p',h=>by
  simp only [Lm] at h;split at h
  . cases h;exact ⟨‹_›,Be ‹_›⟩
  cases h
theorem Zn {p p':PE}(h:SubP p' p:=by repeat (first|exact trivial|refine ⟨(by first|rfl|exact aQ some (aQ (Value.int _) (by omega))|(show some _=some _;simp;done)|(show some _=some _;simp;omega)),?_⟩)):SubP p' p:=h
theorem X.sb {P:Program}{G:World}{f:Fc}{Q:Yw}{todo:List Item}{p p':PE}{ds:List Deferred}{cs:List Frame}{q:List HP}(l:List Nat)(x:X P G f Q todo p' ds cs q)(h:Lm l p=some p':=by exact rfl):X P G f Q todo p ds cs q:=x.sub (Be h)
theorem XO.sb {P:Program}{G:World}{f:Fc}{Q:Yw}{ops:List Oper}{k:List Item}{p p':PE}{ds:List Deferred}{cs:List Frame}{q:List HP}{r:List Oper}(l:List Nat)(x:XO P G f Q ops.toArray k r p' ds cs q)(h:Lm l p=some p':=by exact rfl):XO P G f Q ops.toArray k r p ds cs q:=x.sub (Be h)
abbrev bB:=@XO.sb
theorem Wd {φ:Prop}{r:List Prop}(h:φ)(k:Q6 r):Q6 (φ::r):=⟨h,k⟩
end
section
variable {P:Program}{G:World}{f:Fc}{Q:Yw}{ops:List Oper}{k:List Item}{p p':PE}{ds:List Deferred}{cs:List Frame}{q:List HP}
theorem sp {φ ψ:Prop}(h:φ)(e:φ->ψ:=by intro h;(try simp only [cP,cM,iA,eI,ne_eq,jP,cZ,hU,iO,Int.not_lt,Int.not_le,Bool.not_not,aR,Bool.and_eq_false_iff,gZ,Bool.and_true,beq_self_eq_true,eS,eZ] at h);exact h):ψ:=e h
theorem XD.sb {pk:PE}{L:Rds}{n:Nat}{done:List Nat}(l:List Nat)(x:XD P G f Q ops k pk L n done p' ds cs q)(h:Lm l p=some p':=by exact rfl):XD P G f Q ops k pk L n done p ds cs q:=x.sub (Be h)
theorem Zw (h:SubP p' p:=by repeat (first|exact trivial|refine ⟨(by first|rfl|exact aQ (fun x=>some (Value.bool x)) (Eq.symm (by assumption))),?_⟩)):SubP p' p:=h
theorem Rd.ef {o:Oper}{v:Value}(h:Rd P G p q o v):Ef P G p q o fun u q'=>u=v/\q'=q:=fun tm w ag s=>⟨v,w,q,.inl (h tm w ag s),s,rfl,rfl⟩
section
variable {rest:List Oper}{args:List Operand}{ats:Array TypeId}{ty:TypeId}{pos:String}{af:Array Edge}{gd:Option (Nat×Bool)}{vs:List Value}{pre:List HP}{R:Value->List HP->Prop}{d:Tmp}{fo:Operand}{fv:Value}
theorem XO.cVX (hq:Le q pre)(hc:CallV P G fv vs pre (Ret R))(x: ∀ v q',R v q'->XO P G f Q ops.toArray k rest ((d,v)::p) ds cs q')(hf:evp p fo=some fv:=by rfl)(hv:evl p args=some vs:=by rfl)
 (hw:Wt ops p ⟨some d,.call ⟨.value fo,args.toArray,ats⟩,ty,pos,af,gd⟩=some true:=by rfl) (hd:Nat.blt d f.n=true:=by rfl):
 XO P G f Q ops.toArray k (⟨some d,.call ⟨.value fo,args.toArray,ats⟩,ty,pos,af,gd⟩::rest) p ds cs q:=
 .cV (F:= []) hc (fun v q' r a e=>by rw [bR] at e;rw [e];exact x v q' r) hf hv (by rw [bR];exact hq) hw hd
abbrev iV:=@XO.cVX
end
end
section
section
variable {P:Program}{G:World}{p:PE}{q:List HP}{d:Option Tmp}{ty:TypeId}{pos:String}{af:Array Edge}{gd:Option (Nat×Bool)}{x y:Operand}{t e:TypeId}{kd:IntKind}
theorem H9 {b o n:Nat}{i:Int}{sz:Nat}(hx:evp p x=some (.pointer (some ⟨b,o,none⟩)))(hy:evp p y=some (.int kd i))(ht:P.underlying t=some (.array n e))(hs: ∀ w,(Go.sizeOf e).run P w= .ok sz w)
 (h0:0<=i) (h1:i<n):Pu P p ⟨d,.indexAddr t x y,ty,pos,af,gd⟩ (.pointer (some ⟨b,o+i.toNat*sz,none⟩)):=
 fun tm w a=>by
  have c:0<=i/\i<(n:Int):=⟨h0,h1⟩;simp [execOp,Zp a hx,Zp a hy,Instr.indexAt,Instr.sureAddr,asIntOf,run_underlying ht,c,hs,Vj]
end
end
section
variable {q q':List HP}
section
variable {P:Program}{G:World}{f:Fc}{Q:Yw}{ops:List Oper}{k:List Item}{p:PE}{ds:List Deferred}{cs:List Frame}{rest:List Oper}{args:List Operand}{ats:Array TypeId}{ty:TypeId}{pos:String}{af:Array Edge}{gd:Option (Nat×Bool)}{vs:List Value}{u:Value}{d:Tmp}{fo:Operand}{fv:Value}
theorem Ng (hc:CallV P G fv vs q (Ret fun v q'=>v=u/\q'=q))(x:XO P G f Q ops.toArray k rest ((d,u)::p) ds cs q)(hf:evp p fo=some fv:=by rfl)(hv:evl p args=some vs:=by rfl)
 (hw:Wt ops p ⟨some d,.call ⟨.value fo,args.toArray,ats⟩,ty,pos,af,gd⟩=some true:=by rfl) (hd:Nat.blt d f.n=true:=by rfl):
 XO P G f Q ops.toArray k (⟨some d,.call ⟨.value fo,args.toArray,ats⟩,ty,pos,af,gd⟩::rest) p ds cs q:=
 .cVX (aH _) hc (fun v q' h=>by obtain ⟨rfl,rfl⟩:=h;exact x) hf hv hw hd
theorem C8 {pk:PE}{L:Rds}{n:Nat}{done:List Nat}(i:Nat)(hc:CallV P G fv vs q (Ret fun v q'=>v=u/\q'=q))
 (K:XD P G f Q ops k pk (cut ⟨some d,.call ⟨.value fo,args.toArray,ats⟩,ty,pos,af,gd⟩ L) n (i::done) ((d,u)::p) ds cs q)
 (ho:ops[i]? =some ⟨some d,.call ⟨.value fo,args.toArray,ats⟩,ty,pos,af,gd⟩:=by rfl) (hf:evp p fo=some fv:=by rfl) (hv:evl p args=some vs:=by rfl)
 (hL:HL q (cut ⟨some d,.call ⟨.value fo,args.toArray,ats⟩,ty,pos,af,gd⟩ L):=by exact hlA)
 (h1:Uc ops done i=true:=by rfl) (hr:rdy ops done i=true:=by rfl) (hw:Wt ops p ⟨some d,.call ⟨.value fo,args.toArray,ats⟩,ty,pos,af,gd⟩=some true:=by rfl) (hd:Nat.blt d f.n=true:=by rfl):XD P G f Q ops k pk L (n+1) done p ds cs q:=
 .call i ho hf hv hc (Jc q) (fun v q' h a e=>by obtain ⟨rfl,rfl⟩:=h;rw [bR] at e;subst e;exact ⟨hL,K⟩) h1 hr hw hd
theorem Cl.le {A:Addr}{v:Value}(h:Cl q' A v)(l:Le q q'):Cl q A v:=fun G w s=>h G w (s.le l)
def Rdr {α:Type}(P:Program)(G:World)(fv:Value)(E:α->Value)(u:α->Value)(q:List HP)(l:List α):Prop:=
 ∀ q1,Le q1 q-> ∀ x∈l,CallV P G fv [E x] q1 (Ret fun v q'=>v=u x/\q'=q1)
theorem Rdr.le {α:Type}{E:α->Value}{u:α->Value}{l:List α}(h:Rdr P G fv E u q l)(k:Le q' q):Rdr P G fv E u q' l:=fun q1 h1=>h q1 (h1.trans k)
end
end
section
variable {G:World}{q:List HP}{b clock o:Nat}
section
variable {P:Program}{p:PE}{r:List HP}{d:Option Tmp}{ty:TypeId}{pos:String}{af:Array Edge}{gd:Option (Nat×Bool)}{x y z:Operand}{t t' kt et:TypeId}{kd:IntKind}{v u:Value}{k:Int}{es:List MapEntry}
theorem St.setObjM {w:World}{es:Array MapEntry}{o:Obj}(s:St G w (pto b (.map es clock)::q)):St G { w with heap:=w.heap.setIfInBounds b o } (pto b o::q):=s.setObj
theorem Ef.insert (ht:P.underlying t=some (.map kt et))(hk:P.underlying kt=some (.int kd))(hx:evp p x=some (.map (some b)))(hy:evp p y=some (.int kd k))(hz:evp p z=some v)(hq:Le q (pto b (.map es.toArray clock)::r))
 (hf:Instr.findNow (.int kd) (.int kd k) es 0=some none):Ef P G p q ⟨d,.insert t x y z,ty,pos,af,gd⟩ fun u q'=>u=undef/\q'=pto b (.map (es++ [({ key:= .int kd k,val:=v,born:=clock } :MapEntry)]).toArray (clock+1))::r:=
 fun tm w c s=>by
  have e:=s.le hq;have f:=e.has (dU _ _ _);have a:MapKept.IsKey (.int kd) (.int kd k):=by first|trivial|exact rfl|simp [MapKept.IsKey]
  refine ⟨undef,_,_,.inr ⟨rfl,?_⟩,e.setObjM (o:= .map (es.toArray.push { key:= .int kd k,val:=v,born:=clock }) (clock+1)),rfl,by simp⟩;simp [execOp,Zp c hx,Zp c hy,Zp c hz,Instr.mapUpdate,run_underlying ht,MapKept.run_getObj_map f,MapKept.run_checkKey hk a,MapKept.run_findKey hk hf,MapKept.run_setObj_map _ f,Result.andThen]
abbrev dD:=@Ef.insert
theorem Rd.lookup {zv:Value}(ht:P.underlying t=some (.map kt et))(hk:P.underlying kt=some (.int kd))(hx:evp p x=some (.map (some b)))(hy:evp p y=some (.int kd k))(hq:Le q (pto b (.map es.toArray clock)::r))(hz: ∀ w,(zeroValue et).run P w= .ok zv w)
 {a:Option (Nat×Value)} (hf:Instr.findNow (.int kd) (.int kd k) es 0=some a):Rd P G p q ⟨d,.lookup t x y false,ty,pos,af,gd⟩ (match a with|some (_,v)=>v|none=>zv):=
 fun tm w e s=>by
  have f:=(s.le hq).has (dU _ _ _);have c:MapKept.IsKey (.int kd) (.int kd k):=by first|trivial|exact rfl|simp [MapKept.IsKey]
  cases a with
  |none=>simp [execOp,Zp e hx,Zp e hy,Instr.lookup,run_underlying ht,MapKept.run_getObj_map f,MapKept.run_checkKey hk c,MapKept.run_findKey hk hf,hz,Result.andThen]
  |some y=>obtain ⟨i,v⟩:=y;simp [execOp,Zp e hx,Zp e hy,Instr.lookup,run_underlying ht,MapKept.run_getObj_map f,MapKept.run_checkKey hk c,MapKept.run_findKey hk hf,Result.andThen]
theorem E9 {kd:IntKind}{c:Int}: ∀ (l:List (Int×Value×Nat)) (i:Nat),∃ a,Instr.findNow (.int kd) (.int kd c) (l.map fun e=>({ key:= .int kd e.1,val:=e.2.1,born:=e.2.2 } :MapEntry)) i=some a/\
 ((a=none/\ ∀ e∈l,e.1≠c)\/ ∃ j e,a=some (j,e.2.1)/\e∈l/\e.1=c)
 | [],i=>⟨none,rfl,.inl ⟨rfl,by simp⟩⟩
 |e::l,i=>by
  by_cases h:c=e.1
  . exact ⟨some (i,e.2.1),by simp [Instr.findNow,Instr.sameNow,h],.inr ⟨i,e,rfl,bW ..,h.symm⟩⟩
  obtain ⟨a,n,m⟩:=E9 (kd:=kd) (c:=c) l (i+1);refine ⟨a,by simp only [bA,Instr.findNow,Instr.sameNow,if_true];rw [show (c==e.1)=false from cZ.2 h];exact n,?_⟩;rcases m with ⟨f,d⟩|⟨j,o,f,d,g⟩
  . exact .inl ⟨f,fun y b=>by rcases bG.1 b with rfl|b;exact fun k=>h k.symm;exact d y b⟩
  exact .inr ⟨j,o,f,bX _ d,g⟩
theorem Zxk (k:Nat){u r:Array TypeId}{b:Bool}(ht:P.underlying t=some (.func u r b))(w:World):(Op.equalIn (k+1) t .nilFunc .nilFunc).run P w= .ok true w:=by
 simp [Op.equalIn,run_underlying ht,Result.andThen]
theorem Zqd {u r:Array TypeId}{b:Bool}(hx:evp p x=some .nilFunc)(ht:P.underlying t=some (.func u r b)):Pu P p ⟨d,.binOp .neq t x (.const .nilFunc) t',ty,pos,af,gd⟩ (.bool false):=fun tm w e=>by
 have c:(Op.equal t .nilFunc .nilFunc).run P w= .ok true w:=Zxk 9999 ht w;have a:evA tm (.const .nilFunc)= .nilFunc:=rfl;simp [execOp,Zp e hx,a,eqGuard,Go.binOp,c]
end
def CellsAt (q:List HP)(b o:Nat)(vs:List Value):Prop:= ∀ k v,vs[k]? =some v->Cl q ⟨b,o+k,none⟩ v
theorem CellsAt.le {q':List HP}{vs:List Value}(h:CellsAt q' b o vs)(l:Le q q'):CellsAt q b o vs:=fun k v e=>(h k v e).le l
abbrev fQ:=@CellsAt.le
theorem CellsAt.of {l:List Value}{t:TypeId}{fz:Nat×Nat}(h:Has q b (.cells l.toArray t fz)):CellsAt q b 0 l:=fun k v e=>fK h (by rw [Ur];simpa using e)
abbrev dH:=@CellsAt.of
theorem CellsAt.row {α:Type}{f:α->List Value}{sz bk n:Nat}{j:Int}{l:List α}{q0:List HP}(h:Sees q0 (some ⟨bk,o,none⟩) (l.flatMap f))(hq:Le q q0)(hf: ∀ x,(f x).length=sz)(hn:n<l.length)(hj:j=n):CellsAt q bk (o+j.toNat*sz) (f l[n]):=
 fun k v e=>dW h hq hf hn hj k v e
abbrev fD:=@CellsAt.row
end
section
variable {P:Program}{G w:World}{v:Value}{name:String}{fn:FuncId}{vs:List Value}{pre q:List HP}{m:Method}{f:Fc}{Q:Yw}{p:PE}{ds:List Deferred}{cs:List Frame}{n:Nat}
def CallM (P:Program)(G:World)(recv:Value)(name:String)(vs:List Value)(pre:List HP)(R:Ub):Prop:=
 ∀ (F:List HP) w,St G w (pre++F)->Ap P (invoke (.fn (.method name) #[]) (#[recv]++vs.toArray)) w fun e w'=> ∃ q,R e q/\St G w' (q++F)
theorem CallM.of {t:TypeId}{rv:Value}{R:Ub}(hcf: ∀ args w,(callFunc fn args).run P w= .ok (.enter fn args) w)
 (hm: ∀ F w,St G w (pre++F)->(Go.method (P.types.size+Made.depth) t v name).run P w= .ok (fn,rv) w) (h:CallF P G fn (rv::vs) pre R):CallM P G (.iface t v) name vs pre R:=by
 intro F w s fr cs c n;have o:=Yq (a:= []) (b:= []) (vs:=rv::vs) hcf (by simpa using h) F w s fr cs c n;obtain ⟨e,m,p,g,k,l,w1,j,f⟩:=o;refine ⟨e,m,p,g,k,l,w1,?_,f⟩;rw [<-j]
 have r:(invoke (.fn (.method name) #[]) (#[Value.iface t v]++vs.toArray)).run P w=(callFunc fn (#[rv]++vs.toArray)).run P w:=by
  have i:(Go.method (P.types.size+100) t v name).run P w= .ok (fn,rv) w:=hm F w s;simp [invoke,callMethod,go_sem,i]
 have q:(do let d<-Deferred.ofValue (.func (.func fn) [].toArray [].toArray) (rv::vs).toArray;invoke d.target d.args:Sem Next).run P w=(callFunc fn (#[rv]++vs.toArray)).run P w:=by
  simp [Deferred.ofValue,invoke,Sem.run_bind,Result.andThen,bind,Sem.bind,Pure.pure]
 simp only [stepG.apply,Sem.runT_eq,r,q,GStep.bare_after,if_true]
theorem Cz {t el:TypeId}{ti:TypeInfo}(hti: ∀ w,(typeInfo t).run P w= .ok ti w)(hu:P.underlying t=some (.pointer el))
 (hf:ti.methods.find? (fun m=>m.name==name)=some m) (hp:m.path= #[]) (hfn:m.func=some (fn,true)):(Go.method (P.types.size+Made.depth) t v name).run P w= .ok (fn,v) w:=by
 rw [show P.types.size+Made.depth=(P.types.size+99)+1 from rfl];generalize P.types.size+99=fuel;simp [Go.method,hti,hf,hp,hfn,follow,receiverAt,Place.get,run_underlying hu,Result.andThen]
theorem ssaWrap (a:Addr)(xt yt:TypeId)(u v:String):Builtin.ssaWrapNilChk_ #[xt] yt #[.pointer (some a),strVal u,strVal v]=Pure.pure (.pointer (some a)):=rfl
theorem Bq {t el:TypeId}{ti:TypeInfo}{a:Addr}{u:Value}(s:St G w q)(hc:Cl q a u)(hti: ∀ w,(typeInfo t).run P w= .ok ti w)(hu:P.underlying t=some (.pointer el))
 (hag: ∀ w,(isAgg el).run P w= .ok false w) (hf:ti.methods.find? (fun m=>m.name==name)=some m) (hp:m.path= #[]) (hfn:m.func=some (fn,false)):(Go.method (P.types.size+Made.depth) t (.pointer (some a)) name).run P w= .ok (fn,u) w:=by
 rw [show P.types.size+Made.depth=(P.types.size+99)+1 from rfl];generalize P.types.size+99=fuel;have h:=hc G w s;simp [Go.method,hti,hf,hp,hfn,follow,receiverAt,Place.get,run_underlying hu,Result.andThen,ssaWrap,asAddr,loadVar,hag,h]
section
variable {ops:List Oper}{k:List Item}{F:List HP}{rest:List Oper}{args:List Operand}{ats:Array TypeId}{ty:TypeId}{pos:String}{af:Array Edge}{gd:Option (Nat×Bool)}{R:Value->List HP->Prop}{ro:Operand}{recv:Value}
theorem XO.callM_ {d:Option Tmp}(hf:evp p ro=some recv)(hv:evl p args=some vs)(hc:CallM P G recv name vs pre (Ret R))(hq:Le q (pre++F))
 (x: ∀ v q',R v q'->XO P G f Q ops.toArray k rest (Qg p d v) ds cs (q'++F))
 (hw:Wt ops p ⟨d,.call ⟨.invoke ro name,args.toArray,ats⟩,ty,pos,af,gd⟩=some true) (hd:dOk f.n d=true):
 XO P G f Q ops.toArray k (⟨d,.call ⟨.invoke ro name,args.toArray,ats⟩,ty,pos,af,gd⟩::rest) p ds cs q:=by
 intro is h tm w n a s
 cases is with
 |nil=>simp at h
 |cons i r=>
  obtain ⟨ho,z⟩:=fW h;obtain ⟨e,m,⟨t,hR,o⟩,e0,g,j,l,a0,y⟩:=hc F w (s.le hq) (f.fr tm ds (.inRegion ops.toArray (i::r)::k)) cs rfl trivial
  have c:execOp (evA tm) ⟨d,.call ⟨.invoke ro name,args.toArray,ats⟩,ty,pos,af,gd⟩=invoke (.fn (.method name) #[]) (#[recv]++vs.toArray):=by
   have h1:=Zp a hf;have h2:=Nb a hv;have:(args.toArray.map (evA tm))=vs.toArray:=by rw [<-h2];simp
   simp only [execOp,resolve,h1,this];rfl
  have b:step P (lone (f.fr tm ds (.inRegion ops.toArray (i::r)::k)) cs w)= .next (lone g j l):=by
   refine step_lone_go ?_;rw [Qq f tm ds cs w _ i r k ho (Yt a hw) (by intro _ h;cases h),c];exact a0
  obtain ⟨v,rfl,hR⟩:=hR;obtain ⟨o',u,p',b0,c0,w',q',hQ,hn,ha,hs,d0⟩:=x v t hR r z (Wg tm d v) m (by rw [Yg];exact n) (a.put (n ▸ hd)) o;refine ⟨o',u,p',b0,c0,w',q',hQ,hn,ha,hs,Arr.head ((Steps.one b).trans y) ?_⟩;have:=V7 f tm ds _ i r k v ho;simp only [Zzv,this];exact d0
theorem N0 {d:Tmp}(hc:CallM P G recv name vs pre (Ret R))(x: ∀ v q',R v q'-> ∀ q'',q''=q'++F->XO P G f Q ops.toArray k rest ((d,v)::p) ds cs q'')(hf:evp p ro=some recv:=by rfl)(hv:evl p args=some vs:=by rfl)(hq:Le q (pre++F):=by exact leA)
 (hw:Wt ops p ⟨some d,.call ⟨.invoke ro name,args.toArray,ats⟩,ty,pos,af,gd⟩=some true:=by rfl) (hd:Nat.blt d f.n=true:=by rfl):
 XO P G f Q ops.toArray k (⟨some d,.call ⟨.invoke ro name,args.toArray,ats⟩,ty,pos,af,gd⟩::rest) p ds cs q:= .callM_ hf hv hc hq (fun v q' r=>x v q' r _ rfl) hw hd
end
def bxH {α:Type}(f:α->Value)(ts te:TypeId)(n:Nat)(l:List α):HP:=ex fun s:Option Addr×Nat=>stars [pto n (.cells [.slice s.1 l.length s.2].toArray ts (0,0)),lsH f te s.1 s.2 l]
theorem Le.bx {α:Type}{f:α->Value}{ts te:TypeId}{l:List α}{a:Option Addr}{c:Nat}{r:List HP}(h:Le q (pto n (.cells [.slice a l.length c].toArray ts (0,0))::lsH f te a c l::r)):Le q (bxH f ts te n l::r):=
 Wa (a,c) (h.trans (by exact Zm [_,_] r))
theorem X.bx {todo:List Item}{α:Type}{g:α->Value}{ts te:TypeId}{l:List α}
 (x: ∀ a c,X P G f Q todo p ds cs (pto n (.cells [.slice a l.length c].toArray ts (0,0))::lsH g te a c l::q)):X P G f Q todo p ds cs (bxH g ts te n l::q):=
 X.ex (fun s=>cS (Zy _ _) (x s.1 s.2))
theorem K8: ∀ a b c:List HP,Le (a++(b++c)) (b++(a++c))
 | [],_,_=>aH _
 |A::a,b,c=>by
  refine aM (cG A (K8 a b c)) ?_
  have e: ∀ (b d:List HP),Le (A::(b++d)) (b++(A::d)):=by
   intro b d
   induction b with
   |nil=>exact aH _
   |cons B b ih=>exact aM (iS A B (b++d)) (cG B ih)
  exact e b (a++c)
theorem Le.pushR (A:HP)(b d:List HP):Le (A::(b++d)) (b++(A::d)):=K8 [A] b d
theorem Zq0: ∀ q pre F:List HP,Le (q++(pre++F)) (q++F):=fun q pre F=>Q2 q (by
 induction pre with
 |nil=>exact aH _
 |cons A r ih=>exact F9 ih)
theorem Zyb (q F:List HP)(A B:HP):Le (q++(A::B::F)) (q++F):=Zq0 q [A,B] F
theorem Zyy (q F:List HP)(A B C:HP):Le (q++(A::B::C::F)) (q++F):=Zq0 q [A,B,C] F
theorem leB {q':List HP}(h:Le q q':=by repeat (first|exact aH _|exact Le.pushR _ _ _|exact Zyb _ _ _ _|exact Zyy _ _ _ _ _|(apply bD; · (repeat first|exact Le.here _ _|apply Le.there))|refine F9 ?_)):Le q q':=h
end
section
variable {P:Program}{G:World}{p:PE}{q r:List HP}{v:Value}{c:Nat}{a:Option Addr}
section
variable {d:Option Tmp}{ty:TypeId}{pos:String}{af:Array Edge}{gd:Option (Nat×Bool)}{x y z:Operand}{t:TypeId}{u:Value}
theorem Pv {D:TypeDesc}{xt:TypeId}(hx:evp p x=some (.iface t v))(ht:P.underlying t=some D)(hD:(match D with| .interface _=>false|_=>true)=true):
 Pu P p ⟨d,.typeAssert x xt t false,ty,pos,af,gd⟩ v:=fun tm w a=>by
 simp only [execOp,Zp a hx,Instr.typeAssert,Sem.run_bind,run_underlying ht,Result.andThen_ok]
 cases D<;>first|(cases hD;done)|simp
end
theorem Fg {α:Type}(f:α->Value)(ty:TypeId)(a:Option Addr)(c:Nat)(l:List α)(n:Nat)(q:List HP):Le (lsH f ty a c l::q) (lsH f ty a c (l.take n)::q):=by
 refine .one fun M h p=> ?_
 obtain ⟨v,o⟩:=p;refine ⟨by simp,?_⟩;rcases o with ⟨t,s,r⟩|⟨g,b,m,u,k,j,e,d⟩
 . left;exact ⟨t,s,by have:=aS r;subst this;simp⟩
 right
 refine ⟨g,b,m,?_,k,j,?_,d⟩
 . have:=List.length_take_le n l;have:=bI (i:=n) (l:=l);omega
 rw [List.map_take,<-e,List.take_take];congr 1;have:=bI (i:=n) (l:=l);omega
section
variable {recv:Value}{name:String}{vs:List Value}{pre pre':List HP}{R R':Value->List HP->Prop}
theorem Zyd {α:Sort _}{A:α->HP}{S:Ub}(h: ∀ y,CallM P G recv name vs (A y::pre) S):CallM P G recv name vs (ex A::pre) S:=by
 intro F w s fr cs d c;have a:St G w (ex A::(pre++F)):=s;obtain ⟨y,b⟩:=a.get_ex;exact h y F w b fr cs d c
theorem CallM.conv (h:CallM P G recv name vs pre (Ret R))(hq:Le pre' pre)(hr: ∀ v q,R v q-> ∃ q',R' v q'/\Le q q'):CallM P G recv name vs pre' (Ret R'):=by
 intro F w s fr cs f d;obtain ⟨e,b,⟨q,⟨v,rfl,i⟩,c⟩,rest⟩:=h F w (s.le (hq.liftR F)) fr cs f d;obtain ⟨q',a,g⟩:=hr v q i;exact ⟨_,b,⟨q',⟨v,rfl,a⟩,c.le (g.liftR F)⟩,rest⟩
theorem T3 {α:Type}{f:α->Value}{ts te:TypeId}{n:Nat}{l:List α}{φ:Value->List α->Prop}(h: ∀ a c,CallM P G recv name vs [pto n (.cells [.slice a l.length c].toArray ts (0,0)),lsH f te a c l] (Ret fun v q'=> ∃ l' a' c',φ v l'/\q'= [pto n (.cells [.slice a' l'.length c'].toArray ts (0,0)),lsH f te a' c' l'])):
 CallM P G recv name vs [bxH f ts te n l] (Ret fun v q'=> ∃ l',φ v l'/\q'= [bxH f ts te n l']):=
 Zyd fun y=>(h y.1 y.2).conv (Zy _ _) fun v q ⟨l',a',c',d,b⟩=>⟨_,⟨l',d,rfl⟩,by subst b;exact Le.bx (aH _)⟩
end
theorem St.lsCap {w:World}{α:Type}{f:α->Value}{ty:TypeId}{l:List α}(s:St G w (Wx.lsH f ty a c l::q)):l.length<=c:=by
 obtain ⟨_,M,h,_,_,_,_,_,d,b,_,_,_,p,_⟩:=s;rcases p.2 with ⟨_,rfl,h⟩|⟨g,i,o,e,n,m,k,j⟩
 . omega
 exact e
theorem Zv1 {f:Fc}{Q:Yw}{todo:List Item}{ds:List Deferred}{cs:List Frame}{α:Type}{fl:α->Value}{ty:TypeId}{l:List α}(x:l.length<=c->X P G f Q todo p ds cs q)(hq:Le q (lsH fl ty a c l::r):=by exact Zj):X P G f Q todo p ds cs q:=
 .fact (fun w s=>(s.le hq).lsCap) fun h=>x h
end
section
variable {P:Program}{G:World}{f:Fc}{Q:Yw}{cs:List Frame}{fn:FuncId}{R:Ub}{F q q':List HP}{u:FrameMode}{p:PE}{ds:List Deferred}{a:Option Addr}{c:Nat}
section
variable {k:List Item}
theorem Zv2 {b:Code}{α:Sort _}(Inv:α->Prop)(pI:α->PE)(dI:α->List Deferred)(qI:α->List HP)(μ:α->Nat)
 (round: ∀ a,Inv a->(∀ a',Inv a'->μ a'<μ a->X P G f Q (.inLoop b::k) (pI a') (dI a') cs (qI a'))->X P G f Q (.code b:: .inLoop b::k) (pI a) (dI a) cs (qI a))
 (a:α) (h:Inv a):X P G f Q (.code (.loop b)::k) (pI a) (dI a) cs (qI a):=by
 have c: ∀ n a,μ a=n->Inv a->X P G f Q (.code b:: .inLoop b::k) (pI a) (dI a) cs (qI a):=by
  intro n
  induction n using Nat.strongRecOn with
  |_ n ih=>exact fun a d h=>round a h fun a' g e=> .inLoop (ih (μ a') (d ▸ e) a' rfl g)
 exact .loop1 (c _ a rfl h)
end
def mks (rs:List Nat):HP:=stars (rs.map fun r=>pto r (.deferred (some [])))
theorem Pg (q:List HP):Le q (mks []::q):=Zm [] q
theorem Ff (r:Nat)(rs:List Nat)(q:List HP):Le (pto r (.deferred (some []))::mks rs::q) (mks (r::rs)::q):=
 aM (cG _ (Zy (rs.map fun r=>pto r (.deferred (some []))) q)) (Zm (pto r (.deferred (some []))::rs.map fun r=>pto r (.deferred (some []))) q)
theorem Lq (r:Nat)(rs:List Nat)(q:List HP):Le (mks (r::rs)::q) (pto r (.deferred (some []))::mks rs::q):=
 aM (Zy (pto r (.deferred (some []))::rs.map fun r=>pto r (.deferred (some []))) q) (cG _ (Zm (rs.map fun r=>pto r (.deferred (some []))) q))
theorem Zv8 {P:Program}{G:World}{fn:FuncId}{R:Ub}{F:List HP}{u:FrameMode}{p:PE}{ds:List Deferred}(hu:u≠ .run)(hl: ∀ q q',Le q q'->Lv P G fn R F ds u p q'->Lv P G fn R F ds u p q): ∀ (rs:List Nat) {q q':List HP},Lv P G fn R F ds u p q'->Le q (Wx.mks rs::q')->Lv P G fn R F (rs.map markD++ds) u p q
 | [],q,q',h,hq=>hl _ _ (hq.trans (F9 (aH _))) h
 |r::rs,q,q',h,hq=>Zv9 hu (hq.trans (Lq r rs q')) (Zv8 hu hl rs h (aH _))
theorem Lv.le_ (hl:Le q q')(h:Lv P G fn R F ds u p q'):Lv P G fn R F ds u p q:=fun tm w fr cs a b c d e f s=>h tm w fr cs a b c d e f (s.le hl)
theorem Lv.mks {rs:List Nat}(h:Lv P G fn R F ds u p q')(hu:u≠ .run:=by simp)(hq:Le q (Wx.mks rs::q'):=by exact Zj):Lv P G fn R F (rs.map markD++ds) u p q:=
 Zv8 hu (fun _ _ l h=>Lv.le_ l h) rs h hq
theorem St.lsMax {w:World}{α:Type}{f:α->Value}{ty:TypeId}{l:List α}(s:St G w (Wx.lsH f ty a c l::q)):l.length<=maxLen:=by
 obtain ⟨_,M,h,_,_,_,_,_,d,b,_,_,_,p,_⟩:=s;rcases p.2 with ⟨_,_,h⟩|⟨g,j,o,i,e,n,m,k⟩
 . rw [h];exact bC _
 exact dR i e
theorem X.lsmax {todo:List Item}{r:List HP}{α:Type}{fl:α->Value}{ty:TypeId}{l:List α}(x:l.length<=9223372036854775807->X P G f Q todo p ds cs q)(hq:Le q (Wx.lsH fl ty a c l::r):=by exact Zj):X P G f Q todo p ds cs q:=
 .fact (fun w s=>dR (St.lsMax (s.le hq)) (by decide)) fun h=>x h
end
section
theorem Rv {α β:Type}(F:α->List β)(sz:Nat): ∀ (ds:List α) (cs:List β),cs.length=ds.length*sz->(∀ i (h:i<ds.length),(cs.drop (i*sz)).take sz=F ds[i])->cs=ds.flatMap F
 | [],cs,h,_=>by
  have:cs= []:=aS (by simpa using h);subst this;rfl
 |d::ds,cs,h,hF=>by
  have b:=hF 0 (by simp);rw [Nat.zero_mul,fY,fT] at b;have e:cs.length=(ds.length+1)*sz:=by simpa using h
  have c:=Rv F sz ds (cs.drop sz) (by rw [cE,e,Nat.succ_mul];omega) (fun i f=>by
   have a:=hF (i+1) (by simp;omega);rw [fU] at a;rw [iE,<-a,Nat.succ_mul,kW])
  rw [bZ,<-b,<-c,dZ]
end
section
section
variable {P:Program}{G:World}{f:Fc}{Q:Yw}{ops:List Oper}{k:List Item}{pk p:PE}{ds:List Deferred}{cs:List Frame}{q:List HP}{n:Nat}{done:List Nat}{L:Rds}{o:Oper}{v:Value}{fl:List FlE}
def StepOk (P:Program)(G:World)(f:Fc)(Q:Yw)(ops:List Oper)(k:List Item)(pk:PE)(fl:List FlE)(L:Rds)(n:Nat)(done:List Nat)(p:PE)(ds:List Deferred)(cs:List Frame)(q:List HP)(j:Nat):Prop:=
 ∃ (oj:Oper) (R:Value->List HP->Prop),ops[j]? =some oj/\(∀ E,Ef P G p (q++E) oj fun v q'=> ∃ q1,R v q1/\q'=q1++E)/\(∀ v q1,R v q1->HL q1 (cut oj L)/\XF P G f Q ops k pk fl (cut oj L) n (j::done) (Qg p oj.dst v) ds cs q1)/\
  (fl.map (·.i)).contains j=false/\rdy ops done j=true/\Wt ops p oj=some true/\dOk f.n oj.dst=true
def Zk9 (ops:List Oper)(fl done js:List Nat):Bool:=(List.range ops.length).all fun j=>js.contains j||fl.contains j|| !rdy ops (fl++done) j
theorem XF.any (js:List Nat)(hR:FlR P G f ops done p fl)(hj0:js≠ [])(hJ: ∀ j∈js,StepOk P G f Q ops k pk fl L n done p ds cs q j)(hL:HL q L)
 (hon:Zk9 ops (fl.map (·.i)) done js=true) (hlen:Nat.ble fl.length n=true):XF P G f Q ops k pk fl L (n+1) done p ds cs q:=by
 intro a b S m
 induction m generalizing S with
 |zero=>
  intro tm w h1 h2 h3 hn ag fa s;exfalso
  have m0:S.length<=fl.length:=by
   have h4:(Uv S).length<=(fl.map (·.i)).length:=by
    refine List.Nodup.length_le_of_subset h1 fun x hx=> ?_
    obtain ⟨e,o,rfl⟩:=bS.1 hx;exact aZ (h2 e o)
   simpa [Uv] using h4
  have:fl.length<=n:=by simpa using hlen
  omega
 |succ m ih=>
  intro tm w h1 h2 h3 hn ag fa s
  have nS: ∀ j,(fl.map (·.i)).contains j=false->j∉Uv S:=fun j l u=>by
   obtain ⟨e,o,e'⟩:=bS.1 u;have:j∈fl.map (·.i):=by rw [<-e'];exact aZ (h2 e o)
   simp [this] at l
  refine ⟨fun a0=> ?_,fun x ox t z=> ?_⟩
  . obtain ⟨j,r,rfl⟩:=List.exists_cons_of_ne_nil hj0;obtain ⟨_,_,_,_,_,l,hr,_⟩:=hJ j (bW ..);exact aV (Tw hr (nS j l)) (by simp [a0 j])
  by_cases hxj:x∈js
  . obtain ⟨oj,R,ho,hE,K,l,hr,hw,hd⟩:=hJ x hxj;have j0:=nS x l;rw [ho] at t;cases t
    unfold OW;rw [if_pos (Yt ag hw)];refine ((hE (fCh S)).ap tm w ag s).mono fun en w' _ hh=> ?_
    obtain ⟨q',⟨v,rfl,q1,hv,rfl⟩,s'⟩:=hh;refine ⟨((K v q1 hv).1.le (Wq q1 (fCh S))).sl s',?_⟩;refine WA.congr _ (done:=Uv S++(x::done)) (fun y=>by simp only [bE,bG];exact ⟨fun h=>by rcases h with h|h|h<;>simp [h],fun h=>by rcases h with h|h|h<;>simp [h]⟩) ?_;refine (K v q1 hv).2 a b S m _ w' h1 h2 (by omega) (by rw [Yg];exact hn) (ag.put (hn ▸ hd)) ?_ s';intro e o;obtain ⟨o2,h0,l0,b0,_,_,_,_⟩:=hR.get (h2 e o);have i0:e.1.i≠x:=fun e'=>j0 (by rw [<-e'];exact aZ o)
    have k0:=Cs a h0 ho i0 b0 hr (Vw hr) (Vw b0) l0;have:=fa e o
    cases hdo:ox.dst with
    |none=>simpa [Wg] using this
    |some d=>
     have c0:d≠e.1.d:=fun e'=>k0 (by rw [hdo,e'])
     simpa [Wg,eC,c0] using this
  have e0:x<ops.length:=(cA.1 t).1
  have f0:x∈fl.map (·.i):=by
   have h4:=cQ.1 hon x (by simpa using e0);rcases eB (x∈fl.map (·.i)) with h5|h5
   . exact h5
   have h6:rdy ops (fl.map (·.i)++done) x=true:=F3 z (fun y c=>by
    rcases bE.1 c with c|c
    . obtain ⟨e,o,rfl⟩:=bS.1 c;exact eH _ (aZ (h2 e o))
    . exact eM _ c) (fun u=>by
    rcases bE.1 u with u|u
    . exact h5 u
    exact Vw z (eM _ u))
   simp [hxj,h6] at h4;simp at h5;obtain ⟨y,c,e⟩:=h4;exact aV e (h5 y c)
  obtain ⟨e,o,rfl⟩:=bS.1 f0;have g0:e.i∉Uv S:=fun u=>Vw z (eH _ u)
  refine Dt a hR h1 h2 hn ag fa s o g0 t fun g d0 w' k1 k2 k3 k4 k5 k6=> ?_
  refine ⟨((hL.sub fun y c=>(U4.1 c).1).le (Wq q _)).sl k6,?_⟩;exact WA.mono _ (fun y c=>(U4.1 c).1) (ih ((e,g)::S) d0 w' k1 k2 (by simp;omega) k3 k4 k5 k6)
theorem XF.two (i j:Nat)(hR:FlR P G f ops done p fl)(h1:StepOk P G f Q ops k pk fl L n done p ds cs q i)(h2:StepOk P G f Q ops k pk fl L n done p ds cs q j)(hL:HL q L:=by exact hlA)
 (hon:Zk9 ops (fl.map (·.i)) done [i,j]=true:=by rfl) (hlen:Nat.ble fl.length n=true:=by rfl):XF P G f Q ops k pk fl L (n+1) done p ds cs q:=
 XF.any [i,j] hR (by simp) (fun x a=>by
  rcases bG.1 a with rfl|a
  . exact h1
  rw [bN.1 a];exact h2) hL hon hlen
end
end
section
section
variable {P:Program}{G:World}{p:PE}{q r:List HP}{d:Option Tmp}{ty':TypeId}{pos:String}{af:Array Edge}{gd:Option (Nat×Bool)}{x y:Operand}{a b:Option Addr}{c c':Nat}{t t2 e:TypeId}
theorem Zzq {α:Type}{f:α->Value}{l m:List α}{z:Value}{bytes:Nat}(ht:P.underlying t=some (.slice e))(hi:(P.info? e).map (fun i=>(i.zero,i.size,i.bytes))=some (some z,1,bytes))
 (hx:evp p x=some (.slice a l.length c)) (hy:evp p y=some (.slice b m.length c')) (hq:Le q (Wx.lsH f e a c l::r)) (hs:Sees q b (m.map f)) (h1: ∀ u,(f u).oneCell'=true) (hml:m.length<=l.length):
 Ef P G p q ⟨d,.call ⟨.builtin .copy, [x,y].toArray, [t,t2].toArray⟩,ty',pos,af,gd⟩ fun v q'=>v= .int .i64 m.length/\q'=Wx.lsH f e a c (m++l.drop m.length)::r:=by
 obtain ⟨I,hI,e1,e2,e3⟩:=info_parts hi;intro tm w ag s;have m0:evl p [x,y]=some [.slice a l.length c,.slice b m.length c']:=by simp [evl,hx,hy]
 have l0:=Un (d:=d) (ty:=ty') (pos:=pos) (af:=af) (gd:=gd) (bi:= .copy) (ats:= [t,t2].toArray) ag m0;rw [l0]
 have n: ∀ v w',(Builtin.copy_ #[t,t2] ty' #[.slice a l.length c,.slice b m.length c']).run P w= .ok v w'->(builtin .copy [t,t2].toArray ty' ([x,y].toArray.map fun| .const _=>true|_=>false) [.slice a l.length c,.slice b m.length c'].toArray).run P w= .ok (.value v) w':=by
  intro v w' h;simp [builtin,h]
 have d0:Nat.min m.length l.length=m.length:=eW hml;rcases U6 (m:=m.length) (sz:=1) (hs G w s) (by simp) Nat.one_pos with ⟨h0,_⟩|⟨ad,rfl,hc⟩
 . obtain rfl:=aS h0;refine ⟨.int .i64 0,w,_,.inl (n _ _ ?_),?_,rfl,rfl⟩
   . cases b<;>cases a<;>simp [Builtin.copy_,run_underlying ht,Go.sizeOf,typeInfo,hI,Builtin.lenOf,Builtin.firstCells,loadCells,loadCellsFrom,storeCells,goInt]
   simpa using s.le hq
 have c0:=s.le hq;unfold Wx.lsH at c0;obtain ⟨p0,o⟩:=c0.slH_elim;rcases o with ⟨rfl,rfl,h0,s'⟩|⟨g,k,rfl,i0,o0,n0,a0,s'⟩
 . have j0:m= []:=aS (by omega);have k0:l= []:=aS h0;subst j0;subst k0;refine ⟨.int .i64 0,w,_,.inl (n _ _ ?_),?_,rfl,rfl⟩
   . simp [Builtin.copy_,run_underlying ht,Go.sizeOf,typeInfo,hI,Builtin.lenOf,Builtin.firstCells,loadCells,loadCellsFrom,storeCells,goInt]
   simpa using s.le hq
 have hg:w.heap[g]? =some (.cells k e (0,0)):=s'.has (dU _ _ _);have f0:0+(m.map f).length<=k.size:=by rw [aI,n0];omega
 have e0:=run_loadCells_list (P:=P) w ad (m.map f) hc;rw [aI] at e0;have g0:=run_storeCells_at P g 0 e (m.map f) 0 k w hg (by simpa using f0) (fun v hv=>by obtain ⟨u,_,rfl⟩:=bS.1 hv;exact h1 u);refine ⟨.int .i64 m.length,w.setRow g (m.map f++k.toList.drop m.length).toArray,_,.inl (n _ _ ?_),?_,rfl,rfl⟩
 . simp [Builtin.copy_,run_underlying ht,Go.sizeOf,typeInfo,hI,e2,Builtin.lenOf,Builtin.firstCells,d0,e0,goInt];have b0:(storeCells ⟨g,0,none⟩ (m.map f)).run P w= .ok () (w.setRow g (m.map f++k.toList.drop m.length).toArray):=by simpa using g0
   rw [b0];simp
 have s2:=s'.put (o':= .cells (m.map f++k.toList.drop m.length).toArray e (0,0)) (setRow_heap w g k _ e (0,0) hg) (fun j hj=>setRow_other w g j _ hj) (by simp) rfl rfl rfl;unfold Wx.lsH;rw [show (m++l.drop m.length).length=l.length by simp;omega];refine s2.le (Yn i0 o0 ?_ ?_ r)
 . simp only [fE,aA,aI,cE,gK];omega
 rw [iR] at a0|-;rw [List.take_append,aI,bQ (by rw [aI];exact hml),aO,List.map_drop,<-a0,List.drop_take]
end
end
section
end
section
variable {pre:List HP}{fn:FuncId}{args:List Operand}{pos:String}{af:Array Edge}{gd:Option (Nat×Bool)}{vs:List Value}{R:Value->List HP->Prop}
section
variable {P:Program}{G:World}{f:Fc}{Q:Yw}{ops:List Oper}{k:List Item}{pk p:PE}{ds:List Deferred}{cs:List Frame}{q:List HP}{n:Nat}{done:List Nat}{L:Rds}{o:Oper}{v:Value}{fl:List FlE}
def EfA (P:Program)(G:World)(p:PE)(q:List HP)(o:Oper)(R:Value->List HP->Prop):Prop:= ∀ tm w,Agr tm p->St G w q->Ap P (execOp (evA tm) o) w fun e w'=> ∃ q',Ret R e q'/\St G w' q'
def StepA (P:Program)(G:World)(f:Fc)(Q:Yw)(ops:List Oper)(k:List Item)(pk:PE)(fl:List FlE)(L:Rds)(n:Nat)(done:List Nat)(p:PE)(ds:List Deferred)(cs:List Frame)(q:List HP)(j:Nat):Prop:=
 ∃ (oj:Oper) (R:Value->List HP->Prop),ops[j]? =some oj/\(∀ E,EfA P G p (q++E) oj fun v q'=> ∃ q1,R v q1/\q'=q1++E)/\(∀ v q1,R v q1->HL q1 (cut oj L)/\XF P G f Q ops k pk fl (cut oj L) n (j::done) (Qg p oj.dst v) ds cs q1)/\
  (fl.map (·.i)).contains j=false/\rdy ops done j=true/\Wt ops p oj=some true/\dOk f.n oj.dst=true
theorem XF.anyA (js:List Nat)(hR:FlR P G f ops done p fl)(hj0:js≠ [])(hJ: ∀ j∈js,StepA P G f Q ops k pk fl L n done p ds cs q j)(hL:HL q L)
 (hon:Zk9 ops (fl.map (·.i)) done js=true) (hlen:Nat.ble fl.length n=true):XF P G f Q ops k pk fl L (n+1) done p ds cs q:=by
 intro a b S m
 induction m generalizing S with
 |zero=>
  intro tm w h1 h2 h3 hn ag fa s;exfalso
  have m0:S.length<=fl.length:=by
   have h4:(Uv S).length<=(fl.map (·.i)).length:=by
    refine List.Nodup.length_le_of_subset h1 fun x hx=> ?_
    obtain ⟨e,o,rfl⟩:=bS.1 hx;exact aZ (h2 e o)
   simpa [Uv] using h4
  have:fl.length<=n:=by simpa using hlen
  omega
 |succ m ih=>
  intro tm w h1 h2 h3 hn ag fa s
  have nS: ∀ j,(fl.map (·.i)).contains j=false->j∉Uv S:=fun j l u=>by
   obtain ⟨e,o,e'⟩:=bS.1 u;have:j∈fl.map (·.i):=by rw [<-e'];exact aZ (h2 e o)
   simp [this] at l
  refine ⟨fun a0=> ?_,fun x ox t z=> ?_⟩
  . obtain ⟨j,r,rfl⟩:=List.exists_cons_of_ne_nil hj0;obtain ⟨_,_,_,_,_,l,hr,_⟩:=hJ j (bW ..);exact aV (Tw hr (nS j l)) (by simp [a0 j])
  by_cases hxj:x∈js
  . obtain ⟨oj,R,ho,hE,K,l,hr,hw,hd⟩:=hJ x hxj;have j0:=nS x l;rw [ho] at t;cases t
    unfold OW;rw [if_pos (Yt ag hw)];refine (hE (fCh S) tm w ag s).mono fun en w' _ hh=> ?_
    obtain ⟨q',⟨v,rfl,q1,hv,rfl⟩,s'⟩:=hh;refine ⟨((K v q1 hv).1.le (Wq q1 (fCh S))).sl s',?_⟩;refine WA.congr _ (done:=Uv S++(x::done)) (fun y=>by simp only [bE,bG];exact ⟨fun h=>by rcases h with h|h|h<;>simp [h],fun h=>by rcases h with h|h|h<;>simp [h]⟩) ?_;refine (K v q1 hv).2 a b S m _ w' h1 h2 (by omega) (by rw [Yg];exact hn) (ag.put (hn ▸ hd)) ?_ s';intro e o;obtain ⟨o2,h0,l0,b0,_,_,_,_⟩:=hR.get (h2 e o);have i0:e.1.i≠x:=fun e'=>j0 (by rw [<-e'];exact aZ o)
    have k0:=Cs a h0 ho i0 b0 hr (Vw hr) (Vw b0) l0;have:=fa e o
    cases hdo:ox.dst with
    |none=>simpa [Wg] using this
    |some d=>
     have c0:d≠e.1.d:=fun e'=>k0 (by rw [hdo,e'])
     simpa [Wg,eC,c0] using this
  have e0:x<ops.length:=(cA.1 t).1
  have f0:x∈fl.map (·.i):=by
   have h4:=cQ.1 hon x (by simpa using e0);rcases eB (x∈fl.map (·.i)) with h5|h5
   . exact h5
   have h6:rdy ops (fl.map (·.i)++done) x=true:=F3 z (fun y c=>by
    rcases bE.1 c with c|c
    . obtain ⟨e,o,rfl⟩:=bS.1 c;exact eH _ (aZ (h2 e o))
    . exact eM _ c) (fun u=>by
    rcases bE.1 u with u|u
    . exact h5 u
    exact Vw z (eM _ u))
   simp [hxj,h6] at h4;simp at h5;obtain ⟨y,c,e⟩:=h4;exact aV e (h5 y c)
  obtain ⟨e,o,rfl⟩:=bS.1 f0;have g0:e.i∉Uv S:=fun u=>Vw z (eH _ u)
  refine Dt a hR h1 h2 hn ag fa s o g0 t fun g d0 w' k1 k2 k3 k4 k5 k6=> ?_
  refine ⟨((hL.sub fun y c=>(U4.1 c).1).le (Wq q _)).sl k6,?_⟩;exact WA.mono _ (fun y c=>(U4.1 c).1) (ih ((e,g)::S) d0 w' k1 k2 (by simp;omega) k3 k4 k5 k6)
theorem EfA.callF {d:Option Tmp}{ats:Array TypeId}{ty:TypeId}{F:List HP}
 (hcf: ∀ args w,(callFunc fn args).run P w= .ok (.enter fn args) w) (hc:CallF P G fn vs pre (Ret R)) (hv:evl p args=some vs) (hq:Le q (pre++F)) (E:List HP):
 EfA P G p (q++E) ⟨d,.call ⟨.value (.func fn),args.toArray,ats⟩,ty,pos,af,gd⟩ fun v q'=> ∃ q1,(∃ q0,R v q0/\q1=q0++F)/\q'=q1++E:=by
 intro tm w k s;rw [Ls k (show evp p (.func fn)=some (.func (.func fn) #[] #[]) from rfl) hv];have f:St G w (pre++(F++E)):=by rw [<-aK];exact s.le (hq.liftR E)
 have c:CallV P G (.func (.func fn) #[] #[]) vs pre (Ret R):=Yq (a:= []) (b:= []) hcf (by simpa using hc);refine (c (F++E) w f).mono fun e l _ h=> ?_
 obtain ⟨q',⟨v,i,j⟩,g⟩:=h;exact ⟨q'++F++E,⟨v,i,q'++F,⟨q',j,rfl⟩,rfl⟩,by rw [aK];exact g⟩
theorem Td (i:Nat){d:Tmp}{ats:Array TypeId}{ty:TypeId}
 (hR:FlR P G f ops done p fl) (hcf: ∀ args w,(callFunc fn args).run P w= .ok (.enter fn args) w) (hq:Le q pre) (hc:CallF P G fn vs pre (Ret R))
 (K: ∀ v q',R v q'->HL q' (cut ⟨some d,.call ⟨.value (.func fn),args.toArray,ats⟩,ty,pos,af,gd⟩ L)/\XF P G f Q ops k pk fl (cut ⟨some d,.call ⟨.value (.func fn),args.toArray,ats⟩,ty,pos,af,gd⟩ L) n (i::done) ((d,v)::p) ds cs q')
 (ho:ops[i]? =some ⟨some d,.call ⟨.value (.func fn),args.toArray,ats⟩,ty,pos,af,gd⟩:=by rfl) (hv:evl p args=some vs:=by rfl) (hL:HL q L:=by exact hlA)
 (hon:Zk9 ops (fl.map (·.i)) done [i]=true:=by rfl) (hif:(fl.map (·.i)).contains i=false:=by rfl) (hr:rdy ops done i=true:=by rfl) (hw:Wt ops p ⟨some d,.call ⟨.value (.func fn),args.toArray,ats⟩,ty,pos,af,gd⟩=some true:=by rfl)
 (hd:Nat.blt d f.n=true:=by rfl) (hlen:Nat.ble fl.length n=true:=by rfl):XF P G f Q ops k pk fl L (n+1) done p ds cs q:=
 XF.anyA [i] hR (by simp) (fun x a=>by
  rw [bN.1 a];exact ⟨_,_,ho,EfA.callF hcf hc hv (hq.trans (Jc pre)),fun v b ⟨q0,h,e⟩=>by rw [bR] at e;subst e;exact K v _ h,hif,hr,hw,hd⟩) hL hon hlen
end
end
section
end
section
variable {r:List HP}{n b o sz:Nat}{l vs:List Value}
section
variable {P:Program}{G:World}{f:Fc}{Q:Yw}{ops:List Oper}{k:List Item}{p:PE}{ds:List Deferred}{cs:List Frame}{q:List HP}{rest:List Oper}{v:Value}{T:Tr}
variable {d:Tmp}{t ty:TypeId}{pos:String}{af:Array Edge}{gd:Option (Nat×Bool)}{x y:Operand}{A:Addr}
def Tr.lf (T:Tr)(t:TypeId):Bool:=match T.get t with|some x=> !x.agg|none=>false
def Tr.ag (T:Tr)(t:TypeId):Option Nat:=match T.get t with|some x=>bif x.agg then some x.sz else none|none=>none
def Tr.s1 (T:Tr)(t:TypeId):Bool:=match T.get t with|some x=>Nat.beq x.sz 1|none=>false
theorem Zqh (hT:T.ok P id)(h:T.lf t=true)(w:World):(isAgg t).run P w= .ok false w:=by
 unfold Tr.lf at h;split at h
 . rename_i x a;have:=(Zs hT a).2.1 w;rw [show x.agg=false by simpa using h] at this;exact this
 cases h
theorem Ji (hT:T.ok P id)(h:T.ag t=some n):(∀ w,(isAgg t).run P w= .ok true w)/\ ∀ w,(Go.sizeOf t).run P w= .ok n w:=by
 unfold Tr.ag at h;split at h
 . rename_i x a;have b:=(Zs hT a).2.1;have c:=(Zs hT a).2.2.1
   cases hb:x.agg with
   |true=>rw [hb] at h b;simp only [cond_true,Option.some.injEq] at h;subst h;exact ⟨b,c⟩
   |false=>rw [hb] at h;simp at h
 cases h
theorem Zqg (hT:T.ok P id)(h:T.s1 t=true)(w:World):(Go.sizeOf t).run P w= .ok 1 w:=by
 unfold Tr.s1 at h;split at h
 . rename_i x a;have:=(Zs hT a).2.2.1 w;rw [cX h] at this;exact this
 cases h
theorem Zh {z:Value}(hz: ∀ w,(zeroValue t).run P w= .ok z w)(K: ∀ n,XO P G f Q ops.toArray k rest ((d,.pointer (some ⟨n,0,none⟩))::p) ds cs (pto n (.cells z.cells t (0,0))::q))
 (hw:Wt ops p ⟨some d,.alloc t,ty,pos,af,gd⟩=some true:=by rfl) (hd:Nat.blt d f.n=true:=by rfl):XO P G f Q ops.toArray k (⟨some d,.alloc t,ty,pos,af,gd⟩::rest) p ds cs q:=
 .ef (cD hz) (by rintro _ _ ⟨n,rfl,rfl⟩;exact K n) hw hd
theorem Zl (K: ∀ n,XO P G f Q ops.toArray k rest ((d,.pointer (some ⟨n,0,none⟩))::p) ds cs (pto n (.cells v.cells t (0,0))::q))(hx:evp p x=some v:=by rfl)
 (hw:Wt ops p ⟨some d,.box t x,ty,pos,af,gd⟩=some true:=by rfl) (hd:Nat.blt d f.n=true:=by rfl):XO P G f Q ops.toArray k (⟨some d,.box t x,ty,pos,af,gd⟩::rest) p ds cs q:=
 .ef (Ef.box hx) (by rintro _ _ ⟨n,rfl,rfl⟩;exact K n) hw hd
theorem XO.st {t':TypeId}(hT:T.ok P id)(hs:T.s1 t=true)(K:XO P G f Q ops.toArray k rest p ds cs (pto b (.cells (J6 l o v).toArray t' (0,0))::r))
 (hx:evp p x=some (.pointer (some ⟨b,o,none⟩)):=by rfl) (hy:evp p y=some v:=by rfl)
 (hv:v.cells= #[v]:=by rfl) (h1:v.oneCell'=true:=by rfl) (hq:Le q (pto b (.cells l.toArray t' (0,0))::r):=by exact Zj) (ho:Nat.blt o l.length=true:=by rfl)
 (hw:Wt ops p ⟨none,.store t x y,ty,pos,af,gd⟩=some true:=by rfl):XO P G f Q ops.toArray k (⟨none,.store t x y,ty,pos,af,gd⟩::rest) p ds cs q:=
 .ef0 (Ef.st (Zqg hT hs) hx hy hv h1 hq ho) (by rintro _ _ ⟨rfl,rfl⟩;exact K) hw
theorem XO.stA {t':TypeId}(hT:T.ok P id)(hs:T.ag t=some sz)(K:XO P G f Q ops.toArray k rest p ds cs (pto b (.cells (Vo l o vs).toArray t' (0,0))::r))
 (hx:evp p x=some (.pointer (some ⟨b,o,none⟩)):=by rfl) (hy:evp p y=some (.agg vs.toArray):=by rfl)
 (hl:vs.length=sz:=by rfl) (h1:vs.all (·.oneCell')=true:=by rfl) (hq:Le q (pto b (.cells l.toArray t' (0,0))::r):=by exact Zj) (ho:Nat.ble (o+sz) l.length=true:=by rfl)
 (hw:Wt ops p ⟨none,.store t x y,ty,pos,af,gd⟩=some true:=by rfl):XO P G f Q ops.toArray k (⟨none,.store t x y,ty,pos,af,gd⟩::rest) p ds cs q:=
 .ef0 (Ef.stA (Ji hT hs).2 hx hy hl h1 hq ho) (by rintro _ _ ⟨rfl,rfl⟩;exact K) hw
variable {pk:PE}{L:Rds}{done:List Nat}
theorem XD.bx (i:Nat)(K: ∀ n',XD P G f Q ops k pk (cut ⟨some d,.box t x,ty,pos,af,gd⟩ L) n (i::done) ((d,.pointer (some ⟨n',0,none⟩))::p) ds cs (pto n' (.cells v.cells t (0,0))::q))
 (ho:ops[i]? =some ⟨some d,.box t x,ty,pos,af,gd⟩:=by rfl) (hx:evp p x=some v:=by rfl) (hh: ∀ n',HL (pto n' (.cells v.cells t (0,0))::q) (cut ⟨some d,.box t x,ty,pos,af,gd⟩ L):=by intro _;exact hlA)
 (h1:Uc ops done i=true:=by rfl) (hr:rdy ops done i=true:=by rfl) (hw:Wt ops p ⟨some d,.box t x,ty,pos,af,gd⟩=some true:=by rfl) (hd:Nat.blt d f.n=true:=by rfl):XD P G f Q ops k pk L (n+1) done p ds cs q:=
 .ef i ho (Ef.box hx) (by rintro _ _ ⟨n',rfl,rfl⟩;exact ⟨hh n',K n'⟩) h1 hr hw hd
theorem XD.st (i:Nat){t':TypeId}(hT:T.ok P id)(hs:T.s1 t=true)(K:XD P G f Q ops k pk (cut ⟨none,.store t x y,ty,pos,af,gd⟩ L) n (i::done) p ds cs (pto b (.cells (J6 l o v).toArray t' (0,0))::r))
 (ho:ops[i]? =some ⟨none,.store t x y,ty,pos,af,gd⟩:=by rfl) (hx:evp p x=some (.pointer (some ⟨b,o,none⟩)):=by rfl) (hy:evp p y=some v:=by rfl)
 (hv:v.cells= #[v]:=by rfl) (h1:v.oneCell'=true:=by rfl) (hq:Le q (pto b (.cells l.toArray t' (0,0))::r):=by exact Zj) (ho2:Nat.blt o l.length=true:=by rfl)
 (hh:HL (pto b (.cells (J6 l o v).toArray t' (0,0))::r) (cut ⟨none,.store t x y,ty,pos,af,gd⟩ L):=by exact hlA)
 (h2:Uc ops done i=true:=by rfl) (hr:rdy ops done i=true:=by rfl) (hw:Wt ops p ⟨none,.store t x y,ty,pos,af,gd⟩=some true:=by rfl):XD P G f Q ops k pk L (n+1) done p ds cs q:=
 .ef0 i ho (Ef.st (Zqg hT hs) hx hy hv h1 hq ho2) (by rintro _ _ ⟨rfl,rfl⟩;exact ⟨hh,K⟩) h2 hr hw
theorem XD.stA (i:Nat){t':TypeId}(hT:T.ok P id)(hs:T.ag t=some sz)(K:XD P G f Q ops k pk (cut ⟨none,.store t x y,ty,pos,af,gd⟩ L) n (i::done) p ds cs (pto b (.cells (Vo l o vs).toArray t' (0,0))::r))
 (ho:ops[i]? =some ⟨none,.store t x y,ty,pos,af,gd⟩:=by rfl) (hx:evp p x=some (.pointer (some ⟨b,o,none⟩)):=by rfl) (hy:evp p y=some (.agg vs.toArray):=by rfl)
 (hl:vs.length=sz:=by rfl) (h1:vs.all (·.oneCell')=true:=by rfl) (hq:Le q (pto b (.cells l.toArray t' (0,0))::r):=by exact Zj) (ho2:Nat.ble (o+sz) l.length=true:=by rfl)
 (hh:HL (pto b (.cells (Vo l o vs).toArray t' (0,0))::r) (cut ⟨none,.store t x y,ty,pos,af,gd⟩ L):=by exact hlA)
 (h2:Uc ops done i=true:=by rfl) (hr:rdy ops done i=true:=by rfl) (hw:Wt ops p ⟨none,.store t x y,ty,pos,af,gd⟩=some true:=by rfl):XD P G f Q ops k pk L (n+1) done p ds cs q:=
 .ef0 i ho (Ef.stA (Ji hT hs).2 hx hy hl h1 hq ho2) (by rintro _ _ ⟨rfl,rfl⟩;exact ⟨hh,K⟩) h2 hr hw
theorem kw {b c:Bool}(h:b=c:=by first|rfl|exact dA (by omega)|exact dQ (by omega)|(rw [eI];omega)|(rw [cZ];omega)|(rw [iA];omega)|(rw [jP];omega)|(simp;done)|(simp;omega)|(rw [eI];assumption)|(rw [cZ];assumption)):b=c:=h
section
variable {b:Bool}{todo:List Item}{l:List Oper}
theorem X.kt (s:Nat)(K:X P G f Q todo ((s,.bool true)::p) ds cs q)(h:lkp p s=some (.bool b):=by rfl)(e:b=true:=by exact kw):X P G f Q todo p ds cs q:= .know s _ h (aQ Value.bool e) K
abbrev jC:=@X.kt
theorem X.kf (s:Nat)(K:X P G f Q todo ((s,.bool false)::p) ds cs q)(h:lkp p s=some (.bool b):=by rfl)(e:b=false:=by exact kw):X P G f Q todo p ds cs q:= .know s _ h (aQ Value.bool e) K
abbrev gG:=@X.kf
theorem XO.kt (s:Nat)(K:XO P G f Q ops.toArray k l ((s,.bool true)::p) ds cs q)(h:lkp p s=some (.bool b):=by rfl)(e:b=true:=by exact kw):XO P G f Q ops.toArray k l p ds cs q:= .know s _ h (aQ Value.bool e) K
theorem XO.kf (s:Nat)(K:XO P G f Q ops.toArray k l ((s,.bool false)::p) ds cs q)(h:lkp p s=some (.bool b):=by rfl)(e:b=false:=by exact kw):XO P G f Q ops.toArray k l p ds cs q:= .know s _ h (aQ Value.bool e) K
theorem XD.kt (s:Nat)(K:XD P G f Q ops k pk L n done ((s,.bool true)::p) ds cs q)(h:lkp p s=some (.bool b):=by rfl)(e:b=true:=by exact kw):XD P G f Q ops k pk L n done p ds cs q:= .know s _ h (aQ Value.bool e) K
theorem XD.kf (s:Nat)(K:XD P G f Q ops k pk L n done ((s,.bool false)::p) ds cs q)(h:lkp p s=some (.bool b):=by rfl)(e:b=false:=by exact kw):XD P G f Q ops k pk L n done p ds cs q:= .know s _ h (aQ Value.bool e) K
end
end
end
end Wx
