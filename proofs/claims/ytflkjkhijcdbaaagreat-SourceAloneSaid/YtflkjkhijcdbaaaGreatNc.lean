/- Contracts. -/
import Derived.Test.YtflkjkhijcdbaaaGreatNb
import Derived.LaidEqlPtr
import Derived.Test.YtflkjkhijcdbaaaGreatRows
import Derived.KernelRfl
set_option maxHeartbeats 16000000
set_option linter.all false
namespace Wx
open Go Go.RowKit
section
variable {P:Program}{p:PE}{M M':Hp}{a:Option Addr}{vs:List Value}{c n ty sz:Nat}
abbrev Bs:=List UInt8
def bs (s:ByteArray):Bs:=s.data.toList
def ba (l:Bs):ByteArray:=⟨l.toArray⟩
def em:ByteArray:=⟨#[]⟩
theorem V3 (l:Bs):bs (ba l)=l:=rfl
theorem ba_bs (s:ByteArray):ba (bs s)=s:=by cases s;rfl
theorem Ko (s:ByteArray):(bs s).length=s.size:=rfl
theorem Sk (a b:ByteArray):(a.toList==b.toList)=(bs a==bs b):=by rw [ByteArray.toList_eq,ByteArray.toList_eq];rfl
def s8 (s:ByteArray)(n:Nat):Int:=(((bs s).getD n 0).toNat:Int)
section
variable {d:Option Tmp}{ty:TypeId}{pos:String}{af:Array Edge}{gd:Option (Nat×Bool)}{x y z:Operand}{t:TypeId}{kd kd':IntKind}{s:ByteArray}{i j:Int}
theorem Wb (hx:evp p x=some (.string s))(hy:evp p y=some (.int kd i))(ht:P.underlying t=some .string)(h0:0<=i)(h1:i.toNat<s.size):Pu P p ⟨d,.index t x y,ty,pos,af,gd⟩ (.int .u8 (s8 s i.toNat)):=fun g w b=>by
 have e:s[i.toNat]? =some s[i.toNat]:=getElem?_pos s i.toNat h1
 have f:s8 s i.toNat=(s[i.toNat].toNat:Int):=by
  have a:i.toNat<s.data.toList.length:=h1;unfold s8 bs;have c:s.data.toList[i.toNat]? =some s.data.toList[i.toNat]:=aD a;unfold List.getD;rw [c];rfl
 rw [f];simp [execOp,Zh b hx,Zh b hy,Instr.index,asIntOf,run_underlying ht,h0,e]
theorem Fe (hx:evp p x=some (.string s))(hy:evp p y=some (.int kd i))(hz:evp p z=some (.int kd' j))(ht:P.underlying t=some .string)(h0:0<=i)(h1:i<=j)(h2:j.toNat<=s.size):Pu P p ⟨d,.slice t x (some y) (some z) none,ty,pos,af,gd⟩ (.string (s.extract i.toNat j.toNat)):=fun e w a=>by
 have c:0<=j/\j<=(s.size:Int):=⟨by omega,by omega⟩;have b:0<=i/\i<=(j.toNat:Int):=⟨h0,by omega⟩;simp [execOp,Zh a hx,Zh a hy,Zh a hz,Instr.sliceAt,Instr.slice,Instr.sliceBounds,Instr.sliceBound,asIntOf,run_underlying ht,c,b];intro h;omega
end
theorem Iv (s:ByteArray)(i j:Nat):bs (s.extract i j)=((bs s).drop i).take (j - i):=by
 simp [bs,ByteArray.data_extract,Array.toList_extract,List.extract_eq_take_drop]
def Kn (q:List HP)(φ:Hp->Prop):Prop:= ∀ M h,(stars q).p M h->φ M
def lst (φ:Hp->Prop)(mono: ∀ {M M':Hp},Hle M M'->φ M->φ M'):HP:=⟨fun M _=>φ M,fun e _ p=>mono e p⟩
section
variable {G w:World}{f:Fc}{Q:Yn}{ops:List Oper}{k:List Item}{l:List Oper}{ds:List Deferred}{cs:List Frame}{q q0:List HP}{φ ψ:Hp->Prop}{mn: ∀ {M M':Hp},Hle M M'->φ M->φ M'}{A:HP}
theorem Kn.le (h:Kn q0 φ)(k:Le q q0:=by exact leA):Kn q φ:=fun M x p=>h M x (k M x p)
abbrev dW:=@Kn.le
theorem Kn.here:Kn (lst φ mn::q) φ:=fun _ _ ⟨_,_,_,_,_,p,_⟩=>p
abbrev fL:=@Kn.here
theorem Kn.there (h:Kn q φ):Kn (A::q) φ:=h.le (eD A q)
theorem Kn.imp (h:Kn q φ)(k: ∀ M,φ M->ψ M):Kn q ψ:=fun M x p=>k M (h M x p)
abbrev kA:=@Kn.imp
theorem Kn.and (h:Kn q φ)(k:Kn q ψ):Kn q fun M=>φ M/\ψ M:=fun M x p=>⟨h M x p,k M x p⟩
abbrev gL:=@Kn.and
theorem Kn.add (h:Kn q φ):Le q (lst φ mn::q):=fun M x p=>⟨fun _=>none,x,fun _=> .inl rfl,fun _ _ e=>by simp at e,.refl _,h M x p,p⟩
abbrev cZ:=@Kn.add
def SeesZ (M:Hp)(a:Option Addr)(vs:List Value):Prop:= ∀ i u,vs[i]? =some u-> ∃ b o cur ty,a=some ⟨b,o,none⟩/\M b=some (.cells cur ty (0,0))/\cur[o+i]? =some u
theorem SeesZ.mono (e:Hle M M')(h:SeesZ M a vs):SeesZ M' a vs:=fun i u hu=>
 let ⟨b,o,cur,ty,e1,e2,e3⟩:=h i u hu;⟨b,o,cur,ty,e1,e _ _ e2,e3⟩
theorem Kn.sees (h:Kn q fun M=>SeesZ M a vs):Sees q a vs:=by
 rintro G w ⟨_,M,x,x1,_,_,_,_,p⟩ i u d;obtain ⟨b,o,c,ty,j,g,f⟩:=h M x p i u d;have e:w.heap[b]? =some (.cells c ty (0,0)):=x1 _ _ g;exact ⟨b,o,j,by simp [World.cell?,e,f]⟩
abbrev fM:=@Kn.sees
theorem Kn.fact {χ:Prop}(h:Kn q φ)(k: ∀ M,φ M->χ)(s:St G w q):χ:=let ⟨_,M,x,_,_,_,_,_,p⟩:=s;k M (h M x p)
theorem knA {m: ∀ {M M':Hp},Hle M M'->φ M->φ M'}(h:Le q (lst φ m::q0):=by exact Zk):Kn q φ:=Kn.here.le h
def SlAt (M:Hp)(a:Option Addr)(c n:Nat)(vs:List Value):Prop:=n<=c/\c<=maxLen/\SeesZ M a vs
theorem SlAt.mono (e:Hle M M')(h:SlAt M a c n vs):SlAt M' a c n vs:=⟨h.1,h.2.1,h.2.2.mono e⟩
abbrev gM:=@SlAt.mono
theorem Zqp {h:Hp}(p:slP a c ty sz n vs h):SeesZ h a vs:=by
 obtain ⟨p1,p2⟩:=p;intro i u b;rcases p2 with ⟨rfl,rfl,rfl⟩|⟨g,d,j,m,l,k,f,e⟩
 . have:vs= []:=aK (by omega);subst this;simp at b
 refine ⟨g,0,d,ty,j,e,?_⟩;rw [<-f] at b;rw [eW] at b;split at b
 . rw [eC];simpa using b
 cases b
theorem slP.at (p:slP a c ty sz n vs M):SlAt M a c n vs:=by
 have l:=Zqp p;refine ⟨?_,?_,l⟩
 . rcases p.2 with ⟨_,rfl,h⟩|⟨g,b,k,e,d,j,i,f⟩
   . rw [h];exact aL _
   exact e
 rcases p.2 with ⟨_,rfl,h⟩|⟨g,b,k,e,d,j,i,f⟩
 . simp [maxLen]
 exact d
theorem SlAt.nil (M:Hp):SlAt M none 0 0 []:=⟨aL _,by simp [maxLen],fun i u h=>by simp at h⟩
theorem Kn.slM {a:Option Addr}{c ty sz n:Nat}{vs:List Value}:Kn (slM a c ty sz n vs::q) fun M=>SlAt M a c n vs:=fun _ _ ⟨_,_,_,_,_,p,_⟩=>slP.at p
theorem frz (hq:Le q (slH a c ty sz n vs::q0):=by exact Zk)(h:Kn (lst (fun M=>SlAt M a c n vs) gM::q0) φ)(s:St G w q):St G w (lst φ mn::q0):=by
 have e:=(s.le hq).slFreeze;have d:=e.le (cZ (mn:=gM) Kn.slM);have b:=d.le (aS (iE _ _ _) (eD _ _));exact (b.le (cZ h)).le (aS (iE _ _ _) (eD _ _))
theorem X.frz {todo:List Item}(h:Kn (lst (fun M=>SlAt M a c n vs) gM::q0) φ)(x:X P G f Q todo p ds cs (lst φ mn::q0))(hq:Le q (slH a c ty sz n vs::q0):=by exact Zk):X P G f Q todo p ds cs q:= .turn (fun w=>Wx.frz hq h) x
end
end
section
section
variable {α:Type}{P:Program}{G:World}{fr:Fc}{Q:Yn}{k:List Item}{p:PE}{ds:List Deferred}{cs:List Frame}{q q0 r:List HP}{ops lo:List Oper}{f:α->List Value}{sz ty:Nat}{a b:Option Addr}{c c':Nat}{l m:List α}
section
variable {d:Option Tmp}{ty':TypeId}{pos:String}{af:Array Edge}{gd:Option (Nat×Bool)}{x y:Operand}{t:TypeId}{z:Value}{bytes i:Nat}
theorem Pp (off:Nat): ∀ (us:List Value) (n:Nat) (pre post:List Value),pre.length=off+n->us.length<=post.length->(us.zipIdx n).foldl (fun cs (c,i)=>cs.setIfInBounds (off+i) c) (pre++post).toArray=(pre++us++post.drop us.length).toArray:=by
 intro us
 induction us with
 |nil=>intro n pre post _ h;simp
 |cons u r ih=>
  intro n pre post a h
  obtain ⟨x,post,rfl⟩: ∃ x l,post=x::l:=by cases post with
   |nil=>cases h
   |cons x l=>exact ⟨x,l,rfl⟩
  rw [List.zipIdx_cons,iN];have:=ih (n+1) (pre++ [u]) post (by simp;omega) (by simpa using h);simp only [aA,fS] at this;simpa [<-a] using this
theorem Ef.litR2 {u v:α}(f:α->List Value)(ht:P.underlying t=some (.slice ty))(hi:(P.info? ty).map (fun i=>(i.zero,i.size,i.bytes))=some (some z,sz,bytes))(h0:Nat.ble (2*sz) 16777216=true)(hn:Nat.blt 0 sz=true)
 (hf: ∀ x,(f x).length=sz) (hx:evp p x=some (.agg (f u).toArray)) (hy:evp p y=some (.agg (f v).toArray)):
 Ef P G p q ⟨d,.buildSlice t 2 [(0,x),(1,y)].toArray,ty',pos,af,gd⟩ fun w q'=> ∃ g,w= .slice (some ⟨g,0,none⟩) 2 2/\q'=Wx.rsH f sz ty (some ⟨g,0,none⟩) 2 [u,v]::q:=by
 have j: ∀ u,(Value.agg (f u).toArray).cells=(f u).toArray:=fun _=>rfl
 have b:Instr.fill (fun i=>some (i*sz,sz)) ((Array.range (2*sz)).map (z.cells[· % z.cells.size]!)) (([(0,x),(1,y)].map (·.1)).zip [Value.agg (f u).toArray,Value.agg (f v).toArray])=some (f u++f v).toArray:=by
  obtain ⟨A,k,n⟩: ∃ A:List Value,(Array.range (2*sz)).map (z.cells[· % z.cells.size]!)=A.toArray/\A.length=2*sz:=⟨((Array.range (2*sz)).map (z.cells[· % z.cells.size]!)).toList,Array.toArray_toList.symm,by rw [iH,Array.size_map,Array.size_range]⟩;have k1:=Pp (0*sz) (f u) 0 [] A (by simp) (by rw [hf];omega);have k2:=Pp (1*sz) (f v) 0 (f u) (A.drop (f u).length) (by rw [hf];omega) (by rw [bS,hf,hf];omega);rw [aT,aT] at k1;have e: ∀ (a:Nat) (us:List Value) (A:Array Value),(us.toArray.zipIdx).foldl (fun cs (c,i)=>cs.setIfInBounds (a+i) c) A=(us.zipIdx 0).foldl (fun cs (c,i)=>cs.setIfInBounds (a+i) c) A:=by intro a us A;simp
  have m:=(e (0*sz) (f u) A.toArray).trans k1;have l:=(e (1*sz) (f v) (f u++A.drop (f u).length).toArray).trans k2;rw [k];simp only [bP,eM,fO,List.zip_nil_left,List.zip_nil_right,Instr.fill,j];rw [if_neg (by simp [hf];omega),m,if_neg (by simp [hf];omega),l];congr 2;rw [cO (by rw [bS,hf,hf];omega),cA]
 have:=jM (P:=P) (G:=G) (p:=p) (q:=q) (d:=d) (ty:=ty') (pos:=pos) (af:=af) (gd:=gd) (ps:= [(0,x),(1,y)]) (len:=2) ht hi (us:= [.agg (f u).toArray,.agg (f v).toArray]) (by simp [evl,hx,hy]) (by simpa using h0) (by have h:=hn;simp [dY] at h|-;omega) b (by simp [hf];omega);simpa [Wx.rsH] using this
end
variable {φ:Hp->Prop}{mn: ∀ {M M':Hp},Hle M M'->φ M->φ M'}
theorem X.frzR {todo:List Item}(h:Kn (lst (fun M=>SlAt M a c l.length (l.flatMap f)) gM::q0) φ)(x:X P G fr Q todo p ds cs (lst φ mn::q0))(hq:Le q (rsH f sz ty a c l::q0):=by exact Zk):X P G fr Q todo p ds cs q:= .frz h x hq
end
end
section
end
section
variable {P:Program}{w:World}{ds:List Deferred}{cs:List Frame}{v:Value}{cst:Array Bool}
def Brn (w:World)(a:Addr):Prop:= ∃ cs ty,w.heap[a.block]? =some (.cells cs ty (0,0))
def U4 (e:Addr×Value×Nat):MapEntry:= { key:= .pointer (some e.1),val:=e.2.1,born:=e.2.2 }
section
variable {G:World}{f:Fc}{Q:Yn}{ops:List Oper}{k:List Item}{rest:List Oper}{p:PE}{q r:List HP}{d:Option Tmp}{ty:TypeId}{pos:String}{af:Array Edge}{gd:Option (Nat×Bool)}{x y z:Operand}{t t' kt et te:TypeId}{kd:IntKind}{u:Value}{b clock:Nat}{es:List (Addr×Value×Nat)}{a:Addr}{j:TypeInfo}
theorem Mp {c:Addr}(hp:P.underlying kt=some (.pointer te))(hte:P.info? te=some j)(hsz:j.size≠0)(hne:a≠c)(ha:Brn w a)(hb:Brn w c):
 (Op.equal kt (.pointer (some a)) (.pointer (some c))).run P w= .ok false w:=by
 obtain ⟨ca,e,ha⟩:=ha;obtain ⟨f,b,hb⟩:=hb
 have h: ∀ d:Nat,(Op.equalIn (d+1) kt (.pointer (some a)) (.pointer (some c))).run P w= .ok false w:=fun d=>by
  simp [Op.equalIn,run_underlying hp,Go.sizeOf,typeInfo,hte,hsz,run_sameAddr_other w hne ha hb]
 simp [Op.equal,Op.maxDepth,h 9999]
theorem Gj (hp:P.underlying kt=some (.pointer te))(hte:P.info? te=some j):(Op.equal kt (.pointer (some a)) (.pointer (some a))).run P w= .ok true w:=by
 have h: ∀ d:Nat,(Op.equalIn (d+1) kt (.pointer (some a)) (.pointer (some a))).run P w= .ok true w:=fun d=>by
  simp [Op.equalIn,run_underlying hp,Go.sizeOf,typeInfo,hte,run_sameAddr_same]
 simp [Op.equal,Op.maxDepth,h 9999]
theorem H2 {w:World}(hp:P.underlying kt=some (.pointer te))(hte:P.info? te=some j)(hsz:j.size≠0)(ha:Brn w a): ∀ (es:List (Addr×Value×Nat)) (i:Nat),(∀ e∈es,a≠e.1/\Brn w e.1)->
 (Instr.findAsking kt (.pointer (some a)) (es.map U4) i).run P w= .ok none w
 | [],i,_=>by simp [Instr.findAsking]
 |e::es,i,h=>by
  have b:=h e (bI ..);simp [Instr.findAsking,U4,Mp hp hte hsz b.1 ha b.2,H2 hp hte hsz ha es (i+1) (fun y c=>h y (bZ _ c)),Result.andThen]
theorem Rw {w:World}{v:Value}{n:Nat}(hp:P.underlying kt=some (.pointer te))(hte:P.info? te=some j)(hsz:j.size≠0)(ha:Brn w a): ∀ (es:List (Addr×Value×Nat)) (i:Nat),(∀ e∈es,a≠e.1/\Brn w e.1)->
 (Instr.findAsking kt (.pointer (some a)) ((es++ [(a,v,n)]).map U4) i).run P w= .ok (some (i+es.length,v)) w
 | [],i,_=>by simp [Instr.findAsking,U4,Gj hp hte,Result.andThen]
 |e::es,i,h=>by
  have c:=h e (bI ..);have b:=Rw (v:=v) (n:=n) hp hte hsz ha es (i+1) (fun y d=>h y (bZ _ d));rw [show i+1+es.length=i+(e::es).length by simp;omega] at b;simp only [cM,bP,Instr.findAsking,U4,Sem.run_bind,Mp hp hte hsz c.1 ha c.2,Result.andThen];simpa [U4] using b
theorem Gd {es:List MapEntry}{o:Option (Nat×Value)}(hp:P.underlying kt=some (.pointer te))(h:(Instr.findAsking kt (.pointer (some a)) es 0).run P w= .ok o w):(Instr.findKey kt (.pointer (some a)) es).run P w= .ok o w:=by
 unfold Instr.findKey
 cases es with
 |nil=>simp [run_underlying hp,Instr.findNow,Result.andThen];simpa [Instr.findAsking] using h
 |cons e es=>simp [run_underlying hp,Instr.findNow,Instr.sameNow,Result.andThen,h]
theorem Bn (hp:P.underlying kt=some (.pointer te))(e:Bool)(n:Nat):(Instr.checkKey e (n+1) kt (.pointer (some a))).run P w= .ok () w:=by
 unfold Instr.checkKey;simp [run_underlying hp,Result.andThen]
def KeysAt (q:List HP)(a:Addr)(es:List (Addr×Value×Nat)):Prop:= ∀ G w,St G w q->Brn w a/\ ∀ e∈es,a≠e.1/\Brn w e.1
theorem KeysAt.le {q':List HP}(h:KeysAt q' a es)(l:Le q q'):KeysAt q a es:=fun G w s=>h G w (s.le l)
theorem F3 (ht:P.underlying t=some (.map kt et))(hp:P.underlying kt=some (.pointer te))(hte:P.info? te=some j)(hsz:j.size≠0)(hx:evp p x=some (.map (some b)))(hy:evp p y=some (.pointer (some a)))(hz:evp p z=some v)(hK:KeysAt q a es)
 (hq:Le q (pto b (.map (es.map U4).toArray clock)::r)):Ef P G p q ⟨d,.mapUpdate t x y z,ty,pos,af,gd⟩ fun u q'=>u=undef/\q'=pto b (.map ((es++ [(a,v,clock)]).map U4).toArray (clock+1))::r:=
 fun k w f s=>by
  obtain ⟨e,c⟩:=hK G w s;have g:=s.le hq;have h:=g.has (fD _ _ _);have i:=Gd (P:=P) (w:=w) hp (H2 hp hte hsz e es 0 c);refine ⟨undef,_,_,.inr ⟨rfl,?_⟩,g.setObjM (o:= .map ((es.map U4).toArray.push { key:= .pointer (some a),val:=v,born:=clock }) (clock+1)),rfl,by simp [U4]⟩;simp [execOp,Zh f hx,Zh f hy,Zh f hz,Instr.mapUpdate,run_underlying ht,MapKept.run_getObj_map h,Bn hp,i,MapKept.run_setObj_map _ h,Result.andThen]
theorem Ek {zv:Value}(ht:P.underlying t=some (.map kt et))(hp:P.underlying kt=some (.pointer te))(hte:P.info? te=some j)(hsz:j.size≠0)(hx:evp p x=some (.map (some b)))(hy:evp p y=some (.pointer (some a)))(hK:KeysAt q a es)
 (hq:Le q (pto b (.map (es.map U4).toArray clock)::r)) (hz: ∀ w,(zeroValue et).run P w= .ok zv w):Rd P G p q ⟨d,.lookup t x y true,ty,pos,af,gd⟩ (.tuple [zv,.bool false].toArray):=
 fun i w f s=>by
  obtain ⟨e,c⟩:=hK G w s;have h:=(s.le hq).has (fD _ _ _);have g:=Gd (P:=P) (w:=w) hp (H2 hp hte hsz e es 0 c);simp [execOp,Zh f hx,Zh f hy,Instr.lookup,run_underlying ht,MapKept.run_getObj_map h,Bn hp,g,hz,Result.andThen]
def dfDel (ats:Array TypeId)(ty:TypeId)(cst:Array Bool)(b:Nat)(a:Addr):Deferred:= { target:= .builtin .delete ats ty cst,args:= #[.map (some b),.pointer (some a)] }
theorem XO.dfDel {ats:Array TypeId}{m y:Operand}(K: ∀ cst,XO P G f Q ops.toArray k rest (Uc p d undef) (Wx.dfDel ats ty cst b a::ds) cs q)(hm:evp p m=some (.map (some b)):=by rfl)(hy:evp p y=some (.pointer (some a)):=by rfl)(hro:f.round=none:=by rfl)(hd:dOk f.n d=true:=by rfl)
 (hw:Wt ops p ⟨d,.defer ⟨.builtin .delete, [m,y].toArray,ats⟩,ty,pos,af,gd⟩=some true:=by rfl):
 XO P G f Q ops.toArray k (⟨d,.defer ⟨.builtin .delete, [m,y].toArray,ats⟩,ty,pos,af,gd⟩::rest) p ds cs q:=by
 intro is h g w n l s
 cases is with
 |nil=>simp at h
 |cons i r=>
  obtain ⟨ho,u⟩:=fV h;have h1:=Zh l hm;have h2:=Zh l hy;have c: ∃ cst,∀ w,(resolve (evA g) ⟨.builtin .delete, [m,y].toArray,ats⟩ ty).run P w= .ok (Wx.dfDel ats ty cst b a) w:=⟨_,fun w=>by simp [resolve,h1,h2,Wx.dfDel];rfl⟩;obtain ⟨cst,c⟩:=c;obtain ⟨o',o,p',v,j,w',q',hQ,hn,ha,hs,z⟩:=K cst r u (Y8 g d undef) w (by rw [Yk];exact n) (l.put (n ▸ hd)) s;refine ⟨o',o,p',v,j,w',q',hQ,hn,ha,hs,z.head (.one (step_lone_go ?_))⟩;have e:=Ve f g (Wx.dfDel ats ty cst b a::ds) _ i r k undef ho;simp only at e;rw [<-e];have he:(f.fr g ds (.inRegion ops.toArray (i::r)::k)).eval=evA g:=funext fun x=>Jy ..
  simp only [Fc.fr,hro] at he;have t:=Yh l hw;simp only [stepG,stepG.exec,stepG.oper,Frame.oper?,Fc.fr,ho,t,he,gJ,jO,if_true,hro];simp [stepG.apply,execOp,c,Fc.fr]
theorem Cu {fr:Frame}{w':World}{bi:Builtin}{ats:Array TypeId}{tt:TypeId}{args:Array Value}(hm:fr.mode≠ .run)(hd:fr.defers= { target:= .builtin bi ats tt cst,args:=args } ::ds)
 (hi:(invoke (.builtin bi ats tt cst) args).run P w= .ok (.value v) w'):step P (lone fr cs w)= .next (lone { fr with defers:=ds } cs w'):=by
 refine step_lone_go ?_
 cases hmode:fr.mode with
 |run=>exact aR hmode hm
 |returning=>simp [stepG,unwind,callDeferred,hmode,hd,hi]
 |panicking chain=>simp [stepG,unwind,callDeferred,hmode,hd,hi]
theorem Lv.del {fn:FuncId}{R:U5}{F:List HP}{ats:Array TypeId}{ty:TypeId}{mt:TypeId}{n:Nat}(hat:ats[0]? =some mt)(ht:P.underlying mt=some (.map kt et))(hp:P.underlying kt=some (.pointer te))(hte:P.info? te=some j)(hsz:j.size≠0)(hK:KeysAt q a es)
 (hq:Le q (pto b (.map ((es++ [(a,v,n)]).map U4).toArray clock)::r)) (K:Lv P G fn R F ds .returning p (pto b (.map (es.map U4).toArray clock)::r)):Lv P G fn R F (Wx.dfDel ats ty cst b a::ds) .returning p q:=by
 intro tm w fr cs h1 h2 h3 h4 h5 ag s;obtain ⟨t,m⟩:=hK G w s;have x:=s.le hq;have z:=x.has (fD _ _ _);have y:=Gd (P:=P) (w:=w) hp (Rw (v:=v) (n:=n) hp hte hsz t es 0 m);rw [eC] at y;have s2:=x.setObjM (o:= .map (es.map U4).toArray clock)
 have d:(es.map U4++ [U4 (a,v,n)]).eraseIdx es.length=es.map U4:=by
  rw [jI (by simp)];simp
 have c:=y;rw [aM] at c
 have a0:(((es++ [(a,v,n)]).map U4).toArray).eraseIdxIfInBounds es.length=(es.map U4).toArray:=by
  apply Array.toList_inj.1;simp [Array.eraseIdxIfInBounds,jI]
 have hi:(invoke (.builtin .delete ats ty cst) #[.map (some b),.pointer (some a)]).run P w= .ok (.value (.tuple #[])) { w with heap:=w.heap.setIfInBounds b (.map (es.map U4).toArray clock) } :=by
  simp only [invoke,builtin,Builtin.delete_,hat];simp [run_underlying ht,MapKept.run_getObj_map z,Bn hp,show (Instr.findKey kt (.pointer (some a)) (es.map U4++ [U4 (a,v,n)])).run P w= .ok (some (es.length,v)) w from c,Result.andThen,MapKept.run_setObj_map _ z,d]
 have st:=Cu (P:=P) (cs:=cs) (w:=w) (fr:=fr) (ds:=ds) (by rw [h4];intro h;cases h) h3 hi;obtain ⟨e,f,u,q',hR,k,i,g,l,hl⟩:=K tm _ { fr with defers:=ds } cs h1 h2 rfl h4 h5 ag s2;exact ⟨e,f,u,q',hR,k,i,Steps.head st g,l,hl⟩
end
end
section
def IterR {τ:Type}(P:Program)(G:World)(gv:Value)(R:τ->List Value->HP->Prop)(xs:List τ)(pre:List HP):Prop:=
 ∀ (l:Nat) (J:Nat->HP) (Jf:HP->Prop),
  (∀ i (h:i<xs.length) vs A,R xs[i] vs A->CallV P G (.func (.yield l) #[] #[]) vs (J i::A::pre) (Ret fun v q=>(v= .bool true/\q=J (i+1)::pre)\/(v= .bool false/\ ∃ B,Jf B/\q=B::pre)))->
  CallV P G gv [.func (.yield l) #[] #[]] (J 0::pre) (Ret fun _ q=>q=J xs.length::pre\/ ∃ B,Jf B/\q=B::pre)
section
variable {P:Program}{G:World}{f:Fc}{Q:Yn}{k:List Item}{p:PE}{ds:List Deferred}{cs:List Frame}{q:List HP}
theorem X.rangeR {τ:Type}{g:Operand}{ps:List Tmp}{as bd:Code}{gv:Value}{R:τ->List Value->HP->Prop}{xs:List τ}{F:List HP}(pre:List HP)(Inv:Nat->List HP)(Jmp:Code->List HP->Prop)(hI:IterR P G gv R xs pre)(hg:evp p g=some gv)(hq:Le q (Inv 0++(pre++F)))
 (hxs: ∀ x vs A,R x vs A->vs.length=ps.length) (hps:ps.all (Nat.blt · f.n)=true) (hf:(P.funcs[f.fn]?).isSome=true) (hro:f.round=none)
 (round: ∀ i (h:i<xs.length) vs A,R xs[i] vs A-> ∀ l rec F₀ cs₀,X P G ⟨f.fn,f.n,.normal,some l⟩ (RQ cs₀ rec l (Inv (i+1)) Jmp (pre++F₀)) [.code as,.beginRound,.code bd] (L0 ps vs p) [] cs₀ (lp rec l .ready none::(Inv i++(A::(pre++F₀)))))
 (cont: ∀ r,X P G f Q k p (markD r::ds) cs (pto r (.deferred (some []))::(Inv xs.length++(pre++F))))
 (contJ: ∀ r c qs,Jmp c qs->X P G f Q (.code c::k) p (markD r::ds) cs (pto r (.deferred (some []))::(qs++(pre++F)))):
 X P G f Q (.code (.rangeFunc g ps.toArray as bd)::k) p ds cs q:=by
 refine X.rangeFunc (pre:=Inv 0++pre) (F:=F) (R':=fun a m=>(a=none/\m=Inv xs.length++pre)\/ ∃ c qs,a=some c/\Jmp c qs/\m=qs++pre) hro hg (by rw [aA];exact hq) (fun l rec d=> ?_) fun r a m h=> ?_
 . have u:=hI l (fun i=>stars (lp rec l .ready none::Inv i)) (fun A=> ∃ c qs,Jmp c qs/\A=stars (lp rec l .done (some c)::qs)) fun i h vs A hR=> ?_
   . refine jY (pre':=stars (lp rec l .ready none::Inv 0)::pre) ?_ u ?_
     . rw [show lp rec l .ready none::(Inv 0++pre)=(lp rec l .ready none::Inv 0)++pre from rfl];exact Z5 _ _
     rintro e t ⟨v,rfl,rfl|⟨A,⟨c,qs,b,rfl⟩,rfl⟩⟩
     . exact ⟨lp rec l .ready none::(Inv xs.length++pre),⟨v,rfl,.ready,none,_,by simp,rfl,.inl ⟨rfl,rfl⟩⟩,Z1 _ _⟩
     exact ⟨lp rec l .done (some c)::(qs++pre),⟨v,rfl,.done,some c,_,by simp,rfl,.inr ⟨c,qs,rfl,b,rfl⟩⟩,Z1 _ _⟩
   refine jY (pre':=lp rec l .ready none::(Inv i++(A::pre))) (Z1 (lp rec l .ready none::Inv i) (A::pre))
    (CallV.yield (R:=Ret fun v q=>(v= .bool true/\q=lp rec l .ready none::(Inv (i+1)++pre))\/(v= .bool false/\ ∃ c qs,Jmp c qs/\q=lp rec l .done (some c)::(qs++pre))) d hps (by simpa using hxs _ _ _ hR) hf (fun F₀ cs₀=> ?_)) ?_
   . intro tm w hn ha s;obtain ⟨o,j,p',c0,d0,w',t,⟨b0,a0,y⟩,h1,h2,h3,h4⟩:=round i h vs A hR l rec F₀ cs₀ tm w hn ha (by rw [aA] at s;exact s);refine ⟨o,j,p',c0,d0,w',t,⟨b0,a0,?_⟩,h1,h2,h3,h4⟩
     cases o with
     |fall=>exact ⟨Inv (i+1)++pre,⟨_,rfl,.inl ⟨rfl,rfl⟩⟩,by rw [aA];exact y⟩
     |jump c=>obtain ⟨qs,b,z⟩:=y;exact ⟨qs++pre,⟨_,rfl,.inr ⟨rfl,c,qs,b,rfl⟩⟩,by rw [aA];exact z⟩
     |panic ch=>exact y.elim
   rintro e t ⟨v,rfl,⟨rfl,rfl⟩|⟨rfl,c,qs,b,rfl⟩⟩
   . exact ⟨stars (lp rec l .ready none::Inv (i+1))::pre,⟨_,rfl,.inl ⟨rfl,rfl⟩⟩,Z5 (lp rec l .ready none::Inv (i+1)) pre⟩
   exact ⟨stars (lp rec l .done (some c)::qs)::pre,⟨_,rfl,.inr ⟨rfl,_,⟨c,qs,b,rfl⟩,rfl⟩⟩,Z5 (lp rec l .done (some c)::qs) pre⟩
 rcases h with ⟨rfl,rfl⟩|⟨c,qs,rfl,b,rfl⟩
 . have:=cont r;rw [<-aA] at this;exact this
 have:=contJ r c qs b;rw [<-aA] at this;exact this
end
end
section
variable {d:Option Tmp}{b sz:Nat}{us:List Value}
section
variable {P:Program}{G:World}{f:Fc}{Q:Yn}{ops:List Oper}{k:List Item}{rest:List Oper}{ds:List Deferred}{cs:List Frame}{p:PE}{q r:List HP}{ty:TypeId}{pos:String}{af:Array Edge}{gd:Option (Nat×Bool)}{x y:Operand}{t:TypeId}
theorem Rd.loadC {o:Nat}(hx:evp p x=some (.pointer (some ⟨b,o,none⟩)))(ht: ∀ w,(isAgg t).run P w= .ok true w)(hs: ∀ w,(Go.sizeOf t).run P w= .ok sz w)(hl:us.length=sz)
 (hc:CellsAt q b o us):Rd P G p q ⟨d,.load t x,ty,pos,af,gd⟩ (.agg us.toArray):=fun e w c s=>by
 have hc:=run_loadCells_list (P:=P) w ⟨b,o,none⟩ us (fun j u a=>by rw [Wp];exact hc j u a G w s);rw [hl] at hc;simp [execOp,Zh c hx,Instr.loadAt,Instr.sureAddr,loadVar,ht,hs,hc]
theorem XO.ldC {d:Tmp}{o:Nat}(ht: ∀ w,(isAgg t).run P w= .ok true w)(hs: ∀ w,(Go.sizeOf t).run P w= .ok sz w)(hl:us.length=sz)(hc:CellsAt q b o us)(K:XO P G f Q ops.toArray k rest ((d,.agg us.toArray)::p) ds cs q)
 (hx:evp p x=some (.pointer (some ⟨b,o,none⟩)):=by rfl) (hw:Wt ops p ⟨some d,.load t x,ty,pos,af,gd⟩=some true:=by rfl) (hd:Nat.blt d f.n=true:=by rfl):
 XO P G f Q ops.toArray k (⟨some d,.load t x,ty,pos,af,gd⟩::rest) p ds cs q:= .rd (Rd.loadC hx ht hs hl hc) K hw hd
theorem Rd.efE {o:Oper}{v:Value}(h:Rd P G p q o v)(E:List HP):Ef P G p (q++E) o fun v' q'=> ∃ q1,(v'=v/\q1=q)/\q'=q1++E:=fun tm w ag s=>
 ⟨v,w,q++E,.inl (h tm w ag (s.le (Y1 q E))),s,q,⟨rfl,rfl⟩,rfl⟩
theorem Lo {α:Type}{fl:α->List Value}{l:List α}{a:Option Addr}{c et:Nat}{u:α}{n g:Nat}{j:Int}(hx:evp p x=some (.pointer (some ⟨g,0+j.toNat*sz,none⟩)))(hy:evp p y=some (.agg (fl u).toArray))(hsz: ∀ w,(Go.sizeOf t).run P w= .ok sz w)(hf: ∀ x,(fl x).length=sz)
 (hj:j=n) (hn:n<l.length) (h1:(fl u).all (·.oneCell')=true) (hq:Le q (Wx.rsH fl sz et (some ⟨g,0,none⟩) c l::r)):
 Ef P G p q ⟨d,.store t x y,ty,pos,af,gd⟩ fun z q'=>z=undef/\q'=Wx.rsH fl sz et (some ⟨g,0,none⟩) c (l.set n u)::r:=by
 subst hj;rw [fB,eC] at hx;intro tm w ag s;obtain ⟨h0,h2|⟨g',b,q1,o,q3,m,q5,s'⟩⟩:=(s.le hq).slH_elim
 . obtain ⟨_,_,h3,_⟩:=h2;omega
 cases q1
 have h:n*sz+sz<=l.length*sz:=by
  have:=eJ sz (show n+1<=l.length from hn);rw [eH,Nat.one_mul] at this;omega
 have hc:n*sz+sz<=b.size:=by rw [m];exact cP h (eJ _ o)
 obtain ⟨z,v,q',hr,hs,rfl,rfl⟩:=Ef.storeA (G:=G) (d:=d) (ty:=ty) (pos:=pos) (af:=af) (gd:=gd) (q:=pto g (.cells b.toList.toArray et (0,0))::r) hx hy hsz (hf u) h1 (Le.here _ _) (by simpa [Nat.ble_eq] using hc) tm w ag (by simpa using s');refine ⟨_,v,_,hr,?_,rfl,rfl⟩;have hl:(l.set n u).length=l.length:=by simp
 unfold Wx.rsH;rw [hl];have k:b.toList.length=c*sz:=by simpa using m
 have f:(V5 b.toList (n*sz) (fl u)).length=b.toList.length:=by
  unfold V5;rw [aG,aG,bH,bS,hf];omega
 refine hs.le (Y6 o q3 (by rw [gR,f,k]) ?_ r);rw [List.toList_toArray]
 have e1:(l.set n u).flatMap fl=(l.flatMap fl).take (n*sz)++fl u++(l.flatMap fl).drop (n*sz+sz):=by
  rw [Ka hf,show n*sz+sz=(n+1)*sz by rw [eH];omega,Gu hf,jH,if_pos hn,iI,cH,aA]
 rw [e1,<-q5];unfold V5;rw [hf];have hA:(b.toList.take (n*sz)).length=n*sz:=by rw [bH];omega
 apply fW;intro i;simp only [eW,List.getElem?_append,aG,bH,fG,hf,hA];have hm:min (n*sz) (l.length*sz)=n*sz:=by omega
 have a0:min (n*sz) b.toList.length=n*sz:=by omega
 have e:min (n*sz) (min (l.length*sz) b.size)=n*sz:=by omega
 by_cases c1:i<n*sz
 . simp [c1,e,show i<l.length*sz by omega,show i<n*sz+sz by omega]
 by_cases c2:i<n*sz+sz
 . simp [c1,c2,e,show i<l.length*sz by omega]
 by_cases c3:i<l.length*sz
 . simp [c1,c2,c3,e,show n*sz+sz+(i - (n*sz+sz))=i by omega]
 simp [c1,c2,c3,e,show n*sz+sz+(i - (n*sz+sz))=i by omega]
end
end
section
section
variable {P:Program}{G:World}{f:Fc}{Q:Yn}{ops:List Oper}{k:List Item}{pk p:PE}{fl:List FlE}{L:Rds}{n:Nat}{done:List Nat}{ds:List Deferred}{cs:List Frame}{q r:List HP}{op:Op}{ty:TypeId}{pos:String}{af:Array Edge}{gd:Option (Nat×Bool)}{x y:Operand}{t:TypeId}
theorem D7 (j:Nat){R:Value->List HP->Prop}(hE: ∀ E,Ef P G p (q++E) ⟨none,op,ty,pos,af,gd⟩ fun v q'=> ∃ q1,R v q1/\q'=q1++E)
 (K: ∀ v q1,R v q1->HL q1 (cut ⟨none,op,ty,pos,af,gd⟩ L)/\XF P G f Q ops k pk fl (cut ⟨none,op,ty,pos,af,gd⟩ L) n (j::done) p ds cs q1)
 (ho:ops[j]? =some ⟨none,op,ty,pos,af,gd⟩:=by rfl) (hif:(fl.map (·.i)).contains j=false:=by rfl) (hr:rdy ops done j=true:=by rfl) (hw:Wt ops p ⟨none,op,ty,pos,af,gd⟩=some true:=by rfl):StepOk P G f Q ops k pk fl L n done p ds cs q j:=
 ⟨_,R,ho,hE,K,hif,hr,hw,rfl⟩
theorem Zz3 {α:Type}{fl:α->List Value}{l:List α}{c sz et:Nat}{u:α}{n g:Nat}{j:Int}{d:Option Tmp}(hx:evp p x=some (.pointer (some ⟨g,0+j.toNat*sz,none⟩)))(hy:evp p y=some (.agg (fl u).toArray))(hsz: ∀ w,(Go.sizeOf t).run P w= .ok sz w)(hf: ∀ x,(fl x).length=sz)
 (hj:j=n) (hn:n<l.length) (h1:(fl u).all (·.oneCell')=true) (hq:Le q (Wx.rsH fl sz et (some ⟨g,0,none⟩) c l::r)) (E:List HP):
 Ef P G p (q++E) ⟨d,.store t x y,ty,pos,af,gd⟩ fun z q'=> ∃ q1,(z=undef/\q1=Wx.rsH fl sz et (some ⟨g,0,none⟩) c (l.set n u)::r)/\q'=q1++E:=by
 intro h w m s;obtain ⟨v,f,q',e,b,k,i⟩:=Lo (P:=P) (G:=G) (d:=d) (ty:=ty) (pos:=pos) (af:=af) (gd:=gd) (a:=none) (r:=r++E) hx hy hsz hf hj hn h1 (hq.liftR E) h w m s;exact ⟨v,f,q',e,b,_,⟨k,rfl⟩,i⟩
theorem Kn.im {b:Nat}{o:Obj}:Kn (Wx.im b o::q) fun M=>M b=some o:=fun _ _ ⟨_,_,_,_,_,p,_⟩=>p
end
end
end Wx
set_option maxRecDepth 100000
namespace Go.Proofs.YtflkjkhijcdbaaaGreat
open Go Go.RowKit Wx Go.Proofs.Tryz
variable {G:World}{Q:Yn}{k k1 k2:List Item}{p p1 p2:PE}{c n o a0 t0 b0 o0 z0 a1 t1 b1 o1 z1 a2 n1 n2 m i s:Nat}{ds:List Deferred}{cs:List Frame}{q C F M q0:List HP}{ops o2 r2:List Oper}{l0 l1:List Value}{d1:Tmp}{ps1:String}{af1:Array Edge}{gd1:Option (Nat×Bool)}{x1:Operand}{A A1:Addr}{v1 v2 V:Value}{b nm:ByteArray}{fz f0 f1:Nat×Nat}{fd:Func}{c1:List Prop}{B:Value->List HP->Prop}{a:Option Addr}{M':Hp}{slot op:Int}{loc:Bool}
def tbl:Tr:=(.n none (.n none (.n (some (.mk (.int .i64) false 1 none)) (.n none (.n none (.n none (.n none .e (.n (some (.mk (.strct [(189,0)]) true 1 none)) .e .e)) (.n (some (.mk .ptr false 1 none)) .e .e)) (.n (some (.mk (.strct [(3,0),(3,1),(4,2),(39,3),(44,4),(4,5),(2,6),(2,7),(45,8)]) true 9 (some ([(0,1),(1,1),(2,1),(3,1),(4,1),(5,1),(6,1),(7,1),(8,1)], [.int .i64 0,.int .i64 0,.bool false,.int .i64 0,.slice none 0 0,.bool false,.int .i64 0,.int .i64 0,.slice none 0 0])))) .e .e)) (.n (some (.mk (.slc 2) false 1 none)) (.n (some (.mk (.int .i64) false 1 none)) (.n none .e (.n (some (.mk (.strct [(39,0)]) true 1 (some ([(0,1)], [.int .i64 0])))) .e .e)) .e) (.n (some (.mk (.strct [(9,0),(3,1),(53,2)]) true 3 (some ([(0,1),(1,1),(2,1)], [.string ⟨#[]⟩,.int .i64 0,.slice none 0 0])))) .e (.n (some (.mk (.int .i64) false 1 none)) .e .e)))) (.n none (.n none (.n none (.n (some (.mk (.slc 23) false 1 none)) .e .e) (.n (some (.mk (.int .i64) false 1 none)) .e (.n (some (.mk (.int .i64) false 1 none)) .e .e))) .e) (.n (some (.mk (.strct [(25,0),(25,1),(25,2),(25,3),(25,4)]) true 5 (some ([(0,1),(1,1),(2,1),(3,1),(4,1)], [.slice none 0 0,.slice none 0 0,.slice none 0 0,.slice none 0 0,.slice none 0 0])))) (.n none .e (.n (some (.mk (.strct [(3,0),(3,1)]) true 2 (some ([(0,1),(1,1)], [.int .i64 0,.int .i64 0])))) .e .e)) .e))) (.n (some (.mk (.int .u8) false 1 none)) (.n (some (.mk .str false 1 none)) (.n none (.n (some (.mk .ptr false 1 none)) .e (.n none (.n (some (.mk (.slc 229) false 1 none)) .e .e) .e)) (.n none (.n none (.n (some (.mk (.strct [(98,0),(3,8),(47,9)]) true 18 (some ([(0,8),(8,1),(9,9)], [.pointer none,.slice none 0 0,.pointer none,.slice none 0 0,.int .i64 0,.int .i64 0,.int .i64 0,.int .i64 0,.int .i64 0,.int .i64 0,.int .i64 0,.bool false,.int .i64 0,.slice none 0 0,.bool false,.int .i64 0,.int .i64 0,.slice none 0 0])))) .e .e) .e) (.n none (.n none (.n (some (.mk .other false 1 none)) .e .e) .e) (.n (some (.mk (.slc 53) false 1 none)) .e .e)))) (.n (some (.mk (.slc 9) false 1 none)) (.n (some (.mk (.strct [(38,0),(39,1),(3,2),(3,3)]) true 4 (some ([(0,1),(1,1),(2,1),(3,1)], [.int .i64 0,.int .i64 0,.int .i64 0,.int .i64 0])))) .e .e) (.n (some (.mk (.slc 5) false 1 none)) .e (.n (some (.mk (.int .i64) false 1 none)) .e .e)))) (.n none (.n (some (.mk (.int .i32) false 1 none)) (.n (some (.mk (.slc 47) false 1 none)) .e (.n (some (.mk (.strct [(3,0),(99,1),(23,2),(3,3),(22,4)]) true 5 (some ([(0,1),(1,1),(2,1),(3,1),(4,1)], [.int .i64 0,.int .i64 0,.slice none 0 0,.int .i64 0,.slice none 0 0])))) .e (.n (some (.mk (.strct [(227,0),(107,1),(9,3),(2,4),(53,5)]) true 6 (some ([(0,1),(1,2),(3,1),(4,1),(5,1)], [.int .i64 0,.int .i64 0,.int .i64 0,.string ⟨#[]⟩,.int .i64 0,.slice none 0 0])))) .e .e))) (.n (some (.mk (.slc 126) false 1 none)) (.n (some (.mk .other true 4 none)) .e .e) (.n none (.n none (.n (some (.mk (.strct []) true 0 (some ([], [])))) .e .e) .e) (.n (some (.mk (.strct [(9,0),(3,1),(3,2)]) true 3 (some ([(0,1),(1,1),(2,1)], [.string ⟨#[]⟩,.int .i64 0,.int .i64 0])))) .e .e)))) (.n (some (.mk (.strct [(23,0),(22,1),(3,2),(3,3),(22,4),(24,5),(3,6),(3,7),(27,8)]) true 13 (some ([(0,1),(1,1),(2,1),(3,1),(4,1),(5,1),(6,1),(7,1),(8,5)], [.slice none 0 0,.slice none 0 0,.int .i64 0,.int .i64 0,.slice none 0 0,.slice none 0 0,.int .i64 0,.int .i64 0,.slice none 0 0,.slice none 0 0,.slice none 0 0,.slice none 0 0,.slice none 0 0])))) (.n (some (.mk (.slc 50) false 1 none)) .e (.n none (.n (some (.mk (.slc 191) false 1 none)) .e .e) .e)) (.n none (.n none .e (.n (some (.mk (.slc 234) false 1 none)) .e .e)) (.n none (.n (some (.mk (.strct [(22,0)]) true 1 none)) .e .e) .e)))))) (.n (some (.mk (.int .i64) false 1 none)) (.n (some (.mk .bool false 1 none)) (.n none (.n none (.n none .e (.n (some (.mk (.slc 116) false 1 none)) .e .e)) (.n (some (.mk (.int .i64) false 1 none)) (.n none .e (.n (some (.mk (.strct [(2,0),(3,1),(44,2)]) true 3 (some ([(0,1),(1,1),(2,1)], [.int .i64 0,.int .i64 0,.slice none 0 0])))) .e .e)) (.n none (.n (some (.mk (.strct [(4,0),(22,1),(173,2),(174,3)]) true 4 (some ([(0,1),(1,1),(2,1),(3,1)], [.bool false,.slice none 0 0,.slice none 0 0,.slice none 0 0])))) .e .e) (.n (some (.mk (.strct [(29,0),(238,13),(2,14),(3,15),(3,16),(107,17),(3,19)]) true 20 (some ([(0,13),(13,1),(14,1),(15,1),(16,1),(17,2),(19,1)], [.slice none 0 0,.slice none 0 0,.int .i64 0,.int .i64 0,.slice none 0 0,.slice none 0 0,.int .i64 0,.int .i64 0,.slice none 0 0,.slice none 0 0,.slice none 0 0,.slice none 0 0,.slice none 0 0,.slice none 0 0,.int .i64 0,.int .i64 0,.int .i64 0,.int .i64 0,.int .i64 0,.int .i64 0])))) .e .e)))) (.n (some (.mk (.slc 55) false 1 none)) (.n none .e (.n none (.n (some (.mk (.strct [(94,0),(3,1),(3,2)]) true 3 (some ([(0,1),(1,1),(2,1)], [.pointer none,.int .i64 0,.int .i64 0])))) .e .e) (.n (some (.mk (.int .i64) false 1 none)) .e .e))) (.n none .e (.n (some (.mk (.int .i64) false 1 none)) .e .e)))) (.n none (.n none (.n none (.n (some (.mk (.slc 142) false 1 none)) .e .e) .e) (.n none .e (.n (some (.mk (.strct [(3,0),(99,1),(23,2),(114,3),(22,4)]) true 5 (some ([(0,1),(1,1),(2,1),(3,1),(4,1)], [.int .i64 0,.int .i64 0,.slice none 0 0,.slice none 0 0,.slice none 0 0])))) (.n (some (.mk (.strct [(178,0),(3,1),(3,2)]) true 3 (some ([(0,1),(1,1),(2,1)], [.slice none 0 0,.int .i64 0,.int .i64 0])))) (.n (some (.mk (.strct [(305,0),(306,1)]) true 2 (some ([(0,1),(1,1)], [.map none,.map none])))) .e .e) .e) .e))) (.n none (.n (some (.mk (.slc 140) false 1 none)) (.n none (.n (some (.mk (.strct [(3,0),(4,1),(2,2)]) true 3 (some ([(0,1),(1,1),(2,1)], [.int .i64 0,.bool false,.int .i64 0])))) .e .e) .e) .e) (.n none .e (.n (some (.mk (.strct [(120,0),(2,1),(9,2),(3,3),(4,4),(121,5),(122,6)]) true 7 (some ([(0,1),(1,1),(2,1),(3,1),(4,1),(5,1),(6,1)], [.int .i64 0,.int .i64 0,.string ⟨#[]⟩,.int .i64 0,.bool false,.int .i64 0,.slice none 0 0])))) .e .e))))) (.n none (.n none (.n none (.n (some (.mk (.int .i64) false 1 none)) (.n (some (.mk (.slc 22) false 1 none)) .e .e) (.n (some (.mk (.strct [(94,0),(23,1),(95,2),(96,3),(41,4)]) true 8 (some ([(0,1),(1,1),(2,1),(3,1),(4,4)], [.pointer none,.slice none 0 0,.pointer none,.slice none 0 0,.int .i64 0,.int .i64 0,.int .i64 0,.int .i64 0])))) .e (.n (some (.mk (.strct [(221,0),(3,1),(4,2)]) true 3 (some ([(0,1),(1,1),(2,1)], [.slice none 0 0,.int .i64 0,.bool false])))) .e .e))) (.n (some (.mk (.strct [(48,0),(3,1),(3,2)]) true 3 (some ([(0,1),(1,1),(2,1)], [.int .i64 0,.int .i64 0,.int .i64 0])))) (.n none (.n (some (.mk .ptr false 1 none)) .e .e) .e) (.n (some (.mk (.slc 146) false 1 none)) (.n (some (.mk (.strct [(23,0)]) true 1 none)) (.n (some (.mk .other false 1 none)) .e .e) .e) .e))) (.n none (.n none .e (.n none .e (.n (some (.mk (.strct [(232,0),(9,1),(2,2),(107,3)]) true 5 (some ([(0,1),(1,1),(2,1),(3,2)], [.int .i64 0,.string ⟨#[]⟩,.int .i64 0,.int .i64 0,.int .i64 0])))) .e .e))) (.n (some (.mk .other true 2 none)) .e (.n (some (.mk (.slc 124) false 1 none)) .e .e)))) (.n none (.n (some (.mk (.slc 3) false 1 none)) (.n (some (.mk (.int .i64) false 1 none)) (.n (some (.mk (.strct [(29,0),(23,13),(22,14),(66,15),(67,16),(22,17),(68,18),(41,19)]) true 23 (some ([(0,13),(13,1),(14,1),(15,1),(16,1),(17,1),(18,1),(19,4)], [.slice none 0 0,.slice none 0 0,.int .i64 0,.int .i64 0,.slice none 0 0,.slice none 0 0,.int .i64 0,.int .i64 0,.slice none 0 0,.slice none 0 0,.slice none 0 0,.slice none 0 0,.slice none 0 0,.slice none 0 0,.slice none 0 0,.slice none 0 0,.slice none 0 0,.slice none 0 0,.slice none 0 0,.int .i64 0,.int .i64 0,.int .i64 0,.int .i64 0])))) .e .e) .e) .e) (.n none (.n none (.n none (.n (some (.mk (.strct [(3,0),(3,1),(23,2),(53,3),(22,4)]) true 5 (some ([(0,1),(1,1),(2,1),(3,1),(4,1)], [.int .i64 0,.int .i64 0,.slice none 0 0,.slice none 0 0,.slice none 0 0])))) .e .e) .e) (.n none (.n (some (.mk (.slc 180) false 1 none)) .e .e) (.n (some (.mk (.slc 245) false 1 none)) .e .e))) (.n none (.n (some (.mk .ptr false 1 none)) .e .e) (.n (some (.mk (.strct [(119,0),(107,1),(9,3),(9,4),(124,5),(124,12),(53,19),(53,20),(3,21),(3,22),(3,23),(4,24)]) true 25 (some ([(0,1),(1,2),(3,1),(4,1),(5,7),(12,7),(19,1),(20,1),(21,1),(22,1),(23,1),(24,1)], [.int .i64 0,.int .i64 0,.int .i64 0,.string ⟨#[]⟩,.string ⟨#[]⟩,.int .i64 0,.int .i64 0,.string ⟨#[]⟩,.int .i64 0,.bool false,.int .i64 0,.slice none 0 0,.int .i64 0,.int .i64 0,.string ⟨#[]⟩,.int .i64 0,.bool false,.int .i64 0,.slice none 0 0,.slice none 0 0,.slice none 0 0,.int .i64 0,.int .i64 0,.int .i64 0,.bool false])))) .e .e)))))))
theorem Vi:tbl.ok prog id:=⟨trivial,⟨trivial,⟨⟨underlying3,isAgg3,sizeOf3,trivial⟩,⟨trivial,⟨trivial,⟨trivial,⟨trivial,trivial,⟨⟨⟨_,underlying191,rfl⟩,isAgg191,sizeOf191,trivial⟩,trivial,trivial⟩⟩,⟨⟨⟨_,underlying95⟩,isAgg95,sizeOf95,trivial⟩,trivial,trivial⟩⟩,⟨⟨⟨_,underlying47,rfl⟩,isAgg47,sizeOf47,⟨zeroValue47,_,underlying47,by kernel_rfl⟩⟩,trivial,trivial⟩⟩,⟨⟨underlying23,isAgg23,sizeOf23,trivial⟩,⟨⟨underlying39,isAgg39,sizeOf39,trivial⟩,⟨trivial,trivial,⟨⟨⟨_,underlying199,rfl⟩,isAgg199,sizeOf199,⟨zeroValue199,_,underlying199,by kernel_rfl⟩⟩,trivial,trivial⟩⟩,trivial⟩,⟨⟨⟨_,underlying55,rfl⟩,isAgg55,sizeOf55,⟨zeroValue55,_,underlying55,by kernel_rfl⟩⟩,trivial,⟨⟨underlying119,isAgg119,sizeOf119,trivial⟩,trivial,trivial⟩⟩⟩⟩,⟨trivial,⟨trivial,⟨trivial,⟨⟨underlying67,isAgg67,sizeOf67,trivial⟩,trivial,trivial⟩,⟨⟨underlying99,isAgg99,sizeOf99,trivial⟩,trivial,⟨⟨underlying227,isAgg227,sizeOf227,trivial⟩,trivial,trivial⟩⟩⟩,trivial⟩,⟨⟨⟨_,underlying27,rfl⟩,isAgg27,sizeOf27,⟨zeroValue27,_,underlying27,by kernel_rfl⟩⟩,⟨trivial,trivial,⟨⟨⟨_,underlying107,rfl⟩,isAgg107,sizeOf107,⟨zeroValue107,_,underlying107,by kernel_rfl⟩⟩,trivial,trivial⟩⟩,trivial⟩⟩⟩,⟨⟨underlying5,isAgg5,sizeOf5,trivial⟩,⟨⟨underlying9,isAgg9,sizeOf9,trivial⟩,⟨trivial,⟨⟨⟨_,underlying33⟩,isAgg33,sizeOf33,trivial⟩,trivial,⟨trivial,⟨⟨underlying161,isAgg161,sizeOf161,trivial⟩,trivial,trivial⟩,trivial⟩⟩,⟨trivial,⟨trivial,⟨⟨⟨_,underlying145,rfl⟩,isAgg145,sizeOf145,⟨zeroValue145,_,underlying145,by kernel_rfl⟩⟩,trivial,trivial⟩,trivial⟩,⟨trivial,⟨trivial,⟨⟨⟨_,underlying305,rfl⟩,isAgg305,sizeOf305,trivial⟩,trivial,trivial⟩,trivial⟩,⟨⟨underlying241,isAgg241,sizeOf241,trivial⟩,trivial,trivial⟩⟩⟩⟩,⟨⟨underlying25,isAgg25,sizeOf25,trivial⟩,⟨⟨⟨_,underlying41,rfl⟩,isAgg41,sizeOf41,⟨zeroValue41,_,underlying41,by kernel_rfl⟩⟩,trivial,trivial⟩,⟨⟨underlying57,isAgg57,sizeOf57,trivial⟩,trivial,⟨⟨underlying121,isAgg121,sizeOf121,trivial⟩,trivial,trivial⟩⟩⟩⟩,⟨trivial,⟨⟨underlying21,isAgg21,sizeOf21,trivial⟩,⟨⟨underlying37,isAgg37,sizeOf37,trivial⟩,trivial,⟨⟨⟨_,underlying101,rfl⟩,isAgg101,sizeOf101,⟨zeroValue101,_,underlying101,by kernel_rfl⟩⟩,trivial,⟨⟨⟨_,underlying229,rfl⟩,isAgg229,sizeOf229,⟨zeroValue229,_,underlying229,by kernel_rfl⟩⟩,trivial,trivial⟩⟩⟩,⟨⟨underlying53,isAgg53,sizeOf53,trivial⟩,⟨⟨⟨_,underlying85,rfl⟩,isAgg85,sizeOf85,trivial⟩,trivial,trivial⟩,⟨trivial,⟨trivial,⟨⟨⟨_,underlying309,rfl⟩,isAgg309,sizeOf309,⟨zeroValue309,_,underlying309,by kernel_rfl⟩⟩,trivial,trivial⟩,trivial⟩,⟨⟨⟨_,underlying245,rfl⟩,isAgg245,sizeOf245,⟨zeroValue245,_,underlying245,by kernel_rfl⟩⟩,trivial,trivial⟩⟩⟩⟩,⟨⟨⟨_,underlying29,rfl⟩,isAgg29,sizeOf29,⟨zeroValue29,_,underlying29,by kernel_rfl⟩⟩,⟨⟨underlying45,isAgg45,sizeOf45,trivial⟩,trivial,⟨trivial,⟨⟨underlying173,isAgg173,sizeOf173,trivial⟩,trivial,trivial⟩,trivial⟩⟩,⟨trivial,⟨trivial,trivial,⟨⟨underlying221,isAgg221,sizeOf221,trivial⟩,trivial,trivial⟩⟩,⟨trivial,⟨⟨⟨_,underlying189,rfl⟩,isAgg189,sizeOf189,trivial⟩,trivial,trivial⟩,trivial⟩⟩⟩⟩⟩⟩,⟨⟨underlying2,isAgg2,sizeOf2,trivial⟩,⟨⟨underlying4,isAgg4,sizeOf4,trivial⟩,⟨trivial,⟨trivial,⟨trivial,trivial,⟨⟨underlying96,isAgg96,sizeOf96,trivial⟩,trivial,trivial⟩⟩,⟨⟨underlying48,isAgg48,sizeOf48,trivial⟩,⟨trivial,trivial,⟨⟨⟨_,underlying208,rfl⟩,isAgg208,sizeOf208,⟨zeroValue208,_,underlying208,by kernel_rfl⟩⟩,trivial,trivial⟩⟩,⟨trivial,⟨⟨⟨_,underlying176,rfl⟩,isAgg176,sizeOf176,⟨zeroValue176,_,underlying176,by kernel_rfl⟩⟩,trivial,trivial⟩,⟨⟨⟨_,underlying240,rfl⟩,isAgg240,sizeOf240,⟨zeroValue240,_,underlying240,by kernel_rfl⟩⟩,trivial,trivial⟩⟩⟩⟩,⟨⟨underlying24,isAgg24,sizeOf24,trivial⟩,⟨trivial,trivial,⟨trivial,⟨⟨⟨_,underlying168,rfl⟩,isAgg168,sizeOf168,⟨zeroValue168,_,underlying168,by kernel_rfl⟩⟩,trivial,trivial⟩,⟨⟨underlying232,isAgg232,sizeOf232,trivial⟩,trivial,trivial⟩⟩⟩,⟨trivial,trivial,⟨⟨underlying120,isAgg120,sizeOf120,trivial⟩,trivial,trivial⟩⟩⟩⟩,⟨trivial,⟨trivial,⟨trivial,⟨⟨underlying68,isAgg68,sizeOf68,trivial⟩,trivial,trivial⟩,trivial⟩,⟨trivial,trivial,⟨⟨⟨_,underlying116,rfl⟩,isAgg116,sizeOf116,⟨zeroValue116,_,underlying116,by kernel_rfl⟩⟩,⟨⟨⟨_,underlying180,rfl⟩,isAgg180,sizeOf180,⟨zeroValue180,_,underlying180,by kernel_rfl⟩⟩,⟨⟨⟨_,underlying308,rfl⟩,isAgg308,sizeOf308,⟨zeroValue308,_,underlying308,by kernel_rfl⟩⟩,trivial,trivial⟩,trivial⟩,trivial⟩⟩⟩,⟨trivial,⟨⟨underlying44,isAgg44,sizeOf44,trivial⟩,⟨trivial,⟨⟨⟨_,underlying140,rfl⟩,isAgg140,sizeOf140,⟨zeroValue140,_,underlying140,by kernel_rfl⟩⟩,trivial,trivial⟩,trivial⟩,trivial⟩,⟨trivial,trivial,⟨⟨⟨_,underlying124,rfl⟩,isAgg124,sizeOf124,⟨zeroValue124,_,underlying124,by kernel_rfl⟩⟩,trivial,trivial⟩⟩⟩⟩⟩,⟨trivial,⟨trivial,⟨trivial,⟨⟨underlying34,isAgg34,sizeOf34,trivial⟩,⟨⟨underlying66,isAgg66,sizeOf66,trivial⟩,trivial,trivial⟩,⟨⟨⟨_,underlying98,rfl⟩,isAgg98,sizeOf98,⟨zeroValue98,_,underlying98,by kernel_rfl⟩⟩,trivial,⟨⟨⟨_,underlying226,rfl⟩,isAgg226,sizeOf226,⟨zeroValue226,_,underlying226,by kernel_rfl⟩⟩,trivial,trivial⟩⟩⟩,⟨⟨⟨_,underlying50,rfl⟩,isAgg50,sizeOf50,⟨zeroValue50,_,underlying50,by kernel_rfl⟩⟩,⟨trivial,⟨⟨⟨_,underlying146⟩,isAgg146,sizeOf146,trivial⟩,trivial,trivial⟩,trivial⟩,⟨⟨underlying114,isAgg114,sizeOf114,trivial⟩,⟨⟨⟨_,underlying178,rfl⟩,isAgg178,sizeOf178,trivial⟩,⟨⟨⟨_,underlying306,rfl⟩,isAgg306,sizeOf306,trivial⟩,trivial,trivial⟩,trivial⟩,trivial⟩⟩⟩,⟨trivial,⟨trivial,trivial,⟨trivial,trivial,⟨⟨⟨_,underlying234,rfl⟩,isAgg234,sizeOf234,⟨zeroValue234,_,underlying234,by kernel_rfl⟩⟩,trivial,trivial⟩⟩⟩,⟨⟨⟨_,underlying58,rfl⟩,isAgg58,sizeOf58,trivial⟩,trivial,⟨⟨underlying122,isAgg122,sizeOf122,trivial⟩,trivial,trivial⟩⟩⟩⟩,⟨trivial,⟨⟨underlying22,isAgg22,sizeOf22,trivial⟩,⟨⟨underlying38,isAgg38,sizeOf38,trivial⟩,⟨⟨⟨_,underlying70,rfl⟩,isAgg70,sizeOf70,⟨zeroValue70,_,underlying70,by kernel_rfl⟩⟩,trivial,trivial⟩,trivial⟩,trivial⟩,⟨trivial,⟨trivial,⟨trivial,⟨⟨⟨_,underlying142,rfl⟩,isAgg142,sizeOf142,⟨zeroValue142,_,underlying142,by kernel_rfl⟩⟩,trivial,trivial⟩,trivial⟩,⟨trivial,⟨⟨underlying174,isAgg174,sizeOf174,trivial⟩,trivial,trivial⟩,⟨⟨underlying238,isAgg238,sizeOf238,trivial⟩,trivial,trivial⟩⟩⟩,⟨trivial,⟨⟨⟨_,underlying94⟩,isAgg94,sizeOf94,trivial⟩,trivial,trivial⟩,⟨⟨⟨_,underlying126,rfl⟩,isAgg126,sizeOf126,⟨zeroValue126,_,underlying126,by kernel_rfl⟩⟩,trivial,trivial⟩⟩⟩⟩⟩⟩⟩
abbrev zz0:List Value:=[.int .i64 0,.int .i64 0,.int .i64 0,.int .i64 0]
abbrev zz1:List Value:=[.int .i64 0,.int .i64 0,.int .i64 0,.string ⟨#[]⟩,.int .i64 0,.slice none 0 0]
abbrev zz2:List Value:=[.int .i64 0,.int .i64 0,.int .i64 0,.string ⟨#[]⟩,.string ⟨#[]⟩,.int .i64 0,.int .i64 0,.string ⟨#[]⟩,.int .i64 0,.bool false,.int .i64 0,.slice none 0 0,.int .i64 0,.int .i64 0,.string ⟨#[]⟩,.int .i64 0,.bool false,.int .i64 0,.slice none 0 0,.slice none 0 0,.slice none 0 0,.int .i64 0,.int .i64 0,.int .i64 0,.bool false]
abbrev zz3:List Value:=[.int .i64 0,.int .i64 0,.slice none 0 0,.slice none 0 0,.slice none 0 0]
abbrev zz4:List Value:=[.int .i64 0,.int .i64 0,.string ⟨#[]⟩,.int .i64 0,.bool false,.int .i64 0,.slice none 0 0]
abbrev zz5:List Value:=[.int .i64 0,.int .i64 0]
abbrev zz6:List Value:=[.slice none 0 0,.slice none 0 0,.int .i64 0,.int .i64 0,.slice none 0 0,.slice none 0 0,.int .i64 0,.int .i64 0,.slice none 0 0,.slice none 0 0,.slice none 0 0,.slice none 0 0,.slice none 0 0,.slice none 0 0,.int .i64 0,.int .i64 0,.int .i64 0,.int .i64 0,.int .i64 0,.int .i64 0]
abbrev zz7:List Value:=[.slice none 0 0,.slice none 0 0,.int .i64 0,.int .i64 0,.slice none 0 0,.slice none 0 0,.int .i64 0,.int .i64 0,.slice none 0 0,.slice none 0 0,.slice none 0 0,.slice none 0 0,.slice none 0 0]
abbrev pt (n:Nat):Value:= .pointer (some ⟨n,0,none⟩)
section
variable {f:Fc}{k':List Item}{p':PE}{c:List Prop}{l ops' l':List Oper}{pk:PE}{L:Rds}{n':Nat}{done done':List Nat}
theorem xx (m:Nat)(K:X prog G f Q k' p' ds cs q)(h:stn tbl f.n m .code k p []=some ⟨.code,k',p',c⟩:=by exact rfl)(hc:U6 c:=by repeat (first|exact trivial|refine Wv (by first|omega|(simp;done)|(simp;omega)) ?_)):X prog G f Q k p ds cs q:=stXX Vi m h hc K
theorem xo (m:Nat)(K:XO prog G f Q ops'.toArray k' l' p' ds cs q)(h:stn tbl f.n m .code k p []=some ⟨.ops ops' l',k',p',c⟩:=by exact rfl)(hc:U6 c:=by repeat (first|exact trivial|refine Wv (by first|omega|(simp;done)|(simp;omega)) ?_)):X prog G f Q k p ds cs q:=stXO Vi m h hc K
theorem ox (m:Nat)(K:X prog G f Q k' p' ds cs q)(h:stn tbl f.n m (.ops ops l) k p []=some ⟨.code,k',p',c⟩:=by exact rfl)(hc:U6 c:=by repeat (first|exact trivial|refine Wv (by first|omega|(simp;done)|(simp;omega)) ?_)):XO prog G f Q ops.toArray k l p ds cs q:=stOX Vi m h hc K
theorem oo (m:Nat)(K:XO prog G f Q ops'.toArray k' l' p' ds cs q)(h:stn tbl f.n m (.ops ops l) k p []=some ⟨.ops ops' l',k',p',c⟩:=by exact rfl)(hc:U6 c:=by repeat (first|exact trivial|refine Wv (by first|omega|(simp;done)|(simp;omega)) ?_)):XO prog G f Q ops.toArray k l p ds cs q:=stOO Vi m h hc K
theorem dd (is:List Nat)(K:XD prog G f Q ops k pk L n' done' p' ds cs q)(h:sdn tbl f.n ops is n done p []=some ⟨n',done',p',c⟩:=by exact rfl)(hc:U6 c:=by repeat (first|exact trivial|refine Wv (by first|omega|(simp;done)|(simp;omega)) ?_)):XD prog G f Q ops k pk L n done p ds cs q:=stDD Vi is h hc K
variable {rest:List Oper}{d:Tmp}{t ty:TypeId}{pos:String}{af:Array Edge}{gd:Option (Nat×Bool)}{x y:Operand}{v:Value}{b sz:Nat}{l vs:List Value}{t':TypeId}{r:List HP}
theorem ld (K:XO prog G f Q ops.toArray k rest ((d,v)::p) ds cs q)(hx:evp p x=some (.pointer (some A)):=by rfl)(hc:Cl q A v:=by exact clA)
 (hw:Wt ops p ⟨some d,.load t x,ty,pos,af,gd⟩=some true:=by rfl) (hd:Nat.blt d f.n=true:=by rfl) (ht:tbl.lf t=true:=by rfl):
 XO prog G f Q ops.toArray k (⟨some d,.load t x,ty,pos,af,gd⟩::rest) p ds cs q:= .ld (P9 Vi ht) K hx hc hw hd
theorem ldA (K:XO prog G f Q ops.toArray k rest ((d,.agg (Wx.sub l o sz).toArray)::p) ds cs q)(ht:tbl.ag t=some sz:=by rfl)(hx:evp p x=some (.pointer (some ⟨b,o,none⟩)):=by rfl)(hh:Has q b (.cells l.toArray t' fz):=by exact Qu)(hv:Nat.ble (o+sz) l.length=true:=by rfl)
 (hw:Wt ops p ⟨some d,.load t x,ty,pos,af,gd⟩=some true:=by rfl) (hd:Nat.blt d f.n=true:=by rfl):
 XO prog G f Q ops.toArray k (⟨some d,.load t x,ty,pos,af,gd⟩::rest) p ds cs q:= .ldA (Qt Vi ht).1 (Qt Vi ht).2 K hx hh hv hw hd
theorem ldD (i:Nat)(K:XD prog G f Q ops k pk ((i,b,o,v)::L) n (i::done) ((d,v)::p) ds cs q)
 (ho:ops[i]? =some ⟨some d,.load t x,ty,pos,af,gd⟩:=by rfl) (hx:evp p x=some (.pointer (some ⟨b,o,none⟩)):=by rfl) (hc:Cl q ⟨b,o,none⟩ v:=by exact clA)
 (hr:rdy ops done i=true:=by rfl) (hw:Wt ops p ⟨some d,.load t x,ty,pos,af,gd⟩=some true:=by rfl) (hd:Nat.blt d f.n=true:=by rfl) (ht:tbl.lf t=true:=by rfl):XD prog G f Q ops k pk L (n+1) done p ds cs q:= .ld i (P9 Vi ht) K ho hx hc hr hw hd
theorem ldAD (i:Nat)(K:XD prog G f Q ops k pk (rdA i b o (Wx.sub l o sz)++L) n (i::done) ((d,.agg (Wx.sub l o sz).toArray)::p) ds cs q)
 (ho:ops[i]? =some ⟨some d,.load t x,ty,pos,af,gd⟩:=by rfl) (ht:tbl.ag t=some sz:=by rfl) (hx:evp p x=some (.pointer (some ⟨b,o,none⟩)):=by rfl) (hh:Has q b (.cells l.toArray t' fz):=by exact Qu) (hv:Nat.ble (o+sz) l.length=true:=by rfl)
 (hr:rdy ops done i=true:=by rfl) (hw:Wt ops p ⟨some d,.load t x,ty,pos,af,gd⟩=some true:=by rfl) (hd:Nat.blt d f.n=true:=by rfl):XD prog G f Q ops k pk L (n+1) done p ds cs q:= .loadA i ho hx (Qt Vi ht).1 (Qt Vi ht).2 hh hv K hr hw hd
theorem st (K:XO prog G f Q ops.toArray k rest p ds cs (pto b (.cells (Hl l o v).toArray t' (0,0))::r))(hx:evp p x=some (.pointer (some ⟨b,o,none⟩)):=by rfl)(hy:evp p y=some v:=by rfl)
 (hv:v.cells= #[v]:=by rfl) (h1:v.oneCell'=true:=by rfl) (hq:Le q (pto b (.cells l.toArray t' (0,0))::r):=by exact Zk) (ho:Nat.blt o l.length=true:=by rfl)
 (hw:Wt ops p ⟨none,.store t x y,ty,pos,af,gd⟩=some true:=by rfl) (hs:tbl.s1 t=true:=by rfl):XO prog G f Q ops.toArray k (⟨none,.store t x y,ty,pos,af,gd⟩::rest) p ds cs q:= .st Vi hs K hx hy hv h1 hq ho hw
theorem stA (K:XO prog G f Q ops.toArray k rest p ds cs (pto b (.cells (V5 l o vs).toArray t' (0,0))::r))(hs:tbl.ag t=some sz:=by rfl)(hx:evp p x=some (.pointer (some ⟨b,o,none⟩)):=by rfl)(hy:evp p y=some (.agg vs.toArray):=by rfl)
 (hl:vs.length=sz:=by rfl) (h1:vs.all (·.oneCell')=true:=by rfl) (hq:Le q (pto b (.cells l.toArray t' (0,0))::r):=by exact Zk) (ho:Nat.ble (o+sz) l.length=true:=by rfl)
 (hw:Wt ops p ⟨none,.store t x y,ty,pos,af,gd⟩=some true:=by rfl):XO prog G f Q ops.toArray k (⟨none,.store t x y,ty,pos,af,gd⟩::rest) p ds cs q:= .stA Vi hs K hx hy hl h1 hq ho hw
theorem stD (i:Nat)(K:XD prog G f Q ops k pk (cut ⟨none,.store t x y,ty,pos,af,gd⟩ L) n (i::done) p ds cs (pto b (.cells (Hl l o v).toArray t' (0,0))::r))
 (ho:ops[i]? =some ⟨none,.store t x y,ty,pos,af,gd⟩:=by rfl) (hx:evp p x=some (.pointer (some ⟨b,o,none⟩)):=by rfl) (hy:evp p y=some v:=by rfl)
 (hv:v.cells= #[v]:=by rfl) (h1:v.oneCell'=true:=by rfl) (hq:Le q (pto b (.cells l.toArray t' (0,0))::r):=by exact Zk) (ho2:Nat.blt o l.length=true:=by rfl)
 (hh:HL (pto b (.cells (Hl l o v).toArray t' (0,0))::r) (cut ⟨none,.store t x y,ty,pos,af,gd⟩ L):=by exact hlA)
 (h2:V2 ops done i=true:=by rfl) (hr:rdy ops done i=true:=by rfl) (hw:Wt ops p ⟨none,.store t x y,ty,pos,af,gd⟩=some true:=by rfl) (hs:tbl.s1 t=true:=by rfl):XD prog G f Q ops k pk L (n+1) done p ds cs q:= .st i Vi hs K ho hx hy hv h1 hq ho2 hh h2 hr hw
theorem stAD (i:Nat)(K:XD prog G f Q ops k pk (cut ⟨none,.store t x y,ty,pos,af,gd⟩ L) n (i::done) p ds cs (pto b (.cells (V5 l o vs).toArray t' (0,0))::r))
 (ho:ops[i]? =some ⟨none,.store t x y,ty,pos,af,gd⟩:=by rfl) (hs:tbl.ag t=some sz:=by rfl) (hx:evp p x=some (.pointer (some ⟨b,o,none⟩)):=by rfl) (hy:evp p y=some (.agg vs.toArray):=by rfl)
 (hl:vs.length=sz:=by rfl) (h1:vs.all (·.oneCell')=true:=by rfl) (hq:Le q (pto b (.cells l.toArray t' (0,0))::r):=by exact Zk) (ho2:Nat.ble (o+sz) l.length=true:=by rfl)
 (hh:HL (pto b (.cells (V5 l o vs).toArray t' (0,0))::r) (cut ⟨none,.store t x y,ty,pos,af,gd⟩ L):=by exact hlA)
 (h2:V2 ops done i=true:=by rfl) (hr:rdy ops done i=true:=by rfl) (hw:Wt ops p ⟨none,.store t x y,ty,pos,af,gd⟩=some true:=by rfl):XD prog G f Q ops k pk L (n+1) done p ds cs q:= .stA i Vi hs K ho hx hy hl h1 hq ho2 hh h2 hr hw
theorem rsL {t b sz:Nat}{l:List Value}{t':TypeId}(hh:Has q b (.cells l.toArray t' fz))(ht:tbl.ag t=some sz)(hv:Nat.ble (o+sz) l.length=true):LV Tryz.prog G q t ⟨b,o,none⟩ (.agg (Wx.sub l o sz).toArray):=LV.agg (Qt Vi ht).1 (Qt Vi ht).2 hh hv
theorem rA_ {u0:TypeId}(h:fd.results= [.cell a0 t0].toArray)(p0:lkp p a0=some (.pointer (some ⟨b0,o0,none⟩)):=by rfl)(h0:Has q b0 (.cells l0.toArray u0 f0):=by exact Qu)(t_0:tbl.ag t0=some z0:=by rfl)(v_0:Nat.ble (o0+z0) l0.length=true:=by rfl)(tm:Array Value)(w:World)(ag:Agr tm p)(s:St G w q):(results fd tm).run Tryz.prog w= .ok (.agg (Wx.sub l0 o0 z0).toArray) w:=Bi h (eE p0 (rsL h0 t_0 v_0) eI) tm w ag s
theorem Zqa {u0:TypeId}{u1:TypeId}(h:fd.results= [.cell a0 t0,.cell a1 t1].toArray)(p0:lkp p a0=some (.pointer (some ⟨b0,o0,none⟩)):=by rfl)(h0:Has q b0 (.cells l0.toArray u0 f0):=by exact Qu)(t_0:tbl.ag t0=some z0:=by rfl)(v_0:Nat.ble (o0+z0) l0.length=true:=by rfl)(p1:lkp p a1=some (.pointer (some ⟨b1,o1,none⟩)):=by rfl)(h1:Has q b1 (.cells l1.toArray u1 f1):=by exact Qu)(t_1:tbl.ag t1=some z1:=by rfl)(v_1:Nat.ble (o1+z1) l1.length=true:=by rfl)(tm:Array Value)(w:World)(ag:Agr tm p)(s:St G w q):(results fd tm).run Tryz.prog w= .ok ((.tuple [.agg (Wx.sub l0 o0 z0).toArray,.agg (Wx.sub l1 o1 z1).toArray].toArray)) w:=Ea h (eE p0 (rsL h0 t_0 v_0) (eE p1 (rsL h1 t_1 v_1) eI)) tm w ag s
theorem N1 {u0:TypeId}(h:fd.results= [.cell a0 t0,.tmp a1].toArray)(p0:lkp p a0=some (.pointer (some ⟨b0,o0,none⟩)):=by rfl)(h0:Has q b0 (.cells l0.toArray u0 f0):=by exact Qu)(t_0:tbl.ag t0=some z0:=by rfl)(v_0:Nat.ble (o0+z0) l0.length=true:=by rfl)(p1:lkp p a1=some v1:=by rfl)(tm:Array Value)(w:World)(ag:Agr tm p)(s:St G w q):(results fd tm).run Tryz.prog w= .ok ((.tuple [.agg (Wx.sub l0 o0 z0).toArray,v1].toArray)) w:=Ea h (eE p0 (rsL h0 t_0 v_0) (eB p1 eI)) tm w ag s
theorem Ce {u0:TypeId}{u1:TypeId}(h:fd.results= [.cell a0 t0,.cell a1 t1,.tmp a2].toArray)(p0:lkp p a0=some (.pointer (some ⟨b0,o0,none⟩)):=by rfl)(h0:Has q b0 (.cells l0.toArray u0 f0):=by exact Qu)(t_0:tbl.ag t0=some z0:=by rfl)(v_0:Nat.ble (o0+z0) l0.length=true:=by rfl)(p1:lkp p a1=some (.pointer (some ⟨b1,o1,none⟩)):=by rfl)(h1:Has q b1 (.cells l1.toArray u1 f1):=by exact Qu)(t_1:tbl.ag t1=some z1:=by rfl)(v_1:Nat.ble (o1+z1) l1.length=true:=by rfl)(p2:lkp p a2=some v2:=by rfl)(tm:Array Value)(w:World)(ag:Agr tm p)(s:St G w q):(results fd tm).run Tryz.prog w= .ok ((.tuple [.agg (Wx.sub l0 o0 z0).toArray,.agg (Wx.sub l1 o1 z1).toArray,v2].toArray)) w:=Ea h (eE p0 (rsL h0 t_0 v_0) (eE p1 (rsL h1 t_1 v_1) (eB p2 eI))) tm w ag s
theorem T9 {v0:Value}{u1:TypeId}(h:fd.results= [.tmp a0,.cell a1 t1,.tmp a2].toArray)(p0:lkp p a0=some v0:=by rfl)(p1:lkp p a1=some (.pointer (some ⟨b1,o1,none⟩)):=by rfl)(h1:Has q b1 (.cells l1.toArray u1 f1):=by exact Qu)(t_1:tbl.ag t1=some z1:=by rfl)(v_1:Nat.ble (o1+z1) l1.length=true:=by rfl)(p2:lkp p a2=some v2:=by rfl)(tm:Array Value)(w:World)(ag:Agr tm p)(s:St G w q):(results fd tm).run Tryz.prog w= .ok ((.tuple [v0,.agg (Wx.sub l1 o1 z1).toArray,v2].toArray)) w:=Ea h (eB p0 (eE p1 (rsL h1 t_1 v_1) (eB p2 eI))) tm w ag s
theorem Bo {u0:TypeId}(h:fd.results= [.cell a0 t0,.tmp a1,.tmp a2].toArray)(p0:lkp p a0=some (.pointer (some ⟨b0,o0,none⟩)):=by rfl)(h0:Has q b0 (.cells l0.toArray u0 f0):=by exact Qu)(t_0:tbl.ag t0=some z0:=by rfl)(v_0:Nat.ble (o0+z0) l0.length=true:=by rfl)(p1:lkp p a1=some v1:=by rfl)(p2:lkp p a2=some v2:=by rfl)(tm:Array Value)(w:World)(ag:Agr tm p)(s:St G w q):(results fd tm).run Tryz.prog w= .ok ((.tuple [.agg (Wx.sub l0 o0 z0).toArray,v1,v2].toArray)) w:=Ea h (eE p0 (rsL h0 t_0 v_0) (eB p1 (eB p2 eI))) tm w ag s
theorem xp {t:Bool}{φ ψ:Prop}{z:List Item}(s:Nat)(ht:φ->X Tryz.prog G f Q z ((s,.bool true)::p) ds cs q)(hf:ψ->X Tryz.prog G f Q z ((s,.bool false)::p) ds cs q)(h:lkp p s=some (.bool t):=by rfl)(e1:t=true->φ:=by intro h;exact sp h)(e2:t=false->ψ:=by intro h;exact sp h):X Tryz.prog G f Q z p ds cs q:= .part s h (fun a=>ht (e1 a)) (fun a=>hf (e2 a))
theorem kx {b1:Bool}(s m:Nat)(K:X Tryz.prog G f Q k2 p2 ds cs q)(h:lkp p1 s=some (.bool b1):=by rfl)(e:b1=false:=by exact kw)(h2:stn tbl f.n m .code k1 ((s,.bool false)::p1) []=some ⟨.code,k2,p2,c1⟩:=by exact rfl)(hc:U6 c1:=by repeat (first|exact trivial|refine Wv (by first|omega|(simp;done)|(simp;omega)) ?_)):X Tryz.prog G f Q k1 p1 ds cs q:=Jc s (xx m K h2 hc) h e
theorem ol {o1 l1:List Oper}{t1 ty1:TypeId}(m:Nat)(K:XO Tryz.prog G f Q o2.toArray k2 r2 ((d1,v1)::p2) ds cs q)(h:stn tbl f.n m (.ops o1 l1) k1 p1 []=some ⟨.ops o2 (⟨some d1,.load t1 x1,ty1,ps1,af1,gd1⟩::r2),k2,p2,c1⟩:=by exact rfl)(hc0:U6 c1:=by repeat (first|exact trivial|refine Wv (by first|omega|(simp;done)|(simp;omega)) ?_))(hx:evp p2 x1=some (.pointer (some A1)):=by rfl)(hc:Cl q A1 v1:=by exact clA)(hw:Wt o2 p2 ⟨some d1,.load t1 x1,ty1,ps1,af1,gd1⟩=some true:=by rfl)(hd:Nat.blt d1 f.n=true:=by rfl)(ht:tbl.lf t1=true:=by rfl):XO Tryz.prog G f Q o1.toArray k1 l1 p1 ds cs q:=oo m (ld K hx hc hw hd ht) h hc0
theorem xj {t1 ty1:TypeId}(m:Nat)(K:XO Tryz.prog G f Q o2.toArray k2 r2 ((d1,v1)::p2) ds cs q)(h:stn tbl f.n m .code k1 p1 []=some ⟨.ops o2 (⟨some d1,.load t1 x1,ty1,ps1,af1,gd1⟩::r2),k2,p2,c1⟩:=by exact rfl)(hc0:U6 c1:=by repeat (first|exact trivial|refine Wv (by first|omega|(simp;done)|(simp;omega)) ?_))(hx:evp p2 x1=some (.pointer (some A1)):=by rfl)(hc:Cl q A1 v1:=by exact clA)(hw:Wt o2 p2 ⟨some d1,.load t1 x1,ty1,ps1,af1,gd1⟩=some true:=by rfl)(hd:Nat.blt d1 f.n=true:=by rfl)(ht:tbl.lf t1=true:=by rfl):X Tryz.prog G f Q k1 p1 ds cs q:=xo m (ld K hx hc hw hd ht) h hc0
theorem dl {n0:Nat}{dn0 dn1:List Nat}{t1 ty1:TypeId}{s1:Nat}(is:List Nat)(i:Nat)(K:XD Tryz.prog G f Q ops k pk ((i,b1,s1,v1)::L) n1 (i::dn1) ((d1,v1)::p2) ds cs q)(h:sdn tbl f.n ops is n0 dn0 p1 []=some ⟨n1+1,dn1,p2,c1⟩:=by exact rfl)(hc0:U6 c1:=by repeat (first|exact trivial|refine Wv (by first|omega|(simp;done)|(simp;omega)) ?_))
 (ho:ops[i]? =some ⟨some d1,.load t1 x1,ty1,ps1,af1,gd1⟩:=by rfl) (hx:evp p2 x1=some (.pointer (some ⟨b1,s1,none⟩)):=by rfl) (hc:Cl q ⟨b1,s1,none⟩ v1:=by exact clA) (hr:rdy ops dn1 i=true:=by rfl) (hw:Wt ops p2 ⟨some d1,.load t1 x1,ty1,ps1,af1,gd1⟩=some true:=by rfl) (hd:Nat.blt d1 f.n=true:=by rfl) (ht:tbl.lf t1=true:=by rfl):XD Tryz.prog G f Q ops k pk L n0 dn0 p1 ds cs q:=dd is (ldD i K ho hx hc hr hw hd ht) h hc0
theorem kk0 {A:List HP->Prop}(K:B V C)(h:A C:=by first|exact trivial|exact hlA): ∀ v q',(v=V/\q'=C)->A q'/\B v q':=by rintro _ _ ⟨rfl,rfl⟩;exact ⟨h,K⟩
theorem kc0 {A:List HP->Prop}(K:B V M)(e:C++F=M:=by (try simp only [ca,na]);rfl)(h:A M:=by first|exact trivial|exact hlA): ∀ v q',(v=V/\q'=C)-> ∀ q'',q''=q'++F->A q''/\B v q'':=by rintro _ _ ⟨rfl,rfl⟩ _ rfl;rw [e];exact ⟨h,K⟩
theorem kd0 (K:B V M)(e:C++F=M:=by (try simp only [ca,na]);rfl): ∀ v q',(v=V/\q'=C)-> ∀ q'',q''=q'++F->B v q'':=by rintro _ _ ⟨rfl,rfl⟩ _ rfl;rw [e];exact K
theorem kd1 {α:Type}{V:α->Value}{C:α->List HP}{M:α->List HP}(K: ∀ a,B (V a) (M a))(e: ∀ a,C a++F=M a:=by intro _;(try simp only [ca,na]);rfl): ∀ v q',(∃ a,v=V a/\q'=C a)-> ∀ q'',q''=q'++F->B v q'':=by rintro _ _ ⟨a,rfl,rfl⟩ _ rfl;rw [e];exact K a
theorem kk2 {α β:Type}{V:α->β->Value}{C:α->β->List HP}{A:List HP->Prop}(K: ∀ a b,B (V a b) (C a b))(h: ∀ a b,A (C a b):=by intro _ _;first|exact trivial|exact hlA): ∀ v q',(∃ a b,v=V a b/\q'=C a b)->A q'/\B v q':=by rintro _ _ ⟨a,b,rfl,rfl⟩;exact ⟨h a b,K a b⟩
theorem kd2 {α β:Type}{V:α->β->Value}{C:α->β->List HP}{M:α->β->List HP}(K: ∀ a b,B (V a b) (M a b))(e: ∀ a b,C a b++F=M a b:=by intro _ _;(try simp only [ca,na]);rfl): ∀ v q',(∃ a b,v=V a b/\q'=C a b)-> ∀ q'',q''=q'++F->B v q'':=by rintro _ _ ⟨a,b,rfl,rfl⟩ _ rfl;rw [e];exact K a b
theorem xsl {c:Nat}(s:Nat)(e:a=some A)(K:X Tryz.prog G f Q k ((s,.slice (some A) n c)::p) ds cs q)(h:lkp p s=some (.slice a n c):=by rfl):X Tryz.prog G f Q k p ds cs q:= .know s _ h (by rw [e]) K
theorem osl {c:Nat}{lz:List Oper}(s:Nat)(e:a=some A)(K:XO Tryz.prog G f Q ops.toArray k lz ((s,.slice (some A) n c)::p) ds cs q)(h:lkp p s=some (.slice a n c):=by rfl):XO Tryz.prog G f Q ops.toArray k lz p ds cs q:= .know s _ h (by rw [e]) K
theorem dsl {c:Nat}(s:Nat)(e:a=some A)(K:XD Tryz.prog G f Q ops k pk L n1 done ((s,.slice (some A) n2 c)::p) ds cs q)(h:lkp p s=some (.slice a n2 c):=by rfl):XD Tryz.prog G f Q ops k pk L n1 done p ds cs q:= .know s _ h (by rw [e]) K
theorem Tryz.mixed:prog.follows .mixedOrders=true:=by kernel_rfl
theorem drw {id:Nat}(x:XD prog G f Q ops k [] [] ops.length [] p ds cs q)(h1:okR ops=true:=by kernel_rfl)(h2:Gr ops=true:=by kernel_rfl)(h3:Me ops []=true:=by rfl):X prog G f Q (.code (.region id ops.toArray true)::k) p ds cs q:= .draw [] Tryz.mixed h1 h2 h3 x
structure Bx (B:Prop):Prop where
 g:B
structure Gs (s:List Nat) (A:Prop):Prop where
 g:A
theorem gs0 {A:Prop}(b:Bx A):Gs [] A:=⟨b.g⟩
variable {s0:List Nat}{l0 l0':List Oper}
theorem r_xx (K:Gs s0 (X prog G f Q k' p' ds cs q))(h:stn tbl f.n (m+1) .code k p []=some ⟨.code,k',p',c⟩:=by exact rfl)(hc:U6 c:=by repeat (first|exact trivial|refine Wv (by first|omega|(simp;done)|(simp;omega)) ?_)):Gs ((m+1)::s0) (X prog G f Q k p ds cs q):=⟨xx (m+1) K.g h hc⟩
theorem r_xo (K:Gs s0 (XO prog G f Q ops'.toArray k' l0' p' ds cs q))(h:stn tbl f.n (m+1) .code k p []=some ⟨.ops ops' l0',k',p',c⟩:=by exact rfl)(hc:U6 c:=by repeat (first|exact trivial|refine Wv (by first|omega|(simp;done)|(simp;omega)) ?_)):Gs ((m+1)::s0) (X prog G f Q k p ds cs q):=⟨xo (m+1) K.g h hc⟩
theorem r_ox (K:Gs s0 (X prog G f Q k' p' ds cs q))(h:stn tbl f.n (m+1) (.ops ops l0) k p []=some ⟨.code,k',p',c⟩:=by exact rfl)(hc:U6 c:=by repeat (first|exact trivial|refine Wv (by first|omega|(simp;done)|(simp;omega)) ?_)):Gs ((m+1)::s0) (XO prog G f Q ops.toArray k l0 p ds cs q):=⟨ox (m+1) K.g h hc⟩
theorem r_oo (K:Gs s0 (XO prog G f Q ops'.toArray k' l0' p' ds cs q))(h:stn tbl f.n (m+1) (.ops ops l0) k p []=some ⟨.ops ops' l0',k',p',c⟩:=by exact rfl)(hc:U6 c:=by repeat (first|exact trivial|refine Wv (by first|omega|(simp;done)|(simp;omega)) ?_)):Gs ((m+1)::s0) (XO prog G f Q ops.toArray k l0 p ds cs q):=⟨oo (m+1) K.g h hc⟩
theorem Vo (K:Gs s0 (XO prog G f Q ops.toArray k rest ((d,v)::p) ds cs q))(hx:evp p x=some (.pointer (some A)):=by rfl)(hc:Cl q A v:=by exact clA)(hw:Wt ops p ⟨some d,.load t x,ty,pos,af,gd⟩=some true:=by rfl)(hd:Nat.blt d f.n=true:=by rfl)(ht:tbl.lf t=true:=by rfl):Gs (0::s0) (XO prog G f Q ops.toArray k (⟨some d,.load t x,ty,pos,af,gd⟩::rest) p ds cs q):=⟨ld K.g hx hc hw hd ht⟩
theorem Xk (K:Gs s0 (XO prog G f Q ops.toArray k rest ((d,.agg (Wx.sub l o sz).toArray)::p) ds cs q))(ht:tbl.ag t=some sz:=by rfl)(hx:evp p x=some (.pointer (some ⟨b,o,none⟩)):=by rfl)(hh:Has q b (.cells l.toArray t' fz):=by exact Qu)(hv:Nat.ble (o+sz) l.length=true:=by rfl)(hw:Wt ops p ⟨some d,.load t x,ty,pos,af,gd⟩=some true:=by rfl)(hd:Nat.blt d f.n=true:=by rfl):Gs (0::s0) (XO prog G f Q ops.toArray k (⟨some d,.load t x,ty,pos,af,gd⟩::rest) p ds cs q):=⟨ldA K.g ht hx hh hv hw hd⟩
theorem r_st (K:Gs s0 (XO prog G f Q ops.toArray k rest p ds cs (pto b (.cells (Hl l o v).toArray t' (0,0))::r)))(hx:evp p x=some (.pointer (some ⟨b,o,none⟩)):=by rfl)(hy:evp p y=some v:=by rfl)(hv:v.cells= #[v]:=by rfl)(h1:v.oneCell'=true:=by rfl)(hq:Le q (pto b (.cells l.toArray t' (0,0))::r):=by exact Zk)(ho:Nat.blt o l.length=true:=by rfl)(hw:Wt ops p ⟨none,.store t x y,ty,pos,af,gd⟩=some true:=by rfl)(hs:tbl.s1 t=true:=by rfl):Gs (0::s0) (XO prog G f Q ops.toArray k (⟨none,.store t x y,ty,pos,af,gd⟩::rest) p ds cs q):=⟨st K.g hx hy hv h1 hq ho hw hs⟩
theorem O9 (K:Gs s0 (XO prog G f Q ops.toArray k rest p ds cs (pto b (.cells (V5 l o vs).toArray t' (0,0))::r)))(hs:tbl.ag t=some sz:=by rfl)(hx:evp p x=some (.pointer (some ⟨b,o,none⟩)):=by rfl)(hy:evp p y=some (.agg vs.toArray):=by rfl)(hl:vs.length=sz:=by rfl)(h1:vs.all (·.oneCell')=true:=by rfl)(hq:Le q (pto b (.cells l.toArray t' (0,0))::r):=by exact Zk)(ho:Nat.ble (o+sz) l.length=true:=by rfl)(hw:Wt ops p ⟨none,.store t x y,ty,pos,af,gd⟩=some true:=by rfl):Gs (0::s0) (XO prog G f Q ops.toArray k (⟨none,.store t x y,ty,pos,af,gd⟩::rest) p ds cs q):=⟨stA K.g hs hx hy hl h1 hq ho hw⟩
theorem Xv {rid:Nat}(K:Gs s0 (XD prog G f Q ops k [] [] ops.length [] p ds cs q))(h1:okR ops=true:=by kernel_rfl)(h2:Gr ops=true:=by kernel_rfl)(h3:Me ops []=true:=by rfl):Gs (0::s0) (X prog G f Q (.code (.region rid ops.toArray true)::k) p ds cs q):=⟨drw K.g h1 h2 h3⟩
theorem r_dd (K:Gs s0 (XD prog G f Q ops k pk L n' done' p' ds cs q))(h:sdn tbl f.n ops [i] n done p []=some ⟨n',done',p',c⟩:=by exact rfl)(hc:U6 c:=by repeat (first|exact trivial|refine Wv (by first|omega|(simp;done)|(simp;omega)) ?_)):Gs ((i+1)::s0) (XD prog G f Q ops k pk L n done p ds cs q):=⟨dd [i] K.g h hc⟩
theorem Wj (K:Gs s0 (XD prog G f Q ops k pk ((i,b,o,v)::L) n (i::done) ((d,v)::p) ds cs q))(ho:ops[i]? =some ⟨some d,.load t x,ty,pos,af,gd⟩:=by rfl)(hx:evp p x=some (.pointer (some ⟨b,o,none⟩)):=by rfl)(hc:Cl q ⟨b,o,none⟩ v:=by exact clA)(hr:rdy ops done i=true:=by rfl)(hw:Wt ops p ⟨some d,.load t x,ty,pos,af,gd⟩=some true:=by rfl)(hd:Nat.blt d f.n=true:=by rfl)(ht:tbl.lf t=true:=by rfl):Gs ((i+1)::s0) (XD prog G f Q ops k pk L (n+1) done p ds cs q):=⟨ldD i K.g ho hx hc hr hw hd ht⟩
theorem Gv (K:Gs s0 (XD prog G f Q ops k pk (rdA i b o (Wx.sub l o sz)++L) n (i::done) ((d,.agg (Wx.sub l o sz).toArray)::p) ds cs q))(ho:ops[i]? =some ⟨some d,.load t x,ty,pos,af,gd⟩:=by rfl)(ht:tbl.ag t=some sz:=by rfl)(hx:evp p x=some (.pointer (some ⟨b,o,none⟩)):=by rfl)(hh:Has q b (.cells l.toArray t' fz):=by exact Qu)(hv:Nat.ble (o+sz) l.length=true:=by rfl)(hr:rdy ops done i=true:=by rfl)(hw:Wt ops p ⟨some d,.load t x,ty,pos,af,gd⟩=some true:=by rfl)(hd:Nat.blt d f.n=true:=by rfl):Gs ((i+1)::s0) (XD prog G f Q ops k pk L (n+1) done p ds cs q):=⟨ldAD i K.g ho ht hx hh hv hr hw hd⟩
theorem O8 (K:Gs s0 (XD prog G f Q ops k pk (cut ⟨none,.store t x y,ty,pos,af,gd⟩ L) n (i::done) p ds cs (pto b (.cells (Hl l o v).toArray t' (0,0))::r)))(ho:ops[i]? =some ⟨none,.store t x y,ty,pos,af,gd⟩:=by rfl)(hx:evp p x=some (.pointer (some ⟨b,o,none⟩)):=by rfl)(hy:evp p y=some v:=by rfl)(hv:v.cells= #[v]:=by rfl)(h1:v.oneCell'=true:=by rfl)(hq:Le q (pto b (.cells l.toArray t' (0,0))::r):=by exact Zk)(ho2:Nat.blt o l.length=true:=by rfl)(hh:HL (pto b (.cells (Hl l o v).toArray t' (0,0))::r) (cut ⟨none,.store t x y,ty,pos,af,gd⟩ L):=by exact hlA)(h2:V2 ops done i=true:=by rfl)(hr:rdy ops done i=true:=by rfl)(hw:Wt ops p ⟨none,.store t x y,ty,pos,af,gd⟩=some true:=by rfl)(hs:tbl.s1 t=true:=by rfl):Gs ((i+1)::s0) (XD prog G f Q ops k pk L (n+1) done p ds cs q):=⟨stD i K.g ho hx hy hv h1 hq ho2 hh h2 hr hw hs⟩
theorem Gk (K:Gs s0 (XD prog G f Q ops k pk (cut ⟨none,.store t x y,ty,pos,af,gd⟩ L) n (i::done) p ds cs (pto b (.cells (V5 l o vs).toArray t' (0,0))::r)))(ho:ops[i]? =some ⟨none,.store t x y,ty,pos,af,gd⟩:=by rfl)(hs:tbl.ag t=some sz:=by rfl)(hx:evp p x=some (.pointer (some ⟨b,o,none⟩)):=by rfl)(hy:evp p y=some (.agg vs.toArray):=by rfl)(hl:vs.length=sz:=by rfl)(h1:vs.all (·.oneCell')=true:=by rfl)(hq:Le q (pto b (.cells l.toArray t' (0,0))::r):=by exact Zk)(ho2:Nat.ble (o+sz) l.length=true:=by rfl)(hh:HL (pto b (.cells (V5 l o vs).toArray t' (0,0))::r) (cut ⟨none,.store t x y,ty,pos,af,gd⟩ L):=by exact hlA)(h2:V2 ops done i=true:=by rfl)(hr:rdy ops done i=true:=by rfl)(hw:Wt ops p ⟨none,.store t x y,ty,pos,af,gd⟩=some true:=by rfl):Gs ((i+1)::s0) (XD prog G f Q ops k pk L (n+1) done p ds cs q):=⟨stAD i K.g ho hs hx hy hl h1 hq ho2 hh h2 hr hw⟩
theorem Xj (K:Gs s0 (X prog G f Q k p ds cs q))(h:(List.range ops.length).all (done.contains ·)=true:=by rfl):Gs (0::s0) (XD prog G f Q ops k pk L 0 done p ds cs q):=⟨jV K.g h⟩
theorem r_kf {b:Bool}(K:Gs s0 (X prog G f Q k ((s,.bool false)::p) ds cs q))(h:lkp p s=some (.bool b):=by rfl)(e:b=false:=by exact kw):Gs ((s+1000)::s0) (X prog G f Q k p ds cs q):=⟨Jc s K.g h e⟩
theorem r_kt {b:Bool}(K:Gs s0 (X prog G f Q k ((s,.bool true)::p) ds cs q))(h:lkp p s=some (.bool b):=by rfl)(e:b=true:=by exact kw):Gs ((s+2000)::s0) (X prog G f Q k p ds cs q):=⟨X.kt s K.g h e⟩
theorem Xz {b:Bool}(K:Gs s0 (XO prog G f Q ops.toArray k l0 ((s,.bool false)::p) ds cs q))(h:lkp p s=some (.bool b):=by rfl)(e:b=false:=by exact kw):Gs ((s+1000)::s0) (XO prog G f Q ops.toArray k l0 p ds cs q):=⟨XO.kf s K.g h e⟩
theorem Xq {b:Bool}(K:Gs s0 (XO prog G f Q ops.toArray k l0 ((s,.bool true)::p) ds cs q))(h:lkp p s=some (.bool b):=by rfl)(e:b=true:=by exact kw):Gs ((s+2000)::s0) (XO prog G f Q ops.toArray k l0 p ds cs q):=⟨XO.kt s K.g h e⟩
theorem rn {A B:Prop}(s:List Nat)(K:B)(h:Bx B->Gs s A:=by intro b;repeat first|exact gs0 b|refine r_kt ?_|refine r_kf ?_|refine Xq ?_|refine Xz ?_|refine Vo ?_|refine Xk ?_|refine r_st ?_|refine O9 ?_|refine Xv ?_|refine Xj ?_|refine r_xx ?_|refine r_xo ?_|refine r_oo ?_|refine r_ox ?_|refine r_dd ?_|refine Wj ?_|refine Gv ?_|refine O8 ?_|refine Gk ?_):A:=(h ⟨K⟩).g
theorem Fj {c:Nat}(e:a=some A)(K:Gs s0 (X prog G f Q k ((s,.slice (some A) n2 c)::p) ds cs q))(h:lkp p s=some (.slice a n2 c):=by rfl):Gs ((s+3000)::s0) (X prog G f Q k p ds cs q):=⟨xsl s e K.g h⟩
theorem Fk {c:Nat}(e:a=some A)(K:Gs s0 (XO prog G f Q ops.toArray k l0 ((s,.slice (some A) n2 c)::p) ds cs q))(h:lkp p s=some (.slice a n2 c):=by rfl):Gs ((s+3000)::s0) (XO prog G f Q ops.toArray k l0 p ds cs q):=⟨osl s e K.g h⟩
theorem Fv {c:Nat}(e:a=some A)(K:Gs s0 (XD prog G f Q ops k pk L n1 done ((s,.slice (some A) n2 c)::p) ds cs q))(h:lkp p s=some (.slice a n2 c):=by rfl):Gs ((s+3000)::s0) (XD prog G f Q ops k pk L n1 done p ds cs q):=⟨dsl s e K.g h⟩
theorem rf {A B C:Prop}(s:List Nat)(F:C)(K:B)(h:Bx B->C->Gs s A:=by intro b F;repeat first|exact gs0 b|refine Fj F ?_|refine Fk F ?_|refine Fv F ?_|refine Vo ?_ (hc:=(F.le leA).at rfl (by assumption))|refine Vo ?_ (hc:=(F.le leA) 0 _ rfl)|refine Vo ?_ (hc:=(F.le leA) _ _ rfl)|refine Vo ?_ (hc:=F _ leA 0 _ rfl)|refine Vo ?_ (hc:=F _ leA _ _ rfl)|refine Wj ?_ (hc:=(F.le leA).at rfl (by assumption))|refine Wj ?_ (hc:=(F.le leA) 0 _ rfl)|refine Wj ?_ (hc:=(F.le leA) _ _ rfl)|refine Wj ?_ (hc:=F _ leA 0 _ rfl)|refine Wj ?_ (hc:=F _ leA _ _ rfl)|refine r_kt ?_|refine r_kf ?_|refine Xq ?_|refine Xz ?_|refine Vo ?_|refine Xk ?_|refine r_st ?_|refine O9 ?_|refine Xv ?_|refine Xj ?_|refine r_xx ?_|refine r_xo ?_|refine r_oo ?_|refine r_ox ?_|refine r_dd ?_|refine Wj ?_|refine Gv ?_|refine O8 ?_|refine Gk ?_):A:=(h ⟨K⟩ F).g
theorem rg {A B C D:Prop}(s:List Nat)(F:C)(E:D)(K:B)(h:Bx B->C->D->Gs s A:=by intro b F E;repeat first|exact gs0 b|refine Fj F ?_|refine Fk F ?_|refine Fv F ?_|refine Vo ?_ (hc:=(F.le leA).at rfl (by assumption))|refine Vo ?_ (hc:=(F.le leA) 0 _ rfl)|refine Vo ?_ (hc:=(F.le leA) _ _ rfl)|refine Vo ?_ (hc:=F _ leA 0 _ rfl)|refine Vo ?_ (hc:=F _ leA _ _ rfl)|refine Wj ?_ (hc:=(F.le leA).at rfl (by assumption))|refine Wj ?_ (hc:=(F.le leA) 0 _ rfl)|refine Wj ?_ (hc:=(F.le leA) _ _ rfl)|refine Wj ?_ (hc:=F _ leA 0 _ rfl)|refine Wj ?_ (hc:=F _ leA _ _ rfl)|refine Fj E ?_|refine Fk E ?_|refine Fv E ?_|refine Vo ?_ (hc:=(E.le leA).at rfl (by assumption))|refine Vo ?_ (hc:=(E.le leA) 0 _ rfl)|refine Vo ?_ (hc:=(E.le leA) _ _ rfl)|refine Vo ?_ (hc:=E _ leA 0 _ rfl)|refine Vo ?_ (hc:=E _ leA _ _ rfl)|refine Wj ?_ (hc:=(E.le leA).at rfl (by assumption))|refine Wj ?_ (hc:=(E.le leA) 0 _ rfl)|refine Wj ?_ (hc:=(E.le leA) _ _ rfl)|refine Wj ?_ (hc:=E _ leA 0 _ rfl)|refine Wj ?_ (hc:=E _ leA _ _ rfl)|refine r_kt ?_|refine r_kf ?_|refine Xq ?_|refine Xz ?_|refine Vo ?_|refine Xk ?_|refine r_st ?_|refine O9 ?_|refine Xv ?_|refine Xj ?_|refine r_xx ?_|refine r_xo ?_|refine r_oo ?_|refine r_ox ?_|refine r_dd ?_|refine Wj ?_|refine Gv ?_|refine O8 ?_|refine Gk ?_):A:=(h ⟨K⟩ F E).g
theorem rh {A B C D E:Prop}(s:List Nat)(F:C)(E1:D)(E2:E)(K:B)(h:Bx B->C->D->E->Gs s A:=by intro b F E1 E2;repeat first|exact gs0 b|refine Fj F ?_|refine Fk F ?_|refine Fv F ?_|refine Vo ?_ (hc:=(F.le leA).at rfl (by assumption))|refine Vo ?_ (hc:=(F.le leA) 0 _ rfl)|refine Vo ?_ (hc:=(F.le leA) _ _ rfl)|refine Vo ?_ (hc:=F _ leA 0 _ rfl)|refine Vo ?_ (hc:=F _ leA _ _ rfl)|refine Wj ?_ (hc:=(F.le leA).at rfl (by assumption))|refine Wj ?_ (hc:=(F.le leA) 0 _ rfl)|refine Wj ?_ (hc:=(F.le leA) _ _ rfl)|refine Wj ?_ (hc:=F _ leA 0 _ rfl)|refine Wj ?_ (hc:=F _ leA _ _ rfl)|refine Fj E1 ?_|refine Fk E1 ?_|refine Fv E1 ?_|refine Vo ?_ (hc:=(E1.le leA).at rfl (by assumption))|refine Vo ?_ (hc:=(E1.le leA) 0 _ rfl)|refine Vo ?_ (hc:=(E1.le leA) _ _ rfl)|refine Vo ?_ (hc:=E1 _ leA 0 _ rfl)|refine Vo ?_ (hc:=E1 _ leA _ _ rfl)|refine Wj ?_ (hc:=(E1.le leA).at rfl (by assumption))|refine Wj ?_ (hc:=(E1.le leA) 0 _ rfl)|refine Wj ?_ (hc:=(E1.le leA) _ _ rfl)|refine Wj ?_ (hc:=E1 _ leA 0 _ rfl)|refine Wj ?_ (hc:=E1 _ leA _ _ rfl)|refine Fj E2 ?_|refine Fk E2 ?_|refine Fv E2 ?_|refine Vo ?_ (hc:=(E2.le leA).at rfl (by assumption))|refine Vo ?_ (hc:=(E2.le leA) 0 _ rfl)|refine Vo ?_ (hc:=(E2.le leA) _ _ rfl)|refine Vo ?_ (hc:=E2 _ leA 0 _ rfl)|refine Vo ?_ (hc:=E2 _ leA _ _ rfl)|refine Wj ?_ (hc:=(E2.le leA).at rfl (by assumption))|refine Wj ?_ (hc:=(E2.le leA) 0 _ rfl)|refine Wj ?_ (hc:=(E2.le leA) _ _ rfl)|refine Wj ?_ (hc:=E2 _ leA 0 _ rfl)|refine Wj ?_ (hc:=E2 _ leA _ _ rfl)|refine r_kt ?_|refine r_kf ?_|refine Xq ?_|refine Xz ?_|refine Vo ?_|refine Xk ?_|refine r_st ?_|refine O9 ?_|refine Xv ?_|refine Xj ?_|refine r_xx ?_|refine r_xo ?_|refine r_oo ?_|refine r_ox ?_|refine r_dd ?_|refine Wj ?_|refine Gv ?_|refine O8 ?_|refine Gk ?_):A:=(h ⟨K⟩ F E1 E2).g
end
abbrev I64:Int->Value:=Value.int .i64
abbrev bT:Value:= .bool true
abbrev bF:Value:= .bool false
theorem cB {a b:Bool}(h:a=b):Value.bool a= .bool b:=by rw [h]
structure Tk where
 k:Int
 t:ByteArray
 n:Int
 ln:Int
 cl:Int
variable {L:List Tk}
def tkC (x:Tk):List Value:= [I64 x.k,.string x.t,I64 x.n,I64 x.ln,I64 x.cl]
def Sr (c:UInt8):Bool:=decide (97<=c.toNat) && decide (c.toNat<=122)
def Qo (c:UInt8):Bool:=decide (48<=c.toNat) && decide (c.toNat<=57)
def Nv (c:UInt8):Bool:=Sr c||Qo c
def wordsS:List Bs:= [[118,97,114], [97,114,114,97,121], [109,117,116,101,120], [99,111,110,100], [99,104,97,110], [116,104,114,101,97,100], [108,101,116], [105,102], [101,108,115,101], [119,104,105,108,101], [108,111,99,107], [117,110,108,111,99,107], [119,97,105,116], [115,105,103,110,97,108], [97,108,108], [115,101,110,100], [114,101,99,118], [115,112,97,119,110], [106,111,105,110], [112,114,105,110,116]]
def signsS:List Bs:= [[61,61], [33,61], [60,61], [38,38], [124,124], [59], [40], [41], [123], [125], [91], [93], [61], [60], [43], [45], [42], [47], [37], [33]]
def kwS (w:Bs):Bool:=wordsS.any (· ==w)
def Hu (w:Bs):Int:=w.foldl (fun n c=>n*10+((c.toNat:Int) - 48)) 0
def C6 (w:Bs):Option Int:=if w.all Qo && decide (w.length<=10) then (if Hu w<=2147483647/\(w.length=1\/w.getD 0 0≠48) then some (Hu w) else none) else none
def Q2 (l:Bs):Nat:=(l.takeWhile Nv).length
def M0 (l:Bs):Option (Int×Bs×Int):=
 let w:=l.take (Q2 l)
 if 0<Q2 l/\Qo (l.getD 0 0)=true then (match C6 w with|some x=>some (2,w,x)|none=>none)
 else if 0<Q2 l/\kwS w=true then some (3,w,0)
 else if 16<Q2 l then none
 else if 0<Q2 l then some (1,w,0)
 else match signsS.find? (fun s=>s==l.take s.length) with
  |some s=>some (4,s,0)
  |none=>none
def Ju:Nat->Bs->Int->Int->Option (List Tk)
 |0,_,_,_=>none
 |_+1, [],_,_=>some []
 |f+1,c::r,ln,cl=>
  if c=10 then Ju f r (ln+1) 1
  else if c=32\/c=9\/c=13 then Ju f r ln (cl+1)
  else if c=35 then Ju f ((c::r).dropWhile (· !=10)) ln (cl+((c::r).takeWhile (· !=10)).length)
  else match M0 (c::r) with
   |none=>none
   |some (k,w,n)=>(Ju f ((c::r).drop w.length) ln (cl+w.length)).map (⟨k,ba w,n,ln,cl⟩:: ·)
inductive PEx where
 |mk (k n:Int) (nm:ByteArray) (slot:Int) (loc:Bool) (op:Int) (args:List PEx)
inductive PStm where
 |mk (k ln cl:Int) (nm wt:ByteArray) (e ix:PEx) (body els:List PStm) (id slot other:Int) (loc:Bool)
structure PDec where
 k:Int
 ln:Int
 cl:Int
 nm:ByteArray
 n:Int
 body:List PStm
def PEx.z:PEx:= .mk 0 0 em 0 false 0 []
def isW (s:Bs):List Tk->Bool
 |t::_=>bs t.t==s && decide (3<=t.k)
 | []=>false
def tkW (s:Bs)(ts:List Tk):Option (List Tk):=if isW s ts=true then some ts.tail else none
def W2 (s:Bs)(ts:List Tk):Option (Unit×List Tk):=if isW s ts=true then some ((),ts.tail) else none
def bnd {α β:Type}(A:Option (α×List Tk))(K:α->List Tk->Option β):Option β:=match A with
 |none=>none
 |some (x,r)=>K x r
def Jk:List Tk->Option (ByteArray×List Tk)
 |t::r=>if t.k=1 then some (t.t,r) else none
 | []=>none
def Ji:List Tk->Option (Int×List Tk)
 |t::r=>if t.k=2 then some (t.n,r) else none
 | []=>none
def rankL:List Int:= [0,1,2,3,3,3,3,4,4,5,5,5]
def signL:List Bs:= [[], [124,124], [38,38], [61,61], [33,61], [60], [60,61], [43], [45], [42], [47], [37]]
def Rq (n:Int)(ts:List Tk):List Nat->Nat
 | []=>0
 |op::r=>if rankL.getD op 0=n/\isW (signL.getD op []) ts=true then op else Rq n ts r
def Uh (n:Int)(ts:List Tk):Nat:=Rq n ts [1,2,3,4,5,6,7,8,9,10,11]
mutual
def Vj:Nat->Int->List Tk->Option (PEx×List Tk)
 |0,_,_=>none
 |f+1,n,ts=>if 5<n then unS f ts else match Vj f (n+1) ts with
  |none=>none
  |some (e,r)=>Mu f n e r
def Mu:Nat->Int->PEx->List Tk->Option (PEx×List Tk)
 |0,_,_,_=>none
 |f+1,n,e,ts=>if Uh n ts=0 then some (e,ts) else match Vj f (n+1) ts.tail with
  |none=>none
  |some (x,r)=>if n=3 then some (.mk 6 0 em 0 false (Uh n ts) [e,x],r) else Mu f n (.mk 6 0 em 0 false (Uh n ts) [e,x]) r
def unS:Nat->List Tk->Option (PEx×List Tk)
 |0,_=>none
 |f+1,ts=>match tkW [45] ts with
  |some r=>(match unS f r with
   |none=>none
   |some (e,r2)=>some (.mk 4 0 em 0 false 0 [e],r2))
  |none=>match tkW [33] ts with
   |some r=>(match unS f r with
    |none=>none
    |some (e,r2)=>some (.mk 5 0 em 0 false 0 [e],r2))
   |none=>Ut f ts
def Ut:Nat->List Tk->Option (PEx×List Tk)
 |0,_=>none
 |f+1,ts=>match tkW [40] ts with
  |some r=>(match Vj f 1 r with
   |none=>none
   |some (e,r2)=>match tkW [41] r2 with
    |none=>none
    |some r3=>some (e,r3))
  |none=>match Ji ts with
   |some (n,r)=>some (.mk 1 n em 0 false 0 [],r)
   |none=>match Jk ts with
    |none=>none
    |some (nm,r)=>match tkW [91] r with
     |none=>some (.mk 2 0 nm 0 false 0 [],r)
     |some r2=>match Vj f 1 r2 with
      |none=>none
      |some (e,r3)=>match tkW [93] r3 with
       |none=>none
       |some r4=>some (.mk 3 0 nm 0 false 0 [e],r4)
end
def kindL:List Bs:= [[], [108,101,116], [], [], [105,102], [119,104,105,108,101], [108,111,99,107], [117,110,108,111,99,107], [119,97,105,116], [115,105,103,110,97,108], [97,108,108], [115,101,110,100], [114,101,99,118], [115,112,97,119,110], [106,111,105,110], [112,114,105,110,116]]
def Jw (L:List Bs)(ts:List Tk):Nat->Nat
 |0=>0
 |k+1=>if L.getD (k+1) []≠ []/\isW (L.getD (k+1) []) ts=true then k+1 else Jw L ts k
def Vc (ts:List Tk):Nat:=Jw kindL ts 15
def Zc:List Tk->Int×Int
 |t::_=>(t.ln,t.cl)
 | []=>(0,0)
def Ud (f:Nat)(k:Int)(p:Int×Int)(nm:ByteArray)(ts:List Tk):Option (PStm×List Tk):=
 if k=0 then (if isW [91] ts=true then bnd (Vj f 1 ts.tail) fun ix r=>bnd (W2 [93] r) fun _ r=>bnd (W2 [61] r) fun _ r=>bnd (Vj f 1 r) fun e r=>bnd (W2 [59] r) fun _ r=>some (.mk 3 p.1 p.2 nm em e ix [] [] 0 0 0 false,r)
  else bnd (W2 [61] ts) fun _ r=>bnd (Vj f 1 r) fun e r=>bnd (W2 [59] r) fun _ r=>some (.mk 2 p.1 p.2 nm em e .z [] [] 0 0 0 false,r))
 else if k=1 then bnd (W2 [61] ts) fun _ r=>bnd (Vj f 1 r) fun e r=>bnd (W2 [59] r) fun _ r=>some (.mk k p.1 p.2 nm em e .z [] [] 0 0 0 false,r)
 else if k=8\/k=12 then bnd (Jk ts) fun wt r=>bnd (W2 [59] r) fun _ r=>some (.mk k p.1 p.2 nm wt .z .z [] [] 0 0 0 false,r)
 else if k=11\/k=15 then bnd (Vj f 1 ts) fun e r=>bnd (W2 [59] r) fun _ r=>some (.mk k p.1 p.2 nm em e .z [] [] 0 0 0 false,r)
 else bnd (W2 [59] ts) fun _ r=>some (.mk k p.1 p.2 nm em .z .z [] [] 0 0 0 false,r)
mutual
def U8:Nat->List Tk->Option (PStm×List Tk)
 |0,_=>none
 |f+1,ts=>
  if Vc ts=4\/Vc ts=5 then bnd (Vj f 1 ts.tail) fun e r=>bnd (Ke f r) fun b r=>
   if Vc ts=4/\isW [101,108,115,101] r=true then bnd (Ke f r.tail) fun b2 r=>some (.mk (Vc ts) (Zc ts).1 (Zc ts).2 em em e .z b b2 0 0 0 false,r)
   else some (.mk (Vc ts) (Zc ts).1 (Zc ts).2 em em e .z b [] 0 0 0 false,r)
  else if Vc ts=14\/Vc ts=15 then Ud f (Vc ts) (Zc ts) em ts.tail
  else bnd (Jk (if 0<Vc ts then ts.tail else ts)) fun nm r=>Ud f (Vc ts) (Zc ts) nm r
def Ke:Nat->List Tk->Option (List PStm×List Tk)
 |0,_=>none
 |f+1,ts=>bnd (W2 [123] ts) fun _ r=>bnd (We f r) fun l r=>bnd (W2 [125] r) fun _ r=>some (l,r)
def We:Nat->List Tk->Option (List PStm×List Tk)
 |0,_=>none
 |f+1,ts=>if isW [125] ts=true then some ([],ts) else bnd (U8 f ts) fun s r=>bnd (We f r) fun l r=>some (s::l,r)
end
def declL:List Bs:= [[], [118,97,114], [97,114,114,97,121], [109,117,116,101,120], [99,111,110,100], [99,104,97,110], [116,104,114,101,97,100]]
def dkS (ts:List Tk):Nat:=Jw declL ts 6
def Eo (k:Nat)(ts:List Tk):Option (Int×List Tk):=
 if k=1 then bnd (W2 [61] ts) fun _ r=>if isW [45] r=true then bnd (Ji r.tail) fun n r=>some (-n,r) else Ji r
 else if k=2\/k=5 then Ji ts else some (0,ts)
def Ui (f:Nat)(ts:List Tk):Option (PDec×List Tk):=
 if dkS ts=0 then none else bnd (Jk ts.tail) fun nm r=>
  if dkS ts=6 then bnd (Ke f r) fun b r=>some (⟨dkS ts,(Zc ts).1,(Zc ts).2,nm,0,b⟩,r)
  else bnd (Eo (dkS ts) r) fun n r=>bnd (W2 [59] r) fun _ r=>some (⟨dkS ts,(Zc ts).1,(Zc ts).2,nm,n, []⟩,r)
def Vh (g:Nat):Nat->List Tk->Option (List PDec)
 |0,_=>none
 |f+1,ts=>if ts= [] then some [] else bnd (Ui g ts) fun d r=>(Vh g f r).map (d:: ·)
mutual
def PEx.dep:PEx->Nat
 | .mk _ _ _ _ _ _ args=>Yb args+1
def Yb:List PEx->Nat
 | []=>0
 |e::r=>max e.dep (Yb r)
end
mutual
def PStm.deep:PStm->Nat->Bool
 | .mk _ _ _ _ _ e ix body els _ _ _ _,n=>decide (24<n)||decide (24<e.dep)||decide (24<ix.dep)||Yq body (n+1)||Yq els (n+1)
def Yq:List PStm->Nat->Bool
 | [],_=>false
 |s::r,n=>s.deep n||Yq r n
end
def Qz (l:Bs):Option (List PDec):=
 if 65536<l.length then none else match Ju (l.length+1) l 1 1 with
  |none=>none
  |some ts=>match Vh (10*ts.length+20) (ts.length+1) ts with
   |none=>none
   |some ds=>if ds.any (fun d=>Yq d.body 1)=true then none else some ds
inductive Ex where
 |mk (k n:Int) (nm:ByteArray) (slot:Int) (loc:Bool) (op:Int) (args:List Ex) (aa:Option Addr) (ac:Nat)
variable {e:Ex}
def exC:Ex->List Value
 | .mk k n nm slot loc op args aa ac=> [I64 k,I64 n,.string nm,I64 slot,.bool loc,I64 op,.slice aa args.length ac]
inductive Stm where
 |mk (k ln cl:Int) (nm wt:ByteArray) (e ix:Ex) (body els:List Stm) (ba:Option Addr) (bc:Nat) (ea:Option Addr) (ec:Nat) (id slot other:Int) (loc:Bool)
def stC:Stm->List Value
 | .mk k ln cl nm wt e ix body els ba bc ea ec id slot other loc=> [I64 k,I64 ln,I64 cl,.string nm,.string wt]++(exC e++(exC ix++ [.slice ba body.length bc,.slice ea els.length ec,I64 id,I64 slot,I64 other,.bool loc]))
structure Dec where
 k:Int
 ln:Int
 cl:Int
 nm:ByteArray
 n:Int
 body:List Stm
 ba:Option Addr
 bc:Nat
def dcC (d:Dec):List Value:= [I64 d.k,I64 d.ln,I64 d.cl,.string d.nm,I64 d.n,.slice d.ba d.body.length d.bc]
theorem Z4 (e:Ex):(exC e).length=7:=by cases e;rfl
theorem Z8 (s:Stm):(stC s).length=25:=by cases s;simp [stC,Z4]
theorem Gc (e:Ex):(exC e).all (·.oneCell')=true:=by cases e;rfl
theorem H9 (s:Stm):(stC s).all (·.oneCell')=true:=by cases s;simp only [stC,kB,Gc];rfl
mutual
def Ex.er:Ex->PEx
 | .mk k n nm slot loc op args _ _=> .mk k n nm slot loc op (Z3 args)
def Z3:List Ex->List PEx
 | []=> []
 |e::r=>e.er::Z3 r
end
mutual
def Stm.er:Stm->PStm
 | .mk k ln cl nm wt e ix body els _ _ _ _ id slot other loc=> .mk k ln cl nm wt e.er ix.er (Zj body) (Zj els) id slot other loc
def Zj:List Stm->List PStm
 | []=> []
 |s::r=>s.er::Zj r
end
def Dec.er (d:Dec):PDec:=⟨d.k,d.ln,d.cl,d.nm,d.n,Zj d.body⟩
mutual
def Ex.At (M:Hp):Ex->Prop
 | .mk _ _ _ _ _ _ args aa ac=>SlAt M aa ac args.length (args.flatMap exC)/\Ex.Ats M args
def Ex.Ats (M:Hp):List Ex->Prop
 | []=>True
 |e::r=>e.At M/\Ex.Ats M r
end
mutual
def Stm.At (M:Hp):Stm->Prop
 | .mk _ _ _ _ _ e ix body els ba bc ea ec _ _ _ _=>e.At M/\ix.At M/\(SlAt M ba bc body.length (body.flatMap stC)/\Stm.Ats M body)/\SlAt M ea ec els.length (els.flatMap stC)/\Stm.Ats M els
def Stm.Ats (M:Hp):List Stm->Prop
 | []=>True
 |s::r=>s.At M/\Stm.Ats M r
end
mutual
theorem Ex.At.mono {M M':Hp}(l:Hle M M'): ∀ {e:Ex},e.At M->e.At M'
 | .mk ..,⟨h,k⟩=>⟨h.mono l,Ex.Ats.mono l k⟩
theorem Ex.Ats.mono {M M':Hp}(l:Hle M M'): ∀ {e:List Ex},Ex.Ats M e->Ex.Ats M' e
 | [],_=>trivial
 |_::_,⟨h,k⟩=>⟨Ex.At.mono l h,Ex.Ats.mono l k⟩
end
abbrev iF:=@Ex.Ats.mono
mutual
theorem Stm.At.mono {M M':Hp}(l:Hle M M'): ∀ {e:Stm},e.At M->e.At M'
 | .mk ..,⟨h1,h2,⟨h3,h4⟩,h5,h6⟩=>⟨h1.mono l,h2.mono l,⟨h3.mono l,Stm.Ats.mono l h4⟩,h5.mono l,Stm.Ats.mono l h6⟩
theorem Stm.Ats.mono {M M':Hp}(l:Hle M M'): ∀ {e:List Stm},Stm.Ats M e->Stm.Ats M' e
 | [],_=>trivial
 |_::_,⟨h,k⟩=>⟨Stm.At.mono l h,Stm.Ats.mono l k⟩
end
abbrev iU:=@Stm.Ats.mono
theorem Ye {M:Hp}: ∀ {l:List Ex},Ex.Ats M l↔ ∀ e∈l,e.At M
 | []=>by simp [Ex.Ats]
 |e::r=>by simp [Ex.Ats,Ye (l:=r)]
theorem Vg {M:Hp}: ∀ {l:List Stm},Stm.Ats M l↔ ∀ e∈l,e.At M
 | []=>by simp [Stm.Ats]
 |e::r=>by simp [Stm.Ats,Vg (l:=r)]
theorem Yy: ∀ l:List Ex,Z3 l=l.map Ex.er
 | []=>rfl
 |e::r=>by simp [Z3,Yy r]
theorem Yf: ∀ l:List Stm,Zj l=l.map Stm.er
 | []=>rfl
 |e::r=>by simp [Zj,Yf r]
theorem W9 (l:List Ex):(Z3 l).length=l.length:=by rw [Yy];simp
theorem Zg (l:List Stm):(Zj l).length=l.length:=by rw [Yf];simp
mutual
def Ex.sz:Ex->Nat
 | .mk _ _ _ _ _ _ args _ _=>Qe args+1
def Qe:List Ex->Nat
 | []=>0
 |e::r=>e.sz+Qe r
end
mutual
def Stm.sz:Stm->Nat
 | .mk _ _ _ _ _ _ _ body els _ _ _ _ _ _ _ _=>Zm body+Zm els+1
def Zm:List Stm->Nat
 | []=>0
 |s::r=>s.sz+Zm r
end
theorem Vx {e:Ex}: ∀ {l:List Ex},e∈l->e.sz<=Qe l
 |x::r,h=>by
  rcases cE.1 h with rfl|h
  . simp [Qe]
  have:=Vx h;simp only [Qe];omega
theorem Ub {e:Stm}: ∀ {l:List Stm},e∈l->e.sz<=Zm l
 |x::r,h=>by
  rcases cE.1 h with rfl|h
  . simp [Zm]
  have:=Ub h;simp only [Zm];omega
def exM (e:Ex):HP:=lst (fun M=>e.At M) fun l h=>Ex.At.mono l h
def exsM (l:List Ex):HP:=lst (fun M=>Ex.Ats M l) fun l h=>iF l h
def stM (s:Stm):HP:=lst (fun M=>s.At M) fun l h=>Stm.At.mono l h
def stsM (l:List Stm):HP:=lst (fun M=>Stm.Ats M l) fun l h=>iU l h
def BlkAt (M:Hp)(a:Option Addr)(c:Nat)(l:List Stm):Prop:=SlAt M a c l.length (l.flatMap stC)/\Stm.Ats M l
theorem BlkAt.mono {l:List Stm}{M:Hp}(e:Hle M M')(h:BlkAt M a c l):BlkAt M' a c l:=⟨h.1.mono e,h.2.mono e⟩
def blM (a:Option Addr)(c:Nat)(l:List Stm):HP:=lst (fun M=>BlkAt M a c l) BlkAt.mono
def Dec.At (M:Hp)(d:Dec):Prop:=BlkAt M d.ba d.bc d.body
theorem Dec.At.mono {d:Dec}{M:Hp}(e:Hle M M')(h:d.At M):d.At M':=BlkAt.mono e h
def Decs.At (M:Hp)(l:List Dec):Prop:= ∀ d∈l,d.At M
theorem Decs.At.mono {l:List Dec}{M:Hp}(e:Hle M M')(h:Decs.At M l):Decs.At M' l:=fun d hd=>(h d hd).mono e
def dcM (d:Dec):HP:=lst (fun M=>d.At M) Dec.At.mono
def dcsM (l:List Dec):HP:=lst (fun M=>Decs.At M l) Decs.At.mono
section
variable {ty:Nat}{l:List Ex}{m:List Stm}
theorem Kn.ex1 {k n:Int}(h:Kn q fun M=>e.At M):Kn (lst (fun M=>SlAt M a c 1 ([e].flatMap exC)) gM::q) fun M=>(Ex.mk k n nm slot loc op [e] a c).At M:=
 (Kn.here.and h.there).imp fun M h=>⟨h.1,h.2,trivial⟩
theorem Kn.ex2 {k n:Int}{e2:Ex}(h:Kn q fun M=>e.At M)(h2:Kn q fun M=>e2.At M):Kn (lst (fun M=>SlAt M a c 2 ([e,e2].flatMap exC)) gM::q) fun M=>(Ex.mk k n nm slot loc op [e,e2] a c).At M:=
 (Kn.here.and (h.there.and h2.there)).imp fun M h=>⟨h.1,h.2.1,h.2.2,trivial⟩
theorem Kn.exM {e:Ex}:Kn (exM e::q) fun M=>e.At M:=fL
theorem Kn.stsM:Kn (stsM m::q) fun M=>Stm.Ats M m:=fL
theorem Kn.stM {s:Stm}:Kn (stM s::q) fun M=>s.At M:=fL
theorem Kn.dcM {s:Dec}:Kn (dcM s::q) fun M=>s.At M:=fL
theorem Kn.dcsM {s:List Dec}:Kn (dcsM s::q) fun M=>Decs.At M s:=fL
theorem Le.ex0 (k n:Int)(nm:ByteArray)(slot:Int)(loc:Bool)(op:Int):Le q (Go.Proofs.YtflkjkhijcdbaaaGreat.exM (Ex.mk k n nm slot loc op [] none 0)::q):=cZ (fun M _ _=>⟨SlAt.nil M,trivial⟩)
theorem Hk:Le q (Go.Proofs.YtflkjkhijcdbaaaGreat.stsM []::q):=cZ (fun _ _ _=>trivial)
theorem H5 {s:Stm}:Le (Go.Proofs.YtflkjkhijcdbaaaGreat.stsM m::Go.Proofs.YtflkjkhijcdbaaaGreat.stM s::q) (Go.Proofs.YtflkjkhijcdbaaaGreat.stsM (m++ [s])::q):=by
 have h:Kn (Go.Proofs.YtflkjkhijcdbaaaGreat.stsM m::Go.Proofs.YtflkjkhijcdbaaaGreat.stM s::q) fun M=>Stm.Ats M (m++ [s]):=(Kn.stsM.and Kn.stM.there).imp fun M h=>Vg.2 fun x a=>by
  rcases aQ.1 a with a|a
  . exact Vg.1 h.1 x a
  rw [aZ.1 a];exact h.2
 exact aS (cZ (mn:=fun l h=>iU l h) h) (dD _ ((eD _ _).trans (eD _ _)))
theorem I8:Le q (Go.Proofs.YtflkjkhijcdbaaaGreat.dcsM []::q):=cZ (fun _ _ _ d a=>by cases a)
theorem Lc {s:Dec}{m:List Dec}:Le (Go.Proofs.YtflkjkhijcdbaaaGreat.dcsM m::Go.Proofs.YtflkjkhijcdbaaaGreat.dcM s::q) (Go.Proofs.YtflkjkhijcdbaaaGreat.dcsM (m++ [s])::q):=by
 have h:Kn (Go.Proofs.YtflkjkhijcdbaaaGreat.dcsM m::Go.Proofs.YtflkjkhijcdbaaaGreat.dcM s::q) fun M=>Decs.At M (m++ [s]):=(Kn.dcsM.and Kn.dcM.there).imp fun M h x a=>by
  rcases aQ.1 a with a|a
  . exact h.1 x a
  rw [aZ.1 a];exact h.2
 exact aS (cZ (mn:=Decs.At.mono) h) (dD _ ((eD _ _).trans (eD _ _)))
theorem Kn.blk (h:Kn q fun M=>Stm.Ats M m):Kn (lst (fun M=>SlAt M a c m.length (m.flatMap stC)) gM::q) fun M=>BlkAt M a c m:=Kn.here.and h.there
end
theorem isW_at {s:Bs}(h:n<L.length):isW s (L.drop n)=(bs L[n].t==s && decide (3<=L[n].k)):=by rw [aJ h];rfl
theorem Xd {s:Bs}(h:L.length<=n):isW s (L.drop n)=false:=by rw [cO h];rfl
theorem Si {s:Bs}(h:isW s (L.drop n)=true):n<L.length:=by
 rcases dQ n L.length with k|k
 . exact k
 rw [Xd k] at h;cases h
theorem gD {α:Type}{l:List α}{d:α}(h:i<l.length):l.getD i d=l[i]:=by simp [List.getD,aD h]
theorem sEq {a:ByteArray}:a.toList=b.toList↔bs a=bs b:=by rw [ByteArray.toList_eq,ByteArray.toList_eq];rfl
theorem sNe {a:ByteArray}(h: ¬a.toList=b.toList):(bs a==bs b)=false:=by rw [dB];exact fun e=>h (sEq.2 e)
theorem sTr {a:ByteArray}(h:a.toList=b.toList):(bs a==bs b)=true:=by rw [dC];exact sEq.1 h
theorem tail_drop :(L.drop n).tail=L.drop (n+1):=by rw [List.tail_drop]
def Out {α:Type}(L:List Tk)(bad:Bool)(sp:Option (α×List Tk))(x:α)(n:Nat)(bad':Bool):Prop:=(bad'=false/\bad=false/\sp=some (x,L.drop n))\/(bad'=true/\(bad=true\/sp=none))
abbrev rdH (p:Nat)(la:Option Addr)(lc:Nat)(L:List Tk)(n:Nat)(bad:Bool):HP:=pto p (.cells [.slice la L.length lc,I64 n,.bool bad].toArray 226 (0,0))
section
variable {P:Program}{fr:Fc}{todo:List Item}{lo:List Oper}{x:Ex}{m:List Stm}{kd n:Int}
theorem Ih (K:X P G fr Q todo p ds cs (exM (.mk kd n nm slot loc op [e] a c)::q0))(hq:Le q (rsH exC 7 124 a c [e]::q0):=by exact Zk)(he:Kn q0 fun M=>e.At M:=by exact knA):X P G fr Q todo p ds cs q:= .frzR (Kn.ex1 he) K hq
theorem X.fzE2 (K:X P G fr Q todo p ds cs (exM (.mk kd n nm slot loc op [e,x] a c)::q0))(hq:Le q (rsH exC 7 124 a c [e,x]::q0):=by exact Zk)(he:Kn q0 fun M=>e.At M:=by exact knA)(hx:Kn q0 fun M=>x.At M:=by exact knA):X P G fr Q todo p ds cs q:= .frzR (Kn.ex2 he hx) K hq
theorem X.fzB (K:X P G fr Q todo p ds cs (blM a c m::q0))(hq:Le q (rsH stC 25 126 a c m::q0):=by exact Zk)(h:Kn q0 fun M=>Stm.Ats M m:=by exact knA):X P G fr Q todo p ds cs q:= .frzR (Kn.blk h) K hq
end
end Go.Proofs.YtflkjkhijcdbaaaGreat
namespace Go.Proofs.YtflkjkhijcdbaaaGreat
open Go Go.RowKit Wx Go.Proofs.Tryz
attribute [local irreducible] lsH rsH stars
variable {G:World}{q pre:List HP}{a la A:Option Addr}{c lc p n f:Nat}{bad b1 b2:Bool}{s nm:ByteArray}{L ts:List Tk}{r k:Int}{S:Option (List PStm×List Tk)}{P:Program}{fr:Fc}{Q:Yn}{todo:List Item}{ds:List Deferred}{cs:List Frame}{l:List PStm}
section
theorem Px (hr:Has q p (.cells [.slice la L.length lc,I64 n,.bool bad].toArray 226 (0,0)))(hL:Sees q la (L.flatMap tkC))(hn:L.length<=65536):CallF prog G 147 [.pointer (some ⟨p,0,none⟩),.string s] (q) (Ret fun v q'=>v= .bool (!bad && isW (bs s) (L.drop n))/\q'=q):=by
 refine aC func147 ntmps147 rfl fun F cs=> ?_;have b:=Zx (f:=tkC) (sz:=5) (fun _=>rfl) L;refine rn [5,0,1,2,3] ?_;refine ldD 3 ?_ (hc:=(Cl.of (hr.le leA) rfl));refine Vz 4 rfl (bV rfl) ?_;refine dd [5] ?_;refine gT 10 rfl ?_ ?_<;>intro c
 . replace c:=sp c;refine dd [6,7,8] ?_;refine ldD 9 ?_ (hc:=(Cl.of (hr.le leA) rfl));refine dd [10,11,12] ?_;refine ldD 13 ?_ (hc:=(Cl.of (hr.le leA) rfl));refine dd [14,15,16,17] ?_;refine gT 22 rfl ?_ ?_<;>intro d
   . replace d:=sp d;refine dd [18,19,20] ?_;refine ldD 21 ?_ (hc:=(Cl.of (hr.le leA) rfl));refine dd [22,23,24] ?_;refine ldD 25 ?_ (hc:=(Cl.of (hr.le leA) rfl));refine K5 hL (by rw [b];omega) fun b1 o1 g=> ?_;have e:=hL;rw [g] at e;refine dS 26 (.slice (some ⟨b1,o1,none⟩) L.length lc) rfl (by rw [g]) ?_;refine rn [27,28,29,30,31,32,33] ?_;refine gT 37 rfl ?_ ?_<;>intro a
     . replace a:=sp a;refine dd [33,34,35] ?_;refine ldD 36 ?_ (hc:=(Cl.of (hr.le leA) rfl));refine dd [37,38,39] ?_;refine ldD 40 ?_ (hc:=(Cl.of (hr.le leA) rfl));refine dS 41 (.slice (some ⟨b1,o1,none⟩) L.length lc) rfl (by rw [g]) ?_;refine rn [42,43,44,45,46,47,0] ?_;refine Zq (q) func147 (Zn results147 rfl) ⟨_,rfl,cB (by rw [isW_at (by omega),c,sTr a];rfl),rfl⟩
     replace a:=sp a;refine rn [34,35,36,37,38,39,40,41,42,43,44,45,46,47,0] ?_;refine Zq (q) func147 (Zn results147 rfl) ⟨_,rfl,cB (by rw [isW_at (by omega),sNe a];simp),rfl⟩
   replace d:=sp d;refine rn [19,20,21,22,23,24,25,26,27,28,29,30,31,32,33,34,35,36,37,38,39,40,41,42,43,44,45,46,47,0] ?_;refine Zq (q) func147 (Zn results147 rfl) ⟨_,rfl,cB (by rw [Xd (by omega)];simp),rfl⟩
 replace c:=sp c;refine rn [7,8,9,10,11,12,13,14,15,16,17,18,19,20,21,22,23,24,25,26,27,28,29,30,31,32,33,34,35,36,37,38,39,40,41,42,43,44,45,46,47,0] ?_;refine Zq (q) func147 (Zn results147 rfl) ⟨_,rfl,cB (by simp_all),rfl⟩
variable {w:Bs}
theorem Ug (hL:Sees q la (L.flatMap tkC))(hn:L.length<=65536):CallF prog G 150 [.pointer (some ⟨p,0,none⟩),.string (ba w)] (rdH p la lc L n bad::q) (Ret fun v q'=>(v= .bool true/\(bad=false/\isW w (L.drop n)=true/\n<L.length)/\q'=rdH p la lc L (n+1) bad::q)\/(v= .bool false/\(bad=true\/isW w (L.drop n)=false)/\q'=rdH p la lc L n bad::q)):=by
 refine aC func150 ntmps150 rfl fun F cs=> ?_;refine xo 9 ?_;refine aO call147 (Px (n:=n) (bad:=bad) Qu (hL.le leA) hn) ?_;refine Zt (bV rfl) ?_;refine ox 1 ?_;refine dR 8 rfl ?_ ?_<;>intro c
 . refine xx 5 ?_;refine Zq (rdH p la lc L n bad::q) func150 (Zn results150 rfl) ⟨_,rfl,.inr ⟨rfl,by rw [V3] at c;cases bad<;>simp_all,rfl⟩⟩
 have b:bad=false/\isW w (L.drop n)=true:=by rw [V3] at c;cases bad<;>simp_all
 have a:=Si b.2;refine rn [7,0,3,0,5] ?_;refine Zq (rdH p la lc L (n+1) bad::q) func150 (Zn results150 rfl) ⟨_,rfl,.inl ⟨rfl,⟨b.1,b.2,a⟩,rfl⟩⟩
theorem Ya (hL:Sees q la (L.flatMap tkC))(hn:L.length<=65536)(hnL:n<=L.length):CallF prog G 149 [.pointer (some ⟨p,0,none⟩),.string (ba w)] (rdH p la lc L n bad::q) (Ret fun v q'=> ∃ n' bad',v= .tuple #[]/\q'=rdH p la lc L n' bad'::q/\n<=n'/\n'<=L.length/\Out L bad (W2 w (L.drop n)) () n' bad'):=by
 refine aC func149 ntmps149 rfl fun F cs=> ?_;refine xo 4 ?_;refine Zb call150 leA (Ug (hL.le leA) hn) ?_;rintro _ _ (⟨rfl,⟨b,a,c⟩,rfl⟩|⟨rfl,a,rfl⟩)
 . refine ox 4 ?_;refine Z7 (rdH p la lc L (n+1) bad::q) func149 (Vm results149) ⟨_,rfl,n+1,bad,rfl,rfl,by omega,by omega,.inl ⟨b,b,by unfold W2;rw [if_pos a,tail_drop]⟩⟩
 refine rn [7,0,1] ?_;refine Z7 (rdH p la lc L n true::q) func149 (Vm results149) ⟨_,rfl,n,true,rfl,rfl,aL _,hnL,.inr ⟨rfl,a.imp id fun h=>by unfold W2;rw [if_neg (by rw [h];decide)]⟩⟩
theorem Db (h:n<L.length):Jk (L.drop n)=if L[n].k=1 then some (L[n].t,L.drop (n+1)) else none:=by rw [aJ h];rfl
theorem Fx (h:L.length<=n):Jk (L.drop n)=none:=by rw [cO h];rfl
theorem Jl (hL:Sees q la (L.flatMap tkC))(hn:L.length<=65536)(hnL:n<=L.length):CallF prog G 148 [.pointer (some ⟨p,0,none⟩)] (rdH p la lc L n bad::q) (Ret fun v q'=> ∃ (x:ByteArray) (n':Nat) (bad':Bool),v= .string x/\q'=rdH p la lc L n' bad'::q/\(n<=n'/\(x=em\/ ∃ t∈L,x=t.t))/\n'<=L.length/\Out L bad (Jk (L.drop n)) x n' bad'):=by
 refine aC func148 ntmps148 rfl fun F cs=> ?_;have d:=Zx (f:=tkC) (sz:=5) (fun _=>rfl) L;refine rn [6,0,1,2,3,4,5] ?_;refine gT 7 rfl ?_ ?_<;>intro b
 . replace b:=sp b;refine rn [6,7,8,9,10,11,12,13,14,15,16,17,18,19,20,21,22,23,24,25,26,27,28,29,30,0,6,0,5] ?_;refine Zq (rdH p la lc L n true::q) func148 (Zn results148 rfl) ⟨_,rfl,em,n,true,rfl,rfl,⟨aL _,.inl rfl⟩,hnL,.inr ⟨rfl,.inl b⟩⟩
 replace b:=sp b;refine rn [6,7,8,9,10,11,12,13,14,15,16,17] ?_;refine gT 19 rfl ?_ ?_<;>intro e
 . replace e:=sp e;refine rn [18,19,20,21,22,23,24,25,26,27,28,29,30,0,6,0,5] ?_;refine Zq (rdH p la lc L n true::q) func148 (Zn results148 rfl) ⟨_,rfl,em,n,true,rfl,rfl,⟨aL _,.inl rfl⟩,hnL,.inr ⟨rfl,.inr (Fx (by omega))⟩⟩
 replace e:=sp e;refine rn [18,19,20,21,22,23,24,25] ?_;have a:n<L.length:=by omega
 refine K5 hL (by rw [d];omega) fun b1 o1 g=> ?_;have c:=hL;rw [g] at c;refine dS 23 (.slice (some ⟨b1,o1,none⟩) L.length lc) rfl (by rw [g]) ?_;refine rn [26,27,28,29,30,0] ?_;refine xp 32 ?_ ?_<;>intro h
 . refine rn [6,0,5] ?_;refine Zq (rdH p la lc L n true::q) func148 (Zn results148 rfl) ⟨_,rfl,em,n,true,rfl,rfl,⟨aL _,.inl rfl⟩,hnL,.inr ⟨rfl,.inr (by rw [Db (by omega),if_neg h])⟩⟩
 refine rn [7,0,3,0,2,0,1,2,3,4,5,6,7,8,9] ?_;refine dS 46 (.slice (some ⟨b1,o1,none⟩) L.length lc) rfl (by rw [g]) ?_;refine dd [9,10] ?_;refine ldD 11 ?_ (hc:=(Cl.el (n:=n) c leA (fun _=>rfl) a (by omega) rfl));refine rn [13,0] ?_;refine Zq (rdH p la lc L (n+1) bad::q) func148 (Zn results148 rfl) ⟨_,rfl,L[n].t,n+1,bad,rfl,rfl,⟨by omega,.inr ⟨_,aB a,rfl⟩⟩,by omega,.inl ⟨b,b,by rw [Db a,if_pos h]⟩⟩
theorem C5 (h:n<L.length):Ji (L.drop n)=if L[n].k=2 then some (L[n].n,L.drop (n+1)) else none:=by rw [aJ h];rfl
theorem Zq6 (h:L.length<=n):Ji (L.drop n)=none:=by rw [cO h];rfl
theorem Kw (hL:Sees q la (L.flatMap tkC))(hn:L.length<=65536)(hnL:n<=L.length):CallF prog G 151 [.pointer (some ⟨p,0,none⟩)] (rdH p la lc L n bad::q) (Ret fun v q'=> ∃ (x:Int) (n':Nat) (bad':Bool),v= I64 x/\q'=rdH p la lc L n' bad'::q/\(n<=n'/\(x=0\/ ∃ t∈L,x=t.n))/\n'<=L.length/\Out L bad (Ji (L.drop n)) x n' bad'):=by
 refine aC func151 ntmps151 rfl fun F cs=> ?_;have d:=Zx (f:=tkC) (sz:=5) (fun _=>rfl) L;refine rn [6,0,1,2,3,4,5] ?_;refine gT 7 rfl ?_ ?_<;>intro b
 . replace b:=sp b;refine rn [6,7,8,9,10,11,12,13,14,15,16,17,18,19,20,21,22,23,24,25,26,27,28,29,30,0,6,0,5] ?_;refine Zq (rdH p la lc L n true::q) func151 (Zn results151 rfl) ⟨_,rfl,0,n,true,rfl,rfl,⟨aL _,.inl rfl⟩,hnL,.inr ⟨rfl,.inl b⟩⟩
 replace b:=sp b;refine rn [6,7,8,9,10,11,12,13,14,15,16,17] ?_;refine gT 19 rfl ?_ ?_<;>intro e
 . replace e:=sp e;refine rn [18,19,20,21,22,23,24,25,26,27,28,29,30,0,6,0,5] ?_;refine Zq (rdH p la lc L n true::q) func151 (Zn results151 rfl) ⟨_,rfl,0,n,true,rfl,rfl,⟨aL _,.inl rfl⟩,hnL,.inr ⟨rfl,.inr (Zq6 (by omega))⟩⟩
 replace e:=sp e;refine rn [18,19,20,21,22,23,24,25] ?_;have a:n<L.length:=by omega
 refine K5 hL (by rw [d];omega) fun b1 o1 g=> ?_;have c:=hL;rw [g] at c;refine dS 23 (.slice (some ⟨b1,o1,none⟩) L.length lc) rfl (by rw [g]) ?_;refine rn [26,27,28,29,30,0] ?_;refine xp 32 ?_ ?_<;>intro h
 . refine rn [6,0,5] ?_;refine Zq (rdH p la lc L n true::q) func151 (Zn results151 rfl) ⟨_,rfl,0,n,true,rfl,rfl,⟨aL _,.inl rfl⟩,hnL,.inr ⟨rfl,.inr (by rw [C5 (by omega),if_neg h])⟩⟩
 refine rn [7,0,3,0,2,0,1,2,3,4,5,6,7,8,9] ?_;refine dS 46 (.slice (some ⟨b1,o1,none⟩) L.length lc) rfl (by rw [g]) ?_;refine dd [9,10] ?_;refine ldD 11 ?_ (hc:=(Cl.el (n:=n) c leA (fun _=>rfl) a (by omega) rfl));refine rn [13,0] ?_;refine Zq (rdH p la lc L (n+1) bad::q) func151 (Zn results151 rfl) ⟨_,rfl,L[n].n,n+1,bad,rfl,rfl,⟨by omega,.inr ⟨_,aB a,rfl⟩⟩,by omega,.inl ⟨b,b,by rw [C5 a,if_pos h]⟩⟩
end
theorem pos_ok (hL:Sees q la (L.flatMap tkC))(hn:L.length<=65536):CallF prog G 146 [.pointer (some ⟨p,0,none⟩)] (rdH p la lc L n bad::q) (Ret fun v q'=>v= .agg [I64 (Zc (L.drop n)).1,I64 (Zc (L.drop n)).2].toArray/\q'=rdH p la lc L n bad::q):=by
 refine aC func146 ntmps146 rfl fun F cs=> ?_;have c:=Zx (f:=tkC) (sz:=5) (fun _=>rfl) L;refine xo 2 ?_;refine bW zeroValue107 fun n1=> ?_
 refine rn [3,0,1,2,3,4,5,6,7,8,9,10,0] ?_;refine xp 12 ?_ ?_<;>intro g
 . refine rn [4,0,1] ?_;refine Zq (rdH p la lc L n bad::q) func146 (rA_ results146) ⟨_,rfl,by rw [cO (by omega)];rfl,rfl⟩
 refine rn [3,0,1,2,3,4,5,6,7,8] ?_;have b:n<L.length:=by omega
 refine K5 hL (by rw [c];omega) fun b1 o1 e=> ?_;have a:=hL;rw [e] at a;refine dS 17 (.slice (some ⟨b1,o1,none⟩) L.length lc) rfl (by rw [e]) ?_;refine dd [8,9] ?_;refine XD.rdCs 10 (us:= [I64 L[n].ln,I64 L[n].cl]) rfl rfl isAgg107 sizeOf107 rfl (fun k v d=>by match k,d with|0,d=>cases d;exact cT (n:=n) a leA (fun _=>rfl) b rfl 3 _ rfl|1,d=>cases d;exact cT (n:=n) a leA (fun _=>rfl) b rfl 4 _ rfl) ?_;refine rn [12,0] ?_;refine Zq (rdH p la lc L n bad::q) func146 (rA_ results146) ⟨_,rfl,by rw [aJ b];rfl,rfl⟩
theorem Wh:(prog.info? 9).map (fun i=>(i.zero,i.size,i.bytes))=some (some (.string ⟨#[]⟩),1,16):=by kernel_rfl
theorem Kr:(prog.info? 3).map (fun i=>(i.zero,i.size,i.bytes))=some (some (I64 0),1,8):=by kernel_rfl
theorem rank_ok (hr:c<12):CallF prog G 209 [I64 c] (q) (Ret fun v q'=>v= I64 (rankL.getD c 0)/\q'=q):=by
 refine aC func209 ntmps209 rfl fun F cs=> ?_;refine xo 6 ?_;refine bQ (Yp I64 rankL underlying22 Kr rfl rfl rfl rfl rfl rfl (fun _=>rfl)) ?_;rintro _ _ ⟨g,rfl,rfl⟩;have a:c<rankL.length:=by show c<12;omega
 refine oo 2 ?_;refine ld ?_ (hc:=(jN (n:=c) (bR _) Zk a (by omega)));refine ox 2 ?_;refine Zq (q) func209 (Zn results209 rfl) ⟨_,rfl,by rw [gD a],rfl⟩
theorem sign_ok (hr:c<12):CallF prog G 210 [I64 c] (q) (Ret fun v q'=>v= .string (ba (signL.getD c []))/\q'=q):=by
 refine aC func210 ntmps210 rfl fun F cs=> ?_;refine xo 6 ?_;refine bQ (Yp (fun w:Bs=>Value.string (ba w)) signL underlying25 Wh rfl rfl rfl rfl rfl rfl (fun _=>rfl)) ?_;rintro _ _ ⟨g,rfl,rfl⟩;have a:c<signL.length:=by show c<12;omega
 refine oo 2 ?_;refine ld ?_ (hc:=(jN (n:=c) (bR _) Zk a (by omega)));refine ox 2 ?_;refine Zq (q) func210 (Zn results210 rfl) ⟨_,rfl,by rw [gD a],rfl⟩
theorem Dx {s:Nat}(h:s<=11):Rq r ts (List.range' s (12 - s))=if rankL.getD s 0=r/\isW (signL.getD s []) ts=true then s else Rq r ts (List.range' (s+1) (12 - (s+1))):=by
 rw [show 12 - s=(12 - (s+1))+1 by omega,List.range'_succ];rfl
theorem C8 {L:List Tk}{n:Nat}{r:Int}: ∀ {l:List Nat},Rq r (L.drop n) l≠0->n<L.length
 | [],h=>aR rfl h
 |o::l,h=>by
  unfold Rq at h;split at h
  . rename_i k;exact Si k.2
  exact C8 h
abbrev Aa (v0:Nat)(v1:Int):=([.pointer (some ⟨v0,0,none⟩),I64 v1]:List Value)
theorem Xm (hr:Has q p (.cells [.slice la L.length lc,I64 n,.bool bad].toArray 226 (0,0)))(hL:Sees q la (L.flatMap tkC))(hn:L.length<=65536):CallF prog G 207 (Aa p r) (q) (Ret fun v q'=>v= I64 (if bad=true then 0 else Uh r (L.drop n):Nat)/\q'=q):=by
 refine aC func207 ntmps207 rfl fun F cs=> ?_;refine xx 10 ?_;refine aY (cG (fun (s:Nat)=>1<=s/\s<=12/\(bad=false->Uh r (L.drop n)=Rq r (L.drop n) (List.range' s (12 - s)))) (fun s=> [(5,I64 s),(0,.pointer (some ⟨p,0,none⟩)),(1,I64 r),(4,I64 0)]) (fun s=>(q++F)) (fun s=>12 - s) (fun s d g=> ?_) 1 ⟨aL _,by omega,fun _=>rfl⟩) Zu leA;try dsimp only at d g|-
 obtain ⟨j,i,a⟩:=d;refine xx 6 ?_;refine xp 7 ?_ ?_<;>intro m
 . have h:s<=11:=by omega
   refine xo 7 ?_;refine aO call209 (rank_ok (c:=s) (by omega)) ?_;refine oo 3 ?_;refine Zf [14,5,0,1,4] ?_;apply Zp 5 19 14 rfl
   . intro e f;have b:=sp e;refine oo 2 ?_;refine aO call210 (sign_ok (c:=s) (by omega)) ?_;refine aO call147 (Px (s:=ba (signL.getD s [])) (hr.le leA) (hL.le leA) hn) ?_;refine oo 1 ?_;exact Zz f ⟨Wq e,Zv⟩
   . intro e f;have b:=sp e;refine oo 5 ?_;exact Zz f ⟨Wz e,Zv⟩
   refine ox 1 ?_;refine xp 19 ?_ ?_<;>intro b
   . refine xx 6 ?_;refine Zq (q) func207 (Zn results207 rfl) ⟨_,rfl,by rw [if_neg (by rw [b.2.1];decide),a b.2.1,Dx (by omega),if_pos ⟨b.1,b.2.2⟩],rfl⟩
   refine xx 8 ?_;refine aY (g (s+1) ⟨by omega,by omega,fun l=>by rw [a l,Dx (by omega),if_neg (fun k=>by rw [V3] at b;simp_all)]⟩ (by omega)) Zu leA
 refine xx 6 ?_;refine Zq (q) func207 (Zn results207 rfl) ⟨_,rfl,by obtain rfl:s=12:=(by omega);cases bad with|true=>rfl|false=>rw [a rfl];rfl,rfl⟩
section
variable {b3 b4:Bool}{g n1 n2 n3 n4:Nat}{x y:PEx}{z:Int}{S:Option (PEx×List Tk)}
theorem Out.up {α β:Type}{sp:Option (α×List Tk)}{sq:Option (β×List Tk)}{x:α}{y:β}(h:Out L bad sp x n b1)(h1:bad=false-> ∀ r,sp=some (x,r)->sq=some (y,r))(h2:bad=false->sp=none->sq=none):Out L bad sq y n b1:=by
 rcases h with ⟨b,a,c⟩|⟨b,a⟩
 . exact .inl ⟨b,a,h1 a _ c⟩
 refine .inr ⟨b,?_⟩
 cases hb:bad with
 |true=>exact .inl rfl
 |false=>exact .inr (h2 hb (a.resolve_left (by rw [hb];decide)))
theorem Out.seq {α β γ:Type}{sp:Option (α×List Tk)}{sq:Option (β×List Tk)}{st:Option (γ×List Tk)}{x:α}{y:β}{w:γ}(h:Out L bad sp x n b1)(k:Out L b1 sq y n2 b2)(h1:bad=false->sp=none->st=none)
 (h2:bad=false->sp=some (x,L.drop n)->sq=none->st=none) (h3:bad=false->sp=some (x,L.drop n)-> ∀ r,sq=some (y,r)->st=some (w,r)):Out L bad st w n2 b2:=by
 rcases h with ⟨b,a,c⟩|⟨b,a⟩
 . subst b;rcases k with ⟨k1,_,d⟩|⟨k1,k2⟩
   . exact .inl ⟨k1,a,h3 a c _ d⟩
   exact .inr ⟨k1,.inr (h2 a c (k2.resolve_left (by decide)))⟩
 subst b;rcases k with ⟨_,k2,_⟩|⟨k1,_⟩
 . cases k2
 refine .inr ⟨k1,?_⟩
 cases hb:bad with
 |true=>exact .inl rfl
 |false=>exact .inr (h1 hb (a.resolve_left (by rw [hb];decide)))
theorem Out.isBad {α:Type}{sp:Option (α×List Tk)}{x:α}(h:Out L true sp x n b1):b1=true:=by
 rcases h with ⟨_,h,_⟩|⟨h,_⟩
 . cases h
 exact h
theorem Out.bnd {α β:Type}{A:Option (α×List Tk)}{K:α->List Tk->Option (β×List Tk)}{x:α}{y:β}(h:Out L bad A x n b1)(k:Out L b1 (K x (L.drop n)) y n2 b2):Out L bad (Go.Proofs.YtflkjkhijcdbaaaGreat.bnd A K) y n2 b2:=
 h.seq k (fun _ h=>by rw [h];rfl) (fun _ h k=>by rw [h];exact k) (fun _ h r k=>by rw [h];exact k)
theorem Out.ret {α:Type}{x:α}:Out L bad (some (x,L.drop n)) x n bad:=by cases bad;exact .inl ⟨rfl,rfl,rfl⟩;exact .inr ⟨rfl,.inl rfl⟩
theorem Out.any {α:Type}{x:α}{A:Option (α×List Tk)}:Out L true A x n true:= .inr ⟨rfl,.inl rfl⟩
theorem Mn {s:Bs}(h:isW s (L.drop n)=true):tkW s (L.drop n)=some (L.drop (n+1)):=by unfold tkW;rw [if_pos h,tail_drop]
theorem Kk {s:Bs}(h:isW s (L.drop n)=false):tkW s (L.drop n)=none:=by unfold tkW;rw [if_neg (by rw [h];decide)]
theorem Df {s:Bs}{r:List Tk}:W2 s ts=some ((),r)↔tkW s ts=some r:=by
 unfold W2 tkW;split<;>simp
theorem Dg {s:Bs}:W2 s ts=none↔tkW s ts=none:=by
 unfold W2 tkW;split<;>simp
theorem un_neg (hw:isW [45] (L.drop n)=true)(ho:Out L false (unS f (L.drop (n+1))) x n2 b2):Out L false (unS (f+1) (L.drop n)) (.mk 4 0 em 0 false 0 [x]) n2 b2:=
 ho.up (fun _ r h=>by simp only [unS,Mn hw,h]) (fun _ h=>by simp only [unS,Mn hw,h])
theorem un_not (h1:isW [45] (L.drop n)=false)(hw:isW [33] (L.drop n)=true)(ho:Out L false (unS f (L.drop (n+1))) x n2 b2):Out L false (unS (f+1) (L.drop n)) (.mk 5 0 em 0 false 0 [x]) n2 b2:=
 ho.up (fun _ r h=>by simp only [unS,Kk h1,Mn hw,h]) (fun _ h=>by simp only [unS,Kk h1,Mn hw,h])
theorem un_prim (h1:bad=true\/isW [45] (L.drop n)=false)(h2:bad=true\/isW [33] (L.drop n)=false)(ho:Out L bad (Ut f (L.drop n)) x n2 b2):Out L bad (unS (f+1) (L.drop n)) x n2 b2:=
 ho.up (fun a r h=>by simp only [unS,Kk (h1.resolve_left (by rw [a];decide)),Kk (h2.resolve_left (by rw [a];decide)),h]) (fun a h=>by simp only [unS,Kk (h1.resolve_left (by rw [a];decide)),Kk (h2.resolve_left (by rw [a];decide)),h])
theorem prim_par (hw:isW [40] (L.drop n)=true)(ho:Out L false (Vj f 1 (L.drop (n+1))) x n2 b2)(h2:Out L b2 (W2 [41] (L.drop n2)) () n3 b3):Out L false (Ut (f+1) (L.drop n)) x n3 b3:=
 ho.seq h2 (fun _ h=>by simp only [Ut,Mn hw,h]) (fun _ h k=>by simp only [Ut,Mn hw,h,Dg.1 k]) (fun _ h r k=>by simp only [Ut,Mn hw,h,Df.1 k])
theorem Dk (h: ∀ t r,ts=t::r->t.k≠2):Ji ts=none:=by
 cases ts with
 |nil=>rfl
 |cons t r=>exact if_neg (h t r rfl)
theorem Sm {t:Tk}{r:List Tk}(e:ts=t::r)(h:t.k=2):Ji ts=some (t.n,r):=by subst e;exact if_pos h
theorem prim_num (h1:bad=true\/isW [40] (L.drop n)=false)(hlt:n<L.length)(hk:L[n].k=2)(ho:Out L bad (Ji (L.drop n)) z n2 b2):Out L bad (Ut (f+1) (L.drop n)) (.mk 1 z em 0 false 0 []) n2 b2:=
 ho.up (fun a r h=>by simp only [Ut,Kk (h1.resolve_left (by rw [a];decide)),h]) (fun a h=>by rw [Sm (aJ hlt) hk] at h;cases h)
theorem Zq0 (h1:bad=true\/isW [40] (L.drop n)=false)(hk: ∀ h:n<L.length,L[n].k≠2)(ho:Out L bad (Jk (L.drop n)) nm n2 b2)(h2:b2=true\/isW [91] (L.drop n2)=false):Out L bad (Ut (f+1) (L.drop n)) (.mk 2 0 nm 0 false 0 []) n2 b2:=by
 have d:Ji (L.drop n)=none:=Dk fun t r e=>by
  have a:n<L.length:=by rcases dQ n L.length with h|h;exact h;rw [cO h] at e;cases e
  rw [aJ a] at e;cases e;exact hk a
 rcases ho with ⟨c,b,g⟩|⟨c,b⟩
 . refine .inl ⟨c,b,?_⟩;simp only [Ut,Kk (h1.resolve_left (by rw [b];decide)),d,g,Kk (h2.resolve_left (by rw [c];decide))]
 refine .inr ⟨c,?_⟩
 cases hb:bad with
 |true=>exact .inl rfl
 |false=>simp only [Ut,Kk (h1.resolve_left (by rw [hb];decide)),d,b.resolve_left (by rw [hb];decide)];exact .inr trivial
theorem Zq1 (h1:bad=true\/isW [40] (L.drop n)=false)(hk: ∀ h:n<L.length,L[n].k≠2)(ho:Out L bad (Jk (L.drop n)) nm n2 false)(hw:isW [91] (L.drop n2)=true)
 (h3:Out L false (Vj f 1 (L.drop (n2+1))) x n3 b3) (h4:Out L b3 (W2 [93] (L.drop n3)) () n4 b4):Out L bad (Ut (f+1) (L.drop n)) (.mk 3 0 nm 0 false 0 [x]) n4 b4:=by
 have c:Ji (L.drop n)=none:=Dk fun t r e=>by
  have b:n<L.length:=by rcases dQ n L.length with h|h;exact h;rw [cO h] at e;cases e
  rw [aJ b] at e;cases e;exact hk b
 rcases ho with ⟨_,g,d⟩|⟨i,_⟩
 . subst g;have a:=h1.resolve_left (by decide);exact h3.seq h4 (fun _ h=>by simp only [Ut,Kk a,c,d,Mn hw,h]) (fun _ h k=>by simp only [Ut,Kk a,c,d,Mn hw,h,Dg.1 k]) (fun _ h r k=>by simp only [Ut,Kk a,c,d,Mn hw,h,Df.1 k])
 cases i
theorem expr_un (ho:Out L bad (unS f (L.drop n)) x n2 b2):Out L bad (Vj (f+1) 6 (L.drop n)) x n2 b2:=
 ho.up (fun _ r h=>by simp only [Vj,if_pos (show (5:Int)<6 by decide),h]) (fun _ h=>by simp only [Vj,if_pos (show (5:Int)<6 by decide),h])
def More (L:List Tk)(bad:Bool)(S:Option (PEx×List Tk))(g:Nat)(r:Int)(x:PEx)(n:Nat)(b:Bool):Prop:=(b=false/\bad=false/\S=Mu g r x (L.drop n))\/(b=true/\(bad=true\/S=none))
theorem More.first (hr:r<=5)(ho:Out L bad (Vj f (r+1) (L.drop n)) x n1 b1):More L bad (Vj (f+1) r (L.drop n)) f r x n1 b1:=by
 rcases ho with ⟨b,a,c⟩|⟨b,a⟩
 . exact .inl ⟨b,a,by simp only [Vj,if_neg (show ¬ (5:Int)<r by omega),c]⟩
 exact .inr ⟨b,a.imp id fun h=>by simp only [Vj,if_neg (show ¬ (5:Int)<r by omega),h]⟩
theorem More.over (h:More L bad S (g+1) r x n1 b1)(h0:b1=true\/Uh r (L.drop n1)=0):Out L bad S x n1 b1:=by
 rcases h with ⟨a,b,c⟩|⟨a,b⟩
 . exact .inl ⟨a,b,by rw [c];simp only [Mu,if_pos (h0.resolve_left (by rw [a];decide))]⟩
 exact .inr ⟨a,b⟩
theorem More.go (h:More L bad S (g+1) r x n1 false)(h0:Uh r (L.drop n1)≠0)(ho:Out L false (Vj g (r+1) (L.drop (n1+1))) y n2 b2)(h3:r≠3):More L bad S g r (.mk 6 0 em 0 false (Uh r (L.drop n1)) [x,y]) n2 b2:=by
 rcases h with ⟨_,c,a⟩|⟨d,_⟩
 . rcases ho with ⟨k1,_,b⟩|⟨k1,k2⟩
   . exact .inl ⟨k1,c,by rw [a];simp only [Mu,if_neg h0,tail_drop,b,if_neg h3]⟩
   exact .inr ⟨k1,.inr (by rw [a];simp only [Mu,if_neg h0,tail_drop,k2.resolve_left (by decide)])⟩
 cases d
theorem More.three (h:More L bad S (g+1) 3 x n1 false)(h0:Uh 3 (L.drop n1)≠0)(ho:Out L false (Vj g 4 (L.drop (n1+1))) y n2 b2):Out L bad S (.mk 6 0 em 0 false (Uh 3 (L.drop n1)) [x,y]) n2 b2:=by
 rcases h with ⟨_,c,a⟩|⟨d,_⟩
 . rcases ho with ⟨k1,_,b⟩|⟨k1,k2⟩
   . exact .inl ⟨k1,c,by rw [a];simp only [Mu,if_neg h0,tail_drop,show ((3:Int)+1)=4 from rfl,b,if_pos]⟩
   exact .inr ⟨k1,.inr (by rw [a];simp only [Mu,if_neg h0,tail_drop,show ((3:Int)+1)=4 from rfl,k2.resolve_left (by decide)])⟩
 cases d
end
def G5 (G:World)(la:Option Addr)(lc:Nat)(L:List Tk)(f:Nat):Prop:= ∀ {p n:Nat} {q:List HP} {bad:Bool} (r:Nat),Sees q la (L.flatMap tkC)->1<=r->r<=6->n<=L.length->10*(L.length - n)+9<=f+r->
 CallF prog G 201 [.pointer (some ⟨p,0,none⟩),I64 r] (rdH p la lc L n bad::q) (Ret fun v q'=> ∃ (e:Ex) (n':Nat) (bad':Bool),v= .agg (exC e).toArray/\q'=rdH p la lc L n' bad'::exM e::q/\n<=n'/\n'<=L.length/\Out L bad (Vj f r (L.drop n)) e.er n' bad')
abbrev A8 (v0:Nat):=([.pointer (some ⟨v0,0,none⟩)]:List Value)
def RdUn (G:World)(la:Option Addr)(lc:Nat)(L:List Tk)(f:Nat):Prop:= ∀ {p n:Nat} {q:List HP} {bad:Bool},Sees q la (L.flatMap tkC)->n<=L.length->10*(L.length - n)+2<=f->
 CallF prog G 206 (A8 p) (rdH p la lc L n bad::q) (Ret fun v q'=> ∃ (e:Ex) (n':Nat) (bad':Bool),v= .agg (exC e).toArray/\q'=rdH p la lc L n' bad'::exM e::q/\n<=n'/\n'<=L.length/\Out L bad (unS f (L.drop n)) e.er n' bad')
def RdPrim (G:World)(la:Option Addr)(lc:Nat)(L:List Tk)(f:Nat):Prop:= ∀ {p n:Nat} {q:List HP} {bad:Bool},Sees q la (L.flatMap tkC)->n<=L.length->10*(L.length - n)+1<=f->
 CallF prog G 208 (A8 p) (rdH p la lc L n bad::q) (Ret fun v q'=> ∃ (e:Ex) (n':Nat) (bad':Bool),v= .agg (exC e).toArray/\q'=rdH p la lc L n' bad'::exM e::q/\n<=n'/\n'<=L.length/\Out L bad (Ut f (L.drop n)) e.er n' bad')
theorem Uu:(prog.info? 124).map (fun i=>(i.zero,i.size,i.bytes))=some (some (.agg #[I64 0,I64 0,.string ⟨#[]⟩,I64 0,.bool false,I64 0,.slice none 0 0]),7,80):=by kernel_rfl
theorem un_step (IHu:RdUn G la lc L f)(IHp:RdPrim G la lc L f)(hL:Sees q la (L.flatMap tkC))(hn:L.length<=65536)(hnL:n<=L.length)(hfu:10*(L.length - n)+2<=f+1):CallF prog G 206 [.pointer (some ⟨p,0,none⟩)] (rdH p la lc L n bad::q) (Ret fun v q'=> ∃ (e:Ex) (n':Nat) (bad':Bool),v= .agg (exC e).toArray/\q'=rdH p la lc L n' bad'::exM e::q/\n<=n'/\n'<=L.length/\Out L bad (unS (f+1) (L.drop n)) e.er n' bad'):=by
 refine aC func206 ntmps206 rfl fun F cs=> ?_;refine xo 2 ?_;refine bW zeroValue124 fun n1=> ?_
 refine oo 5 ?_;refine Zb call150 leA (Ug (w:= [45]) (hL.le leA) hn) ?_;rintro _ _ (⟨rfl,⟨m,a,r⟩,rfl⟩|⟨rfl,a,rfl⟩)
 . refine oo 5 ?_;refine Zb call206 leA (IHu (hL.le leA) (by omega) (by omega)) ?_;rintro _ _ ⟨⟨k1,z1,i,l1,o1,p1,d,h,w1⟩,m2,b2,rfl,rfl,k,c,b⟩;refine bQ (Yz exC underlying122 Uu rfl rfl Z4 rfl) ?_;rintro _ _ ⟨g,rfl,rfl⟩;refine rn [1,0,1] ?_;subst m;refine Ih (kd:=4) (n:=0) (nm:=em) (slot:=0) (loc:=false) (op:=0) ?_;refine Zq (rdH p la lc L m2 b2::exM (.mk 4 0 em 0 false 0 [(.mk k1 z1 i l1 o1 p1 d h w1)] (some ⟨g,0,none⟩) 1)::q) func206 (rA_ results206) ⟨_,rfl,.mk 4 0 em 0 false 0 [(.mk k1 z1 i l1 o1 p1 d h w1)] (some ⟨g,0,none⟩) 1,m2,b2,rfl,rfl,by omega,c,un_neg a b⟩
 refine oo 7 ?_;refine Zb call150 leA (Ug (w:= [33]) (hL.le leA) hn) ?_;rintro _ _ (⟨rfl,⟨l,j,o⟩,rfl⟩|⟨rfl,j,rfl⟩)
 . refine oo 5 ?_;refine Zb call206 leA (IHu (hL.le leA) (by omega) (by omega)) ?_;rintro _ _ ⟨⟨k1,z1,i,l1,o1,p1,d,h,w1⟩,m2,b2,rfl,rfl,k,c,b⟩;refine bQ (Yz exC underlying122 Uu rfl rfl Z4 rfl) ?_;rintro _ _ ⟨g,rfl,rfl⟩;refine rn [1,0,1] ?_;subst l;replace a:=a.resolve_left (by decide);refine Ih (kd:=5) (n:=0) (nm:=em) (slot:=0) (loc:=false) (op:=0) ?_;refine Zq (rdH p la lc L m2 b2::exM (.mk 5 0 em 0 false 0 [(.mk k1 z1 i l1 o1 p1 d h w1)] (some ⟨g,0,none⟩) 1)::q) func206 (rA_ results206) ⟨_,rfl,.mk 5 0 em 0 false 0 [(.mk k1 z1 i l1 o1 p1 d h w1)] (some ⟨g,0,none⟩) 1,m2,b2,rfl,rfl,by omega,c,un_not a j b⟩
 refine oo 6 ?_;refine Zb call208 leA (IHp (hL.le leA) (by omega) (by omega)) ?_;rintro _ _ ⟨⟨k1,z1,i,l1,o1,p1,d,h,w1⟩,m2,b2,rfl,rfl,k,c,b⟩;refine rn [0,1] ?_;refine Zq (rdH p la lc L m2 b2::exM (.mk k1 z1 i l1 o1 p1 d h w1)::q) func206 (rA_ results206) ⟨_,rfl,(.mk k1 z1 i l1 o1 p1 d h w1),m2,b2,rfl,rfl,k,c,un_prim a j b⟩
theorem Zqe (IHe:G5 G la lc L f)(hL:Sees q la (L.flatMap tkC))(hn:L.length<=65536)(hnL:n<=L.length)(hfu:10*(L.length - n)+1<=f+1):CallF prog G 208 [.pointer (some ⟨p,0,none⟩)] (rdH p la lc L n bad::q) (Ret fun v q'=> ∃ (e:Ex) (n':Nat) (bad':Bool),v= .agg (exC e).toArray/\q'=rdH p la lc L n' bad'::exM e::q/\n<=n'/\n'<=L.length/\Out L bad (Ut (f+1) (L.drop n)) e.er n' bad'):=by
 refine aC func208 ntmps208 rfl fun F cs=> ?_;have x:=Zx (f:=tkC) (sz:=5) (fun _=>rfl) L;refine xo 2 ?_;refine bW zeroValue124 fun n1=> ?_
 refine oo 5 ?_;refine Zb call150 leA (Ug (w:= [40]) (hL.le leA) hn) ?_;rintro _ _ (⟨rfl,⟨e0,a,g0⟩,rfl⟩|⟨rfl,a,rfl⟩)
 . refine oo 5 ?_;refine Zb call201 leA (IHe 1 (hL.le leA) (by omega) (by omega) (by omega) (by omega)) ?_;rintro _ _ ⟨⟨k1,z1,t,l1,o1,p1,r,s,w1⟩,m3,b3,rfl,rfl,c0,o,l⟩;refine bW zeroValue124 fun n2=> ?_
   refine rn [0,4] ?_;refine Zb call149 leA (Ya (w:= [41]) (hL.le leA) hn o) ?_;rintro _ _ ⟨u,b4,rfl,rfl,b0,m,j⟩;refine rn [3,0,0,1] ?_;subst e0;refine Zq (rdH p la lc L u b4::exM (.mk k1 z1 t l1 o1 p1 r s w1)::q) func208 (rA_ results208) ⟨_,rfl,(.mk k1 z1 t l1 o1 p1 r s w1),u,b4,rfl,rfl,by omega,m,prim_par a l j⟩
 refine rn [5,0,1,2,3,4,5,6,7,8,9,10,11] ?_;refine gT 22 rfl ?_ ?_<;>intro y
 focus
  replace y:=sp y;refine rn [12,13,14,15,16,17,18,19] ?_;refine K5 hL (by rw [x];omega) fun b1 o1 e1=> ?_;have a0:=hL;rw [e1] at a0;refine dS 26 (.slice (some ⟨b1,o1,none⟩) L.length lc) rfl (by rw [e1]) ?_;refine rn [20,21,22,23,24,0] ?_;refine xp 35 ?_ ?_<;>intro h2
  . refine xo 4 ?_;refine Zb call151 leA (Kw (hL.le leA) hn hnL) ?_;rintro _ _ ⟨z,m2,b2,rfl,rfl,⟨c,_⟩,d,b⟩;refine rn [1,0,1] ?_;refine bY (Le.ex0 1 z em 0 false 0) ?_;refine Zq (rdH p la lc L m2 b2::exM (.mk 1 z em 0 false 0 [] none 0)::q) func208 (rA_ results208) ⟨_,rfl,.mk 1 z em 0 false 0 [] none 0,m2,b2,rfl,rfl,c,d,prim_num a (by omega) h2 b⟩
  refine xo 5 ?_;refine Zb call148 leA (Jl (hL.le leA) hn hnL) ?_;rintro _ _ ⟨nm,m2,b2,rfl,rfl,⟨c,_⟩,d,b⟩;refine oo 1 ?_;refine bW zeroValue124 fun n2=> ?_
  refine rn [0,5] ?_;have hk: ∀ h:n<L.length,L[n].k≠2:=fun _=>h2
 rotate_left
 focus
  replace y:=sp y;refine rn [12,13,14,15,16,17,18,19,20,21,22,23,24,0,5] ?_;refine Zb call148 leA (Jl (hL.le leA) hn hnL) ?_;rintro _ _ ⟨nm,m2,b2,rfl,rfl,⟨c,_⟩,d,b⟩;refine oo 1 ?_;refine bW zeroValue124 fun n2=> ?_
  refine rn [0,5] ?_;have hk: ∀ h:n<L.length,L[n].k≠2:=fun h=>aR h (by omega)
 all_goals
  refine Zb call150 leA (Ug (w:= [91]) (hL.le leA) hn) ?_;rintro _ _ (⟨rfl,⟨d0,i,f0⟩,rfl⟩|⟨rfl,i,rfl⟩)
  . refine rn [5,0,4] ?_;subst d0;refine Zb call201 leA (IHe 1 (hL.le leA) (by omega) (by omega) (by omega) (by omega)) ?_;rintro _ _ ⟨⟨k1,z1,t,l1,o1,p1,r,s,w1⟩,m3,b3,rfl,rfl,c0,o,l⟩;refine bQ (Yz exC underlying122 Uu rfl rfl Z4 rfl) ?_;rintro _ _ ⟨g,rfl,rfl⟩;refine rn [1,0,3] ?_;refine Zb call149 leA (Ya (w:= [93]) (hL.le leA) hn o) ?_;rintro _ _ ⟨u,b4,rfl,rfl,b0,m,j⟩;refine rn [3,0,0,1] ?_;refine Ih (kd:=3) (n:=0) (nm:=nm) (slot:=0) (loc:=false) (op:=0) ?_;refine Zq (rdH p la lc L u b4::exM (.mk 3 0 nm 0 false 0 [(.mk k1 z1 t l1 o1 p1 r s w1)] (some ⟨g,0,none⟩) 1)::q) func208 (rA_ results208) ⟨_,rfl,.mk 3 0 nm 0 false 0 [(.mk k1 z1 t l1 o1 p1 r s w1)] (some ⟨g,0,none⟩) 1,u,b4,rfl,rfl,by omega,m,Zq1 a hk b i l j⟩
  refine rn [5,0,0,1] ?_;refine bY (Le.ex0 2 0 nm 0 false 0) ?_;refine Zq (rdH p la lc L m2 b2::exM (.mk 2 0 nm 0 false 0 [] none 0)::q) func208 (rA_ results208) ⟨_,rfl,.mk 2 0 nm 0 false 0 [] none 0,m2,b2,rfl,rfl,c,d,Zq0 a hk b i⟩
theorem Zzv {r:Nat}(IHu:RdUn G la lc L f)(IHe: ∀ g,g<=f->G5 G la lc L g)(hL:Sees q la (L.flatMap tkC))(hn:L.length<=65536)(hnL:n<=L.length)(h1r:1<=r)(h6r:r<=6)(hfu:10*(L.length - n)+9<=f+1+r):CallF prog G 201 [.pointer (some ⟨p,0,none⟩),I64 r] (rdH p la lc L n bad::q) (Ret fun v q'=> ∃ (e:Ex) (n':Nat) (bad':Bool),v= .agg (exC e).toArray/\q'=rdH p la lc L n' bad'::exM e::q/\n<=n'/\n'<=L.length/\Out L bad (Vj (f+1) r (L.drop n)) e.er n' bad'):=by
 refine aC func201 ntmps201 rfl fun F cs=> ?_;refine xo 2 ?_;refine bW zeroValue124 fun n1=> ?_
 refine ox 7 ?_;refine xp 8 ?_ ?_<;>intro h0
 . obtain rfl:r=6:=by omega
   refine xo 4 ?_;refine Zb call206 leA (IHu (hL.le leA) (by omega) (by omega)) ?_;rintro _ _ ⟨⟨k1,z1,c,l1,o1,p1,a,b,w1⟩,m2,b2,rfl,rfl,j,m,h⟩;refine rn [0,1] ?_;refine Zq (rdH p la lc L m2 b2::exM (.mk k1 z1 c l1 o1 p1 a b w1)::q) func201 (rA_ results201) ⟨_,rfl,(.mk k1 z1 c l1 o1 p1 a b w1),m2,b2,rfl,rfl,j,m,expr_un h⟩
 have g0:r<=5:=by omega
 refine xo 7 ?_;refine Zb call201 leA (IHe f (aL _) (r+1) (hL.le leA) (by omega) (by omega) (by omega) (by omega)) ?_;rintro _ _ ⟨⟨k1,z1,c,l1,o1,p1,a,b,w1⟩,m2,b2,rfl,rfl,j,m,h⟩;refine bW zeroValue124 fun n2=> ?_
 refine rn [0,3] ?_;have hS:=More.first (by omega) h;generalize Vj (f+1) (r:Int) (L.drop n)=S at hS|-;refine aY (cG (fun (s:Ex×Nat×Bool×Nat)=>n<=s.2.1/\s.2.1<=L.length/\s.2.2.2<=f/\10*(L.length - s.2.1)+1<=s.2.2.2/\More L bad S s.2.2.2 r s.1.er s.2.1 s.2.2.1) (fun s=> [(0,.pointer (some ⟨p,0,none⟩)),(1,I64 r),(4,pt n1),(5,pt n2)]) (fun s=>rdH p la lc L s.2.1 s.2.2.1::pto n2 (.cells (exC s.1).toArray 124 (0,0))::pto n1 (.cells zz4.toArray 124 (0,0))::exM s.1::(q++F)) (fun s=>L.length - s.2.1) (fun s t ih=> ?_) ((.mk k1 z1 c l1 o1 p1 a b w1),m2,b2,f) ⟨j,m,aL _,by dsimp only;omega,hS⟩) Zu leA;try dsimp only at t ih|-
 obtain ⟨b0,a0,f0,e0,l⟩:=t;obtain ⟨⟨k1,z1,c,l1,o1,p1,a,b,w1⟩,d,b1,g⟩:=s;dsimp only at*;clear h hS;obtain ⟨g,rfl⟩: ∃ g2,g=g2+1:=⟨g - 1,by omega⟩;refine xo 5 ?_;refine aO call207 (Xm (n:=d) (bad:=b1) (r:=(r:Int)) Qu (hL.le leA) hn) ?_;refine ox 2 ?_;refine xp 18 ?_ ?_<;>intro i
 . obtain rfl:b1=false:=by cases b1 with|false=>rfl|true=>(rw [if_pos rfl] at i;exact aR i (by decide))
   replace i:Uh r (L.drop d)≠0:=fun k=>by rw [if_neg (by decide),k] at i;exact aR i (by decide)
   have d0:=C8 i;refine xo 7 ?_;refine aO call207 (Xm (n:=d) (bad:=false) (r:=(r:Int)) Qu (hL.le leA) hn) ?_;refine bA 21 (I64 (Uh r (L.drop d):Nat)) rfl (rfl) ?_;refine rn [7,0,3,0,2,0,1,2,3,4,5] ?_;refine Wy 5 call201 leA (IHe g (by omega) (r+1) (n:=d+1) (bad:=false) (hL.le leA) (by omega) (by omega) (by omega) (by omega)) ?_;rintro _ _ ⟨⟨k2,x,s2,l2,o2,p2,y,u2,z⟩,m3,b3,rfl,rfl,c0,w,o⟩;refine ⟨hlA,?_⟩;refine fC 6 rfl (Ef.litR2 (u:=(.mk k1 z1 c l1 o1 p1 a b w1)) (v:=(.mk k2 x s2 l2 o2 p2 y u2 z)) exC underlying122 Uu rfl rfl Z4 rfl rfl) ?_;rintro _ _ ⟨g3,rfl,rfl⟩;refine ⟨trivial,?_⟩;refine rn [8,9,0,5] ?_;refine X.fzE2 (kd:=6) (n:=0) (nm:=em) (slot:=0) (loc:=false) (op:=(Uh r (L.drop d):Nat)) ?_;refine xp 38 ?_ ?_<;>intro h3
   . obtain rfl:r=3:=by omega
     refine rn [3,0,0,1] ?_;refine Zq (rdH p la lc L m3 b3::exM (.mk 6 0 em 0 false (Uh (3:Nat) (L.drop d):Nat) [(.mk k1 z1 c l1 o1 p1 a b w1),(.mk k2 x s2 l2 o2 p2 y u2 z)] (some ⟨g3,0,none⟩) 2)::q) func201 (rA_ results201) ⟨_,rfl,(.mk 6 0 em 0 false (Uh (3:Nat) (L.drop d):Nat) [(.mk k1 z1 c l1 o1 p1 a b w1),(.mk k2 x s2 l2 o2 p2 y u2 z)] (some ⟨g3,0,none⟩) 2),m3,b3,rfl,rfl,by omega,w,l.three i o⟩
   refine xx 3 ?_;refine aY (ih ((.mk 6 0 em 0 false (Uh r (L.drop d):Nat) [(.mk k1 z1 c l1 o1 p1 a b w1),(.mk k2 x s2 l2 o2 p2 y u2 z)] (some ⟨g3,0,none⟩) 2),m3,b3,g) ⟨by dsimp only;omega,w,by dsimp only;omega,by dsimp only;omega,l.go i o (by omega)⟩ (by dsimp only;omega)) Zu leA
 refine rn [4,0,0,1] ?_;refine Zq (rdH p la lc L d b1::exM (.mk k1 z1 c l1 o1 p1 a b w1)::q) func201 (rA_ results201) ⟨_,rfl,(.mk k1 z1 c l1 o1 p1 a b w1),d,b1,rfl,rfl,b0,a0,l.over (by cases b1 with|true=>exact .inl rfl|false=>rw [if_neg (by decide)] at i;exact .inr (by omega))⟩
theorem Zqi (hn:L.length<=65536): ∀ f,G5 G la lc L f/\RdUn G la lc L f/\RdPrim G la lc L f:=by
 intro f
 induction f using Nat.strongRecOn with
 |ind f ih=>
  cases f with
  |zero=>exact ⟨fun r c e d a b=>by omega,fun c a b=>by omega,fun c a b=>by omega⟩
  |succ f=>
   have h:=ih f (gC _);exact ⟨fun r c e d a b=>Zzv h.2.1 (fun g i=>(ih g (by omega)).1) c hn a e d b,fun c a b=>un_step h.2.1 h.2.2 c hn a b,fun c a b=>Zqe h.1 c hn a b⟩
def Ex.z:Ex:= .mk 0 0 em 0 false 0 [] none 0
section
variable {e ix:Ex}{body els:List Stm}{ln cl:Int}{wt:ByteArray}{ba:Option Addr}{bc:Nat}{ea:Option Addr}{ec:Nat}{id slot other:Int}{loc:Bool}
theorem Kn.exz:Kn q fun M=>Ex.z.At M:=fun M _ _=>⟨SlAt.nil M,trivial⟩
theorem Of:Kn q fun M=>BlkAt M none 0 []:=fun M _ _=>⟨SlAt.nil M,trivial⟩
theorem Kn.st (he:Kn q fun M=>e.At M:=by first|exact Kn.exz|exact knA)(hx:Kn q fun M=>ix.At M:=by first|exact Kn.exz|exact knA)(hb:Kn q fun M=>BlkAt M ba bc body:=by first|exact Of|exact knA)(hl:Kn q fun M=>BlkAt M ea ec els:=by first|exact Of|exact knA):
 Kn q fun M=>(Stm.mk k ln cl nm wt e ix body els ba bc ea ec id slot other loc).At M:=fun M x p=>⟨he M x p,hx M x p,hb M x p,(hl M x p).1,(hl M x p).2⟩
abbrev jA:=@Kn.st
theorem Qx {p:PE}(s:Stm)(h:Kn q fun M=>s.At M)(K:X P G fr Q todo p ds cs (stM s::q)):X P G fr Q todo p ds cs q:= .le (cZ h) K
end
theorem X.sts {p:PE}{q1 q2:List HP}{l:List Stm}{s:Stm}(h1:Le q (stsM l::q1))(h2:Le q1 (stM s::q2))(K:X P G fr Q todo p ds cs (stsM (l++ [s])::q2)):X P G fr Q todo p ds cs q:= .le (h1.trans ((dD _ h2).trans H5)) K
theorem Ry (l m:List Stm):Zj (l++m)=Zj l++Zj m:=by simp [Yf]
theorem N5 {W:List Bs}{ts:List Tk}: ∀ {k:Nat},Jw W ts k<=k
 |0=>aL _
 |k+1=>by unfold Jw;split;exact aL _;exact Nat.le_succ_of_le N5
theorem Dp {W:List Bs}{L:List Tk}{n:Nat}: ∀ {k:Nat},Jw W (L.drop n) k≠0->n<L.length
 |0,h=>aR rfl h
 |k+1,h=>by
  unfold Jw at h;split at h
  . rename_i g;exact Si g.2
  exact Dp h
theorem baNil (w:Bs):(ba w).toList=(ByteArray.mk #[]).toList↔w= []:=by rw [sEq,V3];exact Iff.rfl
section
variable {b:Bool}{m m2:Nat}{s:PStm}{p:Int×Int}
theorem stmt_0 (hk:bad=true\/Vc (L.drop n)=0)(ho:Out L bad (Jk (L.drop n)) nm m2 b2)(hr:Out L b2 (Ud f 0 (Zc (L.drop n)) nm (L.drop m2)) s m b):Out L bad (U8 (f+1) (L.drop n)) s m b:=by
 cases bad with
 |true=>
  have c:=ho.isBad;subst c;have a:=hr.isBad;subst a;exact .any
 |false=>
  have hk:=hk.resolve_left (by decide);rw [U8,hk,if_neg (by decide),if_neg (by decide),if_neg (by decide)];exact ho.bnd hr
theorem Bh (h0:Vc (L.drop n)≠0)(h1:Vc (L.drop n)≠4/\Vc (L.drop n)≠5/\Vc (L.drop n)≠14/\Vc (L.drop n)≠15)(ho:Out L false (Jk (L.drop (n+1))) nm m2 b2)(hr:Out L b2 (Ud f (Vc (L.drop n)) (Zc (L.drop n)) nm (L.drop m2)) s m b):Out L false (U8 (f+1) (L.drop n)) s m b:=by
 rw [U8,if_neg (by omega),if_neg (by omega),if_pos (by omega),tail_drop];exact ho.bnd hr
theorem stmt_j (h1:Vc (L.drop n)=14\/Vc (L.drop n)=15)(hr:Out L false (Ud f (Vc (L.drop n)) (Zc (L.drop n)) em (L.drop (n+1))) s m b):Out L false (U8 (f+1) (L.drop n)) s m b:=by
 rw [U8,if_neg (by omega),if_pos h1,tail_drop];exact hr
theorem rest_0 {l:Option (PStm×List Tk)}(hw:b2=true\/isW [91] (L.drop m2)=false)(e:l=bnd (W2 [61] (L.drop m2)) fun _ r=>bnd (Vj f 1 r) fun e r=>bnd (W2 [59] r) fun _ r=>some (.mk 2 p.1 p.2 nm em e .z [] [] 0 0 0 false,r))(hr:Out L b2 l s m b):Out L b2 (Ud f 0 p nm (L.drop m2)) s m b:=by
 subst e
 cases b2 with
 |true=>have h:=hr.isBad;subst h;exact .any
 |false=>rw [Ud,if_pos rfl,if_neg (by rw [hw.resolve_left (by decide)];decide)];exact hr
def MoreB (L:List Tk)(bad:Bool)(S:Option (List PStm×List Tk))(g:Nat)(l:List PStm)(n:Nat)(b:Bool):Prop:=(b=false/\bad=false/\S=(We g (L.drop n)).map fun x=>(l++x.1,x.2))\/(b=true/\(bad=true\/S=none))
theorem MoreB.first (S:Option (List PStm×List Tk))(e:bad=false->S=We f (L.drop n)):MoreB L bad S f [] n bad:=by
 cases bad with
 |true=>exact .inr ⟨rfl,.inl rfl⟩
 |false=>exact .inl ⟨rfl,rfl,by rw [e rfl];cases We f (L.drop n)<;>rfl⟩
theorem MoreB.over (h:MoreB L bad S f l n b)(hg:b=false->0<f)(h0:b=true\/isW [125] (L.drop n)=true):Out L bad S l n b:=by
 rcases h with ⟨a,c,d⟩|⟨a,c⟩
 . obtain ⟨g,rfl⟩: ∃ g,f=g+1:=⟨f - 1,by have:=hg a;omega⟩;exact .inl ⟨a,c,by rw [d,We,if_pos (h0.resolve_left (by rw [a];decide))];simp⟩
 exact .inr ⟨a,c⟩
theorem MoreB.go (h:MoreB L bad S (f+1) l n false)(h0:isW [125] (L.drop n)=false)(ho:Out L false (U8 f (L.drop n)) s m b):MoreB L bad S f (l++ [s]) m b:=by
 rcases h with ⟨_,d,a⟩|⟨e,_⟩
 . rcases ho with ⟨k1,_,c⟩|⟨k1,k2⟩
   . refine .inl ⟨k1,d,?_⟩;rw [a,We,if_neg (by rw [h0];decide),c];simp only [bnd]
     cases We f (L.drop m)<;>simp [bnd]
   refine .inr ⟨k1,.inr ?_⟩;rw [a,We,if_neg (by rw [h0];decide),k2.resolve_left (by decide)];rfl
 cases e
theorem name_adv (ho:Out L bad (Jk (L.drop n)) nm m2 false)(h:m2<=L.length):n<m2:=by
 rcases ho with ⟨_,_,e⟩|⟨e,_⟩
 . rcases dQ n L.length with a|b
   . rw [Db a] at e;split at e
     . have:=bK List.length (kJ (gN e)).2;simp at this;omega
     cases e
   rw [Fx b] at e;cases e
 cases e
theorem adv0 {sp:Option (PStm×List Tk)}(ho:Out L bad (Jk (L.drop n)) nm m2 b2)(hr:Out L b2 sp s m b)(hb:b=false)(h:m2<=L.length):n<m2:=by
 subst hb;rcases hr with ⟨_,e,_⟩|⟨e,_⟩
 . subst e;exact name_adv ho h
 cases e
end
def RdStmt (G:World)(la:Option Addr)(lc:Nat)(L:List Tk)(f:Nat):Prop:= ∀ {p n:Nat} {q:List HP} {bad:Bool},Sees q la (L.flatMap tkC)->n<=L.length->10*(L.length - n)+11<=f->
 CallF prog G 181 (A8 p) (rdH p la lc L n bad::q) (Ret fun v q'=> ∃ (s:Stm) (n':Nat) (bad':Bool),v= .agg (stC s).toArray/\q'=rdH p la lc L n' bad'::stM s::q/\(n<=n'/\(bad'=false->n<n'))/\n'<=L.length/\Out L bad (U8 f (L.drop n)) s.er n' bad')
def X2 (G:World)(la:Option Addr)(lc:Nat)(L:List Tk)(f:Nat):Prop:= ∀ {p n:Nat} {q:List HP} {bad:Bool},Sees q la (L.flatMap tkC)->n<=L.length->10*(L.length - n)+13<=f->
 CallF prog G 152 (A8 p) (rdH p la lc L n bad::q) (Ret fun v q'=> ∃ (a:Option Addr) (c:Nat) (l:List Stm) (n':Nat) (bad':Bool),v= .slice a l.length c/\q'=rdH p la lc L n' bad'::blM a c l::q/\n<=n'/\n'<=L.length/\Out L bad (Ke f (L.drop n)) (Zj l) n' bad')
theorem V7:(prog.info? 126).map (fun i=>(i.zero,i.size,i.bytes))=some (some (.agg #[I64 0,I64 0,I64 0,.string ⟨#[]⟩,.string ⟨#[]⟩,I64 0,I64 0,.string ⟨#[]⟩,I64 0,.bool false,I64 0,.slice none 0 0,I64 0,I64 0,.string ⟨#[]⟩,I64 0,.bool false,I64 0,.slice none 0 0,.slice none 0 0,.slice none 0 0,I64 0,I64 0,I64 0,.bool false]),25,296):=by kernel_rfl
theorem kinds_ok:CallF prog G 200 [] ([]) (Ret fun v q'=> ∃ g,v= .slice (some ⟨g,0,none⟩) 16 16/\q'= [lsH (fun w:Bs=>Value.string (ba w)) 9 (some ⟨g,0,none⟩) 16 kindL]):=by
 refine aC func200 ntmps200 rfl fun F cs=> ?_;refine xo 6 ?_;refine bQ (Yp (fun w:Bs=>Value.string (ba w)) kindL underlying25 Wh rfl rfl rfl rfl rfl rfl (fun _=>rfl)) ?_;rintro _ _ ⟨g,rfl,rfl⟩;refine ox 2 ?_;refine Zq [lsH (fun w:Bs=>Value.string (ba w)) 9 (some ⟨g,0,none⟩) 16 kindL] func200 (Zn results200 rfl) ⟨_,rfl,g,rfl,rfl⟩
abbrev AR :=((.cells zz2.toArray 126 (0,0)):Obj)
theorem Zqm (hE:G5 G la lc L f)(hB:X2 G la lc L f)(hL:Sees q la (L.flatMap tkC))(hn:L.length<=65536)(hnL:n<=L.length)(hfu:10*(L.length - n)+11<=f+1):CallF prog G 181 [.pointer (some ⟨p,0,none⟩)] (rdH p la lc L n bad::q) (Ret fun v q'=> ∃ (s:Stm) (n':Nat) (bad':Bool),v= .agg (stC s).toArray/\q'=rdH p la lc L n' bad'::stM s::q/\(n<=n'/\(bad'=false->n<n'))/\n'<=L.length/\Out L bad (U8 (f+1) (L.drop n)) s.er n' bad'):=by
 refine aC func181 ntmps181 rfl fun F cs=> ?_;obtain ⟨K,hK⟩: ∃ K:Nat->Nat,K=fun j=>if bad=true then 0 else Jw kindL (L.drop n) j:=⟨_,rfl⟩
 refine xo 2 ?_;refine bW zeroValue126 fun n1=> ?_
 refine oo 4 ?_;refine Zb call146 leA (pos_ok (hL.le leA) hn) ?_;rintro _ _ ⟨rfl,rfl⟩;refine oo 1 ?_;refine bW zeroValue126 fun n2=> ?_
 refine rn [0,3] ?_;refine W3 call200 (kinds_ok) ?_;refine kd1 fun gk=> ?_
 refine ox 8 ?_;have m0:K 0=0:=by rw [hK];cases bad<;>rfl
 refine aY (cG (fun (s:Nat)=>s<=15) (fun s=> [(0,.pointer (some ⟨p,0,none⟩)),(2,pt n1),(3,pt n2),(4,.slice (some ⟨gk,0,none⟩) 16 16),(5,I64 ((s+1:Nat):Int))]) (fun s=>rdH p la lc L n bad::pto n2 (.cells (stC (.mk (K s) (Zc (L.drop n)).1 (Zc (L.drop n)).2 em em .z .z [] [] none 0 none 0 0 0 0 false)).toArray 126 (0,0))::pto n1 AR::lsH (fun w:Bs=>Value.string (ba w)) 9 (some ⟨gk,0,none⟩) 16 kindL::(q++F)) (fun s=>15 - s) (fun s e0 ih=> ?_) 0 (by omega)) Zu (by rw [m0];exact leA);try dsimp only at e0 ih|-
 obtain hs:=e0;refine xx 8 ?_;refine xp 14 ?_ ?_<;>intro h0
 . have c0:s+1<kindL.length:=by show s+1<16;omega
   refine xo 9 ?_;refine ld ?_ (hc:=(jN (n:=s+1) (bR _) Zk c0 rfl));refine oo 2 ?_;refine Zf [22,0,2,3,4,5] ?_;apply Zp 7 29 22 rfl
   . intro g1 M1;have h1:=sp g1;refine oo 4 ?_;refine ld ?_ (hc:=(jN (n:=s+1) (bR _) Zk c0 rfl));refine aO call147 (Px (n:=n) (bad:=bad) (s:=ba kindL[s+1]) Qu (hL.le leA) hn) ?_;refine oo 1 ?_;exact Zz M1 ⟨Wq g1,Zv⟩
   . intro g1 M1;have h1:=sp g1;refine oo 7 ?_;exact Zz M1 ⟨Wz g1,Zv⟩
   refine ox 1 ?_;refine xp 29 ?_ ?_<;>intro h1
   . refine rn [4,0,7] ?_;have g0:K (s+1)=s+1:=by rw [hK];dsimp only;rw [V3,<-gD (d:= []) c0,baNil] at h1;rw [if_neg (by rw [h1.2.1];decide),Jw,if_pos ⟨h1.1,h1.2.2⟩]
     refine aY (ih (s+1) (by omega) (by omega)) Zu (by rw [g0];exact leA)
   refine xx 8 ?_;have g0:K (s+1)=K s:=by rw [hK];dsimp only;rw [V3,<-gD (d:= []) c0,baNil] at h1;cases bad with|true=>rfl|false=>rw [if_neg (by decide),if_neg (by decide),Jw,if_neg (fun k=>by simp_all)]
   refine aY (ih (s+1) (by omega) (by omega)) Zu (by rw [g0];exact leA)
 obtain rfl:s=15:=by omega
 obtain ⟨k,hk⟩: ∃ k,K 15=k:=⟨_,rfl⟩;rw [hk];rw [hK] at hk;dsimp only at hk;clear ih hK m0 e0 h0;have s0:k<=15:=by rw [<-hk];cases bad;exact N5;exact bB _
 have k0:k≠0->bad=false/\Vc (L.drop n)=k/\n<L.length:=fun h=>by cases bad with|true=>exact aR hk.symm h|false=>exact ⟨rfl,hk,Dp (by rw [show Jw kindL (L.drop n) 15=k from hk];exact h)⟩
 have f0:k=0\/k=1\/k=8\/k=12\/k=11\/k=15\/k=14\/(k=4\/k=5)\/(k=2\/k=3\/k=6\/k=7\/k=9\/k=10\/k=13):=by omega
 rcases f0 with rfl|rfl|rfl|rfl|rfl|rfl|rfl|f0|f0
 . have l0:bad=true\/Vc (L.drop n)=0:=by cases bad;exact .inr hk;exact .inl rfl
   refine rn [5,0,8,1035,8,1045,4,1048,8,2067,4,2070,3] ?_;refine Zb call148 leA (Jl (n:=n) (hL.le leA) hn hnL) ?_;rintro _ _ ⟨nm,m2,b2,rfl,rfl,⟨b0,_⟩,l,b⟩;refine rn [1,0,12,2075,4,0,5] ?_;refine Zb call150 leA (Ug (w:= [91]) (n:=m2) (hL.le leA) hn) ?_;rintro _ _ (⟨rfl,⟨hb,hw,j0⟩,rfl⟩|⟨rfl,hw,rfl⟩)
   . subst hb;refine rn [5,0,4] ?_;refine Zb call201 leA (hE 1 (n:=(m2+1)) (hL.le leA) (by omega) (by omega) (by omega) (by omega)) ?_;rintro _ _ ⟨⟨k1,z1,i,l1,o1,p1,e,g,w1⟩,t,b3,rfl,rfl,x,c,a⟩;refine rn [1,0,3] ?_;refine Zb call149 leA (Ya (w:= [93]) (n:=t) (hL.le leA) hn c) ?_;rintro _ _ ⟨u,b4,rfl,rfl,y,r,m⟩;refine oo 4 ?_;refine Zb call149 leA (Ya (w:= [61]) (n:=u) (hL.le leA) hn r) ?_;rintro _ _ ⟨m5,b5,rfl,rfl,i0,d0,a0⟩;refine oo 3 ?_;refine Zb call201 leA (hE 1 (n:=m5) (hL.le leA) (by omega) (by omega) (by omega) (by omega)) ?_;rintro _ _ ⟨⟨k2,z2,s2,l2,o2,p2,y2,u2,w2⟩,m6,b6,rfl,rfl,u0,r0,o0⟩;refine rn [1,0,5] ?_;refine Zb call149 leA (Ya (w:= [59]) (n:=m6) (hL.le leA) hn r0) ?_;rintro _ _ ⟨m7,b7,rfl,rfl,t0,q0,n0⟩;refine rn [3,0,0,1] ?_;have hr:Out L false (Ud f 0 (Zc (L.drop n)) nm (L.drop m2)) (Stm.er (.mk 3 (Zc (L.drop n)).1 (Zc (L.drop n)).2 nm em (.mk k2 z2 s2 l2 o2 p2 y2 u2 w2) (.mk k1 z1 i l1 o1 p1 e g w1) [] [] none 0 none 0 0 0 0 false)) m7 b7:=(by rw [Ud,if_pos rfl,if_pos hw,tail_drop];exact a.bnd (m.bnd (a0.bnd (o0.bnd (n0.bnd .ret)))));refine Qx (.mk 3 (Zc (L.drop n)).1 (Zc (L.drop n)).2 nm em (.mk k2 z2 s2 l2 o2 p2 y2 u2 w2) (.mk k1 z1 i l1 o1 p1 e g w1) [] [] none 0 none 0 0 0 0 false) jA ?_;refine Zq (rdH p la lc L m7 b7::stM (.mk 3 (Zc (L.drop n)).1 (Zc (L.drop n)).2 nm em (.mk k2 z2 s2 l2 o2 p2 y2 u2 w2) (.mk k1 z1 i l1 o1 p1 e g w1) [] [] none 0 none 0 0 0 0 false)::q) func181 (rA_ results181) ⟨_,rfl,(.mk 3 (Zc (L.drop n)).1 (Zc (L.drop n)).2 nm em (.mk k2 z2 s2 l2 o2 p2 y2 u2 w2) (.mk k1 z1 i l1 o1 p1 e g w1) [] [] none 0 none 0 0 0 0 false),m7,b7,rfl,rfl,⟨by omega,fun hb=>by have:=adv0 b hr hb l;omega⟩,q0,stmt_0 l0 b hr⟩
   refine oo 6 ?_;refine Zb call149 leA (Ya (w:= [61]) (n:=m2) (hL.le leA) hn l) ?_;rintro _ _ ⟨t,b3,rfl,rfl,x,c,a⟩;refine oo 3 ?_;refine Zb call201 leA (hE 1 (n:=t) (hL.le leA) (by omega) (by omega) (by omega) (by omega)) ?_;rintro _ _ ⟨⟨k1,z1,i,l1,o1,p1,e,g,w1⟩,u,b4,rfl,rfl,y,r,m⟩;refine rn [1,0,5] ?_;refine Zb call149 leA (Ya (w:= [59]) (n:=u) (hL.le leA) hn r) ?_;rintro _ _ ⟨m5,b5,rfl,rfl,i0,d0,a0⟩;refine rn [3,0,0,1] ?_;have hr:Out L b2 (Ud f 0 (Zc (L.drop n)) nm (L.drop m2)) (Stm.er (.mk 2 (Zc (L.drop n)).1 (Zc (L.drop n)).2 nm em (.mk k1 z1 i l1 o1 p1 e g w1) .z [] [] none 0 none 0 0 0 0 false)) m5 b5:=rest_0 hw rfl (a.bnd (m.bnd (a0.bnd .ret)));refine Qx (.mk 2 (Zc (L.drop n)).1 (Zc (L.drop n)).2 nm em (.mk k1 z1 i l1 o1 p1 e g w1) .z [] [] none 0 none 0 0 0 0 false) jA ?_;refine Zq (rdH p la lc L m5 b5::stM (.mk 2 (Zc (L.drop n)).1 (Zc (L.drop n)).2 nm em (.mk k1 z1 i l1 o1 p1 e g w1) .z [] [] none 0 none 0 0 0 0 false)::q) func181 (rA_ results181) ⟨_,rfl,(.mk 2 (Zc (L.drop n)).1 (Zc (L.drop n)).2 nm em (.mk k1 z1 i l1 o1 p1 e g w1) .z [] [] none 0 none 0 0 0 0 false),m5,b5,rfl,rfl,⟨by omega,fun hb=>by have:=adv0 b hr hb l;omega⟩,d0,stmt_0 l0 b hr⟩
 iterate 4
  focus
   obtain ⟨rfl,o,p0⟩:=k0 (by omega);refine rn [5,0,8,2035,5,0,3,0,7,1045,4,1048,8,2067,4,2070,3] ?_;refine Zb call148 leA (Jl (n:=(n+1)) (hL.le leA) hn (by omega)) ?_;rintro _ _ ⟨nm,m2,b2,rfl,rfl,⟨b0,_⟩,l,b⟩;refine rn [1,0,12,1075,6] ?_
  rotate_left
 iterate 4
  focus
   obtain ⟨rfl,o,p0⟩:=k0 (by omega);refine rn [5,0,8,2035,5,0,3,0,7] ?_
  rotate_left
 . refine rn [2091,4] ?_;refine Zb call149 leA (Ya (w:= [61]) (n:=m2) (hL.le leA) hn l) ?_;rintro _ _ ⟨t,b3,rfl,rfl,x,c,a⟩;refine oo 3 ?_;refine Zb call201 leA (hE 1 (n:=t) (hL.le leA) (by omega) (by omega) (by omega) (by omega)) ?_;rintro _ _ ⟨⟨k1,z1,i,l1,o1,p1,e,g,w1⟩,u,b4,rfl,rfl,y,r,m⟩;refine rn [1,0,5] ?_;refine Zb call149 leA (Ya (w:= [59]) (n:=u) (hL.le leA) hn r) ?_;rintro _ _ ⟨m5,b5,rfl,rfl,i0,d0,a0⟩;refine rn [3,0,0,1] ?_;refine Qx (.mk (1:Nat) (Zc (L.drop n)).1 (Zc (L.drop n)).2 nm em (.mk k1 z1 i l1 o1 p1 e g w1) .z [] [] none 0 none 0 0 0 0 false) jA ?_;refine Zq (rdH p la lc L m5 b5::stM (.mk (1:Nat) (Zc (L.drop n)).1 (Zc (L.drop n)).2 nm em (.mk k1 z1 i l1 o1 p1 e g w1) .z [] [] none 0 none 0 0 0 0 false)::q) func181 (rA_ results181) ⟨_,rfl,(.mk (1:Nat) (Zc (L.drop n)).1 (Zc (L.drop n)).2 nm em (.mk k1 z1 i l1 o1 p1 e g w1) .z [] [] none 0 none 0 0 0 0 false),m5,b5,rfl,rfl,⟨by omega,fun _=>by omega⟩,d0,Bh (by omega) (by omega) b (by rw [o,Ud,if_neg (by decide),if_pos (by decide)];exact a.bnd (m.bnd (a0.bnd .ret)))⟩
 . refine rn [1091,7,2098,5] ?_;refine Zb call148 leA (Jl (n:=m2) (hL.le leA) hn l) ?_;rintro _ _ ⟨wt,t,b3,rfl,rfl,⟨x,_⟩,c,a⟩;refine rn [1,0,5] ?_;refine Zb call149 leA (Ya (w:= [59]) (n:=t) (hL.le leA) hn c) ?_;rintro _ _ ⟨u,b4,rfl,rfl,y,r,m⟩;refine rn [3,0,0,1] ?_;refine Qx (.mk (8:Nat) (Zc (L.drop n)).1 (Zc (L.drop n)).2 nm wt .z .z [] [] none 0 none 0 0 0 0 false) jA ?_;refine Zq (rdH p la lc L u b4::stM (.mk (8:Nat) (Zc (L.drop n)).1 (Zc (L.drop n)).2 nm wt .z .z [] [] none 0 none 0 0 0 0 false)::q) func181 (rA_ results181) ⟨_,rfl,(.mk (8:Nat) (Zc (L.drop n)).1 (Zc (L.drop n)).2 nm wt .z .z [] [] none 0 none 0 0 0 0 false),u,b4,rfl,rfl,⟨by omega,fun _=>by omega⟩,r,Bh (by omega) (by omega) b (by rw [o,Ud,if_neg (by decide),if_neg (by decide),if_pos (by decide)];exact a.bnd (m.bnd .ret))⟩
 . refine rn [1091,7,1098,5,2098,3] ?_;refine Zb call148 leA (Jl (n:=m2) (hL.le leA) hn l) ?_;rintro _ _ ⟨wt,t,b3,rfl,rfl,⟨x,_⟩,c,a⟩;refine rn [1,0,5] ?_;refine Zb call149 leA (Ya (w:= [59]) (n:=t) (hL.le leA) hn c) ?_;rintro _ _ ⟨u,b4,rfl,rfl,y,r,m⟩;refine rn [3,0,0,1] ?_;refine Qx (.mk (12:Nat) (Zc (L.drop n)).1 (Zc (L.drop n)).2 nm wt .z .z [] [] none 0 none 0 0 0 0 false) jA ?_;refine Zq (rdH p la lc L u b4::stM (.mk (12:Nat) (Zc (L.drop n)).1 (Zc (L.drop n)).2 nm wt .z .z [] [] none 0 none 0 0 0 0 false)::q) func181 (rA_ results181) ⟨_,rfl,(.mk (12:Nat) (Zc (L.drop n)).1 (Zc (L.drop n)).2 nm wt .z .z [] [] none 0 none 0 0 0 0 false),u,b4,rfl,rfl,⟨by omega,fun _=>by omega⟩,r,Bh (by omega) (by omega) b (by rw [o,Ud,if_neg (by decide),if_neg (by decide),if_pos (by decide)];exact a.bnd (m.bnd .ret))⟩
 . refine rn [1091,7,1098,5,1098,7,2104,5] ?_;refine Zb call201 leA (hE 1 (n:=m2) (hL.le leA) (by omega) (by omega) (by omega) (by omega)) ?_;rintro _ _ ⟨⟨k1,z1,i,l1,o1,p1,e,g,w1⟩,t,b3,rfl,rfl,x,c,a⟩;refine rn [1,0,5] ?_;refine Zb call149 leA (Ya (w:= [59]) (n:=t) (hL.le leA) hn c) ?_;rintro _ _ ⟨u,b4,rfl,rfl,y,r,m⟩;refine rn [3,0,0,1] ?_;refine Qx (.mk (11:Nat) (Zc (L.drop n)).1 (Zc (L.drop n)).2 nm em (.mk k1 z1 i l1 o1 p1 e g w1) .z [] [] none 0 none 0 0 0 0 false) jA ?_;refine Zq (rdH p la lc L u b4::stM (.mk (11:Nat) (Zc (L.drop n)).1 (Zc (L.drop n)).2 nm em (.mk k1 z1 i l1 o1 p1 e g w1) .z [] [] none 0 none 0 0 0 0 false)::q) func181 (rA_ results181) ⟨_,rfl,(.mk (11:Nat) (Zc (L.drop n)).1 (Zc (L.drop n)).2 nm em (.mk k1 z1 i l1 o1 p1 e g w1) .z [] [] none 0 none 0 0 0 0 false),u,b4,rfl,rfl,⟨by omega,fun _=>by omega⟩,r,Bh (by omega) (by omega) b (by rw [o,Ud,if_neg (by decide),if_neg (by decide),if_neg (by decide),if_pos (by decide)];exact a.bnd (m.bnd .ret))⟩
 . refine rn [1045,4,1048,8,2067,4,1070,13,1075,6,1091,7,1098,5,1098,7,1104,5,2104,3] ?_;refine Zb call201 leA (hE 1 (n:=(n+1)) (hL.le leA) (by omega) (by omega) (by omega) (by omega)) ?_;rintro _ _ ⟨⟨k1,z1,i,l1,o1,p1,e,g,w1⟩,m2,b2,rfl,rfl,b0,l,b⟩;refine rn [1,0,5] ?_;refine Zb call149 leA (Ya (w:= [59]) (n:=m2) (hL.le leA) hn l) ?_;rintro _ _ ⟨t,b3,rfl,rfl,x,c,a⟩;refine rn [3,0,0,1] ?_;refine Qx (.mk (15:Nat) (Zc (L.drop n)).1 (Zc (L.drop n)).2 em em (.mk k1 z1 i l1 o1 p1 e g w1) .z [] [] none 0 none 0 0 0 0 false) jA ?_;refine Zq (rdH p la lc L t b3::stM (.mk (15:Nat) (Zc (L.drop n)).1 (Zc (L.drop n)).2 em em (.mk k1 z1 i l1 o1 p1 e g w1) .z [] [] none 0 none 0 0 0 0 false)::q) func181 (rA_ results181) ⟨_,rfl,(.mk (15:Nat) (Zc (L.drop n)).1 (Zc (L.drop n)).2 em em (.mk k1 z1 i l1 o1 p1 e g w1) .z [] [] none 0 none 0 0 0 0 false),t,b3,rfl,rfl,⟨by omega,fun _=>by omega⟩,c,stmt_j (.inr o) (by rw [o,Ud,if_neg (by decide),if_neg (by decide),if_neg (by decide),if_pos (by decide)];exact b.bnd (a.bnd .ret))⟩
 . refine rn [1045,4,1048,8,1067,17,1075,6,1091,7,1098,5,1098,7,1104,5,1104,6] ?_;refine Zb call149 leA (Ya (w:= [59]) (n:=(n+1)) (hL.le leA) hn (by omega)) ?_;rintro _ _ ⟨m2,b2,rfl,rfl,b0,l,b⟩;refine rn [3,0,0,1] ?_;refine Qx (.mk (14:Nat) (Zc (L.drop n)).1 (Zc (L.drop n)).2 em em .z .z [] [] none 0 none 0 0 0 0 false) jA ?_;refine Zq (rdH p la lc L m2 b2::stM (.mk (14:Nat) (Zc (L.drop n)).1 (Zc (L.drop n)).2 em em .z .z [] [] none 0 none 0 0 0 0 false)::q) func181 (rA_ results181) ⟨_,rfl,(.mk (14:Nat) (Zc (L.drop n)).1 (Zc (L.drop n)).2 em em .z .z [] [] none 0 none 0 0 0 0 false),m2,b2,rfl,rfl,⟨by omega,fun _=>by omega⟩,l,stmt_j (.inl o) (by rw [o,Ud,if_neg (by decide),if_neg (by decide),if_neg (by decide),if_neg (by decide)];exact b.bnd .ret)⟩
 . refine XO.part 45 rfl ?_ ?_<;>intro h1
   focus
    replace h1:=sp h1;refine oo 8 ?_
   rotate_left
   focus
    replace h1:=sp h1;refine rn [4,2048,4] ?_
   all_goals
    refine Zb call201 leA (hE 1 (n:=(n+1)) (hL.le leA) (by omega) (by omega) (by omega) (by omega)) ?_;rintro _ _ ⟨⟨k1,z1,i,l1,o1,p1,e,g,w1⟩,m2,b2,rfl,rfl,b0,l,b⟩;refine rn [1,0,4] ?_;refine Zb call152 leA (hB (n:=m2) (hL.le leA) (by omega) (by omega)) ?_;rintro _ _ ⟨a1,c1,t1,t,b3,rfl,rfl,x,c,a⟩;refine rn [1,0,7] ?_;refine XO.part 57 rfl ?_ ?_<;>intro h2
    . replace h2:=sp h2;refine oo 1 ?_;refine Zb call150 leA (Ug (w:= [101,108,115,101]) (n:=t) (hL.le leA) hn) ?_;rintro _ _ (⟨rfl,⟨hb,hw,j0⟩,rfl⟩|⟨rfl,hw,rfl⟩)
      . subst hb;refine oo 5 ?_;refine Zb call152 leA (hB (n:=(t+1)) (hL.le leA) (by omega) (by omega)) ?_;rintro _ _ ⟨a2,c2,t2,u,b4,rfl,rfl,y,r,m⟩;refine rn [1,0,3,0,0,1] ?_;refine Qx (.mk k (Zc (L.drop n)).1 (Zc (L.drop n)).2 em em (.mk k1 z1 i l1 o1 p1 e g w1) .z t1 t2 a1 c1 a2 c2 0 0 0 false) jA ?_;refine Zq (rdH p la lc L u b4::stM (.mk k (Zc (L.drop n)).1 (Zc (L.drop n)).2 em em (.mk k1 z1 i l1 o1 p1 e g w1) .z t1 t2 a1 c1 a2 c2 0 0 0 false)::q) func181 (rA_ results181) ⟨_,rfl,(.mk k (Zc (L.drop n)).1 (Zc (L.drop n)).2 em em (.mk k1 z1 i l1 o1 p1 e g w1) .z t1 t2 a1 c1 a2 c2 0 0 0 false),u,b4,rfl,rfl,⟨by omega,fun _=>by omega⟩,r,by rw [U8,o,if_pos (by omega),tail_drop];exact b.bnd (a.bnd (by rw [if_pos ⟨by omega,hw⟩,tail_drop];exact m.bnd .ret))⟩
      refine rn [6,0,0,1] ?_;refine Qx (.mk k (Zc (L.drop n)).1 (Zc (L.drop n)).2 em em (.mk k1 z1 i l1 o1 p1 e g w1) .z t1 [] a1 c1 none 0 0 0 0 false) jA ?_;refine Zq (rdH p la lc L t b3::stM (.mk k (Zc (L.drop n)).1 (Zc (L.drop n)).2 em em (.mk k1 z1 i l1 o1 p1 e g w1) .z t1 [] a1 c1 none 0 0 0 0 false)::q) func181 (rA_ results181) ⟨_,rfl,(.mk k (Zc (L.drop n)).1 (Zc (L.drop n)).2 em em (.mk k1 z1 i l1 o1 p1 e g w1) .z t1 [] a1 c1 none 0 0 0 0 false),t,b3,rfl,rfl,⟨by omega,fun _=>by omega⟩,c,by rw [U8,o,if_pos (by omega),tail_drop];exact b.bnd (a.bnd (by cases b3 with|true=>exact .any|false=>rw [if_neg (fun h=>by rw [h.2] at hw;exact aR hw (by decide))];exact .ret))⟩
    replace h2:=sp h2;refine rn [8,0,0,1] ?_;refine Qx (.mk k (Zc (L.drop n)).1 (Zc (L.drop n)).2 em em (.mk k1 z1 i l1 o1 p1 e g w1) .z t1 [] a1 c1 none 0 0 0 0 false) jA ?_;refine Zq (rdH p la lc L t b3::stM (.mk k (Zc (L.drop n)).1 (Zc (L.drop n)).2 em em (.mk k1 z1 i l1 o1 p1 e g w1) .z t1 [] a1 c1 none 0 0 0 0 false)::q) func181 (rA_ results181) ⟨_,rfl,(.mk k (Zc (L.drop n)).1 (Zc (L.drop n)).2 em em (.mk k1 z1 i l1 o1 p1 e g w1) .z t1 [] a1 c1 none 0 0 0 0 false),t,b3,rfl,rfl,⟨by omega,fun _=>by omega⟩,c,by rw [U8,o,if_pos (by omega),tail_drop];exact b.bnd (a.bnd (by rw [if_neg (by omega)];exact .ret))⟩
 refine rn [1045,4,1048,8,2067,4,2070,3] ?_;refine Zb call148 leA (Jl (n:=(n+1)) (hL.le leA) hn (by omega)) ?_;rintro _ _ ⟨nm,m2,b2,rfl,rfl,⟨b0,_⟩,l,b⟩;refine rn [1,0,12,1075,6,1091,7,1098,5,1098,7,1104,5,1104,6] ?_;refine Zb call149 leA (Ya (w:= [59]) (n:=m2) (hL.le leA) hn l) ?_;rintro _ _ ⟨t,b3,rfl,rfl,x,c,a⟩;refine rn [3,0,0,1] ?_;refine Qx (.mk k (Zc (L.drop n)).1 (Zc (L.drop n)).2 nm em .z .z [] [] none 0 none 0 0 0 0 false) jA ?_;refine Zq (rdH p la lc L t b3::stM (.mk k (Zc (L.drop n)).1 (Zc (L.drop n)).2 nm em .z .z [] [] none 0 none 0 0 0 0 false)::q) func181 (rA_ results181) ⟨_,rfl,(.mk k (Zc (L.drop n)).1 (Zc (L.drop n)).2 nm em .z .z [] [] none 0 none 0 0 0 0 false),t,b3,rfl,rfl,⟨by omega,fun _=>by omega⟩,c,Bh (by omega) (by omega) b (by rw [o,Ud,if_neg (by omega),if_neg (by omega),if_neg (by omega),if_neg (by omega)];exact a.bnd .ret)⟩
theorem Iw (hS: ∀ g,g<=f->RdStmt G la lc L g)(hL:Sees q la (L.flatMap tkC))(hn:L.length<=65536)(hnL:n<=L.length)(hfu:10*(L.length - n)+13<=f+1):CallF prog G 152 [.pointer (some ⟨p,0,none⟩)] (rdH p la lc L n bad::q) (Ret fun v q'=> ∃ (a:Option Addr) (c:Nat) (l:List Stm) (n':Nat) (bad':Bool),v= .slice a l.length c/\q'=rdH p la lc L n' bad'::blM a c l::q/\n<=n'/\n'<=L.length/\Out L bad (Ke (f+1) (L.drop n)) (Zj l) n' bad'):=by
 refine aC func152 ntmps152 rfl fun F cs=> ?_;refine xo 7 ?_;refine Zb call149 leA (Ya (w:= [123]) (hL.le leA) hn hnL) ?_;rintro _ _ ⟨y,b1,rfl,rfl,h,h0,e0⟩;refine ox 7 ?_;have e:MoreB L b1 (We f (L.drop y)) f [] y b1:=MoreB.first _ (fun _=>rfl);obtain ⟨S,r⟩:=kL (We f (L.drop y));rw [<-r] at e;refine aY (cG (fun (s:(Option Addr×Nat×List Stm)×Nat×Bool×Nat)=>n<=s.2.1/\s.2.1<=L.length/\s.2.2.2<=f/\(s.2.2.1=false->10*(L.length - s.2.1)+12<=s.2.2.2/\s.1.2.2.length+n<=s.2.1)/\MoreB L b1 S s.2.2.2 (Zj s.1.2.2) s.2.1 s.2.2.1) (fun s=> [(0,.pointer (some ⟨p,0,none⟩)),(3,.slice s.1.1 s.1.2.2.length s.1.2.1),(2,.slice none 0 0)]) (fun s=>rdH p la lc L s.2.1 s.2.2.1::rsH stC 25 126 s.1.1 s.1.2.1 (s.1.2.2)::stsM s.1.2.2::(q++F)) (fun s=>2*(L.length - s.2.1)+(if s.2.2.1=true then 0 else 1)) (fun s i ih=> ?_) ((none,0, []),y,b1,f) ⟨h,h0,aL _,fun _=>⟨by dsimp only;omega,by simpa using h⟩,e⟩) Zu (aS leA (aS (Zi stC 25 126 _) (aS Hk leA)));try dsimp only at i ih|-
 obtain ⟨l0,o,k0,k,j⟩:=i;obtain ⟨⟨a0,c0,l⟩,m,b,g⟩:=s;dsimp only at*;clear e;refine rn [6,0] ?_;refine Zt (bV rfl) ?_;refine oo 1 ?_;refine Zf [11,0,3,2] ?_;apply Zp 4 15 11 rfl
 . intro t M1;have h1:=sp t;refine oo 1 ?_;refine aO call147 (Px (n:=m) (bad:=b) (s:=ba [125]) Qu (hL.le leA) hn) ?_;refine Zt (bV rfl) ?_;refine oo 1 ?_;exact Zz M1 ⟨Wq t,Zv⟩
 . intro t M1;have h1:=sp t;refine oo 4 ?_;exact Zz M1 ⟨Wz t,Zv⟩
 refine ox 1 ?_;refine xp 15 ?_ ?_<;>intro h1
 . refine xo 6 ?_;obtain ⟨rfl,h2⟩:=h1;replace h2:isW [125] (L.drop m)=false:=h2.resolve_left (by decide);obtain ⟨n0,m0⟩:=k rfl;obtain ⟨g,rfl⟩: ∃ g2,g=g2+1:=⟨g - 1,by omega⟩;refine Zb call181 leA (hS g (by omega) (n:=m) (bad:=false) (hL.le leA) o (by omega)) ?_;rintro _ _ ⟨x,m2,b2,rfl,rfl,⟨j0,d⟩,g0,d0⟩;refine bQ (Yz (u:=x) stC underlying53 V7 rfl rfl Z8 rfl) ?_;rintro _ _ ⟨g2,rfl,rfl⟩;refine bQ (Z9 (f:=stC) (l:=l) (m:= [x]) underlying53 V7 rfl rfl Z8 rfl rfl Zk ((bE _).le Zk) H9 (by simp;omega) (by simp;omega)) ?_;rintro _ _ ⟨a3,c3,rfl,rfl⟩;refine ox 3 ?_;refine X.sts (l:=l) (s:=x) Zk Zk ?_;refine aY (ih ((a3,c3,l++ [x]),m2,b2,g) ⟨by dsimp only;omega,g0,by dsimp only;omega,fun z=>⟨by have:=d z;dsimp only;omega,by have:=d z;simp;omega⟩,by rw [Ry];exact j.go h2 d0⟩ (by dsimp only;cases b2 with|true=>simp;omega|false=>have:=d rfl;simp;omega)) Zu leA
 refine xo 5 ?_;refine Zb call149 leA (Ya (w:= [125]) (n:=m) (hL.le leA) hn o) ?_;rintro _ _ ⟨m4,b4,rfl,rfl,i0,f0,b0⟩;refine ox 6 ?_;refine X.fzB (m:=l) ?_;refine Zq (rdH p la lc L m4 b4::blM a0 c0 l::q) func152 (Zn results152 rfl) ⟨_,rfl,a0,c0,l,m4,b4,rfl,rfl,by omega,f0,by rw [Ke];refine e0.bnd ?_;rw [<-r];exact (j.over (fun z=>by have:=k z;omega) (by revert h1;cases b<;>simp;exact id)).bnd (b0.bnd .ret)⟩
theorem Zqg (hn:L.length<=65536): ∀ f,RdStmt G la lc L f/\X2 G la lc L f:=by
 intro f
 induction f using Nat.strongRecOn with
 |ind f ih=>
  cases f with
  |zero=>exact ⟨fun c a b=>by omega,fun c a b=>by omega⟩
  |succ f=>exact ⟨fun c a b=>Zqm (Zqi hn f).1 (ih f (gC _)).2 c hn a b,fun c a b=>Iw (fun g d=>(ih g (by omega)).1) c hn a b⟩
end Go.Proofs.YtflkjkhijcdbaaaGreat
