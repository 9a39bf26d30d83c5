/- Contracts. -/
import Derived.Test.YtadahhbefdnabaaGreatDoorVg
import Derived.Deep.AppendSrc
set_option maxHeartbeats 16000000
set_option maxRecDepth 100000
set_option linter.all false
namespace Go.Proofs.YtadahhbefdnabaaGreatDoor
open Go Go.RowKit Wx Go.Proofs.Tryz
variable {P:Program}{G:World}{p c i n n4 n5:Nat}{q r R:List HP}{x:Cod}{a:Option Addr}{l L T:List Int}{k:Int}{fv:Value}{u:Int->List Int}{I:List Ins}
def byI (s:ByteArray):List Int:=s.data.toList.map fun b=>(b.toNat:Int)
theorem Zx6 (s:ByteArray):byteCells s=(byI s).map (Value.int .u8):=by simp [byteCells,byI]
theorem Il (s:ByteArray):(byI s).length=s.size:=by simp [byI]
theorem byI_rng (s:ByteArray):By8 (byI s):=fun x a=>by
 obtain ⟨b,_,rfl⟩:=bS.1 a;have:=b.toNat_lt;omega
theorem Rb (w:World)(t tn ty e:TypeId)(i:TypeInfo)(ht:P.underlying t=some (.slice e))(htn:P.underlying tn=some .string)(hi:P.info? e=some i)(h1s:i.size=1)
 (g sLen sCap:Nat) (cur:Array Value) (hg:w.heap[g]? =some (.cells cur e (0,0))) (s:ByteArray) (hroom:sLen+s.size<=sCap) (hfit:sLen+s.size<=cur.size):
 (Builtin.append_ #[t,tn] ty #[.slice (some ⟨g,0,none⟩) sLen sCap,.string s]).run P w= .ok (.slice (some ⟨g,0,none⟩) (sLen+s.size) sCap) (w.setRow g (cur.toList.take sLen++byteCells s++cur.toList.drop (sLen+s.size)).toArray):=by
 have a:=run_storeCells_at P g sLen e (byteCells s) 0 cur w hg (by rw [byteCells_length];omega) (fun u b=>by obtain ⟨_,_,rfl⟩:=bS.1 b;rfl);have c:=Src.ofString (P:=P) w htn s;rw [byteCells_length] at a;simp only [iF] at a;have d:=firstCells_string (P:=P) s w;simp [Builtin.append_,run_underlying ht,run_underlying htn,Go.sizeOf,typeInfo,hi,h1s,c.len,hroom,d,Vj,a]
theorem Ef.appS {p:PE}{d:Option Tmp}{ty t tn e:TypeId}{pos:String}{af:Array Edge}{gd:Option (Nat×Bool)}{x y:Operand}{sb:ByteArray}
 (ht:P.underlying t=some (.slice e)) (htn:P.underlying tn=some .string) (hi:(P.info? e).map (fun i=>(i.zero,i.size,i.bytes))=some (some (.int .u8 0),1,1))
 (hx:evp p x=some (.slice a l.length c)) (hy:evp p y=some (.string sb)) (hq:Le q (lsH (Value.int .u8) e a c l::r)) (h63:l.length+sb.size<=1000000000):
 Ef P G p q ⟨d,.call ⟨.builtin .append, [x,y].toArray, [t,tn].toArray⟩,ty,pos,af,gd⟩ fun v q'=> ∃ a' c',v= .slice a' (l++byI sb).length c'/\q'=lsH (Value.int .u8) e a' c' (l++byI sb)::r:=by
 obtain ⟨I,hI,e1,e2,e3⟩:=info_parts hi;intro tm w ag s;have m0:evl p [x,y]=some [.slice a l.length c,.string sb]:=by simp [evl,hx,hy]
 have l0:=Un (d:=d) (ty:=ty) (pos:=pos) (af:=af) (gd:=gd) (bi:= .append) (ats:= [t,tn].toArray) ag m0;rw [l0]
 have n: ∀ v w',(Builtin.append_ #[t,tn] ty #[.slice a l.length c,.string sb]).run P w= .ok v w'->(builtin .append [t,tn].toArray ty ([x,y].toArray.map fun| .const _=>true|_=>false) [.slice a l.length c,.string sb].toArray).run P w= .ok (.value v) w':=by
  intro v w' h;simp [builtin,h]
 have e0:(l++byI sb).map (Value.int .u8)=l.map (Value.int .u8)++byteCells sb:=by rw [aO,Zx6]
 have c0:(l++byI sb).length=l.length+sb.size:=by rw [aA,Il]
 have s0:=s.le hq;unfold lsH at s0|-;rw [e0,c0];obtain ⟨f0,d0⟩:=s0.slH_elim;have r0:(l.length+sb.size)*I.bytes<=140737488355328:=by rw [e3];omega
 have g0: ∀ w:World,Src P I.size tn (.string sb) sb.size (byteCells sb) w:=fun w=>by rw [e2];exact Src.ofString w htn sb
 have z:=byteCells_length sb;have zc: ∀ k,(Builtin.zeroCells (Value.int .u8 0).cells k).size=k:=fun k=>by simp [Builtin.zeroCells,Value.cells]
 have a0: ∀ {b:Option Addr} {f:List Value},f.length=l.length->(Builtin.firstCells I.size l.length (.slice b l.length c)).run P w.drew= .ok f.toArray w.drew->f=l.map (Value.int .u8)->c<l.length+sb.size->St G w r->a=b-> ∃ (v:Value) (w':World) (q':List HP),(((builtin .append [t,tn].toArray ty ([x,y].toArray.map fun| .const _=>true|_=>false) [.slice a l.length c,.string sb].toArray).run P w= .ok (.value v) w')\/(v=undef/\(builtin .append [t,tn].toArray ty ([x,y].toArray.map fun| .const _=>true|_=>false) [.slice a l.length c,.string sb].toArray).run P w= .ok .skip w'))/\St G w' q'/\ ∃ a' c',v= .slice a' (l.length+sb.size) c'/\q'=slH a' c' e 1 (l.length+sb.size) (l.map (Value.int .u8)++byteCells sb)::r:=by
  intro b f ho o n0 hg sr u0;subst u0;have hr:=run_append_grow_src (P:=P) w t tn ty e I (.int .u8 0) ht hI e1 a l.length c f o (.string sb) sb.size (byteCells sb) (g0 w) hg (by omega) (growslice_fits (by omega) r0);have j0:=grownCap_ge w (l.length+sb.size) c e;have q0:=grownCap_le_maxLen w (l.length+sb.size) c e (by simp only [maxLen];omega);refine ⟨_,_,_,.inl (n _ _ hr),?_,some ⟨w.heap.size,0,none⟩,grownCap w (l.length+sb.size) c e,rfl,rfl⟩;have s3:St G w.drew r:=sr.same rfl rfl rfl rfl;have s2:=St.new (w:=w.drew) (w':=w.drew.alloc (.cells ((f++byteCells sb).toArray++Builtin.zeroCells (Value.int .u8 0).cells (grownCap w (l.length+sb.size) c e - (l.length+sb.size))) e)) s3 rfl rfl rfl rfl;refine s2.le (Yn j0 q0 ?_ ?_ r)
  . rw [kD,zc];simp only [fE,aA,z,ho];omega
  rw [n0];have:(l.map (Value.int .u8)++byteCells sb).length=l.length+sb.size:=by rw [aA,aI,z]
  rw [jO,iR,<-this];exact iU
 rcases d0 with ⟨ha,hc,hl,s'⟩|⟨g,m,ha,v0,p0,o0,b0,s'⟩
 . subst ha hc;have i0:l= []:=aS hl;subst i0;rcases cW sb.size with h0|h0
   . refine ⟨.slice none 0 0,w,_,.inl (n _ _ ?_),s'.le (Hq e 1 r),none,0,by rw [h0];rfl,?_⟩
     . have hc:=firstCells_string (P:=P) sb w;rw [h0] at hc;simp [Builtin.append_,run_underlying ht,run_underlying htn,Go.sizeOf,typeInfo,hI,Builtin.lenOf,h0,e2,hc]
     have t0:byteCells sb= []:=aS (by omega);rw [h0,t0];rfl
   exact a0 (b:=none) (f:= []) rfl (by rw [e2];exact run_firstCells_none w.drew 1 0 0 0) rfl (by simpa using h0) s' rfl
 subst ha;have hg:w.heap[g]? =some (.cells m e (0,0)):=s'.has (dU _ _ _);rw [iR] at o0 b0 f0;by_cases hroom:l.length+sb.size<=c
 . have hr:=Rb w t tn ty e I ht htn hI e2 g l.length c m hg sb hroom (by omega);refine ⟨_,_,_,.inl (n _ _ hr),?_,some ⟨g,0,none⟩,c,rfl,rfl⟩;have s2:=s'.put (o':= .cells (m.toList.take l.length++byteCells sb++m.toList.drop (l.length+sb.size)).toArray e (0,0)) (setRow_heap w g m _ e (0,0) hg) (fun j hj=>setRow_other w g j _ hj) (by simp) rfl rfl rfl;refine s2.le (Yn hroom p0 ?_ ?_ r)
   . simp only [fE,aA,bI,cE,z,gK];omega
   rw [b0,iR];have:(l.map (Value.int .u8)++byteCells sb).length=l.length+sb.size:=by rw [aA,aI,z]
   rw [<-this];exact iU
 have o:(Builtin.firstCells I.size l.length (.slice (some ⟨g,0,none⟩) l.length c)).run P w.drew= .ok (l.map (Value.int .u8)).toArray w.drew:=by
  rw [e2];refine run_firstCells_some w.drew 1 l.length ⟨g,0,none⟩ l.length c (l.map (Value.int .u8)) (by simp) fun j u hu=> ?_;rw [Vj,dO];rw [<-b0,fL] at hu;have k0:w.drew.heap[g]? =some (.cells m e (0,0)):=hg;split at hu
  . simp only [World.cell?,k0];simpa using hu
  cases hu
 exact a0 (by simp) o rfl (by omega) (s'.le (.drop _ _)) rfl
def Zxc (i:Ins)(d:Int):List Int:= [i.c]++(if nmA i.c=true then vb i.a.toNat else [])++(if i.c=26 then vb i.b.toNat else [])++(if i.c=1 then vb (sgU i.n) else [])++vb (sgU d)
def Tn:Int->List Ins->List Int->List Int
 |ah,i::r,n::s=>Zxc i (n - ah)++Tn n r s
 |_,_,_=> []
def Zzb (x:ByteArray×Int×List Ins×List Int):List Int:=vb x.1.size++byI x.1++vb x.2.1.toNat++vb x.2.2.1.length++Tn 0 x.2.2.1 x.2.2.2
theorem Ib {α:Type}(u:α->List Int)(L:List α)(i:Nat):((L.take i).flatMap u).length<=(L.flatMap u).length:=by
 conv=>rhs;rw [<-dZ i L,eK,aA]
 omega
theorem Rq {α:Type}(u:α->List Int){L:List α}(h:i<L.length):(L.take (i+1)).flatMap u=(L.take i).flatMap u++u L[i]:=by
 rw [aN h,eK];simp
theorem Zzw (hs:Sees q a (L.map I64))(hL:L.length<=1000000)(hB:l.length+11+(L.flatMap u).length<=500000000)(ho: ∀ x∈L,∀ l:List Int,l.length+(u x).length<=500000000->CallV prog G fv [I64 x] (wrO p l::q) (Ret fun v q'=>q'=wrO p (l++u x)::q)):CallF prog G 100 [.pointer (some ⟨p,0,none⟩),.slice a L.length c,fv] (wrB p l::q) (Ret fun v q'=>q'=wrO p (l++vb L.length++L.flatMap u)::q):=by
 refine aB func100 ntmps100 rfl fun F cs=> ?_;have e:(L.map I64).length=L.length:=aI _;have j:=V9 L.length;refine xo 5 ?_;refine Zv call103 (aH _) (We (n:=L.length) (by omega) (by omega)) ?_;rintro _ _ rfl;refine ox 8 ?_;refine aX (cC (fun (s:Nat)=>s<=L.length) (fun s=> [(2,fv),(13,I64 L.length),(14,I64 s),(12,.slice a L.length c)]) (fun s=>wrO p (l++vb L.length++(L.take s).flatMap u)::(q++F)) (fun s=>L.length - s) (fun s f i=> ?_) 0 (bC _)) Zn (by simp only [gN,kO,bR];exact aH _);try dsimp only at f i|-
 obtain m:=f;refine xx 5 ?_;refine xp 15 ?_ ?_<;>intro o
 . have b:s<L.length:=(by omega);have g:=Ib u L (s+1);rw [Rq u b,aA] at g;refine Z7 (hs.le leA) (by rw [e];omega) fun r k h=> ?_;have d:=hs;rw [h] at d;refine rg [6,3012,1,0,5] h d ?_;refine iV leA (jH F (ho _ (aC b) (l++vb L.length++(L.take s).flatMap u) (by simp only [aA];omega))) ?_;rintro _ _ ⟨_,rfl,rfl⟩;refine ox 6 ?_;refine fR 12 (.slice a L.length c) rfl (by rw [<-h]) ?_;rw [show l++vb L.length++(L.take s).flatMap u++u L[s]=l++vb L.length++(L.take (s+1)).flatMap u by rw [Rq u b,<-aK]];refine aX (i (s+1) (by omega) (by omega)) Zn leA
 obtain rfl:s=L.length:=(by omega);rw [bV];refine xx 2 ?_;refine Zr (wrO p (l++vb L.length++L.flatMap u)::q) func100 (Yy results100) ⟨_,rfl,rfl⟩
theorem Oh (hs:Sees q a (L.map I64))(hL:L.length<=1000000)(hB:l.length+11+(L.flatMap u).length<=500000000)(ho: ∀ x∈L,∀ l:List Int,l.length+(u x).length<=500000000->CallV prog G fv [I64 x] (wrO p l::q) (Ret fun v q'=>q'=wrO p (l++u x)::q)):CallF prog G 102 [.pointer (some ⟨p,0,none⟩),.slice a L.length c,fv] (wrB p l::q) (Ret fun v q'=>q'=wrO p (l++vb L.length++L.flatMap u)::q):=by
 refine aB func102 ntmps102 rfl fun F cs=> ?_;have e:(L.map I64).length=L.length:=aI _;have j:=V9 L.length;refine xo 5 ?_;refine Zv call103 (aH _) (We (n:=L.length) (by omega) (by omega)) ?_;rintro _ _ rfl;refine ox 8 ?_;refine aX (cC (fun (s:Nat)=>s<=L.length) (fun s=> [(2,fv),(13,I64 L.length),(14,I64 s),(12,.slice a L.length c)]) (fun s=>wrO p (l++vb L.length++(L.take s).flatMap u)::(q++F)) (fun s=>L.length - s) (fun s f i=> ?_) 0 (bC _)) Zn (by simp only [gN,kO,bR];exact aH _);try dsimp only at f i|-
 obtain m:=f;refine xx 5 ?_;refine xp 15 ?_ ?_<;>intro o
 . have b:s<L.length:=(by omega);have g:=Ib u L (s+1);rw [Rq u b,aA] at g;refine Z7 (hs.le leA) (by rw [e];omega) fun r k h=> ?_;have d:=hs;rw [h] at d;refine rg [6,3012,1,0,5] h d ?_;refine iV leA (jH F (ho _ (aC b) (l++vb L.length++(L.take s).flatMap u) (by simp only [aA];omega))) ?_;rintro _ _ ⟨_,rfl,rfl⟩;refine ox 6 ?_;refine fR 12 (.slice a L.length c) rfl (by rw [<-h]) ?_;rw [show l++vb L.length++(L.take s).flatMap u++u L[s]=l++vb L.length++(L.take (s+1)).flatMap u by rw [Rq u b,<-aK]];refine aX (i (s+1) (by omega) (by omega)) Zn leA
 obtain rfl:s=L.length:=(by omega);rw [bV];refine xx 2 ?_;refine Zr (wrO p (l++vb L.length++L.flatMap u)::q) func102 (Yy results102) ⟨_,rfl,rfl⟩
theorem Zww {L:List Cod}{u:Cod->List Int}(hs:Sees q a (L.flatMap Vn))(hL:L.length<=1000000)(hB:l.length+11+(L.flatMap u).length<=500000000)(ho: ∀ x∈L,∀ l:List Int,l.length+(u x).length<=500000000->CallV prog G fv [(fun x=> .agg (Vn x).toArray) x] (wrO p l::q) (Ret fun v q'=>q'=wrO p (l++u x)::q)):CallF prog G 104 [.pointer (some ⟨p,0,none⟩),.slice a L.length c,fv] (wrB p l::q) (Ret fun v q'=>q'=wrO p (l++vb L.length++L.flatMap u)::q):=by
 refine aB func104 ntmps104 rfl fun F cs=> ?_;have e:(L.flatMap Vn).length=L.length*4:=Zx (f:=Vn) (sz:=4) (fun _=>rfl) L;have m:=V9 L.length;refine xo 5 ?_;refine Zv call103 (aH _) (We (n:=L.length) (by omega) (by omega)) ?_;rintro _ _ rfl;refine ox 8 ?_;refine aX (cC (fun (s:Nat)=>s<=L.length) (fun s=> [(2,fv),(13,I64 L.length),(14,I64 s),(12,.slice a L.length c)]) (fun s=>wrO p (l++vb L.length++(L.take s).flatMap u)::(q++F)) (fun s=>L.length - s) (fun s g k=> ?_) 0 (bC _)) Zn (by simp only [gN,kO,bR];exact aH _);try dsimp only at g k|-
 obtain t:=g;refine xx 5 ?_;refine xp 15 ?_ ?_<;>intro w
 . have b:s<L.length:=(by omega);have h:=Ib u L (s+1);rw [Rq u b,aA] at h;refine Z7 (hs.le leA) (by rw [e];omega) fun y o i=> ?_;have d:=hs;rw [i] at d;refine rf [6,3012,1] i ?_;refine Kr (us:=Vn L[s]) isAgg224 sizeOf224 rfl (fD (sz:=4) (j:=(s:Int)) d leA (fun _=>rfl) b rfl) ?_;refine Zh zeroValue224 fun r=> ?_
   refine rn [0,3,0] ?_;refine iV leA (jH F (ho _ (aC b) (l++vb L.length++(L.take s).flatMap u) (by simp only [aA];omega))) ?_;rintro _ _ ⟨_,rfl,rfl⟩;refine ox 6 ?_;refine fR 12 (.slice a L.length c) rfl (by rw [<-i]) ?_;rw [show l++vb L.length++(L.take s).flatMap u++u L[s]=l++vb L.length++(L.take (s+1)).flatMap u by rw [Rq u b,<-aK]];refine aX (k (s+1) (by omega) (by omega)) Zn leA
 obtain rfl:s=L.length:=(by omega);rw [bV];refine xx 2 ?_;refine Zr (wrO p (l++vb L.length++L.flatMap u)::q) func104 (Yy results104) ⟨_,rfl,rfl⟩
theorem osum_ok (hs:Sees q a (l.map (Value.int .u8)))(hb:By8 l)(hL:l.length<=5000000000):CallF prog G 186 [.slice a l.length c] (q) (Ret fun v q'=>v= .int .u32 (Qf l)/\q'=q):=by
 refine aB func186 ntmps186 rfl fun F cs=> ?_;refine xx 16 ?_;refine aX (cC (fun (s:Nat)=>s<=l.length) (fun s=> [(3,.int .u32 (Qf (l.take s))),(6,.slice a l.length c),(7,I64 l.length),(8,I64 s),(2,.int .u32 0)]) (fun s=>(q++F)) (fun s=>l.length - s) (fun s b e=> ?_) 0 (bC _)) Zn leA;try dsimp only at b e|-
 obtain i:=b;refine xx 5 ?_;refine xp 9 ?_ ?_<;>intro j
 . have d:s<l.length:=(by omega);refine Z7 (hs.le leA) (by simp;omega) fun k g f=> ?_;subst f;have h:=hb _ (aC d);refine rf [7,0,8] hs ?_;refine aW 16 (.int .u32 (Qf (l.take (s+1)))) rfl (aQ (Value.int .u32) (by rw [Ej d];simp only [wu32];omega)) ?_;refine ox 7 ?_;refine aX (e (s+1) (by omega) (by omega)) Zn leA
 refine xx 7 ?_;refine Zq (q) func186 (Zf results186 rfl) ⟨_,rfl,by rw [bQ (by omega)],rfl⟩
theorem olast_ok (hb:By8 l)(hL:l.length<=500000000):CallF prog G 106 [.pointer (some ⟨p,0,none⟩)] (wrO p l::q) (Ret fun v q'=>q'=wrO p (J0 l)::q):=by
 refine aB func106 ntmps106 rfl fun F cs=> ?_;refine X.wrO fun k h=> ?_;have a:=Gy l
 refine rn [6,0] ?_;refine bM call186 (osum_ok (l:=l) ((bY _).le leA) hb (by omega)) ?_;refine ox 7 ?_;refine aX (cC (fun (s:Nat×Option Addr×Nat)=>s.1<=4) (fun s=> [(0,.pointer (some ⟨p,0,none⟩)),(2,.int .u32 (Qf l / 256 ^ s.1)),(9,I64 (s.1:Int))]) (fun s=>pto p (.cells [.slice s.2.1 (l++(le4 (Qf l)).take s.1).length s.2.2].toArray 230 (0,0))::lsH (Value.int .u8) 5 s.2.1 s.2.2 (l++(le4 (Qf l)).take s.1)::(q++F)) (fun s=>4 - s.1) (fun s b d=> ?_) (0,k,h) (by dsimp only;omega)) Zn (by simp only [gN,bR];exact leA);try dsimp only at b d|-
 obtain r:=b;obtain ⟨i,y,x⟩:=s;dsimp only at*;refine xx 5 ?_;refine xp 10 ?_ ?_<;>intro t
 . have c:i<4:=(by omega);have o:0<=Qf l / 256 ^ i:=Int.ediv_nonneg a.1 (Int.pow_nonneg (by omega));have e:Qf l / 256 ^ i<4294967296:=(by have:=Int.ediv_le_self (256 ^ i) a.1;omega);refine rn [11,0,2] ?_;refine aW 18 (.int .u8 ((Qf l / 256 ^ i) % 256)) rfl (aQ (Value.int .u8) (wu8 _)) ?_;refine bU (Uk (u:=(Qf l / 256 ^ i) % 256) (Value.int .u8) underlying88 Va rfl rfl) ?_;rintro _ _ ⟨w,rfl,rfl⟩;refine bU (Yb (f:=Value.int .u8) (l:=l++(le4 (Qf l)).take i) (m:= [(Qf l / 256 ^ i) % 256]) underlying88 Va rfl rfl rfl Zj ((bY _).le leA) (fun _=>rfl) (by simp only [aA,aJ,aT,bI];omega) (by simp only [aA,aJ,aT,bI];omega)) ?_;rintro _ _ ⟨n,j,rfl,rfl⟩;refine rn [3,0,4] ?_;refine aW 25 (.int .u32 (Qf l / 256 ^ (i+1))) rfl (aQ (Value.int .u32) (by rw [pow_step,show (2:Int) ^ min (Int.toNat 8) IntKind.u32.bits=256 from rfl,Int.fdiv_eq_ediv_of_nonneg _ (by omega)])) ?_;refine ox 7 ?_;rw [aK,<-le4_take _ _ c a.1];refine aX (d (i+1,n,j) (by dsimp only;omega) (by dsimp only;omega)) Zn leA
 have g:l++(le4 (Qf l)).take i=J0 l:=(by rw [show i=4 by omega];rfl);rw [g];refine xx 2 ?_;refine Zr (wrO p (J0 l)::q) func106 (Yy results106) ⟨_,rfl,rfl⟩ (R6 leA)
def NmR (i:Ins)(vs:List Value)(A:HP):Prop:=(∃ s,vs= [.agg [.string s,.bool (nmA i.c),.bool (decide (i.c=26)),.bool (decide (i.c=1))].toArray,.agg (Y8 i).toArray])/\A=stars []
section
variable {pre:List HP}{J:Nat->HP}{y:Nat}
theorem named_ok:CallF prog G 185 [.slice a n c] (q) (Ret fun v q'=> ∃ n1,v= .func (.func 245) [].toArray [pt n1].toArray/\q'=pto n1 (.cells [.slice a n c].toArray 213 (0,0))::q):=by
 refine aB func185 ntmps185 rfl fun F cs=> ?_;refine xo 2 ?_;refine Zl fun b=> ?_
 refine ox 7 ?_;refine Zq (pto b (.cells [.slice a n c].toArray 213 (0,0))::q) func185 (Zf results185 rfl) ⟨_,rfl,b,rfl,rfl⟩
theorem Zxv (hc:Cl pre ⟨n,0,none⟩ (.slice a I.length c))(hs:Sees pre a (I.flatMap Y8))(hi: ∀ i∈I,1<=i.c/\i.c<=34)(hb:I.length<=1000000)(gc:GC pre)(hy: ∀ i (h:i<I.length) vs A,NmR I[i] vs A->CallV prog G (Aw y) vs (J i::A::pre) (Ret fun v q=>v= .bool true/\q=J (i+1)::pre)):CallF prog G 245 (AR y n) (J 0::pre) (Ret fun v q'=>q'=J I.length::pre):=by
 refine aB func245 ntmps245 rfl fun F cs=> ?_;have g:=Zx (f:=Y8) (sz:=4) (fun _=>rfl) I;refine xo 2 ?_;refine ld ?_ (hc:=(hc.le leA));refine ox 4 ?_;refine aX (cC (fun (s:Nat)=>s<=I.length) (fun s=> [(0,.func (.yield y) #[] #[]),(7,.slice a I.length c),(8,I64 I.length),(9,I64 s)]) (fun s=>J s::(pre++F)) (fun s=>I.length - s) (fun s k o=> ?_) 0 (bC _)) Zn leA;try dsimp only at k o|-
 obtain hi:=k;refine xx 5 ?_;refine xp 10 ?_ ?_<;>intro x
 . have d:s<I.length:=(by omega);have l:=hi _ (aC d);refine Z7 (hs.le leA) (by rw [g];omega) fun z t m=> ?_;have e:=hs;rw [m] at e;refine rf [6,3007,1] m ?_;refine Kr (us:=Y8 I[s]) isAgg222 sizeOf222 rfl (fD (sz:=4) (j:=(s:Int)) e leA (fun _=>rfl) d rfl) ?_;refine Zh zeroValue222 fun w=> ?_
   refine rn [0,4,0] ?_;refine Zv call246 (aH _) (La (cd:=I[s].c) (gc.le leA)) ?_;rintro _ _ ⟨(⟨p,rfl⟩|⟨p,r,rfl⟩),rfl⟩
   . exact aV l p
   refine oo 3 ?_;refine Zh zeroValue350 fun u=> ?_
   refine rn [0,5,0,0] ?_;refine iV (aM (b:=J s::(pre++F)) leA (cG _ (Yr _))) (jH F (hy s d _ _ ⟨⟨r,rfl⟩,rfl⟩)) ?_;rintro _ _ ⟨_,⟨rfl,rfl⟩,rfl⟩;refine ox 9 ?_;refine fR 7 (.slice a I.length c) rfl (by rw [<-m]) ?_;refine aX (o (s+1) (by omega) (by omega)) Zn leA
 obtain rfl:s=I.length:=(by omega);refine xx 2 ?_;refine Zr (J I.length::pre) func245 (Yy results245) ⟨_,rfl,rfl⟩
theorem Zzs (hc:Cl pre ⟨n,0,none⟩ (.slice a I.length c))(hs:Sees pre a (I.flatMap Y8))(hi: ∀ i∈I,1<=i.c/\i.c<=34)(hb:I.length<=1000000)(gc:GC pre):IterT prog G (.func (.func 245) [].toArray (A3 n).toArray) NmR I pre:=
 fun y J hy=>gT call245 (Zxv hc hs hi hb gc hy)
end
theorem Ya {bk o:Nat}{S:List Int}{y:Int}(h:Sees R (some ⟨bk,o,none⟩) (L.map I64))(e:L=y::S)(hq:Le q R):Cl q ⟨bk,o+(0:Int).toNat*1,none⟩ (I64 y):=by
 subst e;exact (h.le hq).at (n:=0) rfl (jI _)
def ahd (L:List Int)(i:Nat):Int:=if i=0 then 0 else L.getD (i - 1) 0
theorem codB_at (h:i<I.length)(h2:i<L.length):Tn (ahd L i) (I.drop i) (L.drop i)=Zxc I[i] (L[i] - ahd L i)++Tn (ahd L (i+1)) (I.drop (i+1)) (L.drop (i+1)):=by
 rw [aP h,aP h2,Tn];congr 2;unfold ahd;rw [if_neg (by omega),fO,aG,aE h2];rfl
def tcI (p n4 n5:Nat)(x:Cod)(R:List HP)(T:List Int)(i:Nat):HP:=ex fun z:List Int×Option Addr×Nat=>stars [pure ((z.1++Tn (ahd x.lines i) (x.ins.drop i) (x.lines.drop i)=T)/\Sees R z.2.1 ((x.lines.drop i).map I64)/\x.lines.length - i<=z.2.2),wrO p z.1,pto n4 (.cells [I64 (ahd x.lines i)].toArray 3 (0,0)),pto n5 (.cells [.slice z.2.1 (x.lines.length - i) z.2.2].toArray 23 (0,0))]
theorem Sd {W:List Int}(e:W++Tn (ahd x.lines i) (x.ins.drop i) (x.lines.drop i)=T)(h1:Sees R a ((x.lines.drop i).map I64))(h2:x.lines.length - i<=c)(h:Le q (wrO p W::pto n4 (.cells [I64 (ahd x.lines i)].toArray 3 (0,0))::pto n5 (.cells [.slice a (x.lines.length - i) c].toArray 23 (0,0))::r)):Le q (tcI p n4 n5 x R T i::r):=
 h.trans (Wa (W,a,c) ((Yc ⟨e,h1,h2⟩ _).trans (Zm [_,_,_,_] r)))
theorem X.tcO {f:Fc}{Q:Yw}{k:List Item}{p0:PE}{ds:List Deferred}{cs:List Frame}(h: ∀ W a c,W++Tn (ahd x.lines i) (x.ins.drop i) (x.lines.drop i)=T->Sees R a ((x.lines.drop i).map I64)->x.lines.length - i<=c->X P G f Q k p0 ds cs (Go.Proofs.YtadahhbefdnabaaGreatDoor.wrO p W::pto n4 (.cells [I64 (ahd x.lines i)].toArray 3 (0,0))::pto n5 (.cells [.slice a (x.lines.length - i) c].toArray 23 (0,0))::r))(hq:Le q (tcI p n4 n5 x R T i::r):=by exact Zj):X P G f Q k p0 ds cs q:=
 .le hq (.ex fun z=> .le (Zy _ r) (.pure fun e=>h _ _ _ e.1 e.2.1 e.2.2))
abbrev AU :=((.cells zz10.toArray 23 (0,0)):Obj)
theorem Zzr (ok:Dd x)(hlc:x.lines.length<=x.lc)(hx:CodQ q x)(gc:GC q)(hB:l.length+(Zzb (x.name,x.locals,x.ins,x.lines)).length<=500000000):CallF prog G 105 [.pointer (some ⟨p,0,none⟩),.agg (Vn x).toArray] (wrO p l::q) (Ret fun v q'=>q'=wrO p (l++Zzb (x.name,x.locals,x.ins,x.lines))::q):=by
 refine aB func105 ntmps105 rfl fun F cs=> ?_;obtain ⟨k1,k2,k3,k4,k5⟩:=ok;unfold Yj at k1 k2;obtain ⟨NL,w0⟩:=bP k2.1;obtain ⟨TT,c0⟩:=lM (l++Zzb (x.name,x.locals,x.ins,x.lines));have j1:TT.length<=500000000:=(by rw [c0,aA];exact hB);rw [<-c0];have n0: ∀ i∈x.ins,1<=i.c/\i.c<=34:=fun i h=>(k4.2 i h).1;have g1:=Il x.name;have f1:=V9 x.name.size;have d1:=V9 NL;have c1:=V9 x.ins.length;unfold Zzb at c0 hB;dsimp only at c0 hB;rw [w0,show ((NL:Nat):Int).toNat=NL from rfl] at c0 hB;simp only [aA] at hB
 refine xo 2 ?_;refine Zl fun n1=> ?_
 refine Zl fun n2=> ?_
 refine rn [3,0,1,0,1] ?_;refine Zv call103 (Qm leA) (We (n:=x.name.size) (by omega) (by omega)) ?_;rintro _ _ rfl;obtain ⟨W1,g0⟩:=lM (l++vb x.name.size);rw [<-g0];refine ox 1 ?_;refine X.wrO fun aw cw=> ?_
 refine rn [1,0,1,2,3,4,5,6,7,8] ?_;refine eE 8 rfl (Ef.appS (l:=W1) (sb:=x.name) underlying88 underlying9 Va rfl rfl Zj (by rw [g0];simp only [aA];omega)) ?_;refine kk2 fun a2 c2=> ?_
 refine rn [10,11,12,13,0] ?_;obtain ⟨W2,k0⟩:=lM (W1++byI x.name);rw [<-k0];refine cS (q':=wrO p W2::_) (R6 (bD Zj Zj)) ?_;refine rn [2,0,1,0] ?_;refine aW 27 (Al NL) rfl (by rw [<-w0]) ?_;refine Zv call103 (Qm Zj) (We (n:=NL) (by omega) (by rw [k0,g0];simp only [aA];omega)) ?_;rintro _ _ rfl;obtain ⟨W3,l0⟩:=lM (W2++vb NL);rw [<-l0];refine rn [3,0,1,0,1] ?_;refine Zv call103 (Qm Zj) (We (n:=x.ins.length) (by omega) (by rw [l0,k0,g0];simp only [aA];omega)) ?_;rintro _ _ rfl;obtain ⟨W4,u0⟩:=lM (W3++vb x.ins.length);rw [<-u0];refine rn [1,1,0,1,2] ?_;refine Yd (fl:= [⟨2,4,fun g=> pt g,fun g=>pto g (.cells zz6.toArray 3 (0,0))⟩,⟨3,5,fun g=> pt g,fun g=>pto g AU⟩]) ?_;refine Ws (e0:=⟨2,4,fun g=> pt g,fun g=>pto g (.cells zz6.toArray 3 (0,0))⟩) (hnd:=by simp) 2 ⟨⟨_,rfl,rfl,rfl,rfl,rfl,rfl,fun q=>cD zeroValue3⟩,⟨_,rfl,rfl,rfl,rfl,rfl,rfl,fun q=>cD zeroValue23⟩,trivial⟩ fun n3=> ?_;change XF _ _ _ _ _ _ _ [⟨3,5,fun g=> pt g,fun g=>pto g AU⟩] _ _ _ ((4,pt n3)::_) _ _ (pto n3 (.cells zz6.toArray 3 (0,0))::_);refine Ws (e0:=⟨3,5,fun g=> pt g,fun g=>pto g AU⟩) (hnd:=by simp) 3 ⟨⟨_,rfl,rfl,rfl,rfl,rfl,rfl,fun q=>cD zeroValue23⟩,trivial⟩ fun n4=> ?_;change XF _ _ _ _ _ _ _ [] _ _ _ ((5,pt n4)::_) _ _ (pto n4 AU::_);refine eQ ?_;refine rn [5,6,0,3,0] ?_;refine Zv call185 (aH _) (named_ok) ?_;rintro _ _ ⟨nb,rfl,rfl⟩;refine ox 2 ?_;refine cS (q':=pto nb (.cells [.slice x.ia x.ins.length x.ic].toArray 213 (0,0))::_) Zj (fX ?_);refine Zqw (xs:=x.ins) (im nb (.cells [.slice x.ia x.ins.length x.ic].toArray 213 (0,0))::pto n1 (.cells [.pointer (some ⟨p,0,none⟩)].toArray 226 (0,0))::pto n2 (.cells (Vn x).toArray 224 (0,0))::q) (fun k:Nat=> [tcI p n3 n4 x q TT k]) (F:=F) (Zzs (dH (iT _ _ _) 0 _ rfl) (hx.i.le leA) n0 (by omega) (gc.le leA)) rfl ?_ (by rintro _ _ _ ⟨⟨_,rfl⟩,_⟩;rfl) rfl (by rw [func105];rfl) rfl (fun i hi vs A hA l9 rec F0 l1=> ?_) fun r=> ?_
 . simp only [ca,na];exact Sd (W:=W4) (a:=x.la) (c:=x.lc) (by rw [c0,u0,l0,k0,g0];simp [ahd]) hx.l (by omega) (by rw [Nat.sub_zero];exact leA)
 . obtain ⟨⟨sn,rfl⟩,rfl⟩:=hA;obtain ⟨y,hy⟩:=lM x.ins[i];rw [<-hy];have y0:Kd y:=k4.2 y (hy ▸ aC hi);have b0:i<x.lines.length:=(by omega);refine X.sub (p':= [(40,_),(39,_),(38,_),(5,_),(4,_),(2,_)]) ⟨rfl,rfl,rfl,rfl,rfl,rfl,trivial⟩ ?_;simp only [ca,na];refine X.tcO fun W a5 c5 d e a1=> ?_;rw [codB_at hi b0,<-hy] at d;obtain ⟨b1,i0,m0,z0⟩:=y0
   obtain ⟨ah,r0⟩:=lM (ahd x.lines i);rw [<-r0] at d|-;have i1:0<=ah/\ah<=65536:=(by rw [r0];unfold ahd;split;exact ⟨by decide,by decide⟩;rw [aG,aE (show i - 1<x.lines.length by omega)];exact k5.2 _ (aC _));obtain ⟨w,a0⟩:=lM x.lines[i];rw [<-a0] at d;have h1:0<=w/\w<=65536:=(by rw [a0];exact k5.2 _ (aC b0));obtain ⟨D,hD⟩:=lM (Tn (ahd x.lines (i+1)) (x.ins.drop (i+1)) (x.lines.drop (i+1)));rw [<-hD] at d;have t:=aQ List.length d;unfold Zxc at t d;simp only [aA,aJ,aT] at t;have j0:(x.lines.drop i).length=x.lines.length - i:=cE;have j:x.lines.drop i=w::x.lines.drop (i+1):=(by rw [a0];exact aP b0);refine Z7 (e.le leA) (by rw [aI,j0];omega) fun b6 o6 e6=> ?_;subst e6;refine X.wrO fun aw cw=> ?_
   have o0:(y.c=26)\/(y.c=1)\/(nmA y.c=true/\y.c≠26/\y.c≠1)\/(nmA y.c=false/\y.c≠26/\y.c≠1):=(by cases nmA y.c<;>simp<;>omega);rcases o0 with z|z|⟨hm,q0,p0⟩|⟨hm,q0,p0⟩
   . have hm:nmA y.c=true:=(by rw [z];rfl);have d0:decide (y.c=26)=true:=(by rw [z];rfl);have e1:decide (y.c=1)=false:=(by rw [z];rfl);rw [if_pos (by rw [hm]),if_pos (by exact z),if_neg (by omega)] at d t;replace d:W++ [y.c]++vb y.a.toNat++vb y.b.toNat++vb (sgU (w - ah))++D=TT:=(by rw [<-d];simp);rw [if_pos hm] at i0;obtain ⟨An,h0⟩:=bP i0.1;rw [h0,show ((An:Int)).toNat=An from rfl] at d t;rw [if_pos z] at m0;obtain ⟨Bn,x0⟩:=bP m0.1;rw [x0,show ((Bn:Int)).toNat=Bn from rfl] at d t;refine xo 2 ?_;refine Zh zeroValue350 fun n5=> ?_
     refine rn [0,2] ?_;refine Zh zeroValue222 fun n6=> ?_
     refine rn [0,1] ?_;refine fM rfl leA ?_;refine rn [2,0,1,2,3,4,5,6,7,8,9] ?_;refine dY 49 (.int .u8 y.c) rfl (aQ (Value.int .u8) (by rw [wu8];omega)) ?_;refine eE 9 rfl (Uk (u:=y.c) (Value.int .u8) underlying88 Va rfl rfl) ?_;rintro _ _ ⟨g2,rfl,rfl⟩;refine ⟨(hlA (h:=by repeat first|exact trivial|refine ⟨clA,?_⟩|refine ⟨Ya e j leA,?_⟩)),?_⟩;refine eE 10 rfl (Yb (f:=Value.int .u8) (l:=W) (m:= [y.c]) underlying88 Va rfl rfl rfl Zj ((bY _).le leA) (fun _=>rfl) (by simp only [aA,aJ,aT];omega) (by simp only [aA,aJ,aT];omega)) ?_;rintro _ _ ⟨a3,c3,rfl,rfl⟩;refine ⟨(hlA (h:=by repeat first|exact trivial|refine ⟨clA,?_⟩|refine ⟨Ya e j leA,?_⟩)),?_⟩;refine rn [12,13,14,15,0,4,0,1] ?_;refine jC 56 ?_ rfl (hm);refine rn [2,0,1,0] ?_;refine aW 59 (Al An) rfl (by rw [<-h0]) ?_;obtain ⟨W1,o⟩:=lM (W++ [y.c]);rw [<-o] at d|-;refine eP (q':=wrO p W1::_) (R6 (bD Zj Zj)) ?_;refine Zv call103 (Qm Zj) (We (l:=W1) (n:=An) (by omega) (by have h:=aQ List.length d;simp only [aA] at h;omega)) ?_;rintro _ _ rfl;obtain ⟨W2,f0⟩:=lM (W1++vb An);rw [<-f0] at d|-;refine rn [5,0,1] ?_;refine jC 62 ?_ rfl (d0);refine rn [2,0,1,0] ?_;refine aW 65 (Al Bn) rfl (by rw [<-x0]) ?_;refine Zv call103 (Qm Zj) (We (l:=W2) (n:=Bn) (by omega) (by have h:=aQ List.length d;simp only [aA] at h;omega)) ?_;rintro _ _ rfl;obtain ⟨W3,v0⟩:=lM (W2++vb Bn);rw [<-v0] at d|-;refine rn [5,0,1] ?_;refine gG 68 ?_ rfl (e1);refine rn [2,1,0,1,2,3] ?_;refine ldD 3 ?_ (hc:=(Ya e j leA));refine rn [5,6] ?_;refine Wv 6 call101 (Qm Zj) (Jq (l:=W3) (k:=w - ah) (by omega) (by have h:=aQ List.length d;simp only [aA] at h;omega)) ?_;rintro _ _ rfl;refine ⟨(hlA (h:=by repeat first|exact trivial|refine ⟨clA,?_⟩|refine ⟨Ya e j leA,?_⟩)),?_⟩;obtain ⟨W5,s⟩:=lM (W3++vb (sgU (w - ah)));rw [<-s] at d|-;refine rn [0,0,1,2] ?_;refine ldD 2 ?_ (hc:=(Ya e j leA));refine rn [4,5] ?_;refine stD 5 ?_ (hh:=(hlA (h:=by repeat first|exact trivial|refine ⟨clA,?_⟩|refine ⟨Ya e j leA,?_⟩)));refine rn [7,0,1] ?_;refine gC ⟨rfl,rfl,?_⟩;simp only [ca,na];refine bD Zj (Sd (W:=W5) (a:=Oe (some ⟨b6,o6,none⟩) c5 1 1) (c:=c5 - 1) (by rw [<-hD];exact d) (by have:=e.suf (l:=1) (c:=c5) (sz:=1) (by rw [aI,j0];omega);rw [j] at this;simpa using this) (by omega) ?_);rw [show ahd x.lines (i+1)=w by unfold ahd;rw [if_neg (by omega),fO,aG,aE b0,a0];rfl];exact leA
   . have hm:nmA y.c=false:=(by rw [z];rfl);have d0:decide (y.c=26)=false:=(by rw [z];rfl);have e1:decide (y.c=1)=true:=(by rw [z];rfl);rw [if_neg (by rw [hm];decide),if_neg (by omega),if_pos (by exact z)] at d t;replace d:W++ [y.c]++vb (sgU y.n)++vb (sgU (w - ah))++D=TT:=(by rw [<-d];simp);rw [if_pos z] at z0;refine xo 2 ?_;refine Zh zeroValue350 fun n5=> ?_
     refine rn [0,2] ?_;refine Zh zeroValue222 fun n6=> ?_
     refine rn [0,1] ?_;refine fM rfl leA ?_;refine rn [2,0,1,2,3,4,5,6,7,8,9] ?_;refine dY 49 (.int .u8 y.c) rfl (aQ (Value.int .u8) (by rw [wu8];omega)) ?_;refine eE 9 rfl (Uk (u:=y.c) (Value.int .u8) underlying88 Va rfl rfl) ?_;rintro _ _ ⟨g2,rfl,rfl⟩;refine ⟨(hlA (h:=by repeat first|exact trivial|refine ⟨clA,?_⟩|refine ⟨Ya e j leA,?_⟩)),?_⟩;refine eE 10 rfl (Yb (f:=Value.int .u8) (l:=W) (m:= [y.c]) underlying88 Va rfl rfl rfl Zj ((bY _).le leA) (fun _=>rfl) (by simp only [aA,aJ,aT];omega) (by simp only [aA,aJ,aT];omega)) ?_;rintro _ _ ⟨a3,c3,rfl,rfl⟩;refine ⟨(hlA (h:=by repeat first|exact trivial|refine ⟨clA,?_⟩|refine ⟨Ya e j leA,?_⟩)),?_⟩;refine rn [12,13,14,15,0,4,0,1] ?_;refine gG 56 ?_ rfl (hm);refine rn [6,0,1] ?_;refine gG 62 ?_ rfl (d0);refine rn [6,0,1] ?_;refine jC 68 ?_ rfl (e1);refine rn [2,0,1,0] ?_;obtain ⟨W1,o⟩:=lM (W++ [y.c]);rw [<-o] at d|-;refine eP (q':=wrO p W1::_) (R6 (bD Zj Zj)) ?_;refine Zv call101 (Qm Zj) (Jq (l:=W1) (k:=y.n) (by omega) (by have h:=aQ List.length d;simp only [aA] at h;omega)) ?_;rintro _ _ rfl;obtain ⟨W4,t0⟩:=lM (W1++vb (sgU y.n));rw [<-t0] at d|-;refine rn [1,1,0,1,2,3] ?_;refine ldD 3 ?_ (hc:=(Ya e j leA));refine rn [5,6] ?_;refine Wv 6 call101 (Qm Zj) (Jq (l:=W4) (k:=w - ah) (by omega) (by have h:=aQ List.length d;simp only [aA] at h;omega)) ?_;rintro _ _ rfl;refine ⟨(hlA (h:=by repeat first|exact trivial|refine ⟨clA,?_⟩|refine ⟨Ya e j leA,?_⟩)),?_⟩;obtain ⟨W5,s⟩:=lM (W4++vb (sgU (w - ah)));rw [<-s] at d|-;refine rn [0,0,1,2] ?_;refine ldD 2 ?_ (hc:=(Ya e j leA));refine rn [4,5] ?_;refine stD 5 ?_ (hh:=(hlA (h:=by repeat first|exact trivial|refine ⟨clA,?_⟩|refine ⟨Ya e j leA,?_⟩)));refine rn [7,0,1] ?_;refine gC ⟨rfl,rfl,?_⟩;simp only [ca,na];refine bD Zj (Sd (W:=W5) (a:=Oe (some ⟨b6,o6,none⟩) c5 1 1) (c:=c5 - 1) (by rw [<-hD];exact d) (by have:=e.suf (l:=1) (c:=c5) (sz:=1) (by rw [aI,j0];omega);rw [j] at this;simpa using this) (by omega) ?_);rw [show ahd x.lines (i+1)=w by unfold ahd;rw [if_neg (by omega),fO,aG,aE b0,a0];rfl];exact leA
   iterate 2
    focus
     have d0:decide (y.c=26)=false:=dQ q0;have e1:decide (y.c=1)=false:=dQ p0
    rotate_left
   focus
    rw [if_pos (by rw [hm]),if_neg (by omega),if_neg (by omega)] at d t;replace d:W++ [y.c]++vb y.a.toNat++vb (sgU (w - ah))++D=TT:=(by rw [<-d];simp);rw [if_pos hm] at i0;obtain ⟨An,h0⟩:=bP i0.1;rw [h0,show ((An:Int)).toNat=An from rfl] at d t;refine xo 2 ?_;refine Zh zeroValue350 fun n5=> ?_
    refine rn [0,2] ?_;refine Zh zeroValue222 fun n6=> ?_
    refine rn [0,1] ?_;refine fM rfl leA ?_;refine rn [2,0,1,2,3,4,5,6,7,8,9] ?_;refine dY 49 (.int .u8 y.c) rfl (aQ (Value.int .u8) (by rw [wu8];omega)) ?_;refine eE 9 rfl (Uk (u:=y.c) (Value.int .u8) underlying88 Va rfl rfl) ?_;rintro _ _ ⟨g2,rfl,rfl⟩;refine ⟨(hlA (h:=by repeat first|exact trivial|refine ⟨clA,?_⟩|refine ⟨Ya e j leA,?_⟩)),?_⟩;refine eE 10 rfl (Yb (f:=Value.int .u8) (l:=W) (m:= [y.c]) underlying88 Va rfl rfl rfl Zj ((bY _).le leA) (fun _=>rfl) (by simp only [aA,aJ,aT];omega) (by simp only [aA,aJ,aT];omega)) ?_;rintro _ _ ⟨a3,c3,rfl,rfl⟩;refine ⟨(hlA (h:=by repeat first|exact trivial|refine ⟨clA,?_⟩|refine ⟨Ya e j leA,?_⟩)),?_⟩;refine rn [12,13,14,15,0,4,0,1] ?_;refine jC 56 ?_ rfl (hm);refine rn [2,0,1,0] ?_;refine aW 59 (Al An) rfl (by rw [<-h0]) ?_;obtain ⟨W1,o⟩:=lM (W++ [y.c]);rw [<-o] at d|-;refine eP (q':=wrO p W1::_) (R6 (bD Zj Zj)) ?_;refine Zv call103 (Qm Zj) (We (l:=W1) (n:=An) (by omega) (by have h:=aQ List.length d;simp only [aA] at h;omega)) ?_;rintro _ _ rfl;obtain ⟨W2,f0⟩:=lM (W1++vb An);rw [<-f0] at d|-;refine rn [5,0,1] ?_;refine gG 62 ?_ rfl (d0);refine rn [6,0,1] ?_;refine gG 68 ?_ rfl (e1);refine rn [2,1,0,1,2,3] ?_;refine ldD 3 ?_ (hc:=(Ya e j leA));refine rn [5,6] ?_;refine Wv 6 call101 (Qm Zj) (Jq (l:=W2) (k:=w - ah) (by omega) (by have h:=aQ List.length d;simp only [aA] at h;omega)) ?_;rintro _ _ rfl;refine ⟨(hlA (h:=by repeat first|exact trivial|refine ⟨clA,?_⟩|refine ⟨Ya e j leA,?_⟩)),?_⟩;obtain ⟨W5,s⟩:=lM (W2++vb (sgU (w - ah)));rw [<-s] at d|-
   rotate_left
   focus
    rw [if_neg (by rw [hm];decide),if_neg (by omega),if_neg (by omega)] at d t;replace d:W++ [y.c]++vb (sgU (w - ah))++D=TT:=(by rw [<-d];simp);refine xo 2 ?_;refine Zh zeroValue350 fun n5=> ?_
    refine rn [0,2] ?_;refine Zh zeroValue222 fun n6=> ?_
    refine rn [0,1] ?_;refine fM rfl leA ?_;refine rn [2,0,1,2,3,4,5,6,7,8,9] ?_;refine dY 49 (.int .u8 y.c) rfl (aQ (Value.int .u8) (by rw [wu8];omega)) ?_;refine eE 9 rfl (Uk (u:=y.c) (Value.int .u8) underlying88 Va rfl rfl) ?_;rintro _ _ ⟨g2,rfl,rfl⟩;refine ⟨(hlA (h:=by repeat first|exact trivial|refine ⟨clA,?_⟩|refine ⟨Ya e j leA,?_⟩)),?_⟩;refine eE 10 rfl (Yb (f:=Value.int .u8) (l:=W) (m:= [y.c]) underlying88 Va rfl rfl rfl Zj ((bY _).le leA) (fun _=>rfl) (by simp only [aA,aJ,aT];omega) (by simp only [aA,aJ,aT];omega)) ?_;rintro _ _ ⟨a3,c3,rfl,rfl⟩;refine ⟨(hlA (h:=by repeat first|exact trivial|refine ⟨clA,?_⟩|refine ⟨Ya e j leA,?_⟩)),?_⟩;refine rn [12,13,14,15,0,4,0,1] ?_;refine gG 56 ?_ rfl (hm);refine rn [6,0,1] ?_;refine gG 62 ?_ rfl (d0);refine rn [6,0,1] ?_;refine gG 68 ?_ rfl (e1);refine xx 2 ?_;obtain ⟨W1,o⟩:=lM (W++ [y.c]);rw [<-o] at d;rw [<-o];refine cS (q':=wrO p W1::_) (R6 (bD Zj Zj)) ?_;refine rn [1,0,1,2,3] ?_;refine ldD 3 ?_ (hc:=(Ya e j leA));refine rn [5,6] ?_;refine Wv 6 call101 (Qm Zj) (Jq (l:=W1) (k:=w - ah) (by omega) (by have h:=aQ List.length d;simp only [aA] at h;omega)) ?_;rintro _ _ rfl;refine ⟨(hlA (h:=by repeat first|exact trivial|refine ⟨clA,?_⟩|refine ⟨Ya e j leA,?_⟩)),?_⟩;obtain ⟨W5,s⟩:=lM (W1++vb (sgU (w - ah)));rw [<-s] at d|-
   all_goals
    refine rn [0,0,1,2] ?_;refine ldD 2 ?_ (hc:=(Ya e j leA));refine rn [4,5] ?_;refine stD 5 ?_ (hh:=(hlA (h:=by repeat first|exact trivial|refine ⟨clA,?_⟩|refine ⟨Ya e j leA,?_⟩)));refine rn [7,0,1] ?_;refine gC ⟨rfl,rfl,?_⟩;simp only [ca,na];refine bD Zj (Sd (W:=W5) (a:=Oe (some ⟨b6,o6,none⟩) c5 1 1) (c:=c5 - 1) (by rw [<-hD];exact d) (by have:=e.suf (l:=1) (c:=c5) (sz:=1) (by rw [aI,j0];omega);rw [j] at this;simpa using this) (by omega) ?_);rw [show ahd x.lines (i+1)=w by unfold ahd;rw [if_neg (by omega),fO,aG,aE b0,a0];rfl];exact leA
 simp only [ca,na];refine X.tcO fun W a5 c5 d e a1=> ?_;rw [cL (aU _)] at d;have s0:W=TT:=(by rw [<-d];simp [Tn]);rw [s0]
 refine xx 1 ?_;refine gC ⟨rfl,Ke ?_⟩;exact gE (q':=wrO p TT::q) func105 (Yy results105) ⟨_,rfl,rfl⟩ leA
end Go.Proofs.YtadahhbefdnabaaGreatDoor
namespace Go.Proofs.YtadahhbefdnabaaGreatDoor
open Go Go.RowKit Wx Go.Proofs.Tryz
attribute [local irreducible] lsH rsH stars
variable {i:Ins}{l L:List Ins}{D:List Int}{a e b t n x d k id B lo sl ot T:Int}{m:Mdl}{s p q f:Nat}{ix:PEx}{c:Cn}{ts r:List Tk}{F:Fnd}
def D8:Ins:=⟨0,0,0,0⟩
theorem getD_lt' {α:Type}{l:List α}{i:Nat}{z:α}(h:i<l.length):l.getD i z=l[i]:=by simp [aG,h]
structure Snd (l:List Ins) (D:Nat->Int):Prop where
 pos:0<l.length
 z:D 0=0
 go: ∀ a,a<l.length->0<=D a-> ¬D a<(Wj (l.getD a D8).c).1/\D a - (Wj (l.getD a D8).c).1+(Wj (l.getD a D8).c).2<=25/\(((l.getD a D8).c=23\/(l.getD a D8).c=34)->D a=0)/\
  ∀ y∈nxt (l.getD a D8) a,0<=y/\y.toNat<l.length/\D y.toNat=D a - (Wj (l.getD a D8).c).1+(Wj (l.getD a D8).c).2
section
variable {D:Nat->Int}
theorem Snd.nn (h:Snd l D){a:Nat}(ha:a<l.length)(hd:0<=D a):0<=D a - (Wj (l.getD a D8).c).1+(Wj (l.getD a D8).c).2:=by
 have b:=(h.go a ha hd).1;have:=Ip (l.getD a D8).c;omega
end
theorem El {b:Int}{E:Nat->Int}(hb:0<=b): ∀ {l D:List Int},(∀ x∈l,0<=x/\x.toNat<D.length/\E x.toNat=b)->(∀ j,0<=dAt D j->dAt D j=E j)-> ∃ D',Qn b D l=some D'/\D'.length=D.length/\ ∀ j,0<=dAt D' j->dAt D' j=E j
 | [],D,_,h=>⟨D,rfl,rfl,h⟩
 |x::r,D,hx,h=>by
  obtain ⟨o,k,g⟩:=hx x (bW ..);unfold Qn;rw [if_neg (by rintro ⟨d,a⟩;rw [h _ d,g] at a;exact a rfl)];have e:=fun j=>F5 (D:=D) (i:=x.toNat) (j:=j) (b:=b) k
  obtain ⟨D',d,a,n⟩:=El hb (l:=r) (D:=D.set x.toNat b) (fun y m=>by rw [bK];exact hx y (bX _ m)) (fun j c=>by
   rw [e] at c|-;split
   . rename_i f;rw [f,g]
   rename_i f;rw [if_neg f] at c;exact h j c)
  exact ⟨D',d,by rw [a,bK],n⟩
theorem Lk {ins:List Pm}{E:Nat->Int}(hE: ∀ a,a<ins.length->0<=E a->(Qj ins a (E a)).2=0/\0<=(Qj ins a (E a)).1/\ ∀ x∈Rt (ins.getD a zI) a,0<=x/\x.toNat<ins.length/\E x.toNat=(Qj ins a (E a)).1):
 ∀ (k:Nat) (D:List Int) (dn:List Bool),D.length=ins.length->(∀ j,0<=dAt D j->dAt D j=E j)->(Gk ins k D dn).2=0
 |0,_,_,_,_=>rfl
 |k+1,D,dn,hl,h=>by
  unfold Gk;split
  . rfl
  rename_i a d;obtain ⟨q,⟨b,_⟩,_⟩:=Tg d;have g:=h a b;rw [g] at b|-;obtain ⟨p,m,i⟩:=hE a (by omega) b;rw [if_neg (by omega)];obtain ⟨n,f,o,e⟩:=El m (l:=Rt (ins.getD a zI) a) (D:=D) (fun x c=>by rw [hl];exact i x c) h;rw [f];exact Lk hE k n _ (by omega) e
theorem Snd.dOf {m:Mdl}{t:Cod}{E:Nat->Int}(h:Snd t.ins E)(hs: ∀ x∈t.ins,Tv m t x):(dOf m t).2=0:=by
 unfold Go.Proofs.YtadahhbefdnabaaGreatDoor.dOf;have v:=h.pos;rw [if_neg (by omega),if_neg (fun k=>k hs)];refine Lk (E:=E) (fun a f p=> ?_) _ _ _ (by simp [Ku]) fun j d=> ?_
 . rw [Ku] at f;obtain ⟨u,s,q,l⟩:=h.go a f p;have o:=h.nn f p;rw [getD_lt' f] at u s q l o
   have e:Qj (Hf t) a (E a)=(E a - (Wj t.ins[a].c).1+(Wj t.ins[a].c).2,0):=by
    unfold Qj;rw [Hr f];dsimp only [Ins.t];rw [if_neg (by omega),if_neg (fun k=>k.2 (q k.1)),if_neg];rintro ⟨x,r,g⟩;have:=l x r;rw [Ku] at g;omega
   rw [e,Hr f,Ku];exact ⟨rfl,o,l⟩
 have e:=F5 (D:=List.replicate t.ins.length (-1)) (i:=0) (j:=j) (b:=0) (by simp;omega);rw [e] at d|-;split
 . rename_i n;rw [n,h.z]
 rename_i n;rw [if_neg n] at d;exfalso;unfold dAt at d;rw [aG,iJ] at d;split at d<;>simp at d
theorem vchk_of (h:Tb m)(hd: ∀ t∈m.threads,(dOf m t).2=0):Hy m=0:=by
 unfold Hy;rw [if_neg (by rw [Tf.2 h];decide)];generalize hl:m.threads=l at hd
 have: ∀ {l:List Cod},(∀ t∈l,(dOf m t).2=0)->Sg m l=0:=by
  intro l
  induction l with
  |nil=>intro _;rfl
  |cons x r ih=>
   intro hd;unfold Sg;rw [if_neg (by rw [hd x (bW ..)];decide)];exact ih fun t a=>hd t (bX _ a)
 exact this hd
mutual
/-- How deep the stack is ahead of each instruction of an expression's code. -/
def PEx.dl:PEx->Int->List Int
 | .mk k n nm slot loc op args,d=>
  if (PEx.one (.mk k n nm slot loc op args))=true then [d]
  else if k=2 then [d]
  else if k=1 then [d]
  else
   let a:=(H0 args).getD 0 (fun _=> []) d
   if k=6/\op<=2 then a++ [d+1]++(H0 args).getD 1 (fun _=> []) d++ [d+1,d+1,d]
   else if k=3 then a++ [d+1]
   else if k=4 then a++ [d+1]
   else if k=5 then a++ [d+1]
   else a++(H0 args).getD 1 (fun _=> []) (d+1)++ [d+2]
def H0:List PEx->List (Int->List Int)
 | []=> []
 |e::r=>e.dl::H0 r
end
def Atl {α:Type}(L:List α)(s:Nat)(C:List α):Prop:= ∀ i,i<C.length->L[s+i]? =C[i]?
theorem Atl.app {α:Type}{L A B:List α}:Atl L s (A++B)↔Atl L s A/\Atl L (s+A.length) B:=by
 constructor
 . intro h;refine ⟨fun i a=> ?_,fun i a=> ?_⟩
   . rw [h i (by rw [aA];omega),dB a]
   rw [fA,h (A.length+i) (by rw [aA];omega),dG (by omega),kB]
 rintro ⟨c,b⟩ i a;rw [aA] at a;by_cases hl:i<A.length
 . rw [c i hl,dB hl]
 have:=b (i - A.length) (by omega);rw [show s+A.length+(i - A.length)=s+i by omega] at this;rw [this,dG (by omega)]
abbrev dS:=@Atl.app
theorem Atl.one {α:Type}{L:List α}{x:α}:Atl L s [x]↔L[s]? =some x:=by
 constructor
 . intro h;have:=h 0 (by simp);simpa using this
 intro h i a;obtain rfl:i=0:=by simp at a;omega
 simpa using h
abbrev eO:=@Atl.one
theorem Atl.cons {α:Type}{L r:List α}{x:α}:Atl L s (x::r)↔L[s]? =some x/\Atl L (s+1) r:=by
 rw [show x::r= [x]++r from rfl,dS,eO];rfl
def Cnd (L:List Ins)(D:List Int)(p:Nat):Prop:=
 ∃ i e,L[p]? =some i/\D[p]? =some e/\0<=e/\ ¬e<(Wj i.c).1/\e - (Wj i.c).1+(Wj i.c).2<=25/\((i.c=23\/i.c=34)->e=0)/\ ∀ y∈nxt i p,0<=y/\D[y.toNat]? =some (e - (Wj i.c).1+(Wj i.c).2)
theorem Cnd.go (hL:L[p]? =some i)(hD:D[p]? =some e)(he:0<=e)(hf:Wj i.c=(a,b))(h1:a<=e)(h2:e - a+b<=25)(hc:i.c=23\/i.c=34->e=0)(h3: ∀ y∈nxt i p,0<=y/\D[y.toNat]? =some (e - a+b)):Cnd L D p:=
 ⟨i,e,hL,hD,he,by rw [hf];dsimp only;omega,by rw [hf];exact h2,hc,by rw [hf];exact h3⟩
theorem Cnd.on (hL:L[p]? =some i)(hD:D[p]? =some e)(hn:D[p+1]? =some (e - a+b))(he:0<=e)(hf:Wj i.c=(a,b))(h1:a<=e)(h2:e - a+b<=25)(hc: ¬ (i.c=19\/i.c=20\/i.c=21\/i.c=34))(hm:i.c=23->e=0):Cnd L D p:=by
 refine .go hL hD he hf h1 h2 (fun k=>hm (by omega)) fun y d=> ?_
 unfold nxt at d;rw [if_neg (by omega),if_neg (by omega),if_neg (by omega),bN] at d;rw [d];refine ⟨by omega,?_⟩;rw [show ((p:Int)+1).toNat=p+1 by omega];exact hn
theorem Cnd.jmp {t:Nat}(hL:L[p]? =some i)(hD:D[p]? =some e)(hc:i.c=19)(ht:i.a=t)(hn:D[t]? =some e)(he:0<=e)(h2:e<=25):Cnd L D p:=by
 refine .go (a:=0) (b:=0) hL hD he (by rw [hc];decide) he (by omega) (fun k=>by omega) fun y d=> ?_
 unfold nxt at d;rw [if_neg (by omega),if_pos hc,bN] at d;rw [d,ht];exact ⟨by omega,by rw [cT,hn];congr 1;omega⟩
theorem Cnd.jif {t:Nat}(hL:L[p]? =some i)(hD:D[p]? =some e)(hc:i.c=20\/i.c=21)(ht:i.a=t)(hn:D[t]? =some (e - 1))(hn2:D[p+1]? =some (e - 1))(he:1<=e)(h2:e<=25):Cnd L D p:=by
 refine .go (a:=1) (b:=0) hL hD (by omega) (by rcases hc with hc|hc<;>rw [hc]<;>decide) he (by omega) (fun k=>by omega) fun y d=> ?_
 have f:y=i.a\/y=(p:Int)+1:=by
  unfold nxt at d;rw [if_neg (by omega),if_neg (by omega),if_pos hc] at d;split at d
  . left;exact bN.1 d
  rcases bG.1 d with h|h
  . left;exact h
  right;exact bN.1 h
 rcases f with rfl|rfl
 . rw [ht];exact ⟨by omega,by rw [cT,hn];congr 1;omega⟩
 refine ⟨by omega,?_⟩;rw [show ((p:Int)+1).toNat=p+1 by omega,hn2];congr 1;omega
def Cnds (L:List Ins)(D:List Int)(s n:Nat):Prop:= ∀ p,s<=p->p<s+n->Cnd L D p
theorem Cnds.app {n m:Nat}(h:Cnds L D s n)(h2:Cnds L D (s+n) m):Cnds L D s (n+m):=fun p a b=>by
 by_cases k:p<s+n
 . exact h p a k
 exact h2 p (by omega) (by omega)
theorem Cnds.one (h:Cnd L D s):Cnds L D s 1:=fun p b a=>by
 obtain rfl:p=s:=by omega
 exact h
theorem Cnds.len {n m:Nat}(h:Cnds L D s n)(e:n=m):Cnds L D s m:=e ▸ h
theorem Vz {x:Option Int}(h:D[p]? =x)(e:p=q):D[q]? =x:=e ▸ h
theorem Em {D:List Ins}{x:Option Ins}(h:D[p]? =x)(e:p=q):D[q]? =x:=e ▸ h
theorem Atl.at {α:Type}{L C:List α}{t:Nat}(h:Atl L s C)(e:s=t):Atl L t C:=e ▸ h
theorem Cnd.pt (h:Cnd L D p)(e:p=q):Cnd L D q:=e ▸ h
theorem PEx.sz_pos (e:PEx):1<=e.sz:=by cases e;simp only [PEx.sz];omega
theorem Jk: ∀ (N:Nat) (e:PEx),e.sz<=N->e.fit-> ∀ (s d:Int),(e.dl d).length=(e.code s).length/\(e.dl d)[0]? =some d
 |0,e,hN,_,_,_=>by have:=e.sz_pos;omega
 |N+1,.mk k n nm slot loc op args,hN,⟨hk,hm,hn1,hop,hfa⟩,s,d=>by
  simp only [PEx.dl,PEx.code];split
  . exact ⟨rfl,rfl⟩
  split
  . exact ⟨rfl,rfl⟩
  split
  . exact ⟨rfl,rfl⟩
  rename_i o p
  have a: ∀ x∈args,∀ s d,(x.dl d).length=(x.code s).length/\(x.dl d)[0]? =some d:=fun x a s d=>by
   obtain ⟨i,g,rfl⟩:=fH a;have:=Ed g;simp only [PEx.sz] at hN;exact Jk N _ (by omega) (Ud hfa a) s d
  have b: ∀ {x:PEx} {r:List Int},(∀ s d,(x.dl d).length=(x.code s).length/\(x.dl d)[0]? =some d)->(x.dl d++r)[0]? =some d:=fun {x r} h=>by
   have f:=(h s d).2;rw [dB (by obtain ⟨l,_⟩:=cA.1 f;exact l)];exact f
  by_cases h6:k=6
  . obtain ⟨x,y,rfl⟩: ∃ x y,args= [x,y]:=by
     match args,hm with
     | [x,y],_=>exact ⟨x,y,rfl⟩
     | [],hm=>rw [h6] at hm;cases hm
     | [_],hm=>rw [h6] at hm;cases hm
     |_::_::_::_,hm=>rw [h6] at hm;simp [Rr] at hm
    have ix:=a x (by simp);have c:=a y (by simp);simp only [H0,PEx.codes,gM,lH];subst h6;by_cases ho:op<=2
    . simp (decide:=true) only [ho,and_true,true_and,and_false,false_and,if_true,if_false,reduceIte];refine ⟨by simp only [aA,aJ,aT];rw [(ix s d).1,(c (s+(x.code s).length+1) d).1],?_⟩;rw [aK,aK];exact b ix
    simp (decide:=true) only [ho,and_true,true_and,and_false,false_and,if_true,if_false,reduceIte];refine ⟨by simp only [aA,aJ,aT];rw [(ix s d).1,(c (s+(x.code s).length) (d+1)).1],?_⟩;rw [aK];exact b ix
  obtain ⟨x,rfl⟩: ∃ x,args= [x]:=by
   have m:args.length=1:=by rw [hm];unfold Rr;rw [if_pos (by omega)]
   match args,m with
   | [x],_=>exact ⟨x,rfl⟩
  have ix:=a x (by simp);simp only [H0,PEx.codes,gM];have j:k=3\/k=4\/k=5:=by omega
  rcases j with rfl|rfl|rfl<;>simp (decide:=true) only [false_and,if_true,if_false,reduceIte]<;>exact ⟨by simp only [aA,aJ,aT];rw [(ix s d).1],b ix⟩
theorem Atl.hd {L C:List Int}(h:Atl L s C)(h0:C[0]? =some d):L[s]? =some d:=by
 have:=h 0 (by obtain ⟨a,_⟩:=cA.1 h0;exact a);rw [iF] at this;rw [this,h0]
theorem PEx.snd (L:List Ins)(D:List Int): ∀ (N:Nat) (e:PEx),e.sz<=N->e.fit-> ∀ (s:Nat) (d:Int),0<=d->d+e.dep<=25->Atl L s (e.code s)->Atl D s (e.dl d)->D[s+(e.code s).length]? =some (d+1)->Cnds L D s (e.code s).length
 |0,e,hN,_,_,_,_,_,_,_,_=>by have:=e.sz_pos;omega
 |N+1,.mk k n nm slot loc op args,hN,⟨hk,hm,hn1,hop,hfa⟩,s,d,hd,hdep,hL,hD,hE=>by
  have c: ∀ x∈args,∀ (s:Nat) (d:Int),0<=d->d+x.dep<=25->Atl L s (x.code s)->Atl D s (x.dl d)->D[s+(x.code s).length]? =some (d+1)->Cnds L D s (x.code s).length:=fun x c=>by
   obtain ⟨i,hi,rfl⟩:=fH c;have:=Ed hi;simp only [PEx.sz] at hN;exact PEx.snd L D N _ (by omega) (Ud hfa c)
  have w: ∀ x∈args,∀ (s d:Int),(x.dl d).length=(x.code s).length/\(x.dl d)[0]? =some d:=fun x c=>Jk _ x (aU _) (Ud hfa c)
  simp only [PEx.dep] at hdep;simp only [PEx.code] at hL hE|-;simp only [PEx.dl] at hD;split at hL
  . rename_i p;rw [if_pos p] at hD hE|-;rw [eO] at hL hD;exact .one (.on (a:=0) (b:=1) hL hD (by simpa using hE) hd (show Wj 1=(0,1) by decide) hd (by omega) (show ¬ ((1:Int)=19\/(1:Int)=20\/(1:Int)=21\/(1:Int)=34) by decide) (fun h=>aV (show (1:Int)=23 from h) (by decide)))
  rename_i p;rw [if_neg p] at hD hE|-;split at hL
  . rename_i o;rw [if_pos o] at hD hE|-;rw [eO] at hL hD;refine .one (.on (a:=0) (b:=1) hL hD (by simpa using hE) hd ?_ hd (by omega) ?_ (fun h=> ?_))
    . dsimp only;split<;>decide
    . dsimp only;split<;>decide
    dsimp only at h;split at h<;>exact aV h (by decide)
  rename_i o;rw [if_neg o] at hD hE|-;split at hL
  . rename_i z;rw [if_pos z] at hD hE|-;rw [eO] at hL hD;exact .one (.on (a:=0) (b:=1) hL hD (by simpa using hE) hd (show Wj 1=(0,1) by decide) hd (by omega) (show ¬ ((1:Int)=19\/(1:Int)=20\/(1:Int)=21\/(1:Int)=34) by decide) (fun h=>aV (show (1:Int)=23 from h) (by decide)))
  rename_i z;rw [if_neg z] at hD hE|-;(try dsimp only at hL);(try dsimp only at hD);(try dsimp only at hE);(try dsimp only);by_cases h6:k=6
  . obtain ⟨x,y,rfl⟩: ∃ x y,args= [x,y]:=by
     match args,hm with
     | [x,y],_=>exact ⟨x,y,rfl⟩
     | [],hm=>rw [h6] at hm;cases hm
     | [_],hm=>rw [h6] at hm;cases hm
     |_::_::_::_,hm=>rw [h6] at hm;simp [Rr] at hm
    have ix:=c x (by simp);have iy:=c y (by simp);have m:=w x (by simp);have u:=w y (by simp);simp only [H0,PEx.codes,gM,lH] at hL hD hE|-;simp only [Ym] at hdep;subst h6;by_cases ho:op<=2
    . simp (decide:=true) only [ho,and_true,true_and,and_false,false_and,if_true,if_false,reduceIte] at hL hD hE|-;rw [dS,dS,dS,eO,Atl.cons,Atl.cons,eO] at hL hD;obtain ⟨⟨⟨L1,r⟩,l⟩,L4,L5,L6⟩:=hL;obtain ⟨⟨⟨D1,j⟩,g⟩,D4,D5,D6⟩:=hD;have e1:=(m s d).1;have e2:=(u (s+(x.code s).length+1) d).1;obtain ⟨B,v⟩: ∃ B,y.code (s+(x.code s).length+1)=B:=⟨_,rfl⟩;rw [v] at r l L4 L5 L6 e2 hE|-;simp only [aA,aJ,aT,e1,e2] at r l L4 L5 L6 j g D4 D5 D6 hE|-;have f:((s+(x.code s).length+1:Nat):Int)=(s:Int)+((x.code s).length:Int)+1:=by omega
      have c1:=ix s d hd (by omega) L1 D1 j;have dh:=Atl.hd g (u 0 d).2;have q:=iy (s+(x.code s).length+1) d hd (by omega) (by rw [f,v];exact l.at (by omega)) (g.at (by omega)) (by rw [f,v];exact Vz D4 (by omega));rw [f,v] at q;have cJ:Cnd L D (s+(x.code s).length):= .jif (t:=s+(x.code s).length+1+B.length+2) r j (by dsimp only;by_cases o:op=2<;>simp [o]) (by dsimp only;omega) (Vz (by rw [show d+1 - 1=d by omega];exact D6) (by omega)) (Vz (by rw [show d+1 - 1=d by omega];exact dh) (by omega)) (by omega) (by omega);have c3:Cnd L D (s+(x.code s).length+1+B.length):= .on (a:=1) (b:=1) (Em L4 (by omega)) (Vz D4 (by omega)) (Vz (by rw [show d+1 - 1+1=d+1 by omega];exact D5) (by omega)) (by omega) (show Wj 22=(1,1) by decide) (by omega) (by omega) (show ¬ ((22:Int)=19\/(22:Int)=20\/(22:Int)=21\/(22:Int)=34) by decide) (fun h=>aV (show (22:Int)=23 from h) (by decide));have c4:Cnd L D (s+(x.code s).length+1+B.length+1):= .jmp (t:=s+(x.code s).length+1+B.length+2+1) (Em L5 (by omega)) (Vz D5 (by omega)) rfl (by dsimp only;omega) (Vz hE (by omega)) (by omega) (by omega);have c5:Cnd L D (s+(x.code s).length+1+B.length+1+1):= .on (a:=0) (b:=1) (Em L6 (by omega)) (Vz D6 (by omega)) (Vz (by rw [show d - 0+1=d+1 by omega];exact hE) (by omega)) (by omega) (show Wj 1=(0,1) by decide) (by omega) (by omega) (show ¬ ((1:Int)=19\/(1:Int)=20\/(1:Int)=21\/(1:Int)=34) by decide) (fun h=>aV (show (1:Int)=23 from h) (by decide));exact (((((c1.app (.one cJ)).app q).app (.one (c3.pt (by omega)))).app (.one (c4.pt (by omega)))).app (.one (c5.pt (by omega)))).len (by omega)
    simp (decide:=true) only [ho,and_true,true_and,and_false,false_and,if_true,if_false,reduceIte] at hL hD hE|-;obtain ⟨n1,a0⟩: ∃ n1,(x.code s).length=n1:=⟨_,rfl⟩;rw [dS,dS,eO] at hL hD;obtain ⟨⟨L1,r⟩,l⟩:=hL;obtain ⟨⟨D1,j⟩,g⟩:=hD;rw [(m s d).1] at j;rw [aA,(m s d).1,(u (s+(x.code s).length) (d+1)).1] at g;rw [aA] at l;simp only [aA,aJ,aT] at hE|-;have f:(((s+(x.code s).length:Nat)):Int)=(s:Int)+((x.code s).length:Int):=by omega
    have d2:=Atl.hd j (u (s+(x.code s).length) (d+1)).2;have c1:=ix s d hd (by omega) L1 D1 d2;have q:=iy (s+(x.code s).length) (d+1) (by omega) (by omega) (by rw [f];exact r) j (by rw [f,fA];rw [show d+1+1=d+2 by omega];exact g);rw [f] at q;refine (c1.app q).app (.one (.on (a:=2) (b:=1) l g ?_ (by omega) ?_ (by omega) (by omega) ?_ (fun h=> ?_)))
    . rw [show d+2 - 2+1=d+1 by omega];rw [<-hE];congr 1
    . dsimp only;have:op+7=10\/op+7=11\/op+7=12\/op+7=13\/op+7=14\/op+7=15\/op+7=16\/op+7=17\/op+7=18:=by have:=hop rfl;omega
      rcases this with h|h|h|h|h|h|h|h|h<;>rw [h]<;>decide
    . dsimp only;have:=hop rfl;omega
    dsimp only at h;have:=hop rfl;omega
  obtain ⟨x,rfl⟩: ∃ x,args= [x]:=by
   have p:args.length=1:=by rw [hm];unfold Rr;rw [if_pos (by omega)]
   match args,p with
   | [x],_=>exact ⟨x,rfl⟩
  have ix:=c x (by simp);have m:=w x (by simp);simp only [H0,PEx.codes,gM] at hL hD hE|-;simp only [Ym] at hdep;have e1:=(m s d).1;have hc:k=3\/k=4\/k=5:=by omega
  rcases hc with rfl|rfl|rfl<;>simp (decide:=true) only [false_and,if_true,if_false,reduceIte] at hL hD hE|- <;>rw [dS,eO] at hL hD<;>simp only [aA,aJ,aT,e1] at hD hE|- <;>refine (ix s d hd (by omega) hL.1 hD.1 hD.2).app (.one (.on (a:=1) (b:=1) hL.2 hD.2 (by rw [show d+1 - 1+1=d+1 by omega];exact hE) (by omega) (by dsimp only;decide) (by omega) (by omega) (by dsimp only;decide) (fun h=>by dsimp only at h;omega)))
def So (k:Int)(e ix:PEx):List Int:=
 let d:Int:=if k=3 then 1 else 0
 (if k=3 then [0]++ix.dl 0 else [0])++(if k<=5\/k=11\/k=15 then e.dl d else [])
def preE (k:Int):Int:=if k=3 then 2 else if k<=5\/k=11\/k=15 then 1 else 0
def Oa (k:Int):List Int:=if k=3 then [2] else if k=12 then [0,1] else [preE k]
mutual
def PStm.dl:PStm->List Int
 | .mk k _ _ _ _ e ix body els _ _ _ _=>
  if k=4 then (if els= [] then So k e ix++ [1]++Vv body else So k e ix++ [1]++Vv body++ [0]++Vv els)
  else if k=5 then So k e ix++ [1]++Vv body++ [0]
  else So k e ix++Oa k
def Vv:List PStm->List Int
 | []=> []
 |s::r=>s.dl++Vv r
end
theorem Xq {e:PEx}(h:k<=5\/k=11\/k=15->e.fit)(h2:k=3->ix.fit):(So k e ix).length=(Qz k e ix id t).length/\(So k e ix)[0]? =some 0:=by
 have a:=fun (h:e.fit) s d=>Jk _ e (aU _) h s d
 have b:=fun (h:ix.fit) s d=>Jk _ ix (aU _) h s d
 unfold So Qz;by_cases h3:k=3
 . subst h3;have c:=fun s=>(a (h (by decide)) s 1).1
   have f:=fun s=>(b (h2 rfl) s 0).1
   simp (decide:=true) only [if_true,true_or,reduceIte];refine ⟨?_,rfl⟩;simp only [aA,aJ,aT];rw [f (t+1),c]
 simp only [if_neg h3];by_cases h4:k<=5\/k=11\/k=15
 . have c:=fun s=>(a (h h4) s 0).1
   simp only [if_pos h4];refine ⟨?_,rfl⟩;simp only [aA,aJ,aT];rw [c]
 simp only [if_neg h4,bR];exact ⟨rfl,rfl⟩
theorem pre_snd {e:PEx}(h:k<=5\/k=11\/k=15->e.fit/\e.dep<=24)(h2:k=3->ix.fit/\ix.dep<=24)(hL:Atl L s (Qz k e ix id s))(hD:Atl D s (So k e ix))(hE:D[s+(Qz k e ix id s).length]? =some (preE k)):Cnds L D s (Qz k e ix id s).length:=by
 have a:=fun (h:e.fit) s d=>Jk _ e (aU _) h s d
 have b:=fun (h:ix.fit) s d=>Jk _ ix (aU _) h s d
 have w:=fun (h:e.fit)=>PEx.snd L D _ e (aU _) h
 have cx:=fun (h:ix.fit)=>PEx.snd L D _ ix (aU _) h
 have mk: ∀ {p:Nat},L[p]? =some ⟨23,id,0,0⟩->D[p]? =some 0->D[p+1]? =some 0->Cnd L D p:=fun z h2 n=> .on (a:=0) (b:=0) z h2 n (by omega) (show Wj 23=(0,0) by decide) (by omega) (by omega) (show ¬ ((23:Int)=19\/(23:Int)=20\/(23:Int)=21\/(23:Int)=34) by decide) (fun _=>rfl)
 unfold So at hD;unfold Qz at hL hE|-;unfold preE at hE;by_cases n:k=3
 . subst n;obtain ⟨j,f2⟩:=h (by decide);obtain ⟨o,g2⟩:=h2 rfl;simp (decide:=true) only [if_true,true_or,reduceIte] at hL hD hE|-;rw [dS,dS,eO] at hL hD;obtain ⟨⟨t,m⟩,y⟩:=hL;obtain ⟨⟨v,i⟩,u⟩:=hD;have e2:=(b o (s+1) 0).1;simp only [aA,aJ,aT,e2] at m y i u hE|-;have f:(((s+1:Nat)):Int)=(s:Int)+1:=by omega
   have c:((s+(1+(ix.code (s+1)).length):Nat):Int)=(s:Int)+((0+1+(ix.code (s+1)).length:Nat):Int):=by omega
   have g:=Atl.hd i (b o 0 0).2;have q:=Atl.hd u (a j 0 1).2;have r:=mk t v (Vz g (by omega));have l:=cx o (s+1) 0 (by omega) (by omega) (by rw [f];exact m.at (by omega)) (i.at (by omega)) (by rw [f];exact Vz q (by omega));rw [f] at l;have x:=w j (s+(1+(ix.code (s+1)).length)) 1 (by omega) (by omega) (by rw [c];exact y.at (by omega)) (u.at (by omega)) (by rw [c];exact Vz hE (by omega));rw [c] at x;exact ((Cnds.one r).app (l.app (by rw [show s+1+(ix.code (s+1)).length=s+(1+(ix.code (s+1)).length) by omega];exact x))).len (by omega)
 simp only [if_neg n] at hL hD hE|-;by_cases h4:k<=5\/k=11\/k=15
 . obtain ⟨j,f2⟩:=h h4;simp only [if_pos h4] at hL hD hE|-;rw [dS,eO] at hL hD;obtain ⟨t,m⟩:=hL;obtain ⟨v,i⟩:=hD;simp only [aA,aJ,aT] at m i hE|-;have f:(((s+1:Nat)):Int)=(s:Int)+((0+1:Nat):Int):=by omega
   have g:=Atl.hd i (a j 0 0).2;have r:=mk t v (Vz g (by omega));have l:=w j (s+1) 0 (by omega) (by omega) (by rw [f];exact m.at (by omega)) (i.at (by omega)) (by rw [f];exact Vz hE (by omega));rw [f] at l;exact ((Cnds.one r).app l).len (by omega)
 simp only [if_neg h4,bR] at hL hD hE|-;rw [eO] at hL hD;exact Cnds.one (mk hL hD hE)
theorem tail_len (m k s o:Int)(l:Bool)(h:1<=k/\k<=15)(h4: ¬k=4)(h5: ¬k=5):(Oa k).length=(Uq m k s o l).length:=by
 have a:k=1\/k=2\/k=3\/k=6\/k=7\/k=8\/k=9\/k=10\/k=11\/k=12\/k=13\/k=14\/k=15:=by omega
 rcases a with rfl|rfl|rfl|rfl|rfl|rfl|rfl|rfl|rfl|rfl|rfl|rfl|rfl<;>simp (decide:=true) [Oa,Uq]
theorem Kt {A B:List Int}(h:A[0]? =some d):(A++B)[0]? =some d:=by
 rw [dB (by obtain ⟨a,_⟩:=cA.1 h;exact a)];exact h
mutual
theorem Ti {c:Cn}{lo:Int}(m:Int): ∀ {s:PStm},s.wl c lo-> ∀ t,s.dl.length=(s.code m t).length/\s.dl[0]? =some 0
 | .mk k ln _ _ _ e ix body els id slot other loc,⟨h1,h2,h3,_,_,h6,h7⟩,t=>by
  have a:=Xq (k:=k) (e:=e) (ix:=ix) (id:=id) (t:=t) (fun h=>(h2 h).1) (fun h=>(h3 h).1);have b:=fun t=>Up (c:=c) (lo:=lo) m h6 t
  have d:=fun t=>Up (c:=c) (lo:=lo) m h7 t
  simp only [PStm.dl,PStm.code];by_cases h4:k=4
  . simp only [if_pos h4];by_cases hn:els= []
    . simp only [if_pos hn];refine ⟨?_,Kt (Kt a.2)⟩;simp only [aA,Z9,aJ,aT];rw [a.1,b (t+((Qz k e ix id t).length:Int)+1)]
    simp only [if_neg hn];refine ⟨?_,Kt (Kt (Kt (Kt a.2)))⟩;simp only [aA,Z9,aJ,aT];rw [a.1,b (t+((Qz k e ix id t).length:Int)+1),d (t+((Qz k e ix id t).length:Int)+1+((PStm.codes m body (t+((Qz k e ix id t).length:Int)+1)).length:Int)+1)]
  simp only [if_neg h4];by_cases h5:k=5
  . simp only [if_pos h5];refine ⟨?_,Kt (Kt (Kt a.2))⟩;simp only [aA,Z9,aJ,aT];rw [a.1,b (t+((Qz k e ix id t).length:Int)+1)]
  simp only [if_neg h5];refine ⟨?_,Kt a.2⟩;simp only [aA,Z9];rw [a.1,tail_len m k slot other loc h1 h4 h5]
theorem Up {c:Cn}{lo:Int}(m:Int): ∀ {l:List PStm},Ww c lo l-> ∀ t,(Vv l).length=(PStm.codes m l t).length
 | [],_,_=>rfl
 |s::r,⟨h1,h2⟩,t=>by
  simp only [Vv,PStm.codes,aA];rw [(Ti (c:=c) (lo:=lo) m h1 t).1,Up (c:=c) (lo:=lo) m h2 (t+((s.code m t).length:Int))]
end
theorem Qy (m:Int){l:List PStm}(h:Ww c lo l)(hD:Atl D p (Vv l))(hE:D[p+(PStm.codes m l t).length]? =some 0):D[p]? =some 0:=by
 cases l with
 |nil=>exact hE
 |cons s r=>exact Atl.hd hD (Kt (Ti (c:=c) (lo:=lo) m h.1 t).2)
theorem tail_snd {m:Int}{lo:Bool}(h:1<=k/\k<=15)(h4: ¬k=4)(h5: ¬k=5)(hL:Atl L p (Uq m k sl ot lo))(hD:Atl D p (Oa k))(hE:D[p+(Uq m k sl ot lo).length]? =some 0):Cnds L D p (Uq m k sl ot lo).length/\D[p]? =some (preE k):=by
 have d: ∀ {i:Ins} {a:Int},Atl L p [i]->D[p]? =some a->D[p+1]? =some 0->0<=a->a<=2->Wj i.c=(a,0)-> ¬ (i.c=19\/i.c=20\/i.c=21\/i.c=34)-> ¬i.c=23->Cnds L D p 1:=fun {i a} h1 h2 h3 h4 h5 h6 h7 h8=>
  .one (.on (a:=a) (b:=0) (eO.1 h1) h2 (by rw [show a - a+0=0 by omega];exact h3) h4 h6 (by omega) (by omega) h7 (fun k=>aV k h8))
 have e: ∀ (s:Int),Wj (intoS s lo).c=(1,0)/\ ¬ ((intoS s lo).c=19\/(intoS s lo).c=20\/(intoS s lo).c=21\/(intoS s lo).c=34)/\ ¬ (intoS s lo).c=23:=fun s=>by
  have f:(intoS s lo).c=5\/(intoS s lo).c=6:=match lo with
   |false=> .inl rfl
   |true=> .inr rfl
  rcases f with f|f<;>rw [f]<;>exact ⟨by decide,by decide,by decide⟩
 have f:k=1\/k=2\/k=3\/k=6\/k=7\/k=8\/k=9\/k=10\/k=11\/k=12\/k=13\/k=14\/k=15:=by omega
 rcases f with rfl|rfl|rfl|rfl|rfl|rfl|rfl|rfl|rfl|rfl|rfl|rfl|rfl<;>simp (decide:=true) only [Uq,Oa,preE,if_true,if_false,reduceIte,or_true,true_or,or_false,false_or,or_self] at hL hD hE|-
 all_goals (try (rw [eO] at hD))
 . exact ⟨d hL hD hE (by decide) (by decide) (e sl).1 (e sl).2.1 (e sl).2.2,hD⟩
 . exact ⟨d hL hD hE (by decide) (by decide) (e sl).1 (e sl).2.1 (e sl).2.2,hD⟩
 . exact ⟨d hL hD hE (by decide) (by decide) (show Wj 7=(2,0) by decide) (show ¬ ((7:Int)=19\/(7:Int)=20\/(7:Int)=21\/(7:Int)=34) by decide) (show ¬ (7:Int)=23 by decide),hD⟩
 . exact ⟨d hL hD hE (by decide) (by decide) (show Wj 24=(0,0) by decide) (show ¬ ((24:Int)=19\/(24:Int)=20\/(24:Int)=21\/(24:Int)=34) by decide) (show ¬ (24:Int)=23 by decide),hD⟩
 . exact ⟨d hL hD hE (by decide) (by decide) (show Wj 25=(0,0) by decide) (show ¬ ((25:Int)=19\/(25:Int)=20\/(25:Int)=21\/(25:Int)=34) by decide) (show ¬ (25:Int)=23 by decide),hD⟩
 . exact ⟨d hL hD hE (by decide) (by decide) (show Wj 26=(0,0) by decide) (show ¬ ((26:Int)=19\/(26:Int)=20\/(26:Int)=21\/(26:Int)=34) by decide) (show ¬ (26:Int)=23 by decide),hD⟩
 . exact ⟨d hL hD hE (by decide) (by decide) (show Wj 27=(0,0) by decide) (show ¬ ((27:Int)=19\/(27:Int)=20\/(27:Int)=21\/(27:Int)=34) by decide) (show ¬ (27:Int)=23 by decide),hD⟩
 . exact ⟨d hL hD hE (by decide) (by decide) (show Wj 28=(0,0) by decide) (show ¬ ((28:Int)=19\/(28:Int)=20\/(28:Int)=21\/(28:Int)=34) by decide) (show ¬ (28:Int)=23 by decide),hD⟩
 . exact ⟨d hL hD hE (by decide) (by decide) (show Wj 29=(1,0) by decide) (show ¬ ((29:Int)=19\/(29:Int)=20\/(29:Int)=21\/(29:Int)=34) by decide) (show ¬ (29:Int)=23 by decide),hD⟩
 . rw [Atl.cons,eO] at hL hD;refine ⟨(Cnds.one (.on (a:=0) (b:=1) hL.1 hD.1 hD.2 (by decide) (show Wj 30=(0,1) by decide) (by decide) (by decide) (show ¬ ((30:Int)=19\/(30:Int)=20\/(30:Int)=21\/(30:Int)=34) by decide) (fun h=>aV (show (30:Int)=23 from h) (by decide)))).app (m:=1) (.one (.on (a:=1) (b:=0) hL.2 hD.2 hE (by decide) (e ot).1 (by decide) (by decide) (e ot).2.1 (fun h=>aV h (e ot).2.2))),hD.1⟩
 . exact ⟨d hL hD hE (by decide) (by decide) (show Wj 31=(0,0) by decide) (show ¬ ((31:Int)=19\/(31:Int)=20\/(31:Int)=21\/(31:Int)=34) by decide) (show ¬ (31:Int)=23 by decide),hD⟩
 . exact ⟨d hL hD hE (by decide) (by decide) (show Wj 32=(0,0) by decide) (show ¬ ((32:Int)=19\/(32:Int)=20\/(32:Int)=21\/(32:Int)=34) by decide) (show ¬ (32:Int)=23 by decide),hD⟩
 exact ⟨d hL hD hE (by decide) (by decide) (show Wj 33=(1,0) by decide) (show ¬ ((33:Int)=19\/(33:Int)=20\/(33:Int)=21\/(33:Int)=34) by decide) (show ¬ (33:Int)=23 by decide),hD⟩
mutual
theorem PStm.snd {c:Cn}{lo:Int}(m:Int)(L:List Ins)(D:List Int): ∀ {s:PStm},s.wl c lo-> ∀ (p:Nat),Atl L p ((s.code m p).map Prod.fst)->Atl D p s.dl->D[p+(s.code m p).length]? =some 0->Cnds L D p (s.code m p).length
 | .mk k ln _ _ _ e ix body els id slot other loc,⟨h1,h2,h3,_,_,h6,h7⟩,p,hL,hD,hE=>by
  have r:=Xq (k:=k) (e:=e) (ix:=ix) (id:=id) (t:=p) (fun h=>(h2 h).1) (fun h=>(h3 h).1);have hb:=fun t=>Up (c:=c) (lo:=lo) m h6 t
  have he:=fun t=>Up (c:=c) (lo:=lo) m h7 t
  obtain ⟨C,hC⟩: ∃ C,Qz k e ix id p=C:=⟨_,rfl⟩;have pre:=pre_snd (L:=L) (D:=D) (k:=k) (e:=e) (ix:=ix) (id:=id) (s:=p) (fun h=>⟨(h2 h).1,(h2 h).2.1⟩) (fun h=>⟨(h3 h).1,(h3 h).2.1⟩);simp only [PStm.dl] at hD;simp only [PStm.code] at hL hE|-;rw [hC] at hL hE r pre|-;have f:((p+C.length+1:Nat):Int)=(p:Int)+(C.length:Int)+1:=by omega
  obtain ⟨B,a⟩: ∃ B,PStm.codes m body ((p:Int)+(C.length:Int)+1)=B:=⟨_,rfl⟩;have bl:(Vv body).length=B.length:=by rw [<-a];exact hb _
  by_cases h4:k=4
  . subst h4;simp only [if_true] at hD hL hE|-;rw [a] at hL hE|-;by_cases hn:els= []
    . simp only [if_pos hn] at hD hL hE|-;rw [aO,Nj,dS,dS,eO] at hL;rw [dS,dS,eO] at hD;obtain ⟨⟨q,o⟩,j⟩:=hL;obtain ⟨⟨l,b⟩,d⟩:=hD;simp only [aA,Z9,aJ,aT,r.1] at j b d hE|-;have v:=Qy (c:=c) (lo:=lo) m h6 (p:=p+C.length+1) (t:=(p:Int)+(C.length:Int)+1) (d.at (by omega)) (by rw [a];exact Vz hE (by omega));have x:=pre q l b;have w:Cnd L D (p+C.length):= .jif (t:=p+C.length+1+B.length) o b (.inl rfl) (by dsimp only;omega) (Vz hE (by omega)) v (by omega) (by omega);have i:=Kx (c:=c) (lo:=lo) m L D h6 (p+C.length+1) (by rw [f,a];exact j.at (by omega)) (d.at (by omega)) (by rw [f,a];exact Vz hE (by omega));rw [f,a] at i;exact ((x.app (.one w)).app i).len (by omega)
    simp only [if_neg hn] at hD hL hE|-;obtain ⟨O,u⟩: ∃ O,PStm.codes m els ((p:Int)+(C.length:Int)+1+(B.length:Int)+1)=O:=⟨_,rfl⟩;have ol:(Vv els).length=O.length:=by rw [<-u];exact he _
    rw [u] at hL hE|-;have z:((p+C.length+1+B.length+1:Nat):Int)=(p:Int)+(C.length:Int)+1+(B.length:Int)+1:=by omega
    rw [aO,aO,aO,Nj,Nj,dS,dS,dS,dS,eO,eO] at hL;rw [dS,dS,dS,dS,eO,eO] at hD;obtain ⟨⟨⟨⟨q,o⟩,j⟩,y⟩,L5⟩:=hL;obtain ⟨⟨⟨⟨l,b⟩,d⟩,g⟩,D5⟩:=hD;simp only [aA,Z9,aI,aJ,aT,r.1,bl] at j y L5 b d g D5 hE|-;have v:=Qy (c:=c) (lo:=lo) m h6 (p:=p+C.length+1) (t:=(p:Int)+(C.length:Int)+1) (d.at (by omega)) (by rw [a];exact Vz g (by omega));have a0:=Qy (c:=c) (lo:=lo) m h7 (p:=p+C.length+1+B.length+1) (t:=(p:Int)+(C.length:Int)+1+(B.length:Int)+1) (D5.at (by omega)) (by rw [u];exact Vz hE (by omega));have x:=pre q l b;have w:Cnd L D (p+C.length):= .jif (t:=p+C.length+1+B.length+1) o b (.inl rfl) (by dsimp only;omega) a0 v (by omega) (by omega);have i:=Kx (c:=c) (lo:=lo) m L D h6 (p+C.length+1) (by rw [f,a];exact j.at (by omega)) (d.at (by omega)) (by rw [f,a];exact Vz g (by omega));have cK:Cnd L D (p+C.length+1+B.length):= .jmp (t:=p+C.length+1+B.length+1+O.length) (Em y (by omega)) (Vz g (by omega)) rfl (by dsimp only;omega) (Vz hE (by omega)) (by omega) (by omega);have c3:=Kx (c:=c) (lo:=lo) m L D h7 (p+C.length+1+B.length+1) (by rw [z,u];exact L5.at (by omega)) (D5.at (by omega)) (by rw [z,u];exact Vz hE (by omega));rw [f,a] at i;rw [z,u] at c3;exact ((((x.app (.one w)).app i).app (.one (cK.pt (by omega)))).app (n:=C.length+1+B.length+1) (by rw [show p+(C.length+1+B.length+1)=p+C.length+1+B.length+1 by omega];exact c3)).len (by omega)
  simp only [if_neg h4] at hD hL hE|-;by_cases h5:k=5
  . subst h5;simp only [if_true] at hD hL hE|-;rw [a] at hL hE|-;rw [aO,aO,Nj,Nj,dS,dS,dS,eO,eO] at hL;rw [dS,dS,dS,eO,eO] at hD;obtain ⟨⟨⟨q,o⟩,j⟩,y⟩:=hL;obtain ⟨⟨⟨l,b⟩,d⟩,g⟩:=hD;simp only [aA,Z9,aI,aJ,aT,r.1,bl] at j y b d g hE|-;have v:=Qy (c:=c) (lo:=lo) m h6 (p:=p+C.length+1) (t:=(p:Int)+(C.length:Int)+1) (d.at (by omega)) (by rw [a];exact Vz g (by omega));have x:=pre q l b;have w:Cnd L D (p+C.length):= .jif (t:=p+C.length+1+B.length+1) o b (.inl rfl) (by dsimp only;omega) (Vz hE (by omega)) v (by omega) (by omega);have i:=Kx (c:=c) (lo:=lo) m L D h6 (p+C.length+1) (by rw [f,a];exact j.at (by omega)) (d.at (by omega)) (by rw [f,a];exact Vz g (by omega));have cK:Cnd L D (p+C.length+1+B.length):= .jmp (t:=p) (Em y (by omega)) (Vz g (by omega)) rfl rfl (Atl.hd l r.2) (by omega) (by omega);rw [f,a] at i;exact (((x.app (.one w)).app i).app (.one (cK.pt (by omega)))).len (by omega)
  simp only [if_neg h5] at hD hL hE|-;rw [Nj,dS] at hL;rw [dS] at hD;obtain ⟨q,o⟩:=hL;obtain ⟨l,b⟩:=hD;simp only [aA,Z9,r.1] at b hE|-;obtain ⟨t1,t2⟩:=tail_snd h1 h4 h5 o b (Vz hE (by omega));exact (pre q l t2).app t1
theorem Kx {c:Cn}{lo:Int}(m:Int)(L:List Ins)(D:List Int): ∀ {l:List PStm},Ww c lo l-> ∀ (p:Nat),Atl L p ((PStm.codes m l p).map Prod.fst)->Atl D p (Vv l)->D[p+(PStm.codes m l p).length]? =some 0->Cnds L D p (PStm.codes m l p).length
 | [],_,p,_,_,_=>fun q b a=>by simp only [PStm.codes,aT] at a;omega
 |s::r,⟨b,a⟩,p,hL,hD,hE=>by
  simp only [PStm.codes] at hL hE|-;simp only [Vv] at hD;have z:((p+(s.code m p).length:Nat):Int)=(p:Int)+((s.code m p).length:Int):=by omega
  have sl:=(Ti (c:=c) (lo:=lo) m b p).1;rw [aO,dS,aI] at hL;rw [dS,sl] at hD;rw [aA] at hE|-;have ds:=Qy (c:=c) (lo:=lo) m a (t:=(p:Int)+((s.code m p).length:Int)) hD.2 (Vz hE (by omega));have e:=PStm.snd (c:=c) (lo:=lo) m L D b p hL.1 hD.1 ds;have d:=Kx (c:=c) (lo:=lo) m L D a (p+(s.code m p).length) (by rw [z];exact hL.2) hD.2 (by rw [z];exact Vz hE (by omega));rw [z] at d;exact e.app d
end
theorem th_snd (m:Int){t:PTh}(h:Ww c lo t.body):Snd ((Yx m t).map Prod.fst) (fun k=>(Vv t.body++ [0]).getD k (-1)):=by
 have p:=Up (c:=c) (lo:=lo) m h 0;obtain ⟨L,r⟩: ∃ L,(Yx m t).map Prod.fst=L:=⟨_,rfl⟩;obtain ⟨D,n⟩: ∃ D,Vv t.body++ [0]=D:=⟨_,rfl⟩;have l:L=(PStm.codes m t.body 0).map Prod.fst++ [⟨34,0,0,0⟩]:=by rw [<-r];unfold Yx;rw [aO,Nj]
 have lL:L.length=(PStm.codes m t.body 0).length+1:=by rw [l];simp
 have lD:D.length=(PStm.codes m t.body 0).length+1:=by rw [<-n];simp [p]
 have u:Atl L 0 L:=fun i _=>by rw [dO]
 have v:Atl D 0 D:=fun i _=>by rw [dO]
 have j:=u;have a0:=v;rw [l] at j;rw [<-l] at j;have f:Atl L 0 ((PStm.codes m t.body 0).map Prod.fst++ [⟨34,0,0,0⟩]):=by rw [<-l];exact u
 have d:Atl D 0 (Vv t.body++ [0]):=by rw [n];exact v
 rw [dS,eO,aI] at f;rw [dS,eO,p] at d;have cs:=Kx (c:=c) (lo:=lo) m L D h 0 f.1 d.1 d.2
 have o: ∀ a,a<L.length->Cnd L D a:=fun a q=>by
  by_cases k:a<(PStm.codes m t.body 0).length
  . exact cs a (bC _) (by rw [dO];exact k)
  obtain rfl:a=(PStm.codes m t.body 0).length:=by omega
  refine .go (a:=0) (b:=0) (Em f.2 (by omega)) (Vz d.2 (by omega)) (by omega) (show Wj 34=(0,0) by decide) (by omega) (by omega) (fun _=>rfl) fun y g=> ?_
  unfold nxt at g;rw [if_pos rfl] at g
  cases g
 have dz:D[0]? =some 0:=Qy (c:=c) (lo:=lo) m h (t:=0) d.1 d.2;rw [r,n];refine ⟨by omega,?_,fun a q h0=> ?_⟩
 . show D.getD 0 (-1)=0
   rw [aG,dz];rfl
 obtain ⟨i,e,h1,h2,h3,h4,z,x,w⟩:=o a q;have ei:L.getD a D8=i:=by rw [aG,h1];rfl
 have ee:D.getD a (-1)=e:=by rw [aG,h2];rfl
 rw [ei,ee];refine ⟨h4,z,x,fun y g=> ?_⟩;obtain ⟨g1,s⟩:=w y g;have gl:=(cA.1 s).1;exact ⟨g1,by omega,by rw [aG,s];rfl⟩
theorem R9 (main:Int): ∀ (l:List PTh) (i:Nat),(i:Int)<=main->main<i+l.length->(V3 main l i).length+1=l.length
 | [],i,h1,h2=>by simp at h2;omega
 |x::r,i,h1,h2=>by
  simp only [V3];by_cases k:(i:Int)=main
  . rw [if_pos k]
    have: ∀ (l:List PTh) (j:Nat),main<j->(V3 main l j).length=l.length:=by
     intro l
     induction l with
     |nil=>intro j _;rfl
     |cons y r ih=>intro j a;simp only [V3];rw [if_neg (by omega),aJ,ih (j+1) (by omega),aJ]
    rw [this r (i+1) (by omega),aJ]
  rw [if_neg k,aJ,R9 main r (i+1) (by omega) (by rw [aJ] at h2;omega),aJ]
structure IG (c:Cn) (lo T:Int) (i:Ins):Prop where
 k:1<=i.c/\i.c<=34
 n:if i.c=1 then -2147483648<=i.n/\i.n<=2147483647 else i.n=0
 b:if i.c=26 then 0<=i.b/\i.b<c.mu else i.b=0
 z:0<=i.a
 o:nmA i.c=false->i.a=0
 v:i.c=2\/i.c=5->i.a<c.v
 l:i.c=3\/i.c=6->i.a<lo
 a:i.c=4\/i.c=7->i.a<c.a
 j:i.c=19\/i.c=20\/i.c=21->i.a<=T
 m:i.c=23->i.a<512
 mu:i.c=24\/i.c=25->i.a<c.mu
 co:i.c=26\/i.c=27\/i.c=28->i.a<c.co
 ch:i.c=29\/i.c=30->i.a<c.ch
 th:i.c=31->i.a<c.th
theorem IG.bare (h:x=8\/x=9\/(10<=x/\x<=18)\/x=22\/(32<=x/\x<=34)):IG c lo T ⟨x,0,0,0⟩:=
 ⟨by dsimp only;omega,by rw [if_neg (by dsimp only;omega)],by rw [if_neg (by dsimp only;omega)],bL 0,fun _=>rfl,by dsimp only;omega,by dsimp only;omega,by dsimp only;omega,by dsimp only;omega,by dsimp only;omega,by dsimp only;omega,by dsimp only;omega,by dsimp only;omega,by dsimp only;omega⟩
theorem IG.push (h: -2147483648<=n/\n<=2147483647):IG c lo T ⟨1,0,0,n⟩:=
 ⟨show (1:Int)<=1/\(1:Int)<=34 by decide,by rw [if_pos rfl];exact h,by rw [if_neg (show ¬ (1:Int)=26 by decide)],bL 0,fun _=>rfl,by dsimp only;omega,by dsimp only;omega,by dsimp only;omega,by dsimp only;omega,by dsimp only;omega,by dsimp only;omega,by dsimp only;omega,by dsimp only;omega,by dsimp only;omega⟩
theorem IG.nm (h:2<=x/\x<=31/\ ¬x=26)(h0:nmA x=true)(hz:0<=a)(h1:x=2\/x=5->a<c.v)(h2:x=3\/x=6->a<lo)(h3:x=4\/x=7->a<c.a)(h4:x=19\/x=20\/x=21->a<=T)(h5:x=23->a<512)(h6:x=24\/x=25->a<c.mu)(h7:x=27\/x=28->a<c.co)(h8:x=29\/x=30->a<c.ch)(h9:x=31->a<c.th):IG c lo T ⟨x,a,0,0⟩:=
 ⟨by dsimp only;omega,by rw [if_neg (by dsimp only;omega)],by rw [if_neg (by dsimp only;omega)],hz,fun e=>aV (show nmA x=false from e) (by rw [h0];decide),h1,h2,h3,h4,h5,h6,fun e=>h7 (by have e:x=26\/x=27\/x=28:=e;omega),h8,h9⟩
theorem IG.jump (h:x=19\/x=20\/x=21)(hz:0<=a)(hT:a<=T):IG c lo T ⟨x,a,0,0⟩:=
 .nm (by omega) (by unfold nmA;exact dA (by omega)) hz (by omega) (by omega) (by omega) (fun _=>hT) (by omega) (by omega) (by omega) (by omega) (by omega)
theorem Yo {α:Type}{φ:α->Prop}{l m:List α}(h: ∀ x∈l,φ x)(h2: ∀ x∈m,φ x): ∀ x∈l++m,φ x:=fun x a=>by
 rcases bE.1 a with a|a
 . exact h x a
 exact h2 x a
theorem Ye {α:Type}{φ:α->Prop}{a:α}(h:φ a): ∀ x∈ [a],φ x:=fun x b=>by rw [bN.1 b];exact h
theorem Qb {c:Cn}{lo:Int}: ∀ (N:Nat) (e:PEx),e.sz<=N->e.fit->e.wl c lo-> ∀ (s T:Int),0<=s->s+(e.code s).length<=T-> ∀ i∈e.code s,IG c lo T i
 |0,e,hN,_,_,_,_,_,_=>by have:=e.sz_pos;omega
 |N+1,.mk k n nm slot loc op args,hN,hfit,hw,s,T,hs,hT=>by
  have f:=Vt hfit;obtain ⟨hk,a,o,m,p⟩:=hfit;obtain ⟨w1,w2,w⟩:=hw
  have d: ∀ x∈args,x.fit/\x.sz<=N:=fun x d=>by
   obtain ⟨i,g,rfl⟩:=fH d;have:=Ed g;simp only [PEx.sz] at hN;exact ⟨Ud p d,by omega⟩
  simp only [PEx.code] at hT|-;split
  . exact Ye (.push f)
  rename_i t;rw [if_neg t] at hT;split
  . rename_i r;have b:=w1 r;unfold vaOk at b;refine Ye ?_;by_cases hl:loc=true
    . rw [if_pos hl] at b|-;exact .nm (by decide) (by decide) b.1 (by omega) (fun _=>b.2) (by omega) (by omega) (by omega) (by omega) (by omega) (by omega) (by omega)
    rw [if_neg hl] at b|-;exact .nm (by decide) (by decide) b.1 (fun _=>b.2) (by omega) (by omega) (by omega) (by omega) (by omega) (by omega) (by omega) (by omega)
  rename_i r;rw [if_neg r] at hT;split
  . rename_i q;have:=o q;exact Ye (.push (by omega))
  rename_i q;rw [if_neg q] at hT;(try dsimp only at hT);(try dsimp only);by_cases h6:k=6
  . obtain ⟨x,y,rfl⟩: ∃ x y,args= [x,y]:=by
     match args,a with
     | [x,y],_=>exact ⟨x,y,rfl⟩
     | [],a=>rw [h6] at a;cases a
     | [_],a=>rw [h6] at a;cases a
     |_::_::_::_,a=>rw [h6] at a;simp [Rr] at a
    obtain ⟨u,j⟩:=d x (by simp);obtain ⟨fy,z⟩:=d y (by simp);obtain ⟨h,v,_⟩:=w;have ix:=Qb (c:=c) (lo:=lo) N x j u h s T hs;simp only [PEx.codes,gM,lH] at hT|-;subst h6;have a0:=m rfl;by_cases ho:op<=2
    . simp (decide:=true) only [ho,and_true,true_and,and_false,false_and,if_true,if_false,reduceIte] at hT|-;have l:=Qb (c:=c) (lo:=lo) N y z fy v (s+((x.code s).length:Int)+1) T (by omega);simp only [aA,aJ,aT] at hT;refine Yo (Yo (Yo (ix (by omega)) (Ye (.jump ?_ (by omega) (by omega)))) (l (by omega))) ?_
      . split
        . exact .inr (.inl rfl)
        exact .inr (.inr rfl)
      intro i g;simp only [bG,iH,or_false] at g;rcases g with rfl|rfl|rfl
      . exact .bare (by omega)
      . exact .jump (.inl rfl) (by omega) (by omega)
      exact .push (by omega)
    simp (decide:=true) only [ho,and_true,true_and,and_false,false_and,if_true,if_false,reduceIte] at hT|-;have l:=Qb (c:=c) (lo:=lo) N y z fy v (s+((x.code s).length:Int)) T (by omega);simp only [aA,aJ,aT] at hT;exact Yo (Yo (ix (by omega)) (l (by omega))) (Ye (.bare (by omega)))
  obtain ⟨x,rfl⟩: ∃ x,args= [x]:=by
   have t:args.length=1:=by rw [a];unfold Rr;rw [if_pos (by omega)]
   match args,t with
   | [x],_=>exact ⟨x,rfl⟩
  obtain ⟨u,j⟩:=d x (by simp);obtain ⟨h,_⟩:=w;have ix:=Qb (c:=c) (lo:=lo) N x j u h s T hs;simp only [PEx.codes,gM] at hT|-;have hc:k=3\/k=4\/k=5:=by omega
  rcases hc with rfl|rfl|rfl<;>simp (decide:=true) only [false_and,if_true,if_false,reduceIte] at hT|- <;>simp only [aA,aJ,aT] at hT<;>refine Yo (ix (by omega)) (Ye ?_)
  . obtain ⟨a1,a2⟩:=w2 rfl;exact .nm (by decide) (by decide) a1 (by omega) (by omega) (fun _=>a2) (by omega) (by omega) (by omega) (by omega) (by omega) (by omega)
  . exact .bare (by omega)
  exact .bare (by omega)
theorem preS_ig {e:PEx}(h:k<=5\/k=11\/k=15->e.fit/\e.dep<=24/\e.wl c lo)(h2:k=3->ix.fit/\ix.dep<=24/\ix.wl c lo)(hi:0<=id/\id<512)(ht:0<=t)(hT:t+(Qz k e ix id t).length<=T): ∀ i∈Qz k e ix id t,IG c lo T i:=by
 have mk:IG c lo T ⟨23,id,0,0⟩:= .nm (by decide) (by decide) hi.1 (by omega) (by omega) (by omega) (by omega) (fun _=>hi.2) (by omega) (by omega) (by omega) (by omega);unfold Qz at hT|-;dsimp only at hT|-
 have b: ∀ {C1:List Ins},(∀ i∈C1,IG c lo T i)->(k<=5\/k=11\/k=15->t+(C1++e.code (t+C1.length)).length<=T)-> ∀ i∈(if k<=5\/k=11\/k=15 then C1++e.code (t+C1.length) else C1),IG c lo T i:=fun {C1} hC hL=>by
  by_cases a:k<=5\/k=11\/k=15
  . rw [if_pos a];have:=hL a;rw [aA] at this;exact Yo hC (Qb (c:=c) (lo:=lo) _ e (aU _) (h a).1 (h a).2.2 _ T (by omega) (by omega))
  rw [if_neg a];exact hC
 refine b ?_ (fun a=>by rw [if_pos a] at hT;exact hT);by_cases h3:k=3
 . rw [if_pos h3];have a:k<=5\/k=11\/k=15:=by omega
   rw [if_pos a,if_pos h3] at hT;simp only [aA,aJ,aT] at hT;exact Yo (Ye mk) (Qb (c:=c) (lo:=lo) _ ix (aU _) (h2 h3).1 (h2 h3).2.2 _ T (by omega) (by omega))
 rw [if_neg h3];exact Ye mk
theorem Ik {s:Int}{l:Bool}(h:vaOk c lo s l):IG c lo T (intoS s l):=by
 unfold vaOk at h;unfold intoS;by_cases hl:l=true
 . rw [if_pos hl] at h|-;exact .nm (by decide) (by decide) h.1 (by omega) (fun _=>h.2) (by omega) (by omega) (by omega) (by omega) (by omega) (by omega) (by omega)
 rw [if_neg hl] at h|-;exact .nm (by decide) (by decide) h.1 (fun _=>h.2) (by omega) (by omega) (by omega) (by omega) (by omega) (by omega) (by omega) (by omega)
theorem tailS_ig {m:Int}{l:Bool}(h:1<=k/\k<=15)(h4: ¬k=4)(h5: ¬k=5)(ho:ownOk c lo k sl ot l)(hm:0<=m/\m<c.th): ∀ i∈Uq m k sl ot l,IG c lo T i:=by
 obtain ⟨f,q,d,a,p,b,o,n⟩:=ho;have r:k=1\/k=2\/k=3\/k=6\/k=7\/k=8\/k=9\/k=10\/k=11\/k=12\/k=13\/k=14\/k=15:=by omega
 rcases r with rfl|rfl|rfl|rfl|rfl|rfl|rfl|rfl|rfl|rfl|rfl|rfl|rfl<;>simp (decide:=true) only [Uq,if_true,if_false,reduceIte,or_true,true_or,or_false,false_or,or_self]
 . exact Ye (Ik (f (.inl rfl)))
 . exact Ye (Ik (f (.inr rfl)))
 . have:=q rfl;exact Ye (.nm (by decide) (by decide) this.1 (by omega) (by omega) (fun _=>this.2) (by omega) (by omega) (by omega) (by omega) (by omega) (by omega))
 focus
  have:=d (.inl rfl)
 rotate_left
 focus
  have:=d (.inr rfl)
 rotate_left
 . have j:=a (.inl rfl);have s:=p rfl;exact Ye ⟨show (1:Int)<=26/\(26:Int)<=34 by decide,by rw [if_neg (show ¬ (26:Int)=1 by decide)],by rw [if_pos rfl];exact s,j.1,fun e=>aV (show nmA 26=false from e) (by decide),by dsimp only;omega,by dsimp only;omega,by dsimp only;omega,by dsimp only;omega,by dsimp only;omega,by dsimp only;omega,fun _=>j.2,by dsimp only;omega,by dsimp only;omega⟩
 . have:=a (.inr (.inl rfl));exact Ye (.nm (by decide) (by decide) this.1 (by omega) (by omega) (by omega) (by omega) (by omega) (by omega) (fun _=>this.2) (by omega) (by omega))
 . have:=a (.inr (.inr rfl));exact Ye (.nm (by decide) (by decide) this.1 (by omega) (by omega) (by omega) (by omega) (by omega) (by omega) (fun _=>this.2) (by omega) (by omega))
 . have:=b (.inl rfl);exact Ye (.nm (by decide) (by decide) this.1 (by omega) (by omega) (by omega) (by omega) (by omega) (by omega) (by omega) (fun _=>this.2) (by omega))
 . have:=b (.inr rfl);intro i g;simp only [bG,iH,or_false] at g;rcases g with rfl|rfl
   . exact .nm (by decide) (by decide) this.1 (by omega) (by omega) (by omega) (by omega) (by omega) (by omega) (by omega) (fun _=>this.2) (by omega)
   exact Ik (o rfl)
 . have:=n rfl;refine Ye (.nm (by decide) (by decide) ?_ (by omega) (by omega) (by omega) (by omega) (by omega) (by omega) (by omega) (by omega) (fun _=> ?_))
   . unfold Vm;split<;>(try split)<;>omega
   unfold Vm;split<;>(try split)<;>omega
 . exact Ye (.bare (by omega))
 . exact Ye (.bare (by omega))
 all_goals
  exact Ye (.nm (by decide) (by decide) this.1 (by omega) (by omega) (by omega) (by omega) (by omega) (fun _=>this.2) (by omega) (by omega) (by omega))
theorem Nk {φ:Ins->Prop}(h: ∀ i∈l,φ i): ∀ x∈lnd l n,φ x.1:=fun x a=>by
 unfold lnd at a;obtain ⟨i,b,rfl⟩:=bS.1 a;exact h i b
mutual
theorem I8 {c:Cn}{lo m:Int}(hm:0<=m/\m<c.th): ∀ {s:PStm},s.wl c lo-> ∀ (t T:Int),0<=t->t+(s.code m t).length<=T-> ∀ x∈s.code m t,IG c lo T x.1
 | .mk k ln _ _ _ e ix body els id slot other loc,⟨h1,h2,h3,h4',h5',h6,h7⟩,t,T,ht,a=>by
  simp only [PStm.code] at a|-;obtain ⟨C,h⟩: ∃ C,Qz k e ix id t=C:=⟨_,rfl⟩;have pre:=fun a=>preS_ig (c:=c) (lo:=lo) (k:=k) (id:=id) (t:=t) (T:=T) (e:=e) (ix:=ix) h2 h3 h4' ht a
  rw [h] at a pre|-;obtain ⟨B,d⟩: ∃ B,PStm.codes m body (t+(C.length:Int)+1)=B:=⟨_,rfl⟩;have b:=Jh (c:=c) (lo:=lo) hm h6 (t+(C.length:Int)+1) T (by omega);rw [d] at b;by_cases h4:k=4
  . simp only [if_pos h4] at a|-;rw [d] at a|-;by_cases hn:els= []
    . simp only [if_pos hn] at a|-;simp only [aA,Z9,aJ,aT] at a;exact Yo (Nk (Yo (pre (by omega)) (Ye (.jump (.inr (.inl rfl)) (by omega) (by omega))))) (b (by omega))
    simp only [if_neg hn] at a|-;have f:=Jh (c:=c) (lo:=lo) hm h7 (t+(C.length:Int)+1+(B.length:Int)+1) T (by omega);obtain ⟨O,g⟩: ∃ O,PStm.codes m els (t+(C.length:Int)+1+(B.length:Int)+1)=O:=⟨_,rfl⟩;rw [g] at a f|-;simp only [aA,Z9,aJ,aT] at a;exact Yo (Yo (Yo (Nk (Yo (pre (by omega)) (Ye (.jump (.inr (.inl rfl)) (by omega) (by omega))))) (b (by omega))) (Nk (Ye (.jump (.inl rfl) (by omega) (by omega))))) (f (by omega))
  simp only [if_neg h4] at a|-;by_cases h5:k=5
  . simp only [if_pos h5] at a|-;rw [d] at a|-;simp only [aA,Z9,aJ,aT] at a;exact Yo (Yo (Nk (Yo (pre (by omega)) (Ye (.jump (.inr (.inl rfl)) (by omega) (by omega))))) (b (by omega))) (Nk (Ye (.jump (.inl rfl) (by omega) (by omega))))
  simp only [if_neg h5] at a|-;rw [Z9,aA] at a;exact Nk (Yo (pre (by omega)) (tailS_ig h1 h4 h5 h5' hm))
theorem Jh {c:Cn}{lo m:Int}(hm:0<=m/\m<c.th): ∀ {l:List PStm},Ww c lo l-> ∀ (t T:Int),0<=t->t+(PStm.codes m l t).length<=T-> ∀ x∈PStm.codes m l t,IG c lo T x.1
 | [],_,_,_,_,_=>fun x a=>by simp only [PStm.codes] at a;cases a
 |s::r,⟨h1,h2⟩,t,T,ht,hT=>by
  simp only [PStm.codes] at hT|-;rw [aA] at hT;exact Yo (I8 (c:=c) (lo:=lo) hm h1 t T ht (by omega)) (Jh (c:=c) (lo:=lo) hm h2 (t+((s.code m t).length:Int)) T (by omega) (by omega))
end
mutual
def PStm.lnb (B:Int):PStm->Prop
 | .mk _ ln _ _ _ _ _ body els _ _ _ _=>(0<=ln/\ln<=B)/\Y6 B body/\Y6 B els
def Y6 (B:Int):List PStm->Prop
 | []=>True
 |s::r=>s.lnb B/\Y6 B r
end
mutual
theorem Ow {B:Int}: ∀ (s:PStm) (f:Fnd),s.lnb B->(f.stmt s).2.lnb B
 | .mk k ln cl nm wt e ix body els id slot other loc,f,⟨h1,h2,h3⟩=>by
  simp only [Fnd.stmt];split
  . exact ⟨h1,h2,h3⟩
  exact ⟨h1,H3 body _ h2,H3 els _ h3⟩
theorem H3 {B:Int}: ∀ (l:List PStm) (f:Fnd),Y6 B l->Y6 B (f.blk l).2
 | [],f,_=>trivial
 |s::r,f,⟨h1,h2⟩=>by
  simp only [Fnd.blk];split
  . exact ⟨Ow s f h1,H3 r _ h2⟩
  trivial
end
mutual
theorem PStm.code_ln {B m:Int}: ∀ {s:PStm},s.lnb B-> ∀ t,∀ x∈s.code m t,0<=x.2/\x.2<=B
 | .mk k ln _ _ _ e ix body els id slot other loc,⟨h1,h2,h3⟩,t=>by
  have a: ∀ l:List Ins,∀ x∈lnd l ln,0<=x.2/\x.2<=B:=fun l x c=>by
   unfold lnd at c;obtain ⟨i,f,rfl⟩:=bS.1 c;exact h1
  have b:=fun t=>Jg (m:=m) h2 t
  have d:=fun t=>Jg (m:=m) h3 t
  simp only [PStm.code];split
  . split
    . exact Yo (a _) (b _)
    exact Yo (Yo (Yo (a _) (b _)) (a _)) (d _)
  split
  . exact Yo (Yo (a _) (b _)) (a _)
  exact a _
theorem Jg {B m:Int}: ∀ {l:List PStm},Y6 B l-> ∀ t,∀ x∈PStm.codes m l t,0<=x.2/\x.2<=B
 | [],_,_=>fun x a=>by simp only [PStm.codes] at a;cases a
 |s::r,⟨h1,h2⟩,t=>by
  simp only [PStm.codes];exact Yo (PStm.code_ln h1 t) (Jg h2 _)
end
theorem Cx: ∀ {g:Nat} {l:Bs} {ln cl:Int} {ts:List Tk},Hb g l ln cl=some ts->0<=ln-> ∀ t∈ts,0<=t.ln/\t.ln<=ln+l.length
 |0,_,_,_,_,h,_=>by cases h
 |g+1, [],ln,cl,ts,h,_=>by cases h;exact fun t a=>by cases a
 |g+1,c::r,ln,cl,ts,h,h0=>by
  rw [Hb] at h;split at h
  . intro t a;have:=Cx h (by omega) t a;rw [aJ];omega
  split at h
  . intro t a;have:=Cx h h0 t a;rw [aJ];omega
  split at h
  . intro t a;have:=Cx h h0 t a;have b:((c::r).dropWhile (· !=10)).length<=(c::r).length:=(List.dropWhile_sublist _).length_le;omega
  split at h
  . cases h
  rename_i k w n d
  cases hl:Hb g ((c::r).drop w.length) ln (cl+w.length) with
  |none=>rw [hl] at h;cases h
  |some us=>
   rw [hl] at h;cases h
   intro t a;rcases bG.1 a with rfl|a
   . dsimp only;omega
   have:=Cx hl h0 t a;rw [cE] at this;omega
theorem Me {s:Bs}(h:tkW s ts=some r): ∀ t∈r,t∈ts:=by
 unfold tkW at h;split at h
 . cases h;exact fun t a=>jJ a
 cases h
theorem Wn {s:Bs}{u:Unit}(h:Ve s ts=some (u,r)): ∀ t∈r,t∈ts:=Me (Dk.1 h)
theorem Mh {x:ByteArray}(h:Jd ts=some (x,r)): ∀ t∈r,t∈ts:=by
 cases ts with
 |nil=>cases h
 |cons t l=>simp only [Jd] at h;split at h<;>cases h;exact fun t a=>bX _ a
theorem T7 (h:J1 ts=some (x,r)): ∀ t∈r,t∈ts:=by
 cases ts with
 |nil=>cases h
 |cons t l=>simp only [J1] at h;split at h<;>cases h;exact fun t a=>bX _ a
theorem X1: ∀ f,(∀ n ts e r,Vq f n ts=some (e,r)-> ∀ t∈r,t∈ts)/\(∀ n x ts e r,Nl f n x ts=some (e,r)-> ∀ t∈r,t∈ts)/\
 (∀ ts e r,unS f ts=some (e,r)-> ∀ t∈r,t∈ts)/\(∀ ts e r,Uo f ts=some (e,r)-> ∀ t∈r,t∈ts):=by
 intro f
 induction f with
 |zero=>exact ⟨fun _ _ _ _ h=>(by cases h),fun _ _ _ _ _ h=>(by cases h),fun _ _ _ h=>(by cases h),fun _ _ _ h=>by cases h⟩
 |succ f ih=>
  obtain ⟨c,j,d,m⟩:=ih;refine ⟨fun n ts e r h=> ?_,fun n x ts e r h=> ?_,fun ts e r h=> ?_,fun ts e r h=> ?_⟩
  . rw [Vq] at h;split at h
    . exact d _ _ _ h
    split at h
    . cases h
    rename_i w i b;exact fun t a=>c _ _ _ _ b t (j _ _ _ _ _ h t a)
  . rw [Nl] at h;split at h
    . cases h;exact fun t a=>a
    split at h
    . cases h
    rename_i k i b;have p:=c _ _ _ _ b;split at h
    . cases h;exact fun t a=>jJ (p t a)
    exact fun t a=>jJ (p t (j _ _ _ _ _ h t a))
  . rw [unS] at h;split at h
    . rename_i i b;split at h
      . cases h
      rename_i k l g
      cases h
      exact fun t a=>Me b t (d _ _ _ g t a)
    split at h
    . rename_i i b;split at h
      . cases h
      rename_i k l g
      cases h
      exact fun t a=>Me b t (d _ _ _ g t a)
    exact m _ _ _ h
  rw [Uo] at h;split at h
  . rename_i i b;split at h
    . cases h
    rename_i k l g;split at h
    . cases h
    rename_i q o
    cases h
    exact fun t a=>Me b t (c _ _ _ _ g t (Me o t a))
  split at h
  . rename_i z i b
    cases h
    exact T7 b
  split at h
  . cases h
  rename_i v i b;split at h
  . cases h;exact Mh b
  rename_i l g;split at h
  . cases h
  rename_i k q o;split at h
  . cases h
  rename_i u s
  cases h
  exact fun t a=>Mh b t (Me g t (c _ _ _ _ o t (Me s t a)))
def TB (B:Int)(ts:List Tk):Prop:= ∀ t∈ts,0<=t.ln/\t.ln<=B
theorem TB.sub (h:TB B ts)(k: ∀ t∈r,t∈ts):TB B r:=fun t ht=>h t (k t ht)
theorem TB.tl (h:TB B ts):TB B ts.tail:=fun t ht=>h t (jJ ht)
theorem TB.pos (h:TB B ts)(hB:0<=B):0<=(Zi ts).1/\(Zi ts).1<=B:=by
 cases ts with
 |nil=>exact ⟨bL 0,hB⟩
 |cons t r=>exact h t (bW ..)
theorem Zka {p:Int×Int}{nm:ByteArray}{s:PStm}(hp:0<=p.1/\p.1<=B)(hB:TB B ts)(h:Us f k p nm ts=some (s,r)):s.lnb B/\TB B r:=by
 have ex:=fun {ts e r} (h:Vq f 1 ts=some (e,r))=>(X1 f).1 1 ts e r h
 unfold Us at h;split at h
 . split at h
   . obtain ⟨ix,o,l,h⟩:=Zd h;obtain ⟨_,n,j,h⟩:=Zd h;obtain ⟨_,i,c,h⟩:=Zd h;obtain ⟨e,g,b,h⟩:=Zd h;obtain ⟨_,d,a,h⟩:=Zd h
     cases h
     exact ⟨⟨hp,trivial,trivial⟩,((((hB.tl.sub (ex l)).sub (Wn j)).sub (Wn c)).sub (ex b)).sub (Wn a)⟩
   obtain ⟨_,i,c,h⟩:=Zd h;obtain ⟨e,g,b,h⟩:=Zd h;obtain ⟨_,d,a,h⟩:=Zd h
   cases h
   exact ⟨⟨hp,trivial,trivial⟩,((hB.sub (Wn c)).sub (ex b)).sub (Wn a)⟩
 split at h
 . obtain ⟨_,i,c,h⟩:=Zd h;obtain ⟨e,g,b,h⟩:=Zd h;obtain ⟨_,d,a,h⟩:=Zd h
   cases h
   exact ⟨⟨hp,trivial,trivial⟩,((hB.sub (Wn c)).sub (ex b)).sub (Wn a)⟩
 split at h
 . obtain ⟨m,i,c,h⟩:=Zd h;obtain ⟨_,d,a,h⟩:=Zd h
   cases h
   exact ⟨⟨hp,trivial,trivial⟩,(hB.sub (Mh c)).sub (Wn a)⟩
 split at h
 . obtain ⟨e,g,b,h⟩:=Zd h;obtain ⟨_,d,a,h⟩:=Zd h
   cases h
   exact ⟨⟨hp,trivial,trivial⟩,(hB.sub (ex b)).sub (Wn a)⟩
 obtain ⟨_,d,a,h⟩:=Zd h
 cases h
 exact ⟨⟨hp,trivial,trivial⟩,hB.sub (Wn a)⟩
theorem stmt_ln (b0:0<=B): ∀ f,(∀ ts s r,TB B ts->Ju f ts=some (s,r)->s.lnb B/\TB B r)/\(∀ ts l r,TB B ts->H8 f ts=some (l,r)->Y6 B l/\TB B r)/\(∀ ts l r,TB B ts->U9 f ts=some (l,r)->Y6 B l/\TB B r):=by
 intro f
 induction f with
 |zero=>exact ⟨fun _ _ _ _ h=>(by cases h),fun _ _ _ _ h=>(by cases h),fun _ _ _ _ h=>by cases h⟩
 |succ f ih=>
  obtain ⟨n,i,g⟩:=ih;have ex:=fun {ts e r} (h:Vq f 1 ts=some (e,r))=>(X1 f).1 1 ts e r h
  refine ⟨fun ts s r c h=> ?_,fun ts l r c h=> ?_,fun ts l r c h=> ?_⟩
  . have k:=c.pos b0;rw [Ju] at h;split at h
    . obtain ⟨e,m,d,h⟩:=Zd h;obtain ⟨b,p,j,h⟩:=Zd h;have a:=i _ _ _ (c.tl.sub (ex d)) j;split at h
      . obtain ⟨x,u,o,h⟩:=Zd h
        cases h
        have q:=i _ _ _ a.2.tl o;exact ⟨⟨k,a.1,q.1⟩,q.2⟩
      cases h;exact ⟨⟨k,a.1,trivial⟩,a.2⟩
    split at h
    . exact Zka k c.tl h
    obtain ⟨w,m,d,h⟩:=Zd h;exact Zka k (TB.sub (by split<;>first|exact c.tl|exact c) (Mh d)) h
  . rw [H8] at h;obtain ⟨_,m,d,h⟩:=Zd h;obtain ⟨v,p,j,h⟩:=Zd h;obtain ⟨_,u,o,h⟩:=Zd h
    cases h
    have a:=g _ _ _ (c.sub (Wn d)) j;exact ⟨a.1,a.2.sub (Wn o)⟩
  rw [U9] at h;split at h
  . cases h;exact ⟨trivial,c⟩
  obtain ⟨s,m,d,h⟩:=Zd h;obtain ⟨v,p,j,h⟩:=Zd h
  cases h
  have t:=n _ _ _ c d;have a:=g _ _ _ t.2 j;exact ⟨⟨t.1,a.1⟩,a.2⟩
theorem decl_ln (b0:0<=B){d:PDec}(hB:TB B ts)(h:Hl f ts=some (d,r)):Y6 B d.body/\TB B r:=by
 unfold Hl at h;split at h
 . cases h
 obtain ⟨s,q,l,h⟩:=Zd h;have c:=hB.tl.sub (Mh l);split at h
 . obtain ⟨b,g,a,h⟩:=Zd h
   cases h
   exact (stmt_ln b0 f).2.1 _ _ _ c a
 obtain ⟨n,g,a,h⟩:=Zd h;obtain ⟨_,p,k,h⟩:=Zd h
 cases h
 refine ⟨trivial,TB.sub ?_ (Wn k)⟩;unfold G5 at a;split at a
 . obtain ⟨_,o,j,a⟩:=Zd a;have e:=c.sub (Wn j);split at a
   . obtain ⟨z,m,i,a⟩:=Zd a
     cases a
     exact e.tl.sub (T7 i)
   exact e.sub (T7 a)
 split at a
 . exact c.sub (T7 a)
 cases a;exact c
theorem X4 {B:Int}(b0:0<=B){G:Nat}: ∀ {f:Nat} {ts:List Tk} {ds:List PDec},TB B ts->Ua G f ts=some ds-> ∀ d∈ds,Y6 B d.body
 |0,_,_,_,h=>by cases h
 |f+1,ts,ds,hB,h=>by
  rw [Ua] at h;split at h
  . cases h;exact fun d a=>by cases a
  obtain ⟨d,r,e,h⟩:=Zd h
  cases h2:Ua G f r with
  |none=>rw [h2] at h;cases h
  |some us=>
   rw [h2] at h;cases h
   have b:=decl_ln b0 hB e;have c:=X4 b0 b.2 h2;intro d a;rcases bG.1 a with rfl|a
   . exact b.1
   exact c d a
theorem parse_ln {l:Bs}{ds:List PDec}(h:Q9 l=some ds): ∀ d∈ds,Y6 (l.length+1) d.body:=by
 unfold Q9 at h;split at h
 . cases h
 split at h
 . cases h
 rename_i ts c;split at h
 . cases h
 rename_i e b;split at h
 . cases h
 cases h
 exact X4 (by omega) (fun t a=>by have:=Cx c (by omega) t a;omega) b
theorem Lw {l:Bs}(h:Vi l=some F):PrgOk (fun b=>Zo b<=7*l.length/\Y6 (l.length+1) b) F/\l.length<=65536:=by
 unfold Vi at h;split at h
 . cases h
 rename_i ds c;obtain ⟨n,j⟩:=Ln c;refine ⟨Cc h ⟨bC _,trivial⟩ fun d a e g=>⟨?_,H3 _ _ (parse_ln c d a)⟩,j⟩;have m:=Hk d.body g (Is e);have i:=Fe (f:=fun d:PDec=>Z0 d.body+1) a;have k:Z0 d.body+1<=(ds.map fun d=>Z0 d.body+1).sum:=i;omega
theorem IG.ok (h:IG c lo T i)(hc:c.v<=64/\c.a<=64/\c.mu<=64/\c.co<=64/\c.ch<=64/\c.th<=64)(hl:lo<=32)(hT:T<=65535):Kd i:=by
 obtain ⟨k,n,b,z,o,v,l,a,j,m,mu,co,ch,th⟩:=h;refine ⟨k,?_,?_,n⟩
 . by_cases hn:nmA i.c=true
   . rw [if_pos hn];refine ⟨z,?_⟩;unfold nmA at hn;have:=cU hn;omega
   rw [if_neg hn];exact o (by simpa using hn)
 by_cases hb:i.c=26
 . rw [if_pos hb] at b|-;omega
 rw [if_neg hb] at b|-;exact b
theorem modOf_ok {N:Nat}(hF:PrgOk (fun b=>Zo b<=7*N/\Y6 (N+1) b) F)(hN:N<=5000)(hm:ModOf F m):Hy m=0:=by
 obtain ⟨k1,k2,k3,k4,⟨k5,u⟩,k6,s⟩:=hF.k
 have ml:m.threads.length=F.ths.length:=by
  have:=aQ List.length hm.t;rw [aI,aI] at this;rw [this];unfold Ui;rw [aJ];exact R9 F.main F.ths 0 hF.m.1 (by have:=hF.m.2;omega)
 have w:F.main.toNat<F.ths.length:=by have:=hF.m;omega
 have thr: ∀ x∈m.threads,∃ t∈F.ths,x.name=t.nm/\x.locals=t.loc/\x.ins=(Yx F.main t).map Prod.fst/\x.lines=(Yx F.main t).map Prod.snd:=fun x p=>by
  have h1:(fun x:Cod=>(x.name,x.locals,x.ins,x.lines)) x∈(Ui F).map (thP F.main):=by rw [<-hm.t];exact aZ p
  obtain ⟨t,o,e⟩:=bS.1 h1;unfold thP at e;simp only [jL] at e;refine ⟨t,?_,e.1.symm,e.2.1.symm,e.2.2.1.symm,e.2.2.2.symm⟩;unfold Ui at o;rcases bG.1 o with o|o
  . rw [o,aG,aE w];exact aC w
  exact Hc _ _ _ o
 have cm:0<=F.main/\F.main<F.cn.th:=hF.m
 have r: ∀ x∈m.threads,Dd x/\(dOf m x).2=0:=fun x p=>by
  obtain ⟨t,o,e1,e2,z,e4⟩:=thr x p;obtain ⟨w1,w2,w3,w4,w5⟩:=hF.t t o;have a0:=Ea F.main t;have cl:(Yx F.main t).length=(PStm.codes F.main t.body 0).length+1:=by unfold Yx;rw [aA,Z9];rfl
  have ig: ∀ i∈x.ins,IG F.cn t.loc ((PStm.codes F.main t.body 0).length:Int) i:=fun i q=>by
   rw [z] at q;obtain ⟨y,f,rfl⟩:=bS.1 q;unfold Yx at f;rcases bE.1 f with f|f
   . exact Jh (c:=F.cn) (lo:=t.loc) cm w3 0 _ (bL 0) (by omega) y f
   exact Nk (Ye (.bare (by omega))) y f
  have li:x.ins.length=(PStm.codes F.main t.body 0).length+1:=by rw [z,aI,cl]
  have ll:x.lines.length=(PStm.codes F.main t.body 0).length+1:=by rw [e4,aI,cl]
  refine ⟨⟨by rw [e1];unfold Yj;omega,by rw [e2];exact w2,by omega,⟨by omega,fun i q=>(ig i q).ok ⟨by show (F.vars.length:Int)<=64;omega,by show (F.arrs.length:Int)<=64;omega,u,s,by show (F.chs.length:Int)<=64;omega,by show (F.ths.length:Int)<=64;omega⟩ w2.2 (by omega)⟩,⟨by omega,fun n d=> ?_⟩⟩,?_⟩
  . rw [e4] at d;obtain ⟨y,f,rfl⟩:=bS.1 d;unfold Yx at f;rcases bE.1 f with f|f
    . have:=Jg w5 0 y f;unfold Yj;omega
    unfold lnd at f;obtain ⟨i,q,rfl⟩:=bS.1 f;unfold Yj;dsimp only;omega
  have sn:=th_snd (c:=F.cn) (lo:=t.loc) F.main w3;rw [<-z] at sn;refine sn.dOf fun i q=> ?_
  have g:=ig i q;refine ⟨fun n d=> ?_,fun hc=>by have:=g.b;rw [if_pos hc] at this;rw [hm.mu];exact this.2⟩;unfold Ux at d;split at d
  . rename_i h;cases d;rw [hm.v];exact g.v h
  split at d
  . rename_i h;cases d;rw [e2];exact g.l h
  split at d
  . rename_i h;cases d;rw [hm.a];exact g.a h
  split at d
  . rename_i h;cases d;have:=g.j h;omega
  split at d
  . rename_i h;cases d;rw [hm.mu];exact g.mu h
  split at d
  . rename_i h;cases d;rw [hm.co];exact g.co h
  split at d
  . rename_i h;cases d;rw [hm.c];exact g.ch h
  split at d
  . rename_i h;cases d;rw [ml];exact g.th h
  cases d
 refine vchk_of ⟨by rw [hm.mu];exact ⟨k5,u⟩,by rw [hm.co];exact ⟨k6,s⟩,⟨by rw [hm.v];omega,by rw [hm.v];exact hF.v⟩,⟨by rw [hm.a];omega,by rw [hm.a];exact fun n d=>by have:=hF.a n d;unfold Yj;omega⟩,⟨by rw [hm.c];omega,by rw [hm.c];exact hF.c⟩,⟨by omega,fun x p=>(r x p).1⟩⟩ fun x p=>(r x p).2
end Go.Proofs.YtadahhbefdnabaaGreatDoor
namespace Go.Proofs.YtadahhbefdnabaaGreatDoor
open Go Go.RowKit Wx Go.Proofs.Tryz
variable {m:Mdl}{G:World}{q:List HP}{g:FC}{l:Bs}{F:Fnd}
def Su (x:Cod):List Int:=Zzb (x.name,x.locals,x.ins,x.lines)
def Hg (m:Mdl):List Int:= [87,65,82,80]++vb m.vars.length++m.vars.flatMap (fun n=>vb (sgU n))++vb m.arrays.length++m.arrays.flatMap (fun n=>vb n.toNat)++vb m.chans.length++m.chans.flatMap (fun n=>vb n.toNat)++vb m.mutexes.toNat++vb m.conds.toNat++vb m.threads.length++m.threads.flatMap Su
theorem Cp {α:Type}{f:α->List Int}{b:Nat}: ∀ {l:List α},(∀ x∈l,(f x).length<=b)->(l.flatMap f).length<=l.length*b
 | [],_=>by simp
 |x::r,h=>by
  have d:=h x (bW ..);have c:=Cp fun y a=>h y (bX _ a)
  rw [bZ,aA,aJ,Nat.succ_mul];omega
theorem By8.fm {α:Type}{f:α->List Int}{l:List α}(h: ∀ x∈l,By8 (f x)):By8 (l.flatMap f):=fun y a=>by
 obtain ⟨x,b,a⟩:=List.mem_flatMap.1 a;exact h x b y a
theorem Zzh {k:Int}{b:Nat}(h: -(b:Int)<=k/\k<=b):sgU k<=2*b:=by unfold sgU;split<;>omega
theorem insB_f {i:Ins}{d:Int}(h:Kd i)(hd: -65536<=d/\d<=65536):By8 (Zxc i d)/\(Zxc i d).length<=45:=by
 obtain ⟨s,q,p,o⟩:=h;have v: ∀ n:Nat,n<=8589934592->By8 (vb n)/\(vb n).length<=11:=fun n r=>⟨Ou n (by omega),(V9 n).2⟩
 have z:By8 []/\([]:List Int).length<=11:=⟨fun _ h=>(iH h).elim,by decide⟩;have l:By8 [i.c]:=fun x m=>by rw [bN.1 m];omega
 have j:By8 (if nmA i.c=true then vb i.a.toNat else [])/\(if nmA i.c=true then vb i.a.toNat else []).length<=11:=by
  split at q
  . rw [if_pos (by assumption)];exact v _ (by omega)
  rw [if_neg (by assumption)];exact z
 have g:By8 (if i.c=26 then vb i.b.toNat else [])/\(if i.c=26 then vb i.b.toNat else []).length<=11:=by
  split at p
  . rw [if_pos (by assumption)];exact v _ (by omega)
  rw [if_neg (by assumption)];exact z
 have f:By8 (if i.c=1 then vb (sgU i.n) else [])/\(if i.c=1 then vb (sgU i.n) else []).length<=11:=by
  split at o
  . rw [if_pos (by assumption)];have:=Zzh (k:=i.n) (b:=2147483648) (by omega);exact v _ (by omega)
  rw [if_neg (by assumption)];exact z
 have e:=v (sgU d) (by have:=Zzh (k:=d) (b:=65536) (by omega);omega);unfold Zxc;refine ⟨(((l.app j.1).app g.1).app f.1).app e.1,?_⟩;simp only [aA,aJ,aT];omega
theorem codB_f: ∀ {I:List Ins} {L:List Int} {a:Int},(∀ i∈I,Kd i)->(∀ n∈L,Yj n 0 65536)->Yj a 0 65536->By8 (Tn a I L)/\(Tn a I L).length<=I.length*45
 | [],_,_,_,_,_=>⟨fun _ h=>by simp [Tn] at h,by simp [Tn]⟩
 |_::_, [],_,_,_,_=>⟨fun _ h=>by simp [Tn] at h,by simp [Tn]⟩
 |i::r,n::s,a,h1,h2,h3=>by
  have c:=h2 n (bW ..);have f:=insB_f (d:=n - a) (h1 i (bW ..)) (by unfold Yj at c h3;omega);have e:=codB_f (I:=r) (L:=s) (a:=n) (fun j b=>h1 j (bX _ b)) (fun j b=>h2 j (bX _ b)) c;unfold Tn;refine ⟨f.1.app e.1,?_⟩;rw [aA,aJ,Nat.succ_mul];omega
theorem thrX_f {x:Cod}(h:Dd x):By8 (Su x)/\(Su x).length<=2950000:=by
 obtain ⟨f,e,l,d,b⟩:=h;unfold Yj at f e;have c:=codB_f (a:=0) d.2 b.2 (by unfold Yj;omega);have k:=V9 x.name.size;have j:=V9 x.locals.toNat;have i:=V9 x.ins.length;have g:=Il x.name;unfold Su Zzb;refine ⟨((((Ou _ (by dsimp only;omega)).app (byI_rng _)).app (Ou _ (by dsimp only;omega))).app (Ou _ (by dsimp only;omega))).app c.1,?_⟩;simp only [aA];omega
theorem Zjw (h:Tb m):By8 (Hg m)/\(Hg m).length<=200000000:=by
 obtain ⟨u,t,s,r,q,p⟩:=h;unfold Yj at u t;have v: ∀ n:Nat,n<=8589934592->By8 (vb n)/\(vb n).length<=11:=fun n a=>⟨Ou n (by omega),(V9 n).2⟩
 have f: ∀ n∈m.vars,By8 (vb (sgU n))/\(vb (sgU n)).length<=11:=fun n a=>v _ (by have:=s.2 n a;unfold Yj at this;have:=Zzh (k:=n) (b:=2147483648) (by omega);omega)
 have e: ∀ n∈m.arrays,By8 (vb n.toNat)/\(vb n.toNat).length<=11:=fun n a=>v _ (by have:=r.2 n a;unfold Yj at this;omega)
 have d: ∀ n∈m.chans,By8 (vb n.toNat)/\(vb n.toNat).length<=11:=fun n a=>v _ (by have:=q.2 n a;unfold Yj at this;omega)
 have c: ∀ x∈m.threads,By8 (Su x)/\(Su x).length<=2950000:=fun x o=>thrX_f (p.2 x o)
 have l3:=Cp fun n a=>(f n a).2;have z:=Cp fun n a=>(e n a).2;have y:=Cp fun n a=>(d n a).2;have w:=Cp fun n a=>(c n a).2
 have l:=v m.vars.length (by omega);have n4:=v m.arrays.length (by omega);have n5:=v m.chans.length (by omega);have j:=v m.threads.length (by omega);have i:=v m.mutexes.toNat (by omega);have g:=v m.conds.toNat (by omega);unfold Hg;refine ⟨((((((((((show By8 [87,65,82,80] by unfold By8;decide).app l.1).app (.fm fun n a=>(f n a).1)).app n4.1).app (.fm fun n a=>(e n a).1)).app n5.1).app (.fm fun n a=>(d n a).1)).app i.1).app g.1).app j.1).app (.fm fun n a=>(c n a).1),?_⟩;simp only [aA,aJ,aT];omega
theorem G3 (gc:GC q)(hq:MdlQ q m)(hlc: ∀ x∈m.threads,x.lines.length<=x.lc)(ok:Tb m):CallF prog G 46 [.agg (J7 m).toArray] (q) (Ret fun v q'=> ∃ a c,v= .tuple [.slice a (J0 (Hg m)).length c,I64 0].toArray/\q'=lsH (Value.int .u8) 5 a c (J0 (Hg m))::q):=by
 refine aB func46 ntmps46 rfl fun F cs=> ?_;have hE:=Zjw ok;have b0:=hE.2;unfold Hg at b0;simp only [aA,aJ,aT] at b0;have n0:=ok;obtain ⟨h1,h2,h3,h4,h5,h6⟩:=n0;unfold Yj at h1 h2;obtain ⟨nm,o0⟩:=bP h1.1;obtain ⟨nc,p0⟩:=bP h2.1;have l0:m.mutexes.toNat=nm:=(by omega);have m0:m.conds.toNat=nc:=(by omega);rw [l0,m0] at b0;have b1:=V9 m.vars.length;have b2:=V9 m.arrays.length;have b3:=V9 m.chans.length;have b4:=V9 m.threads.length;have b5:=V9 nm;have b6:=V9 nc;refine xo 2 ?_;refine Zl fun n1=> ?_
 refine rn [6,0] ?_;refine bM call99 (Zzj (gc.le leA) (hq.le leA)) ?_;rw [Tf.2 ok];refine rn [7,1009,4] ?_;refine bU (Yu (Value.int .u8) [87,65,82,80] underlying88 Va rfl rfl rfl rfl rfl rfl (fun _=>rfl)) ?_;rintro _ _ ⟨g2,rfl,rfl⟩;refine bU (Zzz (vs:=([87,65,82,80]:List Int).map (Value.int .u8)) rfl underlying88 underlying5 Zj rfl) ?_;rintro _ _ ⟨rfl,rfl⟩;refine oo 2 ?_;refine Zl fun n2=> ?_
 refine rn [6,0,2] ?_;refine eP (q':=wrB n2 [87,65,82,80]::_) (wrB_in (a:=some ⟨g2,0,none⟩) (c:=4) (bD Zj (aM Zj (Zj7 (φ:=True) trivial (b:=g2) (l:= [87,65,82,80]) (z:=(4,4+1)) (by decide) _)))) ?_;obtain ⟨W0,a0⟩:=lM ([87,65,82,80]:List Int);have s0:W0.length=4:=(by rw [a0];rfl);rw [<-a0];refine Zv call100 (aH _) (Zzw (l:=W0) (L:=m.vars) (u:=(fun n=>vb (sgU n))) (hq.v.le leA) (by omega) (by omega) (fun n hn l hl=>(by exact Yq (a:= [pt n2]) (b:= []) call101 (gF (Qm (aH _)) (Jq (l:=l) (k:=n) (by have:=h3.2 n hn;unfold Yj at this;omega) (by omega)) (fun _ _ h=>⟨_,h,aH _⟩))))) ?_;rintro _ _ rfl;obtain ⟨W1,y⟩:=lM (W0++vb m.vars.length);have k0:=aQ List.length y;simp only [aA] at k0;rw [<-y];obtain ⟨W2,s⟩:=lM (W1++m.vars.flatMap (fun n=>vb (sgU n)));have j0:=aQ List.length s;simp only [aA] at j0;rw [<-s];refine rn [5,0,2] ?_;refine Zv call102 (Qm Zj) (Oh (l:=W2) (L:=m.arrays) (u:=(fun n=>vb n.toNat)) (hq.a.le leA) (by omega) (by omega) (fun n hn l hl=>(by have e:=h4.2 n hn;unfold Yj at e;obtain ⟨N,rfl⟩:=bP (show (0:Int)<=n by omega);exact Yq (a:= [pt n2]) (b:= []) call103 (gF (Qm (aH _)) (We (l:=l) (n:=N) (by omega) (by omega)) (fun _ _ h=>⟨_,h,aH _⟩))))) ?_;rintro _ _ rfl;obtain ⟨W3,r⟩:=lM (W2++vb m.arrays.length);have i0:=aQ List.length r;simp only [aA] at i0;rw [<-r];obtain ⟨W4,p⟩:=lM (W3++m.arrays.flatMap (fun n=>vb n.toNat));have h0:=aQ List.length p;simp only [aA] at h0;rw [<-p];refine rn [5,0,2] ?_;refine Zv call102 (Qm Zj) (Oh (l:=W4) (L:=m.chans) (u:=(fun n=>vb n.toNat)) (hq.c.le leA) (by omega) (by omega) (fun n hn l hl=>(by have e:=h5.2 n hn;unfold Yj at e;obtain ⟨N,rfl⟩:=bP (show (0:Int)<=n by omega);exact Yq (a:= [pt n2]) (b:= []) call103 (gF (Qm (aH _)) (We (l:=l) (n:=N) (by omega) (by omega)) (fun _ _ h=>⟨_,h,aH _⟩))))) ?_;rintro _ _ rfl;obtain ⟨W5,o⟩:=lM (W4++vb m.chans.length);have g0:=aQ List.length o;simp only [aA] at g0;rw [<-o];obtain ⟨W6,j⟩:=lM (W5++m.chans.flatMap (fun n=>vb n.toNat));have f0:=aQ List.length j;simp only [aA] at f0;rw [<-j];refine rn [5,0] ?_;refine aW 36 (Al nm) rfl (by rw [<-o0]) ?_;refine Zv call103 (Qm Zj) (We (l:=W6) (n:=nm) (by omega) (by omega)) ?_;rintro _ _ rfl;obtain ⟨W7,i⟩:=lM (W6++vb nm);have e0:=aQ List.length i;simp only [aA] at e0;rw [<-i];refine rn [5,0] ?_;refine aW 40 (Al nc) rfl (by rw [<-p0]) ?_;refine Zv call103 (Qm Zj) (We (l:=W7) (n:=nc) (by omega) (by omega)) ?_;rintro _ _ rfl;obtain ⟨W8,g⟩:=lM (W7++vb nc);have d0:=aQ List.length g;simp only [aA] at d0;rw [<-g];refine rn [5,0,2] ?_;refine Zv call104 (Qm Zj) (Zww (l:=W8) (L:=m.threads) (u:=Su) (hq.t.le leA) (by omega) (by omega) (fun x hx l hl=>Yq (a:= [pt n2]) (b:= []) call105 (Zzr (h6.2 x hx) (hlc x hx) ((hq.x x hx).le leA) (gc.le leA) hl))) ?_;rintro _ _ rfl;obtain ⟨W9,f⟩:=lM (W8++vb m.threads.length);have c0:=aQ List.length f;simp only [aA] at c0;rw [<-f];obtain ⟨r0,d⟩:=lM (W9++m.threads.flatMap Su);have w:=aQ List.length d;simp only [aA] at w;rw [<-d];refine oo 4 ?_;have q0:r0=Hg m:=(by rw [d,f,g,i,j,o,p,r,s,y,a0];unfold Hg;rw [l0,m0]);rw [q0];refine Zv call106 Zj (olast_ok (l:=Hg m) hE.1 (by omega)) ?_;rintro _ _ rfl;refine XO.wrO fun aw cw=> ?_
 refine rn [7,0,3] ?_;refine Zq (lsH (Value.int .u8) 5 aw cw (J0 (Hg m))::q) func46 (Q4 results46 rfl rfl) ⟨_,rfl,aw,cw,rfl,rfl⟩
theorem T4 (h:Vi l=some F)(hl:l.length<=5000)(hm:ModOf F m):Hy m=0:=modOf_ok (Lw h).1 hl hm
theorem Om (h:Hy m=0):Tb m:=by
 unfold Hy at h;split at h
 . contradiction
 rename_i k;exact Tf.1 (by simpa using k)
def Wk (F:Fnd):Mdl:=⟨F.vars,F.arrs,F.chs,F.mu,F.co,((Ui F).map (thP F.main)).map (fun x=>⟨x.1,x.2.1,x.2.2.1,x.2.2.2,none,0,none,0⟩),none,0,none,0,none,0,none,0⟩
theorem Zz1 (F:Fnd):ModOf F (Wk F):=⟨rfl,rfl,rfl,rfl,rfl,by unfold Wk;rw [fC];exact List.map_id _⟩
theorem enc_of {m':Mdl}(h:ModOf F m)(h':ModOf F m'):Hg m=Hg m':=by
 have e: ∀ m:Mdl,m.threads.flatMap Su=(m.threads.map fun x=>(x.name,x.locals,x.ins,x.lines)).flatMap Zzb:=fun m=>by rw [jG];rfl
 have n:m.threads.length=m'.threads.length:=by have:=aQ List.length (h.t.trans h'.t.symm);rw [aI,aI] at this;exact this
 unfold Hg;rw [e m,e m',h.t,h'.t,h.v,h'.v,h.a,h'.a,h.c,h'.c,h.mu,h'.mu,h.co,h'.co,n]
def Jt (F:Fnd):Int:=Qf (J0 (Hg (Wk F)))
theorem MdAt.cap {r:List HP}{w:World}(s:St G w q)(h:Le q (mdM m::r)): ∀ x∈m.threads,x.lines.length<=x.lc:=Kn.fact (knA (φ:=fun M=>MdAt M m) h) (fun M k x hx=>(k.x x hx).2.1) s
theorem Ov (hT:Vi l=some g.er)(hl:l.length<=5000)(hK:Kn q fun M=>g.At M)(hg:GO q)(gc:GC q):CallF prog G 13 (AB g) (q) (Ret fun v q'=>v= .tuple [.int .u32 (Jt g.er),I64 0].toArray/\q'=q):=by
 refine aB func13 ntmps13 rfl fun F cs=> ?_;refine xo 2 ?_;refine Zl fun j=> ?_
 refine rn [5,0] ?_;refine Zv call45 (aH _) (Bv hT (hK.le leA) (hg.le leA)) ?_;rintro _ _ ⟨m,rfl,rfl,a,c⟩;refine oo 3 ?_;refine Zh zeroValue109 fun i=> ?_
 refine rn [0,8,1013,4,0] ?_;refine XO.fact (fun w s=>MdAt.cap s Zj) fun b=> ?_
 have d:=Om (T4 hT hl a);have e:=Zjw d;have h:=e.2;have f:(J0 (Hg m)).length=(Hg m).length+4:=(by unfold J0;rw [aA];rfl);refine Zv call46 (aH _) (G3 (gc.le leA) (Ok (knA (φ:=fun M=>MdAt M m)) c) b d) ?_;rintro _ _ ⟨n,k,rfl,rfl⟩;refine rn [12,1021,5] ?_;refine bM call47 (Sum_ok (l:=J0 (Hg m)) ((bY _).le leA) (O6 e.1) (by omega)) ?_;rw [enc_of a (Zz1 g.er),show Qf (J0 (Hg (Wk g.er)))=Jt g.er from rfl];refine ox 3 ?_;refine Zq (q) func13 (Q4 results13 rfl rfl) ⟨_,rfl,rfl,rfl⟩
theorem lhash_ok (hT:Vi l=some g.er)(hl:l.length<=5000)(hK:Kn q fun M=>g.At M)(hg:GO q)(gc:GC q):CallF prog G 14 (AB g) (q) (Ret fun v q'=>v= .tuple [.int .u32 (Jt g.er),.bool true].toArray/\q'=q):=by
 refine aB func14 ntmps14 rfl fun F cs=> ?_;refine xo 2 ?_;refine Zl fun j=> ?_
 refine rn [5,0] ?_;refine Zv call45 (aH _) (Bv hT (hK.le leA) (hg.le leA)) ?_;rintro _ _ ⟨m,rfl,rfl,a,c⟩;refine oo 3 ?_;refine Zh zeroValue109 fun i=> ?_
 refine rn [0,4,0] ?_;refine XO.fact (fun w s=>MdAt.cap s Zj) fun b=> ?_
 have d:=Om (T4 hT hl a);have e:=Zjw d;have h:=e.2;have f:(J0 (Hg m)).length=(Hg m).length+4:=(by unfold J0;rw [aA];rfl);refine Zv call46 (aH _) (G3 (gc.le leA) (Ok (knA (φ:=fun M=>MdAt M m)) c) b d) ?_;rintro _ _ ⟨n,k,rfl,rfl⟩;refine oo 9 ?_;refine bM call48 (RSum_ok (l:=J0 (Hg m)) ((bY _).le leA) (O6 e.1) (by omega)) ?_;rw [enc_of a (Zz1 g.er),show Qf (J0 (Hg (Wk g.er)))=Jt g.er from rfl];refine oo 1 ?_;refine Vg call15 (Ew _) ?_;refine kd0 ?_;refine oo 1 ?_;refine Vg call15 (Ew _) ?_;refine kd0 ?_;refine ox 5 ?_;refine Zq (q) func14 (Q4 results14 rfl rfl) ⟨_,rfl,rfl,rfl⟩
end Go.Proofs.YtadahhbefdnabaaGreatDoor
namespace Go.Proofs.YtadahhbefdnabaaGreatDoor
open Go Go.RowKit Wx Go.Proofs.Tryz
attribute [local irreducible] lsH rsH stars
variable {m:Mdl}{G:World}{p n who ga c xb xf N nb sb so j:Nat}{k u sl ot:Int}{xa:Addr}{x:Stm}{e:EvC}{ev:PEv}{r q':List HP}{P:Program}{f:Fc}{Q:Yw}{pe:PE}{ds:List Deferred}{cs:List Frame}{ops lo:List Oper}{g:FC}{fn:FuncId}{vs:List Value}{R:Wx.Ub}{bb:Bool}{i:Ins}{L:List Stm}
theorem Zwb (h:Hy m=0):Iq m=0/\ ∀ t∈m.threads,(dOf m t).2=0:=by
 unfold Hy at h;split at h
 . contradiction
 rename_i c;refine ⟨by omega,?_⟩;generalize m.threads=l at h|-
 induction l with
 |nil=>intro t a;cases a
 |cons x r ih=>
  unfold Sg at h;split at h
  . contradiction
  rename_i b;intro t a;rcases bG.1 a with rfl|a
  . omega
  exact ih h t a
theorem Ck (h:Hy m=0):Tb m:=Tf.1 (Zwb h).1
def cntS (m:Mdl):Int:=m.vars.length+Vh m.arrays
theorem Oo (h:Tb m)(n:Nat):0<=Vh (m.arrays.take n)/\Vh (m.arrays.take n)<=16384:=by
 have b:=Bd (l:=m.arrays.take n) (k:=256) (fun y a=>by have:=h.2.2.2.1.2 y (lE a);exact this) (by decide);have c:=h.2.2.2.1.1;rw [bI] at b;omega
section
variable {q:List HP}{th:Nat}{n:Int}
theorem Zwy (gc:GC q)(g:GE q)(hq:MdlQ q m)(hk:Hy m=0):CallF prog G 190 (Aa p n) (pto p (Ak m)::q) (Ret fun v q'=>v= .bool (decide (0<=n/\n<(m.threads.length:Int)))/\q'=pto p (Ak m)::q):=by
 refine aB func190 ntmps190 rfl fun F cs=> ?_;refine rn [8,0] ?_;refine bM call111 (L9 (gc.le leA) (g.le leA) (hq.le leA)) ?_;refine aW 8 (I64 0) rfl (by rw [hk]) ?_;refine oo 2 ?_;refine bB [10,4,0,1] ?_;apply Zg 3 13 10 rfl
 . intro a b;have c:=sp a;refine oo 3 ?_;exact Zz b ⟨Yi a,Zw⟩
 . intro a b;have c:=sp a;refine oo 3 ?_;exact Zz b ⟨Yl a,Zw⟩
 refine oo 1 ?_;refine bB [14,4,0,1] ?_;apply Zg 8 22 14 rfl
 . intro a b;have c:=sp a;refine rn [4,0,3] ?_;exact Zz b ⟨Yi a,Zw⟩
 . intro a b;have c:=sp a;refine oo 8 ?_;exact Zz b ⟨Yl a,Zw⟩
 refine ox 2 ?_;refine Zq (pto p (Ak m)::q) func190 (Zf results190 rfl) ⟨_,rfl,cB (by rw [cN,decide_eq_true_iff];simp;try omega),rfl⟩
theorem vNew_ok (gc:GC q)(g:GE q)(hq:MdlQ q m)(hk:Hy m=0)(ht:th<m.threads.length):CallF prog G 114 [.agg (J7 m).toArray,I64 th] (q) (Ret fun v q'=> ∃ la lc,v= .tuple [.agg [I64 th,I64 0,.slice la m.threads[th].locals.toNat lc,.slice none 0 0].toArray,I64 0].toArray/\q'=lsH I64 2 la lc (List.replicate m.threads[th].locals.toNat 0)::q):=by
 refine aB func114 ntmps114 rfl fun F cs=> ?_;have e:=Zx (f:=Vn) (sz:=4) (fun _=>rfl) m.threads;have k:=hq.nt;have h:=(Ck hk).2.2.2.2.2.2 _ (aC ht);have a:=h.2.1;unfold Yj at a;obtain ⟨b,c⟩:=bP a.1;refine Z7 (hq.t.le leA) (by rw [e];omega) fun r l j=> ?_;have d:=hq.t;rw [j] at d;refine xo 2 ?_;refine Zl fun p=> ?_
 refine Zh zeroValue145 fun o=> ?_
 refine oo 6 ?_;refine Zv call190 Zj (Zwy (gc.le leA) (g.le leA) (hq.le leA) hk) ?_;rintro _ _ ⟨rfl,rfl⟩;refine rf [2,1008,6,0,1,3012,2] j ?_;refine ld ?_ (hc:=(dW (n:=th) d leA (fun _=>rfl) ht rfl 1 _ rfl));refine aW 16 (Al b) rfl (aQ (Value.int .i64) c) ?_;refine bU (Ef.make (n:=b) rfl rfl underlying22 jE rfl rfl (by omega) (by omega)) ?_;rintro _ _ ⟨i,rfl,rfl⟩;refine eP (q':=lsH I64 2 (some ⟨i,0,none⟩) b (List.replicate b 0)::_) (aM Zj (Dv _ _ _ _ _)) ?_;refine rn [1,0,2] ?_;refine Zq (lsH I64 2 (some ⟨i,0,none⟩) b (List.replicate b 0)::q) func114 (N3 results114) ⟨_,rfl,some ⟨i,0,none⟩,b,by rw [c];rfl,by rw [c];rfl⟩
theorem count_ok (hq:MdlQ q m)(hk:Hy m=0):CallF prog G 112 (A3 p) (pto p (Ak m)::q) (Ret fun v q'=>v= I64 (cntS m)/\q'=pto p (Ak m)::q):=by
 refine aB func112 ntmps112 rfl fun F cs=> ?_;have b:=Ck hk;have j:=b.2.2.1.1;have f:=b.2.2.2.1;refine rn [9,0,9,0,4] ?_;refine fR 3 (I64 ((m.vars.length:Int)+Vh (m.arrays.take 0))) rfl (aQ (Value.int .i64) (by simp [Vh])) ?_;refine aX (cC (fun (s:Nat)=>s<=m.arrays.length) (fun s=> [(16,I64 s),(15,I64 m.arrays.length),(14,.slice m.aa m.arrays.length m.ac),(3,I64 ((m.vars.length:Int)+Vh (m.arrays.take s))),(2,I64 0)]) (fun s=>pto p (Ak m)::(q++F)) (fun s=>m.arrays.length - s) (fun s e h=> ?_) 0 (bC _)) Zn leA;try dsimp only at e h|-
 obtain l:=e;refine xx 5 ?_;refine xp 17 ?_ ?_<;>intro o
 . have c:s<m.arrays.length:=(by omega);have k:=Oo b s;have i:=f.2 _ (aC c);unfold Yj at i;refine Z7 (hq.a.le leA) (by simp;omega) fun r n g=> ?_;have d:=hq.a;rw [g] at d;refine rf [6,3014,1] g ?_;refine ld ?_ (hc:=(gP d leA c rfl));refine ox 13 ?_;refine fR 3 (I64 ((m.vars.length:Int)+Vh (m.arrays.take (s+1)))) rfl (aQ (Value.int .i64) (by rw [aN c,Gx];simp [Vh];omega)) ?_;refine fR 14 (.slice m.aa m.arrays.length m.ac) rfl (by rw [g]) ?_;refine aX (h (s+1) (by omega) (by omega)) Zn leA
 refine xx 7 ?_;refine Zq (pto p (Ak m)::q) func112 (Zf results112 rfl) ⟨_,rfl,by unfold cntS;rw [bQ (by omega)],rfl⟩
theorem Zwg (gc:GC q)(g:GE q)(hq:MdlQ q m)(hk:Hy m=0):CallF prog G 52 [.agg (J7 m).toArray] (q) (Ret fun v q'=> ∃ a' c',v= .tuple [.slice a' (m.vars++List.replicate (Vh m.arrays).toNat 0).length c',I64 0].toArray/\q'=lsH I64 2 a' c' (m.vars++List.replicate (Vh m.arrays).toNat 0)::q):=by
 refine aB func52 ntmps52 rfl fun F cs=> ?_;have b:=Ck hk;have d:=b.2.2.1.1;have a:=Oo b m.arrays.length;rw [bV] at a;obtain ⟨N,e⟩:=bP a.1;rw [e,show ((N:Nat):Int).toNat=N from rfl];refine xo 2 ?_;refine Zl fun h=> ?_
 refine rn [6,0] ?_;refine bM call111 (L9 (gc.le leA) (g.le leA) (hq.le leA)) ?_;refine aW 7 (I64 0) rfl (by rw [hk]) ?_;refine rn [7,1009,4] ?_;refine Zv call112 Zj (count_ok (hq.le leA) hk) ?_;rintro _ _ ⟨rfl,rfl⟩;refine aW 10 (I64 ((m.vars.length+N:Nat):Int)) rfl (aQ (Value.int .i64) (by unfold cntS;omega)) ?_;refine bU (Ef.make (n:=m.vars.length+N) rfl rfl underlying22 jE rfl rfl (by omega) (by omega)) ?_;rintro _ _ ⟨c,rfl,rfl⟩;refine eP (q':=lsH I64 2 (some ⟨c,0,none⟩) (m.vars.length+N) (List.replicate (m.vars.length+N) 0)::_) (aM Zj (Dv _ _ _ _ _)) ?_;refine rn [6,0] ?_;refine aW 12 (.slice (some ⟨c,0,none⟩) (List.replicate (m.vars.length+N) (0:Int)).length (m.vars.length+N)) rfl (by rw [cO]) ?_;refine bU (Zzq (f:=I64) (l:=List.replicate (m.vars.length+N) 0) (m:=m.vars) underlying22 jE rfl rfl Zj (hq.v.le leA) (fun _=>rfl) (by rw [cO];omega)) ?_;rintro _ _ ⟨rfl,rfl⟩;rw [List.drop_replicate,kB];refine ox 7 ?_;refine Zq (lsH I64 2 (some ⟨c,0,none⟩) (m.vars.length+N) (m.vars++List.replicate N 0)::q) func52 (Q4 results52 rfl rfl) ⟨_,rfl,some ⟨c,0,none⟩,m.vars.length+N,by simp,rfl⟩
end
structure MTh where
 decl:Int
 st:Int
 code:Int
 pc:Int
 loc:List Int
 stk:List Int
 sp:List Int
abbrev zMTh:MTh:=⟨0,0,0,0, [], [], []⟩
structure MS where
 cells:List Int
 sy:Sy
 ths:List MTh
 out:POut
 cnt:Int
variable {s S:MS}
def MS.th (s:MS)(n:Nat):MTh:=s.ths.getD n zMTh
def MS.put (s:MS)(n:Nat)(t:MTh):MS:= { s with ths:=s.ths.set n t }
def Df (m:Mdl)(code pc:Int):Ins:=((m.threads.map (·.ins)).getD code.toNat []).getD pc.toNat D8
def MTh.at (m:Mdl)(t:MTh):Ins:=Df m t.code t.pc
def Cg (l:List Int):Int:=l.getD (l.length - 1) 0
def MTh.push (t:MTh)(v:Int):MTh:= { t with stk:=t.stk++ [v] }
def MTh.pop (t:MTh):MTh:= { t with stk:=t.stk.take (t.stk.length - 1) }
def PEv.sn (e:PEv)(l:List Sn):PEv:= { e with syn:=e.syn++l }
theorem Zkr (x:Sn):(snC x).length=3:=rfl
theorem snC_one (x:Sn):(snC x).all (·.oneCell')=true:=rfl
structure MTC where
 t:MTh
 la:Option Addr
 lc:Nat
 ta:Option Addr
 tc:Nat
 sa:Option Addr
 sc:Nat
variable {l:List MTC}
def mtC (x:MTC):List Value:= [I64 x.t.decl,I64 x.t.st,I64 x.t.code,I64 x.t.pc,.slice x.la x.t.loc.length x.lc,.slice x.ta x.t.stk.length x.tc,.slice x.sa x.t.sp.length x.sc]
theorem Z8 (x:MTC):(mtC x).length=7:=rfl
theorem Zvw (x:MTC):(mtC x).all (·.oneCell')=true:=rfl
def mtL (x:MTC):List HP:= [lsH I64 2 x.la x.lc x.t.loc,lsH I64 2 x.ta x.tc x.t.stk,lsH I64 3 x.sa x.sc x.t.sp]
def mtH (x:MTC):HP:=stars (mtL x)
structure MC where
 ca:Option Addr
 cc:Nat
 cells:List Int
 sp:Nat
 sy:Sy
 ha:Option Addr
 hc:Nat
 ths:List MTC
 out:POut
 cnt:Int
variable {U:MC}
def MC.er (U:MC):MS:=⟨U.cells,U.sy,U.ths.map MTC.t,U.out,U.cnt⟩
structure MK where
 pp:Nat
 mp:Nat
 mb:Nat
variable {K:MK}
def mcC (k:MK)(U:MC):List Value:= [.pointer (some ⟨k.pp,0,none⟩),.pointer (some ⟨k.mp,0,none⟩),.map (some k.mb),.slice U.ca U.cells.length U.cc,.pointer (some ⟨U.sp,0,none⟩),.slice U.ha U.ths.length U.hc,I64 U.out.kind,I64 U.out.trap,I64 U.out.th,I64 U.out.stmt,I64 U.cnt]
def mcL (U:MC):List HP:= [lsH I64 2 U.ca U.cc U.cells,yH U.sp U.sy,rsH mtC 7 147 U.ha U.hc U.ths,stars (U.ths.map mtH)]
abbrev mcP (p:Nat)(k:MK)(U:MC):HP:=pto p (.cells (mcC k U).toArray 127 (0,0))
def maH (p:Nat)(k:MK)(s:MS):HP:=ex fun U:MC=>stars (pure (U.er=s)::mcP p k U::mcL U)
abbrev msP (p:Nat)(k:MK)(who:Nat)(xa:Addr)(U:MC)(e:EvC):HP:=pto p (.cells (mcC k U++(I64 who:: .pointer (some xa)::evC e)).toArray 181 (0,0))
def spH (p:Nat)(k:MK)(who:Nat)(xa:Addr)(s:MS)(ev:PEv):HP:=ex fun z:MC×EvC=>stars (pure (z.1.er=s/\z.2.e=ev)::msP p k who xa z.1 z.2::(mcL z.1++evL z.2))
abbrev msF (p:Nat)(k:MK)(who:Nat)(xa:Addr)(U:MC)(ga:Nat)(x:MTC)(e:EvC)(r:List HP):List HP:=
 msP p k who xa { U with ha:=some ⟨ga,0,none⟩ } e::lsH I64 2 U.ca U.cc U.cells::yH U.sp U.sy::rsH mtC 7 147 (some ⟨ga,0,none⟩) U.hc (U.ths.set who x)::lsH I64 2 x.la x.lc x.t.loc::lsH I64 2 x.ta x.tc x.t.stk::lsH I64 3 x.sa x.sc x.t.sp::stars ((U.ths.eraseIdx who).map mtH)::rsH acC 3 158 e.aa e.ac e.e.acc::rsH snC 3 161 e.na e.nc e.e.syn::r
theorem Ug (hn:n<U.ths.length):U.er.th n=(U.ths[n]).t:=by
 unfold MS.th MC.er;rw [aG,bJ,aE hn];rfl
theorem MC.nth (U:MC):U.er.ths.length=U.ths.length:=aI _
abbrev kI:=@MC.nth
theorem H7 {k:MK}{x:MTC}{q:List HP}(hw:who<U.ths.length)(hs:U.er.put who x.t=s)(he:e.e=ev)(h:Le q (msF p k who xa U ga x e r)):Le q (spH p k who xa s ev::r):=
 h.trans (by
  obtain ⟨ca,g,a,sp,d,i,f,ths,b,c⟩:=U;dsimp only at hw hs;have l:(⟨ca,g,a,sp,d,some ⟨ga,0,none⟩,f,ths.set who x,b,c⟩:MC).er=s:=by rw [<-hs];unfold MC.er MS.put;simp [List.map_set]
  have j:Le (msF p k who xa ⟨ca,g,a,sp,d,i,f,ths,b,c⟩ ga x e r) ((msP p k who xa ⟨ca,g,a,sp,d,some ⟨ga,0,none⟩,f,ths.set who x,b,c⟩ e::(mcL ⟨ca,g,a,sp,d,some ⟨ga,0,none⟩,f,ths.set who x,b,c⟩++evL e))++r):=by
   unfold msF msP mcC mcL evL;simp only [bK,bO,aY];exact cG _ (cG _ (cG _ (cG _ (aM (Zm (mtL x) _) (Bh mtH hw x _)))))
  exact j.trans (Wa ((⟨ca,g,a,sp,d,some ⟨ga,0,none⟩,f,ths.set who x,b,c⟩:MC),e) ((Yc ⟨l,he⟩ _).trans (Zm (pure _::msP p k who xa _ e::(mcL _++evL e)) r))))
theorem S8 {k:MK}(hw:who<U.ths.length)(ha:U.ha=some ⟨ga,0,none⟩):Le (msP p k who xa U e::(mcL U++evL e)++r) (msF p k who xa U ga U.ths[who] e r):=by
 obtain ⟨ca,g,a,sp,d,h,f,ths,b,c⟩:=U;dsimp only at ha hw|-;subst ha;unfold msF msP mcC mcL evL;simp only [gA,bO,aY];refine cG _ (cG _ (cG _ (cG _ ?_)));exact (Le.focus mtH hw _).trans (Zy (mtL ths[who]) _)
theorem sp_in {k:MK}{q:List HP}(hs:U.er=s)(he:e.e=ev)(h:Le q ((msP p k who xa U e::(mcL U++evL e))++r)):Le q (spH p k who xa s ev::r):=
 h.trans (Wa (U,e) ((Yc ⟨hs,he⟩ _).trans (Zm (pure _::msP p k who xa U e::(mcL U++evL e)) _)))
section
variable {k:List Item}{q:List HP}
theorem X.spO (x: ∀ U e,U.er=s->e.e=ev->X P G f Q k pe ds cs (msP p K who xa U e::lsH I64 2 U.ca U.cc U.cells::yH U.sp U.sy::rsH mtC 7 147 U.ha U.hc U.ths::stars (U.ths.map mtH)::rsH acC 3 158 e.aa e.ac e.e.acc::rsH snC 3 161 e.na e.nc e.e.syn::r))(hq:Le q (spH p K who xa s ev::r):=by exact Zj):X P G f Q k pe ds cs q:=
 .le hq (.ex fun z=> .le (Zy _ r) (.pure fun h=>x z.1 z.2 h.1 h.2))
theorem XO.spO (x: ∀ U e,U.er=s->e.e=ev->XO P G f Q ops.toArray k lo pe ds cs (msP p K who xa U e::lsH I64 2 U.ca U.cc U.cells::yH U.sp U.sy::rsH mtC 7 147 U.ha U.hc U.ths::stars (U.ths.map mtH)::rsH acC 3 158 e.aa e.ac e.e.acc::rsH snC 3 161 e.na e.nc e.e.syn::r))(hq:Le q (spH p K who xa s ev::r):=by exact Zj):XO P G f Q ops.toArray k lo pe ds cs q:=
 .le hq (.ex fun z=> .le (Zy _ r) (.pure fun h=>x z.1 z.2 h.1 h.2))
theorem X.spF (hw:who<s.ths.length)(x: ∀ U ga (h:who<U.ths.length) e,U.er=s->e.e=ev->X P G f Q k pe ds cs (msF p K who xa U ga U.ths[who] e r))(hq:Le q (spH p K who xa s ev::r):=by exact Zj):X P G f Q k pe ds cs q:=
 X.spO (fun U e b d=>by
  have a:who<U.ths.length:=by rw [<-b,kI] at hw;exact hw
  exact U7 (l:=U.ths) (by omega) (fun g c=> .le (S8 a c) (x U g a e b d)) Zj) hq
theorem XO.spF (hw:who<s.ths.length)(x: ∀ U ga (h:who<U.ths.length) e,U.er=s->e.e=ev->XO P G f Q ops.toArray k lo pe ds cs (msF p K who xa U ga U.ths[who] e r))(hq:Le q (spH p K who xa s ev::r):=by exact Zj):XO P G f Q ops.toArray k lo pe ds cs q:=
 .le hq (.ex fun z=> .le (Zy _ r) (.pure fun h=>by
  have a:who<z.1.ths.length:=by rw [<-h.1,kI] at hw;exact hw
  exact Dc (l:=z.1.ths) (by omega) (fun g b=> .le (S8 a b) (x z.1 g a z.2 h.1 h.2)) (by unfold mcL;exact Zj)))
end
structure ME (q:List HP) (K:MK) (g:FC) (m:Mdl):Prop where
 hp:CellsAt q K.pp 0 (pgC g)
 hK:Kn q fun M=>g.At M
 hm:CellsAt q K.mp 0 (J7 m)
 hM:Kn q fun M=>MdAt M m
 hB:MdB m
theorem ME.le {q:List HP}(h:ME q' K g m)(l:Le q q'):ME q K g m:=⟨h.hp.le l,h.hK.le l,h.hm.le l,h.hM.le l,h.hB⟩
theorem ME.q {q:List HP}{K:MK}{g:FC}{m:Mdl}(h:ME q K g m):MdlQ q m:=Ok h.hM h.hB
theorem O3 {q:List HP}(hw:who<s.ths.length)(h: ∀ U ga (h:who<U.ths.length) e,U.er=s->e.e=ev->CallF P G fn vs (msF p K who xa U ga U.ths[who] e q) R):CallF P G fn vs (spH p K who xa s ev::q) R:=by
 intro F w st cs;obtain ⟨z,i⟩:=St.get_ex st;have d:=i.le (Zy _ (q++F));have b:=d.get_pure;have c:=d.le (dX _ _);have a:who<z.1.ths.length:=by rw [<-b.1,kI] at hw;exact hw
 have f:St G w (msP p K who xa z.1 z.2::lsH I64 2 z.1.ca z.1.cc z.1.cells::yH z.1.sp z.1.sy::rsH mtC 7 147 z.1.ha z.1.hc z.1.ths::(stars (z.1.ths.map mtH)::(evL z.2++(q++F)))):=c;obtain ⟨g,j⟩:=(f.le (aM (dX _ _) (aM (dX _ _) (dX _ _)))).rsAddr (by omega);exact h z.1 g a z.2 b.1 b.2 F w (c.le (S8 (r:=q++F) a j)) cs
theorem spO_call {q:List HP}(h: ∀ U e,U.er=s->e.e=ev->CallF P G fn vs (msP p K who xa U e::lsH I64 2 U.ca U.cc U.cells::yH U.sp U.sy::rsH mtC 7 147 U.ha U.hc U.ths::stars (U.ths.map mtH)::rsH acC 3 158 e.aa e.ac e.e.acc::rsH snC 3 161 e.na e.nc e.e.syn::q) R):CallF P G fn vs (spH p K who xa s ev::q) R:=by
 intro F w st cs;obtain ⟨z,c⟩:=St.get_ex st;have a:=c.le (Zy _ (q++F));have b:=a.get_pure;exact h z.1 z.2 b.1 b.2 F w (a.le (dX _ _)) cs
theorem Lo:(prog.info? 161).map (fun i=>(i.zero,i.size,i.bytes))=some (some (.agg #[I64 0,I64 0,I64 0]),3,24):=by kernel_rfl
theorem Mp:(prog.info? 147).map (fun i=>(i.zero,i.size,i.bytes))=some (some (.agg #[I64 0,I64 0,I64 0,I64 0,.slice none 0 0,.slice none 0 0,.slice none 0 0]),7,104):=by kernel_rfl
section
variable {q:List HP}{n:Int}
theorem Na {m:Nat}(h5:Cl q ⟨p,0+5,none⟩ (.slice (some ⟨ga,0,none⟩) m c))(h11:Cl q ⟨p,11,none⟩ (Al who))(hn:who<m):CallF prog G 139 (A3 p) (q) (Ret fun v q'=>v= .pointer (some ⟨ga,0+(who:Int).toNat*7,none⟩)/\q'=q):=by
 refine aB func139 ntmps139 rfl fun F cs=> ?_;refine rn [5,0,1,2,3,4] ?_;refine ldD 4 ?_ (hc:=(h5.le leA));refine dd [5,6,7] ?_;refine ldD 8 ?_ (hc:=(h11.le leA));refine rn [10,11,0] ?_;refine Zq (q) func139 (Zf results139 rfl) ⟨_,rfl,rfl,rfl⟩
theorem Zze (hl:e.e.syn.length<=4000000000000):CallF prog G 142 [.pointer (some ⟨p,0,none⟩),I64 k,I64 sl,I64 ot] (msP p K who xa U e::rsH snC 3 161 e.na e.nc e.e.syn::q) (Ret fun v q'=> ∃ e':EvC,(e'.e=e.e.sn [(k,sl,ot)]/\e'.aa=e.aa/\e'.ac=e.ac)/\q'=msP p K who xa U e'::rsH snC 3 161 e'.na e'.nc e'.e.syn::q):=by
 refine aB func142 ntmps142 rfl fun F cs=> ?_;refine rn [6,0,4] ?_;refine bU (Yz (u:=(k,sl,ot)) snC underlying61 Lo rfl rfl Zkr rfl) ?_;rintro _ _ ⟨c,rfl,rfl⟩;refine bU (Z4 (f:=snC) (l:=e.e.syn) (m:= [(k,sl,ot)]) underlying61 Lo rfl rfl Zkr rfl rfl Zj ((cI _).le leA) snC_one (by simp;omega) (by simp;omega)) ?_;rintro _ _ ⟨b,a,rfl,rfl⟩;refine rn [3,0,1] ?_;refine Zr (msP p K who xa U ({ e with e:=e.e.sn [(k,sl,ot)],na:=b,nc:=a } :EvC)::rsH snC 3 161 ({ e with e:=e.e.sn [(k,sl,ot)],na:=b,nc:=a } :EvC).na ({ e with e:=e.e.sn [(k,sl,ot)],na:=b,nc:=a } :EvC).nc ({ e with e:=e.e.sn [(k,sl,ot)],na:=b,nc:=a } :EvC).e.syn::q) func142 (Yy results142) ⟨_,rfl,({ e with e:=e.e.sn [(k,sl,ot)],na:=b,nc:=a } :EvC),⟨rfl,rfl,rfl⟩,rfl⟩
theorem Zxy (hl:ev.syn.length<=4000000000000):CallF prog G 142 [.pointer (some ⟨p,0,none⟩),I64 k,I64 sl,I64 ot] (spH p K who xa s ev::q) (Ret fun v q'=>q'=spH p K who xa s (ev.sn [(k,sl,ot)])::q):=
 spO_call fun U e c d=>by
  subst c d;exact gF (bD Zj (bD Zj (aH _))) (Zze hl) (by rintro _ _ ⟨_,rfl,b,⟨a,g,f⟩,rfl⟩;refine ⟨_,⟨_,rfl,rfl⟩,sp_in (U:=U) (e:=b) rfl a ?_⟩;unfold mcL evL;rw [g,f,show b.e.acc=e.e.acc by rw [a];rfl];exact leA)
variable {x:MTC}
theorem Zxx (hw0:who<U.ths.length)(hl:x.t.stk.length<=1000000):CallF prog G 205 (Aa p u) (msF p K who xa U ga x e q) (Ret fun v q'=> ∃ a2 c2,q'=msF p K who xa U ga { x with t:=x.t.push u,ta:=a2,tc:=c2 } e q):=by
 refine aB func205 ntmps205 rfl fun F cs=> ?_;refine xo 3 ?_;refine bM call139 (Na (p:=p) (who:=who) (ga:=ga) (m:=U.ths.length) (c:=U.hc) clA clA hw0) ?_;refine oo 9 ?_;refine ld ?_ (hc:=(dW (n:=who) (cI _) leA Z8 (show who<(U.ths.set who x).length by rw [bK];exact hw0) rfl 5 _ (by rw [cH];rfl)));refine oo 1 ?_;refine bU (Uk (u:=u) I64 underlying22 Zkn rfl rfl) ?_;rintro _ _ ⟨a,rfl,rfl⟩;refine bU (Yb (f:=I64) (l:=(x).t.stk) (m:= [u]) underlying22 Zkn rfl rfl rfl Zj ((bY _).le leA) (fun _=>rfl) (by simp only [eN];omega) (by simp only [eN];omega)) ?_;rintro _ _ ⟨a2,c2,rfl,rfl⟩;refine oo 2 ?_;refine dM (V4 (g:=ga) (f:=mtC) (l:=U.ths.set who x) (u:=({ x with t:=(x).t.push u,ta:=a2,tc:=c2 } :MTC)) (n:=who) (k:=5) (j:=(who:Int)) rfl rfl sizeOf22 Z8 rfl (by rw [bK];exact hw0) rfl (by rw [cH];rfl) rfl rfl Zj) ?_;rintro _ _ ⟨rfl,rfl⟩;rw [iW];refine ox 1 ?_;refine Zr (msF p K who xa U ga ({ x with t:=(x).t.push u,ta:=a2,tc:=c2 } :MTC) e q) func205 (Yy results205) ⟨_,rfl,a2,c2,rfl⟩
theorem mpush_ok (hw:who<s.ths.length)(hl:(s.th who).stk.length<=1000000):CallF prog G 205 [.pointer (some ⟨p,0,none⟩),I64 u] (spH p K who xa s ev::q) (Ret fun v q'=>q'=spH p K who xa (s.put who ((s.th who).push u)) ev::q):=
 O3 hw fun U ga a e b c=>by
  subst b c;rw [Ug a] at hl|-;exact gF (aH _) (Zxx a hl) (by rintro _ _ ⟨_,rfl,f,d,rfl⟩;exact ⟨_,⟨_,rfl,rfl⟩,H7 a rfl rfl (aH _)⟩)
theorem mpopF_ok (hw0:who<U.ths.length)(hl:1<=x.t.stk.length/\x.t.stk.length<=1000000):CallF prog G 206 (A3 p) (msF p K who xa U ga x e q) (Ret fun v q'=>v= I64 (Cg x.t.stk)/\q'=msF p K who xa U ga { x with t:=x.t.pop } e q):=by
 refine aB func206 ntmps206 rfl fun F cs=> ?_;obtain ⟨L,y⟩:=lM x.t.stk;have w:L.length - 1<L.length:=(by rw [y];omega);refine Rw (l:=x.t.stk) (by omega) fun a d=> ?_;have o: ∀ r,Sees (lsH I64 2 (some ⟨a,0,none⟩) x.tc x.t.stk::r) (some ⟨a,0,none⟩) (x.t.stk.map I64):=fun r=>bY r
 have h:Cg x.t.stk=x.t.stk[x.t.stk.length - 1]'(by omega):=(by unfold Cg;rw [aG,aE (by omega)];rfl);refine Zv1 (l:=x.t.stk) fun i=> ?_;refine X.lsmax (l:=x.t.stk) fun s=> ?_;refine cS (q':=lsH I64 2 (some ⟨a,0,none⟩) x.tc x.t.stk::_) (by rw [<-d];exact Zj) ?_;refine xo 7 ?_;refine bM call139 (Na (p:=p) (who:=who) (ga:=ga) (m:=U.ths.length) (c:=U.hc) clA clA hw0) ?_;refine rn [5,0,1,2,3] ?_;refine ldD 3 ?_ (hc:=(dW (n:=who) (cI _) leA Z8 (show who<(U.ths.set who x).length by rw [bK];exact hw0) rfl 5 _ (by rw [cH];rfl)));refine rf [3012,5,6,7] d ?_;refine ldD 7 ?_ (hc:=(dW (n:=who) (cI _) leA Z8 (show who<(U.ths.set who x).length by rw [bK];exact hw0) rfl 5 _ (by rw [cH];rfl)));refine rf [3016,9,10,11] d ?_;refine ldD 11 ?_ (hc:=(((o _).le leA).at (n:=x.t.stk.length - 1) (by omega) (by omega)));refine rn [13,0,1,0,1,2,3,4] ?_;refine ldD 4 ?_ (hc:=(dW (n:=who) (cI _) leA Z8 (show who<(U.ths.set who x).length by rw [bK];exact hw0) rfl 5 _ (by rw [cH];rfl)));refine rf [3025,6,7,8] d ?_;refine ldD 8 ?_ (hc:=(dW (n:=who) (cI _) leA Z8 (show who<(U.ths.set who x).length by rw [bK];exact hw0) rfl 5 _ (by rw [cH];rfl)));refine rf [3029,10,11,12,13,14] d ?_;refine dY 32 (.slice (some ⟨a,0,none⟩) (x.t.pop).stk.length x.tc) rfl (by unfold MTh.pop;rw [bI];congr 1;omega) ?_;refine iM 14 rfl (V4 (g:=ga) (f:=mtC) (l:=U.ths.set who x) (u:=({ x with t:=(x).t.pop,ta:=some ⟨a,0,none⟩ } :MTC)) (n:=who) (k:=5) (j:=(who:Int)) rfl rfl sizeOf22 Z8 rfl (by rw [bK];exact hw0) rfl (by rw [cH];rfl) rfl rfl Zj) ?_;refine kk0 ?_;rw [iW];refine rn [0,5] ?_;refine cS (q':=lsH I64 2 (some ⟨a,0,none⟩) x.tc (x.t.stk.take (x.t.stk.length - 1))::_) (aM (b:=lsH I64 2 (some ⟨a,0,none⟩) x.tc x.t.stk::_) Zj (Fg _ _ _ _ _ _ _)) ?_;refine Zq (msF p K who xa U ga { x with t:=x.t.pop } e q) func206 (Zf results206 rfl) ⟨_,rfl,by rw [h],rfl⟩ (by rw [show ({ x with t:=x.t.pop } :MTC)=({ x with t:=(x).t.pop,ta:=some ⟨a,0,none⟩ } :MTC) by cases x;dsimp only at d|-;rw [d]];exact leA)
theorem mpop_ok (hw:who<s.ths.length)(hl:1<=(s.th who).stk.length/\(s.th who).stk.length<=1000000):CallF prog G 206 [.pointer (some ⟨p,0,none⟩)] (spH p K who xa s ev::q) (Ret fun v q'=>v= I64 (Cg (s.th who).stk)/\q'=spH p K who xa (s.put who (s.th who).pop) ev::q):=
 O3 hw fun U ga a e b c=>by
  subst b c;rw [Ug a] at hl|-;exact gF (aH _) (mpopF_ok a hl) (by rintro _ _ ⟨_,rfl,rfl,rfl⟩;exact ⟨_,⟨_,rfl,rfl,rfl⟩,H7 a rfl rfl (aH _)⟩)
end
section
variable {q:List HP}{n:Int}{a:Nat}
theorem Cv (hE:ME q K g m)(h1:Cl q ⟨p,0+1,none⟩ (.pointer (some ⟨K.mp,0,none⟩)))(h2:Cl q ⟨c,a+2,none⟩ (I64 k))(h3:Cl q ⟨c,a+2+1,none⟩ (I64 n))(hk:0<=k/\k<m.threads.length)(hn:0<=n/\n<(m.threads[k.toNat]'(by omega)).ins.length):CallF prog G 115 (A7 p c a) (q) (Ret fun v q'=>v= .agg (Y8 (Df m k n)).toArray/\q'=q):=by
 refine aB func115 ntmps115 rfl fun F cs=> ?_;obtain ⟨e,rfl⟩:=bP hk.1;obtain ⟨j,rfl⟩:=bP hn.1;replace hk:e<m.threads.length:=(by omega);obtain ⟨x,l⟩:=lM m.threads[e];replace hn:j<x.ins.length:=(by rw [l];have:=hn.2;simp only [cT] at this;omega);have hi:Df m e j=x.ins[j]:=(by unfold Df;rw [aG,aG,bJ];simp only [cT];rw [aE hk,<-l];simp [aE hn]);rw [hi];have o:=hE.q;have d:=o.x x (l ▸ aC hk);have r:=Zx (f:=Vn) (sz:=4) (fun _=>rfl) m.threads;have s:=Zx (f:=Y8) (sz:=4) (fun _=>rfl) x.ins;have a0:=o.nt;have b0:=d.ni;refine Z7 (o.t.le leA) (by rw [r];omega) fun tb to e1=> ?_;have u:=o.t;rw [e1] at u;refine Z7 (d.i.le leA) (by rw [s];omega) fun ib io z=> ?_;have w:=d.i;rw [z] at w;have y:CellsAt q tb (to+e*4) (Vn x):=(by rw [l];exact fD (j:=(e:Int)) u (aH _) (fun _=>rfl) hk rfl);have b:CellsAt q ib (io+j*4) (Y8 x.ins[j]):=fD (j:=(j:Int)) w (aH _) (fun _=>rfl) hn rfl;refine xo 2 ?_;refine Zh zeroValue222 fun n1=> ?_
 refine rn [2,0,1,2,3] ?_;refine ldD 3 ?_ (hc:=(h1.le leA));refine dd [4,5] ?_;refine ldD 6 ?_ (hc:=((hE.hm.le leA) 5 _ rfl));refine dd [7,8,9,10] ?_;refine ldD 11 ?_ (hc:=(h2.le leA));refine rg [3011,13,14,15,16,17,18,19] e1 y ?_;refine ldD 19 ?_ (hc:=(h3.le leA));refine rf [3019,21] z ?_;refine eE 21 rfl (Rd.ef (Pz (us:=Y8 x.ins[j]) rfl isAgg222 sizeOf222 rfl (b.le leA))) ?_;rintro _ _ ⟨rfl,rfl⟩;refine ⟨(hlA (h:=by repeat first|exact trivial|refine ⟨clA,?_⟩|refine ⟨(h1.le leA),?_⟩|refine ⟨(h2.le leA),?_⟩|refine ⟨(h3.le leA),?_⟩|refine ⟨(hE.hm.le leA) 5 _ rfl,?_⟩|refine ⟨(y.le leA) 2 _ rfl,?_⟩|refine ⟨(b.le leA) 0 _ rfl,?_⟩|refine ⟨(b.le leA) _ _ rfl,?_⟩)),?_⟩;refine rn [23,0] ?_;refine Zq (q) func115 (rA_ results115) ⟨_,rfl,rfl,rfl⟩
end
def Bw (main:Int)(m:Mdl)(d:Int):MTh:=
 let t:MTh:=⟨d,1,Vm main d,0,List.replicate ((m.threads.map (fun x:Cod=>x.locals)).getD (Vm main d).toNat 0).toNat 0, [], []⟩
 if (t.at m).c=34 then { t with st:=4 } else t
section
variable {q:List HP}{n:Int}
theorem Zxf (hE:ME q K g m)(gc:GC q)(ge:GE q)(h0:Cl q ⟨p,0,none⟩ (.pointer (some ⟨K.pp,0,none⟩)))(h1:Cl q ⟨p,0+1,none⟩ (.pointer (some ⟨K.mp,0,none⟩)))(hk:Hy m=0)(hn:0<=n/\n<g.ths.l.length)(hb:g.ths.l.length<=1000000)(hpl:0<=Vm g.main n/\Vm g.main n<m.threads.length)(hin:0<(m.threads[(Vm g.main n).toNat]'(by omega)).ins.length):CallF prog G 54 (Aa p n) (q) (Ret fun v q'=> ∃ T:MTC,T.t=Bw g.main m n/\v= .agg (mtC T).toArray/\q'=mtH T::q):=by
 refine aB func54 ntmps54 rfl fun F cs=> ?_;obtain ⟨c,i⟩:=bP hpl.1;obtain ⟨w,d⟩:=lM (Bw g.main m n);rw [<-d];unfold Bw at d;rw [i] at d;have h:c<m.threads.length:=(by omega);have j:(m.threads.map (fun x:Cod=>x.locals)).getD (c:Int).toNat 0=m.threads[c].locals:=(by rw [aG,bJ,cT,aE h];rfl);rw [j] at d;dsimp only at d;replace hin:0<m.threads[c].ins.length:=(by have:=hin;simp only [i,cT] at this;exact this);refine xo 2 ?_;refine Zh zeroValue147 fun u=> ?_
 refine oo 6 ?_;refine ld ?_ (hc:=(h0.le leA));refine oo 1 ?_;refine Kr (us:=pgC g) isAgg29 sizeOf29 rfl (hE.hp.le leA) ?_;refine oo 1 ?_;refine bM call113 (Lh (g:=g) hn hb) ?_;rw [i];refine oo 11 ?_;refine ld ?_ (hc:=(h1.le leA));refine oo 1 ?_;refine Kr (us:=J7 m) isAgg109 sizeOf109 rfl (hE.hm.le leA) ?_;refine oo 1 ?_;refine Zv call114 (aH _) (vNew_ok (th:=c) (gc.le leA) (ge.le leA) (hE.q.le leA) hk h) ?_;rintro _ _ ⟨f,e,rfl,rfl⟩;refine oo 3 ?_;refine Zh zeroValue145 fun s=> ?_
 refine rn [0,5,0,1] ?_;refine Zh zeroValue147 fun r=> ?_
 refine rn [0,5] ?_;refine bM call115 (Cv (p:=p) (K:=K) (g:=g) (m:=m) (c:=r) (a:=0) (k:=(c:Int)) (n:=0) (hE.le leA) (h1.le leA) clA clA ⟨by omega,by omega⟩ ⟨by omega,by simp only [cT];omega⟩) ?_;refine ox 3 ?_;refine xp 38 ?_ ?_<;>intro o
 . rw [if_pos (by exact o)] at d;refine rn [3,0,3,0,0,1] ?_;refine Zq (mtH (⟨⟨n,4,(c:Int),0,List.replicate m.threads[c].locals.toNat 0, [], []⟩,f,e,none,0,none,0⟩:MTC)::q) func54 (rA_ results54) ⟨_,rfl,(⟨⟨n,4,(c:Int),0,List.replicate m.threads[c].locals.toNat 0, [], []⟩,f,e,none,0,none,0⟩:MTC),by rw [d],by simp only [mtC,cO,aT];rfl,rfl⟩ (aM (b:=lsH I64 2 f e (List.replicate m.threads[c].locals.toNat 0)::(q++F)) leA ((aM (bD (aH _) (aM (Z1 I64 2 _) (cG _ (Z1 I64 3 _))))) (Zm (mtL (⟨⟨n,4,(c:Int),0,List.replicate m.threads[c].locals.toNat 0, [], []⟩,f,e,none,0,none,0⟩:MTC)) _)))
 rw [if_neg (by exact o)] at d;refine rn [4,0,0,1] ?_;refine Zq (mtH (⟨⟨n,1,(c:Int),0,List.replicate m.threads[c].locals.toNat 0, [], []⟩,f,e,none,0,none,0⟩:MTC)::q) func54 (rA_ results54) ⟨_,rfl,(⟨⟨n,1,(c:Int),0,List.replicate m.threads[c].locals.toNat 0, [], []⟩,f,e,none,0,none,0⟩:MTC),by rw [d],by simp only [mtC,cO,aT];rfl,rfl⟩ (aM (b:=lsH I64 2 f e (List.replicate m.threads[c].locals.toNat 0)::(q++F)) leA ((aM (bD (aH _) (aM (Z1 I64 2 _) (cG _ (Z1 I64 3 _))))) (Zm (mtL (⟨⟨n,1,(c:Int),0,List.replicate m.threads[c].locals.toNat 0, [], []⟩,f,e,none,0,none,0⟩:MTC)) _)))
abbrev RM (p:Nat)(K:MK)(who:Nat)(xa:Addr)(R:MS×PEv×Int)(q:List HP):Wx.Ub:=RP (fun v q'=>R.2.2=0/\q'=spH p K who xa R.1 R.2.1::q) (fun ch q'=>(R.2.2≠0/\ch= [Oc R.2.2])/\q'=spH p K who xa R.1 R.2.1::q)
end
def PStm.slt:PStm->Int
 | .mk _ _ _ _ _ _ _ _ _ _ slot _ _=>slot
def BegOk (g:FC)(m:Mdl)(n:Int):Prop:=(0<=n/\n<g.ths.l.length)/\g.ths.l.length<=1000000/\(0<=Vm g.main n/\Vm g.main n<m.threads.length)/\0<(m.threads.getD (Vm g.main n).toNat ⟨em,0, [], [],none,0,none,0⟩).ins.length
theorem BegOk.in {n:Int}(h:BegOk g m n):0<(m.threads[(Vm g.main n).toNat]'(by have:=h.2.2.1;omega)).ins.length:=by
 have a:=h.2.2.2;rwa [aG,aE (by have:=h.2.2.1;omega)] at a
section
variable {q:List HP}{n:Int}
theorem Jl {n:Nat}(hn:n<U.ths.length):U.er.put n (U.ths[n]).t=U.er:=by
 unfold MC.er MS.put;simp only [MS.mk.injEq,true_and,and_true];rw [<-List.map_set,gA]
theorem mtH_app (l:List MTC)(T:MTC)(q:List HP):Le (stars (l.map mtH)::mtH T::q) (stars ((l++ [T]).map mtH)::q):=by
 exact U0 mtH l T q
end
def N4 (main:Int)(m:Mdl)(kd d:Int)(i:Ins)(s:MS)(who:Nat)(ev:PEv):MS×PEv×Int:=
 if i.c=1 then (s.put who ((s.th who).push i.n),ev,0)
 else if i.c=33 then (s.put who (s.th who).pop, { ev with told:=true,outv:=Cg (s.th who).stk },0)
 else (s,ev,0)
structure IPre (g:FC) (m:Mdl) (d:Int) (i:Ins) (s:MS) (who:Nat) (ev:PEv) (N:Nat):Prop where
 w:who<s.ths.length
 sl:(s.th who).stk.length<=1000
 la:ev.acc.length<=10000000
 n1:i.c=33->1<=(s.th who).stk.length
 e:i.c=1\/i.c=33\/i.c=23
section
variable {q:List HP}{n:Int}
theorem Zzo:CallF prog G 214 [.pointer (some ⟨p,0,none⟩),.agg (Y8 ⟨23,i.a,i.b,i.n⟩).toArray] (spH p K who ⟨xb,xf,none⟩ s ev::q) (Ret fun v q'=>q'=spH p K who ⟨xb,xf,none⟩ s ev::q):=by
 refine aB func214 ntmps214 rfl fun F cs=> ?_;refine xo 2 ?_;refine Zl fun c=> ?_
 refine rn [4,0,7,1022,6,1028,6,1034,6,1042,6,1062,6,1087,6,1108,6,1131,6,1135,3] ?_;refine Zr (spH p K who ⟨xb,xf,none⟩ s ev::q) func214 (Yy results214) ⟨_,rfl,rfl⟩
theorem mins_ok (hX:CellsAt q xb xf (stC x))(hE:ME q K g m)(gc:GC q)(ge:GE q)(hk:Hy m=0)(hI:IPre g m x.er.slt i s who ev N):CallF prog G 141 [.pointer (some ⟨p,0,none⟩),.agg (Y8 i).toArray] (spH p K who ⟨xb,xf,none⟩ s ev::q) (RM p K who ⟨xb,xf,none⟩ (N4 g.main m x.er.kd x.er.slt i s who ev) q):=by
 refine aB func141 ntmps141 rfl fun F cs=> ?_;obtain ⟨R,j⟩:=lM (N4 g.main m x.er.kd x.er.slt i s who ev);rw [<-j];unfold N4 at j;obtain ⟨v,r,o,d⟩:=i;dsimp only at j;have n:=hI.w;have y:=hI.sl;have a0:=hI.la;obtain ⟨t,k⟩:=lM (s.th who);rw [<-k] at j y;rcases (show v=1\/v=33\/v=23 from hI.e) with rfl|rfl|rfl
 . rw [if_pos rfl] at j;refine X.spF n fun U ga a e f h=> ?_;have b:=Ug a;rw [f,<-k] at b
   subst k;refine xo 2 ?_;refine Zl fun l=> ?_
   refine oo 4 ?_;refine bM call139 (Na (p:=p) (who:=who) (ga:=ga) (m:=U.ths.length) (c:=U.hc) clA clA a) ?_;refine eP (q':=spH p K who ⟨xb,xf,none⟩ s ev::pto l (.cells (Y8 ⟨1,r,o,d⟩).toArray 222 (0,0))::(q++F)) (H7 (U:=U) (ga:=ga) (x:=U.ths[who]) (e:=e) a (by rw [Jl a];exact f) h leA) ?_;clear f h b a;refine rn [7,0,7,2017,4,0] ?_;refine Zv call205 Zj (mpush_ok (s:=s) (ev:=ev) (u:=d) n (by omega)) ?_;rintro _ _ rfl;refine ox 2 ?_;refine Zr (spH p K who ⟨xb,xf,none⟩ (s.put who ((s.th who).push d)) ev::q) func141 (Yy results141) (fS (by rw [j];exact ⟨rfl,rfl⟩))
 . rw [if_neg (by omega),if_pos rfl] at j;refine X.spF n fun U ga a e f h=> ?_;have b:=Ug a;rw [f,<-k] at b
   subst k;have z:=hI.n1 (by dsimp only);refine xo 2 ?_;refine Zl fun l=> ?_
   refine oo 4 ?_;refine bM call139 (Na (p:=p) (who:=who) (ga:=ga) (m:=U.ths.length) (c:=U.hc) clA clA a) ?_;refine eP (q':=spH p K who ⟨xb,xf,none⟩ s ev::pto l (.cells (Y8 ⟨33,r,o,d⟩).toArray 222 (0,0))::(q++F)) (H7 (U:=U) (ga:=ga) (x:=U.ths[who]) (e:=e) a (by rw [Jl a];exact f) h leA) ?_;clear f h b a;refine rn [7,0,7,1017,6,1023,6,1035,6,1046,6,1052,6,1060,6,1070,6,1083,6,1091,6,1099,7,1107,6,1107,5,1107,7,1114,6,1114,6,1114,6,1114,6,1114,6,1114,6,1114,6,1114,5,1114,6,2135,5] ?_;refine Zv call206 Zj (mpop_ok (s:=s) (ev:=ev) n ⟨by omega,by omega⟩) ?_;rintro _ _ ⟨rfl,rfl⟩;refine XO.spO fun U e f h=> ?_
   refine rn [3,0,3,0,2] ?_;refine Zr (spH p K who ⟨xb,xf,none⟩ (s.put who (s.th who).pop) ({ ev with told:=true,outv:=Cg (s.th who).stk })::q) func141 (Yy results141) (fS (by rw [j];exact ⟨rfl,rfl⟩)) (sp_in (U:=U) (e:= { e with e:= { e.e with told:=true,outv:=Cg (s.th who).stk } }) f (by rw [h]) (by unfold mcL evL;exact leA))
 rw [if_neg (by omega),if_neg (by omega)] at j;refine X.spF n fun U ga a e f h=> ?_;have b:=Ug a;rw [f,<-k] at b
 subst k;refine xo 2 ?_;refine Zl fun l=> ?_
 refine oo 4 ?_;refine bM call139 (Na (p:=p) (who:=who) (ga:=ga) (m:=U.ths.length) (c:=U.hc) clA clA a) ?_;refine eP (q':=spH p K who ⟨xb,xf,none⟩ s ev::pto l (.cells (Y8 ⟨23,r,o,d⟩).toArray 222 (0,0))::(q++F)) (H7 (U:=U) (ga:=ga) (x:=U.ths[who]) (e:=e) a (by rw [Jl a];exact f) h leA) ?_;clear f h b a;refine rn [7,0,7,1017,6,1023,6,1035,6,1046,6,1052,6,1060,6,1070,6,1083,6,1091,6,1099,7,1107,6,1107,5,1107,7,1114,6,1114,6,1114,6,1114,6,1114,6,1114,6,1114,6,1114,5,1114,6,1135,3,0] ?_;refine Zv call214 Zj (Zzo (i:=⟨23,r,o,d⟩) (s:=s) (ev:=ev)) ?_;rintro _ _ rfl;refine ox 2 ?_;refine Zr (spH p K who ⟨xb,xf,none⟩ s ev::q) func141 (Yy results141) (fS (by rw [j];exact ⟨rfl,rfl⟩))
end
structure AtOk (m:Mdl) (s:MS) (who:Nat):Prop where
 w:who<s.ths.length
 h8:s.ths.length<=8
 k:0<=(s.th who).code/\(s.th who).code<m.threads.length
 p:0<=(s.th who).pc/\(s.th who).pc<(m.threads.getD (s.th who).code.toNat ⟨em,0, [], [],none,0,none,0⟩).ins.length
 b:(s.th who).pc<=1000000
 n:0<=s.cnt/\s.cnt<=1000000000000
theorem AtOk.in (h:AtOk m s who):(s.th who).pc<(m.threads[(s.th who).code.toNat]'(by have:=h.k;omega)).ins.length:=by
 have a:=h.p.2;rwa [aG,aE (by have:=h.k;omega)] at a
def MS.on (s:MS)(who:Nat):MS:= { s.put who { s.th who with pc:=(s.th who).pc+1 } with cnt:=s.cnt+1 }
def Gp (main:Int)(m:Mdl)(kd d:Int)(who:Nat):Nat->Bool->MS->PEv->MS×PEv×Int
 |0,_,s,ev=>(s,ev,0)
 |n+1,b,s,ev=>
  if (b||(((s.th who).at m).c !=23 && ((s.th who).at m).c !=34))=true then
   if (N4 main m kd d ((s.th who).at m) (s.on who) who ev).2.2≠0 then N4 main m kd d ((s.th who).at m) (s.on who) who ev
   else Gp main m kd d who n false (N4 main m kd d ((s.th who).at m) (s.on who) who ev).1 (N4 main m kd d ((s.th who).at m) (s.on who) who ev).2.1
  else (s,ev,0)
def GoodM (g:FC)(m:Mdl)(kd d:Int)(who N:Nat):Nat->Bool->MS->PEv->Prop
 |0,_,_,_=>False
 |n+1,b,s,ev=>AtOk m s who/\((b||(((s.th who).at m).c !=23 && ((s.th who).at m).c !=34))=true->IPre g m d ((s.th who).at m) (s.on who) who ev N/\((N4 g.main m kd d ((s.th who).at m) (s.on who) who ev).2.2=0->GoodM g m kd d who N n false (N4 g.main m kd d ((s.th who).at m) (s.on who) who ev).1 (N4 g.main m kd d ((s.th who).at m) (s.on who) who ev).2.1))/\ev.syn.length<=3000000000000
def doM (main:Int)(m:Mdl)(kd d:Int)(who n:Nat)(s:MS)(ev:PEv):MS×PEv×Int:=
 let r:=Gp main m kd d who n true (s.put who { s.th who with st:=1 }) { ev with woke:=decide ((s.th who).st=3) }
 if r.2.2≠0 then r
 else if ((r.1.th who).at m).c=34 then (r.1.put who { r.1.th who with st:=4 },r.2.1.sn [(8,0,0)],0)
 else r
theorem GoodM.at {kd d:Int}{b:Bool}(h:GoodM g m kd d who N n b s ev):AtOk m s who/\ev.syn.length<=3000000000000:=by
 cases n with
 |zero=>exact h.elim
 |succ n=>exact ⟨h.1,h.2.2⟩
section
variable {q:List HP}{n:Int}
theorem Cj :Quiet prog G 138 (A3 nb):=by
 refine Quiet.of func138 ntmps138 rfl fun F b a c=> ?_;refine xo 2 ?_;refine I0 c ?_;refine Vl (Pk rfl underlying284 rfl zeroValue284) ?_;refine oo 3 ?_;refine Zh zeroValue284 fun d=> ?_
 refine rn [0,6] ?_;refine fR 8 bF rfl rfl ?_;refine xx 2 ?_;exact gC ⟨rfl,rfl,.inl rfl,⟨_,Yy results138⟩,leA⟩
theorem S9 {y0:Value}:Catches prog G 138 (A3 nb) (Oc k) [pto nb (.cells [y0].toArray 43 (0,0))] [pto nb (.cells [I64 k].toArray 43 (0,0))]:=by
 refine Catches.of func138 ntmps138 rfl rfl fun F b a c=> ?_;refine xo 2 ?_;refine I0 c ?_;refine Vl (Pj rfl underlying284 rfl) ?_;refine oo 3 ?_;refine Zh zeroValue284 fun d=> ?_
 refine rn [0,6] ?_;refine fR 8 bT rfl rfl ?_;refine rn [3,0,0,1] ?_;exact gC ⟨rfl,rfl,.inl rfl,⟨_,Yy results138⟩,leA⟩
theorem mgoes_ok (hE:ME q K g m)(hA:AtOk m s who):CallF prog G 140 [.pointer (some ⟨p,0,none⟩),.bool bb] (spH p K who xa s ev::q) (Ret fun v q'=>v= .bool (bb||(((s.th who).at m).c !=23 && ((s.th who).at m).c !=34))/\q'=spH p K who xa s ev::q):=by
 refine aB func140 ntmps140 rfl fun F cs=> ?_;have j:=hA.in;have z:=hA.w;have y:=hA.k;have u:=hA.p;refine X.spF z fun U ga b e hs he=> ?_;subst hs he;have l:=Ug b;simp only [l] at j y u|-
 refine rn [5,0,1,2,3,4] ?_;refine Ys 4 call139 (Na (p:=p) (who:=who) (ga:=ga) (m:=U.ths.length) (c:=U.hc) clA clA b) ?_;refine Ys 5 call115 (Cv (p:=p) (K:=K) (g:=g) (m:=m) (c:=ga) (a:=0+(who:Int).toNat*7) (k:=U.ths[who].t.code) (n:=U.ths[who].t.pc) (hE.le leA) clA (dW (n:=who) (cI _) leA Z8 (show who<(U.ths.set who U.ths[who]).length by rw [bK];exact b) rfl 2 _ (by rw [cH];rfl)) (dW (n:=who) (cI _) leA Z8 (show who<(U.ths.set who U.ths[who]).length by rw [bK];exact b) rfl 3 _ (by rw [cH];rfl)) y ⟨u.1,j⟩) ?_;refine rn [7,8,0,4] ?_;refine bB [14,5,4] ?_;apply Zb 7 21 14 rfl
 . intro f i;have r:=sp f;refine oo 3 ?_;refine bB [17,14,5,4] ?_;apply Zg 3 20 17 rfl
   . intro d h;have o:=sp d;refine oo 3 ?_;exact Zz h ⟨Yi d,Zw⟩
   . intro d h;have o:=sp d;refine oo 3 ?_;exact Zz h ⟨Yl d,Zw⟩
   refine oo 1 ?_;exact Zz i ⟨orF f,Zw⟩
 . intro f i;have r:=sp f;refine oo 7 ?_;exact Zz i ⟨orT f,Zw⟩
 refine ox 2 ?_;refine Zq (spH p K who xa U.er e.e::q) func140 (Zf results140 rfl) ⟨_,rfl,by first|rfl|(congr 1;unfold MTh.at;rw [cN];simp),rfl⟩ (H7 (U:=U) (ga:=ga) (x:=U.ths[who]) (e:=e) b (Jl b) rfl leA)
abbrev Az :=((.cells zz6.toArray 43 (0,0)):Obj)
theorem mdo_ok {n_:Nat}(hX:CellsAt q xb xf (stC x))(hE:ME q K g m)(gc:GC q)(ge:GE q)(hk:Hy m=0)(hw:who<s.ths.length)(hG:GoodM g m x.er.kd x.er.slt who N n_ true (s.put who { s.th who with st:=1 }) { ev with woke:=decide ((s.th who).st=3) }):CallF prog G 77 (A3 p) (spH p K who ⟨xb,xf,none⟩ s ev::q) (Ret fun v q'=>v= I64 (doM g.main m x.er.kd x.er.slt who n_ s ev).2.2/\q'=spH p K who ⟨xb,xf,none⟩ (doM g.main m x.er.kd x.er.slt who n_ s ev).1 (doM g.main m x.er.kd x.er.slt who n_ s ev).2.1::q):=by
 refine aB func77 ntmps77 rfl fun F cs=> ?_;obtain ⟨D,r⟩:=lM (doM g.main m x.er.kd x.er.slt who n_ s ev);rw [<-r];unfold doM at r;obtain ⟨s0,i0⟩:=lM (s.put who { s.th who with st:=1 } );obtain ⟨n0,b0⟩:=lM ({ ev with woke:=decide ((s.th who).st=3) } :PEv);rw [<-i0,<-b0] at r hG;obtain ⟨R0,m0⟩:=lM (Gp g.main m x.er.kd x.er.slt who n_ true s0 n0);rw [<-m0] at r;dsimp only at r;refine X.spF hw fun U ga d e hs he=> ?_;subst hs he;have a0:=Ug d;rw [a0] at i0 b0
 refine xo 2 ?_;refine Zh zeroValue43 fun y=> ?_
 refine oo 4 ?_;refine XO.dfr ?_;refine oo 5 ?_;refine bM call139 (Na (p:=p) (who:=who) (ga:=ga) (m:=U.ths.length) (c:=U.hc) clA clA d) ?_;refine oo 2 ?_;refine ld ?_ (hc:=(dW (n:=who) (cI _) leA Z8 (show who<(U.ths.set who U.ths[who]).length by rw [bK];exact d) rfl 1 _ (by rw [cH];rfl)));refine rn [4,0,4] ?_;refine bM call139 (Na (p:=p) (who:=who) (ga:=ga) (m:=U.ths.length) (c:=U.hc) clA clA d) ?_;refine oo 2 ?_;refine dM (V4 (g:=ga) (f:=mtC) (l:=U.ths.set who U.ths[who]) (u:=({ U.ths[who] with t:= { U.ths[who].t with st:=1 } } :MTC)) (n:=who) (k:=1) (j:=(who:Int)) rfl rfl sizeOf143 Z8 rfl (by rw [bK];exact d) rfl (by rw [cH];rfl) rfl rfl Zj) ?_;rintro _ _ ⟨rfl,rfl⟩;rw [iW];refine eP (q':=spH p K who ⟨xb,xf,none⟩ s0 n0::pto y Az::(q++F)) (H7 (U:=U) (ga:=ga) (x:=({ U.ths[who] with t:= { U.ths[who].t with st:=1 } } :MTC)) (e:=({ e with e:= { e.e with woke:=decide (U.ths[who].t.st=3) } } :EvC)) d i0.symm b0.symm leA) ?_;refine ox 7 ?_;clear i0 b0 a0
 have k0: ∀ (p_:PE) (qq:List HP) (y0:Value),lkp p_ 2=some (pt y)->R0.2.2≠0->Le qq (spH p K who ⟨xb,xf,none⟩ R0.1 R0.2.1::pto y (.cells [y0].toArray 43 (0,0))::(q++F))->FQ prog G 77 cs (Ret fun v q'=>v= I64 D.2.2/\q'=spH p K who ⟨xb,xf,none⟩ D.1 D.2.1::q) F (.panic [Oc R0.2.2]) p_ [Wx.dfr 138 [pt y]] cs qq:=
  fun p_ qq y0 h2 h0 q0=>by rw [if_pos h0] at r;rw [r];exact ⟨rfl,Lv.catches call138 func77 (S9 (nb:=y) (k:=R0.2.2) (y0:=y0)) (aM q0 (iS _ _ _)) rfl (gE (q':=spH p K who ⟨xb,xf,none⟩ R0.1 R0.2.1::q) func77 (Zks results77 (dN h2 (gO isAgg43 clA) eT)) ⟨_,rfl,rfl,rfl⟩ (aM (dX _ _) (aH _)))⟩
 refine aX (cC (fun (s:Nat×Bool×MS×PEv)=>GoodM g m x.er.kd x.er.slt who N s.1 s.2.1 s.2.2.1 s.2.2.2/\Gp g.main m x.er.kd x.er.slt who s.1 s.2.1 s.2.2.1 s.2.2.2=R0) (fun s=> [(0,.pointer (some ⟨p,0,none⟩)),(2,pt y),(3,.bool s.2.1)]) (fun s=>spH p K who ⟨xb,xf,none⟩ s.2.2.1 s.2.2.2::pto y Az::(q++F)) (fun s=>s.1) (fun s o ih=> ?_) (n_,true,s0,n0) ⟨hG,m0.symm⟩) Zn leA;try dsimp only at o ih|-
 obtain ⟨c0,h⟩:=o;obtain ⟨n,b,s,ev⟩:=s;dsimp only at*;have hA:=c0.at.1;have t0:=c0.at.2;refine xo 5 ?_;refine Zv call140 leA (mgoes_ok (q:=pto y Az::(q++F)) (hE.le leA) hA) ?_;rintro _ _ ⟨rfl,rfl⟩;refine ox 1 ?_;refine cY 22 rfl ?_ ?_<;>intro h5
 . obtain _|n:=n;exact c0.elim;have j0:=c0.2.1 h5;unfold Gp at h;rw [if_pos h5] at h;have g0:=hA.in;have f0:=hA.k;have d0:=hA.p;have r0:=hA.b;have p0:=hA.n;obtain ⟨i,o⟩:=lM ((s.th who).at m);rw [<-o] at j0 h;obtain ⟨s1,o0⟩:=lM (s.on who);rw [<-o0] at j0 h;refine X.spF hA.w fun U ga d e hs he=> ?_;subst hs he;have a0:=Ug d;simp only [a0] at g0 f0 d0 r0 o;replace p0:0<=U.cnt/\U.cnt<=1000000000000:=p0
   refine xx 5 ?_;refine X.draw [(2,pt y)] Tryz.mixed (by kernel_rfl) (by kernel_rfl) rfl ?_;refine dd [0,1,2,3] ?_;refine Yd (fl:= [⟨6,4,fun g=> pt g,fun g=>pto g (.cells zz1.toArray 222 (0,0))⟩]) ?_;refine Td 4 ⟨⟨_,rfl,rfl,rfl,rfl,rfl,rfl,fun q=>cD zeroValue222⟩,trivial⟩ call139 (aH _) (Na (p:=p) (who:=who) (ga:=ga) (m:=U.ths.length) (c:=U.hc) clA clA d) ?_;refine kk0 ?_;refine Td 5 ⟨⟨_,rfl,rfl,rfl,rfl,rfl,rfl,fun q=>cD zeroValue222⟩,trivial⟩ call115 (aH _) (Cv (p:=p) (K:=K) (g:=g) (m:=m) (c:=ga) (a:=0+(who:Int).toNat*7) (k:=U.ths[who].t.code) (n:=U.ths[who].t.pc) (hE.le leA) clA (dW (n:=who) (cI _) leA Z8 (show who<(U.ths.set who U.ths[who]).length by rw [bK];exact d) rfl 2 _ (by rw [cH];rfl)) (dW (n:=who) (cI _) leA Z8 (show who<(U.ths.set who U.ths[who]).length by rw [bK];exact d) rfl 3 _ (by rw [cH];rfl)) f0 ⟨d0.1,g0⟩) ?_;refine kk0 ?_;refine Ws (e0:=⟨6,4,fun g=> pt g,fun g=>pto g (.cells zz1.toArray 222 (0,0))⟩) (hnd:=by simp) 6 ⟨⟨_,rfl,rfl,rfl,rfl,rfl,rfl,fun q=>cD zeroValue222⟩,trivial⟩ fun l0=> ?_;change XF _ _ _ _ _ _ _ [] _ _ _ ((4,.pointer (some ⟨l0,0,none⟩))::_) _ _ (pto l0 (.cells zz1.toArray 222 (0,0))::_);refine eQ ?_;refine dY 28 (.agg (Y8 i).toArray) rfl (aQ (fun z=>Value.agg (Y8 z).toArray) (show Df m U.ths[who].t.code U.ths[who].t.pc=i from o.symm)) ?_;refine rn [8,0,6,0,4,0,4] ?_;refine bM call139 (Na (p:=p) (who:=who) (ga:=ga) (m:=U.ths.length) (c:=U.hc) clA clA d) ?_;refine oo 3 ?_;refine ld ?_ (hc:=(dW (n:=who) (cI _) leA Z8 (show who<(U.ths.set who U.ths[who]).length by rw [bK];exact d) rfl 3 _ (by rw [cH];rfl)));refine oo 4 ?_;refine dM (V4 (g:=ga) (f:=mtC) (l:=U.ths.set who U.ths[who]) (u:=({ U.ths[who] with t:= { U.ths[who].t with pc:=U.ths[who].t.pc+1 } } :MTC)) (n:=who) (k:=3) (j:=(who:Int)) rfl rfl sizeOf3 Z8 rfl (by rw [bK];exact d) rfl (by rw [cH];rfl) rfl rfl Zj) ?_;rintro _ _ ⟨rfl,rfl⟩;rw [iW];refine eP (q':=spH p K who ⟨xb,xf,none⟩ s1 e.e::pto l0 (B9 i)::pto y Az::(q++F)) (H7 (U:=({ U with cnt:=U.cnt+1 } :MC)) (ga:=ga) (x:=({ U.ths[who] with t:= { U.ths[who].t with pc:=U.ths[who].t.pc+1 } } :MTC)) (e:=e) d (by rw [o0];unfold MS.on;rw [a0];rfl) rfl leA) ?_;refine rn [3,0] ?_;refine Wl call141 Zj (mins_ok (x:=x) (hX.le leA) (hE.le leA) (gc.le leA) (ge.le leA) hk j0.1) ?_ ?_
   . rintro _ _ ⟨⟨h0,rfl⟩,rfl⟩;rw [if_pos h0] at h;rw [h] at h0|-;exact k0 _ _ _ rfl h0 leA
   rintro _ _ ⟨h0,rfl⟩;refine ox 5 ?_;rw [if_neg (fun k=>k h0)] at h;refine aX (ih (n,false,_,_) ⟨j0.2 h0,h⟩ (by dsimp only;omega)) Zn leA
 obtain _|n:=n;exact c0.elim;unfold Gp at h;rw [if_neg (by rw [h5];decide)] at h;subst h;rw [if_neg (fun k=>k rfl)] at r;dsimp only at r;clear k0 m0 c0 h5;have g0:=hA.in;have f0:=hA.k;have d0:=hA.p;obtain ⟨i,o⟩:=lM ((s.th who).at m);rw [<-o] at r;refine X.spF hA.w fun U ga d e hs he=> ?_;subst hs he;have a0:=Ug d;simp only [a0] at g0 f0 d0 o r
 refine xx 4 ?_;refine X.draw [(2,pt y)] Tryz.mixed (by kernel_rfl) (by kernel_rfl) rfl ?_;refine dd [0,1,2,3] ?_;refine Ys 4 call139 (Na (p:=p) (who:=who) (ga:=ga) (m:=U.ths.length) (c:=U.hc) clA clA d) ?_;refine Ys 5 call115 (Cv (p:=p) (K:=K) (g:=g) (m:=m) (c:=ga) (a:=0+(who:Int).toNat*7) (k:=U.ths[who].t.code) (n:=U.ths[who].t.pc) (hE.le leA) clA (dW (n:=who) (cI _) leA Z8 (show who<(U.ths.set who U.ths[who]).length by rw [bK];exact d) rfl 2 _ (by rw [cH];rfl)) (dW (n:=who) (cI _) leA Z8 (show who<(U.ths.set who U.ths[who]).length by rw [bK];exact d) rfl 3 _ (by rw [cH];rfl)) f0 ⟨d0.1,g0⟩) ?_;refine dY 56 (.agg (Y8 i).toArray) rfl (aQ (fun z=>Value.agg (Y8 z).toArray) (show Df m U.ths[who].t.code U.ths[who].t.pc=i from o.symm)) ?_;refine rn [7,8,0] ?_;refine xp 58 ?_ ?_<;>intro h6
 . rw [if_pos (by exact h6)] at r;refine xo 4 ?_;refine bM call139 (Na (p:=p) (who:=who) (ga:=ga) (m:=U.ths.length) (c:=U.hc) clA clA d) ?_;refine oo 2 ?_;refine dM (V4 (g:=ga) (f:=mtC) (l:=U.ths.set who U.ths[who]) (u:=({ U.ths[who] with t:= { U.ths[who].t with st:=4 } } :MTC)) (n:=who) (k:=1) (j:=(who:Int)) rfl rfl sizeOf143 Z8 rfl (by rw [bK];exact d) rfl (by rw [cH];rfl) rfl rfl Zj) ?_;rintro _ _ ⟨rfl,rfl⟩;rw [iW];refine eP (q':=spH p K who ⟨xb,xf,none⟩ (U.er.put who (({ U.ths[who] with t:= { U.ths[who].t with st:=4 } } :MTC)).t) e.e::pto y Az::(q++F)) (H7 (U:=U) (ga:=ga) (x:=({ U.ths[who] with t:= { U.ths[who].t with st:=4 } } :MTC)) (e:=e) d rfl rfl leA) ?_;refine oo 3 ?_;refine Zv call142 leA (Zxy (k:=8) (sl:=0) (ot:=0) (q:=pto y Az::(q++F)) (by omega)) ?_;rintro _ _ rfl;refine rn [3,0,1] ?_;exact jA ⟨rfl,Pf call138 func77 (Cj (nb:=y)) (gE (q':=spH p K who ⟨xb,xf,none⟩ (U.er.put who (({ U.ths[who] with t:= { U.ths[who].t with st:=4 } } :MTC)).t) (e.e.sn [(8,0,0)])::q) func77 (Zks results77 (dN rfl (gO isAgg43 clA) eT)) ⟨_,rfl,by rw [r],by rw [r]⟩ leA)⟩
 rw [if_neg (by exact h6)] at r;refine rn [4,0,1] ?_;exact jA ⟨rfl,Pf call138 func77 (Cj (nb:=y)) (gE (q':=spH p K who ⟨xb,xf,none⟩ U.er e.e::q) func77 (Zks results77 (dN rfl (gO isAgg43 clA) eT)) ⟨_,rfl,by rw [r],by rw [r]⟩ (H7 (U:=U) (ga:=ga) (x:=U.ths[who]) (e:=e) d (Jl d) rfl leA))⟩
end
def Cw (sb so n:Nat):List MapEntry:=(List.range n).map fun i:Nat=> { key:= I64 i,val:= .pointer (some ⟨sb,so+i*25,none⟩),born:=i }
theorem Ct (f:Nat->Value): ∀ (l:List Nat) (i j:Nat),l.Nodup->j∈l-> ∃ k,Instr.findNow (.int .i64) (I64 j) (l.map fun i:Nat=>({ key:= I64 i,val:=f i,born:=i } :MapEntry)) i=some (some (k,f j))
 |x::r,i,j,hd,hj=>by
  by_cases h:j=x
  . subst h;exact ⟨i,by simp [Instr.findNow,Instr.sameNow]⟩
  obtain ⟨k,a⟩:=Ct f r (i+1) j (gX.1 hd).2 (by rcases bG.1 hj with e|e;exact aV e h;exact e);refine ⟨k,?_⟩;simp only [bA,Instr.findNow,Instr.sameNow,if_true];rw [show (((j:Int))==(x:Int))=false from cZ.2 (by omega)];exact a
theorem mapE_at (h:j<n): ∃ k,Instr.findNow (.int .i64) (I64 j) (Cw sb so n) 0=some (some (k,.pointer (some ⟨sb,so+j*25,none⟩))):=
 Ct (fun i=> .pointer (some ⟨sb,so+i*25,none⟩)) (List.range n) 0 j List.nodup_range (List.mem_range.2 h)
theorem Zjs {p:PE}{q:List HP}{d:Option Tmp}{ty:TypeId}{pos:String}{af:Array Edge}{gd:Option (Nat×Bool)}{x y:Operand}{t kt et:TypeId}{kd:IntKind}{v zv:Value}{b clock:Nat}{es:List MapEntry}(ht:P.underlying t=some (.map kt et))(hk:P.underlying kt=some (.int kd))(hx:evp p x=some (.map (some b)))(hy:evp p y=some (.int kd k))(hq:Has q b (.map es.toArray clock))(hz: ∀ w,(zeroValue et).run P w= .ok zv w)
 (hf: ∃ i,Instr.findNow (.int kd) (.int kd k) es 0=some (some (i,v))):Rd P G p q ⟨d,.lookup t x y false,ty,pos,af,gd⟩ v:=
 fun f w c s=>by
  obtain ⟨i,hf⟩:=hf;have e:=s.has hq;have a:MapKept.IsKey (.int kd) (.int kd k):=by first|trivial|exact rfl|simp [MapKept.IsKey]
  simp [execOp,Zp c hx,Zp c hy,Instr.lookup,run_underlying ht,MapKept.run_getObj_map e,MapKept.run_checkKey hk a,MapKept.run_findKey hk hf,Result.andThen]
structure MQ (q:List HP) (K:MK) (sb so:Nat) (L:List Stm):Prop where
 h:Has q K.mb (.map (Cw sb so L.length).toArray L.length)
 c: ∀ j (h:j<L.length),CellsAt q sb (so+j*25) (stC L[j])
theorem MQ.le {q:List HP}(h:MQ q' K sb so L)(l:Le q q'):MQ q K sb so L:=⟨h.h.le l,fun j hj=>(h.c j hj).le l⟩
section
variable {k:List Item}{q:List HP}
theorem Ra (x: ∀ U:MC,U.er=s->X P G f Q k pe ds cs (mcP p K U::lsH I64 2 U.ca U.cc U.cells::yH U.sp U.sy::rsH mtC 7 147 U.ha U.hc U.ths::stars (U.ths.map mtH)::r))(hq:Le q (maH p K s::r):=by exact Zj):X P G f Q k pe ds cs q:=
 .le hq (.ex fun z=> .le (Zy _ r) (.pure fun h=>x z h))
theorem XO.maO (x: ∀ U:MC,U.er=s->XO P G f Q ops.toArray k lo pe ds cs (mcP p K U::lsH I64 2 U.ca U.cc U.cells::yH U.sp U.sy::rsH mtC 7 147 U.ha U.hc U.ths::stars (U.ths.map mtH)::r))(hq:Le q (maH p K s::r):=by exact Zj):XO P G f Q ops.toArray k lo pe ds cs q:=
 .le hq (.ex fun z=> .le (Zy _ r) (.pure fun h=>x z h))
theorem J3 (hs:U.er=s)(h:Le q (mcP p K U::(mcL U++r))):Le q (maH p K s::r):=
 h.trans (Wa U ((Yc hs _).trans (Zm (pure _::mcP p K U::mcL U) r)))
end
theorem Zyz (hn:n<l.length):Sees (stars (l.map mtH)::r) l[n].sa (l[n].t.sp.map I64):=
 (bY (f:=I64) (ty:=3) (a:=l[n].sa) (c:=l[n].sc) (l:=l[n].t.sp) _).le (((Le.focus mtH hn r).trans (Zy (mtL l[n]) _)).trans ((dX _ _).trans (dX _ _)))
theorem Zyj (hn:n<l.length):Sees (stars (l.map mtH)::r) l[n].la (l[n].t.loc.map I64):=
 (bY (f:=I64) (ty:=2) (a:=l[n].la) (c:=l[n].lc) (l:=l[n].t.loc) _).le ((Le.focus mtH hn r).trans (Zy (mtL l[n]) _))
theorem Zyq (hn:n<l.length):Sees (stars (l.map mtH)::r) l[n].ta (l[n].t.stk.map I64):=
 (bY (f:=I64) (ty:=2) (a:=l[n].ta) (c:=l[n].tc) (l:=l[n].t.stk) _).le (((Le.focus mtH hn r).trans (Zy (mtL l[n]) _)).trans (dX _ _))
section
variable {q:List HP}{a:Nat}
theorem Xn {x st:Int}(hE:ME q K g m)(hQ:MQ q K sb so L)(h1:Cl q ⟨p,0+1,none⟩ (.pointer (some ⟨K.mp,0,none⟩)))(h2:Cl q ⟨p,0+2,none⟩ (.map (some K.mb)))(hst:Cl q ⟨c,a+1,none⟩ (I64 st))(h4:st≠4)(h5:Cl q ⟨c,a+2,none⟩ (I64 k))(h6:Cl q ⟨c,a+2+1,none⟩ (I64 x))(hk:0<=k/\k<m.threads.length)(hn:0<=x/\x<(m.threads[k.toNat]'(by omega)).ins.length)(hj:(Df m k x).a=(j:Int))(hjl:j<L.length):CallF prog G 76 (A7 p c a) (q) (Ret fun v q'=>v= .pointer (some ⟨sb,so+j*25,none⟩)/\q'=q):=by
 refine aB func76 ntmps76 rfl fun F cs=> ?_;refine xo 10 ?_;refine ld ?_ (hc:=(hst.le leA));refine ox 2 ?_;refine cY 9 rfl ?_ ?_<;>intro b
 . exact aV (by first|exact b|simpa using b) h4
 refine rn [3,0,1,2,3] ?_;refine ldD 3 ?_ (hc:=(h2.le leA));refine dd [4,5] ?_;refine Ys 6 call115 (Cv (p:=p) (K:=K) (g:=g) (m:=m) (c:=c) (a:=a) (k:=k) (n:=x) (hE.le leA) (h1.le leA) (h5.le leA) (h6.le leA) hk hn) ?_ (hL:=(hlA (h:=by repeat first|exact trivial|refine ⟨clA,?_⟩|refine ⟨(h1.le leA),?_⟩|refine ⟨(h2.le leA),?_⟩|refine ⟨(hst.le leA),?_⟩)));refine dd [7] ?_;refine dY 17 (Al j) rfl (by exact aQ (Value.int .i64) hj) ?_;refine eE 8 rfl (Rd.ef (Zjs (es:=Cw sb so L.length) underlying123 underlying3 rfl rfl (hQ.h.le leA) zeroValue130 (mapE_at hjl))) ?_;refine kk0 ?_;refine rn [10,0] ?_;refine Zq (q) func76 (Zf results76 rfl) ⟨_,rfl,rfl,rfl⟩
theorem Mm (h0:Cl q ⟨p,0,none⟩ (.pointer (some ⟨K.pp,0,none⟩))):CallF prog G 55 (A3 p) (q) (AD q):=by
 refine aB func55 ntmps55 rfl fun F cs=> ?_;refine xo 9 ?_;refine bB [5,2,0] ?_;apply Zg 6 11 5 rfl
 . intro a b;have c:=sp a;refine oo 3 ?_;refine ld ?_ (hc:=(h0.le leA));refine oo 2 ?_;exact Zz b ⟨Yi a,Zw⟩
 . intro a b;have c:=sp a;refine oo 6 ?_;exact Zz b ⟨Yl a,Zw⟩
 refine ox 2 ?_;refine Zq (q) func55 (Zf results55 rfl) ⟨_,rfl,by first|rfl|simp,rfl⟩
end
section
variable {q:List HP}{a:Option Addr}{fv:Value}
theorem indexFI_ok {l:List Int}{u:Int->Bool}(hs:Sees q a (l.map I64))(hn:l.length<=9223372036854775807)(hp:Rdr prog G fv I64 (fun x=> .bool (u x)) q l):CallF prog G 204 [.slice a l.length c,fv] (q) (Af l u q):=by
 refine aB func204 ntmps204 rfl fun F cs=> ?_;have e:(l.map I64).length=l.length:=by simp
 refine xx 12 ?_;refine aX (cC (fun (s:Nat×Option Addr)=>s.1<=l.length/\s.2=a/\(l.take s.1).any u=false) (fun s=> [(0,.slice s.2 l.length c),(1,fv),(7,I64 l.length),(8,I64 (s.1:Int))]) (fun s=>q++F) (fun s=>l.length - s.1) (fun s f g=> ?_) (0,a) ⟨by dsimp only;omega,rfl,rfl⟩) Zn leA;try dsimp only at f g|-
 obtain ⟨j,rfl,b⟩:=f;obtain ⟨s,a⟩:=s;dsimp only at*;refine xx 5 ?_;refine xp 9 ?_ ?_<;>intro n
 . have d:s<l.length:=by omega
   refine Z7 hs (by rw [e];omega) fun m i k=> ?_;subst k;refine rn [15,0] ?_;refine Ng (hp _ leA _ (aC d)) ?_;refine ox 1 ?_;refine xp 16 ?_ ?_<;>intro h
   . refine xx 6 ?_;refine Zq (q) func204 (Zf results204 rfl) ⟨_,rfl,_,rfl,by rw [C6 d h];exact dA (by omega),rfl⟩
   refine xx 7 ?_;refine aX (g (s+1,some ⟨m,i,none⟩) ⟨by dsimp only;omega,rfl,by dsimp only;rw [Tu d,b,h];rfl⟩ (by dsimp only;omega)) Zn leA
 refine xx 6 ?_;rw [bQ (show l.length<=s by omega)] at b;refine Zq (q) func204 (Zf results204 rfl) ⟨_,rfl,_,rfl,by rw [b];rfl,rfl⟩
end
section
variable {q:List HP}{a:Nat}
theorem mths_ok:CallF prog G 116 [.pointer (some ⟨p,0,none⟩)] (maH p K s::q) (Ret fun v q'=>v= I64 s.ths.length/\q'=maH p K s::q):=by
 refine aB func116 ntmps116 rfl fun F cs=> ?_;refine Ra fun U a=> ?_;subst a;rw [kI]
 refine xo 8 ?_;refine bM call55 (Mm (p:=p) (K:=K) clA) ?_;refine rn [2,1005,7,0,3] ?_;refine Zq (maH p K U.er::q) func116 (Zf results116 rfl) ⟨_,rfl,rfl,rfl⟩ (J3 rfl (by unfold mcL;exact leA))
def MS.can (m:Mdl)(L:List PStm)(s:MS)(n:Nat):Bool:=
 if s.out.kind=4\/(s.th n).st=2\/(s.th n).st=4 then false
 else true
structure Stands (m:Mdl) (L:List PStm) (s:MS) (n:Nat):Prop where
 w:n<s.ths.length
 h8:s.ths.length<=8
 k:0<=(s.th n).code/\(s.th n).code<m.threads.length
 p:0<=(s.th n).pc/\(s.th n).pc<(m.threads.getD (s.th n).code.toNat ⟨em,0, [], [],none,0,none,0⟩).ins.length
 a:(s.th n).st≠4->0<=((s.th n).at m).a/\((s.th n).at m).a<L.length
 e:(s.th n).st≠4->(s.th n).st≠3/\(L.getD ((s.th n).at m).a.toNat R5).kd=15
theorem Stands.in {L:List PStm}(h:Stands m L s n):(s.th n).pc<(m.threads[(s.th n).code.toNat]'(by have:=h.k;omega)).ins.length:=by
 have a:=h.p.2;rwa [aG,aE (by have:=h.k;omega)] at a
theorem Xd (hE:ME q K g m)(hQ:MQ q K sb so L)(hS:Stands m (L.map Stm.er) s n)(hys:s.sy.ok N)(hN:N<=1000000000):CallF prog G 75 [.pointer (some ⟨p,0,none⟩),I64 n] (maH p K s::q) (Ret fun v q'=>v= .bool (s.can m (L.map Stm.er) n)/\q'=maH p K s::q):=by
 refine aB func75 ntmps75 rfl fun F cs=> ?_;have g0:=hS.in;have hw:=hS.w;have h8:=hS.h8;have hk:=hS.k;have hp:=hS.p;have ha:=hS.a;have h0:=hS.e;obtain ⟨R,y⟩:=lM (s.can m (L.map Stm.er) n);rw [<-y];unfold MS.can at y;refine Ra fun U hs=> ?_;subst hs;have f:n<U.ths.length:=(by rw [kI] at hw;exact hw);have q0:=Ug f;simp only [q0] at g0 hk hp ha h0 y;rw [kI] at h8;rw [show U.er.out=U.out from rfl] at y;rw [aI] at ha
 refine U7 (l:=U.ths) (by omega) fun ga e_=> ?_;have hr: ∀ r,Sees (rsH mtC 7 147 U.ha U.hc U.ths::r) (some ⟨ga,0,none⟩) (U.ths.flatMap mtC):=fun r=>by rw [<-e_];exact cI r
 refine xo 2 ?_;refine Zl fun n1=> ?_
 refine rf [4,0,2,0,1,3019,6,0,3,0,2] e_ ?_;refine bB [28,5,4,2,1] ?_;apply Zb 6 34 28 rfl
 . intro b h;have a0:=sp b;refine oo 3 ?_;refine ld ?_ (hc:=(dW (n:=n) (hr _) leA Z8 f rfl 1 _ rfl));refine oo 2 ?_;exact Zz h ⟨orF b,Zw⟩
 . intro b h;have a0:=sp b;refine oo 6 ?_;exact Zz h ⟨orT b,Zw⟩
 refine oo 1 ?_;refine bB [35,5,4,2,1] ?_;apply Zb 6 41 35 rfl
 . intro b h;have a0:=sp b;refine oo 3 ?_;refine ld ?_ (hc:=(dW (n:=n) (hr _) leA Z8 f rfl 1 _ rfl));refine oo 2 ?_;exact Zz h ⟨orF b,Zw⟩
 . intro b h;have a0:=sp b;refine oo 6 ?_;exact Zz h ⟨orT b,Zw⟩
 refine ox 1 ?_;refine xp 41 ?_ ?_<;>intro h1
 . rw [if_pos (by omega)] at y;refine xx 5 ?_;refine Zq (maH p K U.er::q) func75 (Zf results75 rfl) ⟨_,rfl,by rw [y],rfl⟩ (J3 rfl (by unfold mcL;exact leA))
 rw [if_neg (by omega)] at y;have i:U.ths[n].t.st≠4:=(by omega);replace ha:=ha i;obtain ⟨u,d⟩:=h0 i;obtain ⟨j,hj⟩:=bP ha.1;rw [hj] at d ha;have z:j<L.length:=(by omega);rw [show (L.map Stm.er).getD (j:Int).toNat R5=(L[j]).er by rw [cT,aG,bJ,aE z];rfl] at d;have hX:=hQ.c j z;obtain ⟨x,hx⟩:=lM L[j];rw [<-hx] at hX d;obtain ⟨kd,f0⟩:=lM x.er.kd;obtain ⟨sl,r0⟩:=lM x.er.slt;obtain ⟨ot,s0⟩:=lM x.er.oth;rw [<-f0] at d;subst d;have o:Cl q ⟨sb,so+j*25+0,none⟩ (I64 15):=hX 0 (I64 15) (by rw [f0];obtain ⟨kk,ln,cl,nm,wt,⟨ek,en,m0,j0,n0,l0,el,ea,ec⟩,⟨xk,xn,c0,xsl,d0,b0,xl,xa,xc⟩,bd,k0,ba,bc,p0,o0,id,sl,ot,e0⟩:=x;rfl);have i0:Cl q ⟨sb,so+j*25+22,none⟩ (I64 sl):=hX 22 (I64 sl) (by rw [r0];obtain ⟨kk,ln,cl,nm,wt,⟨ek,en,m0,j0,n0,l0,el,ea,ec⟩,⟨xk,xn,c0,xsl,d0,b0,xl,xa,xc⟩,bd,k0,ba,bc,p0,o0,id,sl,ot,e0⟩:=x;rfl);have t0:Cl q ⟨sb,so+j*25+23,none⟩ (I64 ot):=hX 23 (I64 ot) (by rw [s0];obtain ⟨kk,ln,cl,nm,wt,⟨ek,en,m0,j0,n0,l0,el,ea,ec⟩,⟨xk,xn,c0,xsl,d0,b0,xl,xa,xc⟩,bd,k0,ba,bc,p0,o0,id,sl,ot,e0⟩:=x;rfl);refine rn [4,0,1] ?_;refine bM call76 (Xn (p:=p) (K:=K) (g:=g) (m:=m) (L:=L) (sb:=sb) (so:=so) (j:=j) (c:=ga) (a:=0+(n:Int).toNat*7) (st:=U.ths[n].t.st) (k:=U.ths[n].t.code) (x:=U.ths[n].t.pc) (hE.le leA) (hQ.le leA) clA clA (dW (n:=n) (hr _) leA Z8 f rfl 1 _ rfl) i (dW (n:=n) (hr _) leA Z8 f rfl 2 _ rfl) (dW (n:=n) (hr _) leA Z8 f rfl 3 _ rfl) hk ⟨hp.1,g0⟩ hj z) ?_;refine oo 7 ?_;refine ld ?_ (hc:=(i0.le leA));refine oo 21 ?_;refine ld ?_ (hc:=(dW (n:=n) (hr _) leA Z8 f rfl 1 _ rfl));refine ox 3 ?_;refine gG 49 ?_ rfl (by first|rfl|exact dQ u|(rw [dQ u]));refine xo 8 ?_;refine ld ?_ (hc:=(o.le leA));refine rn [3,1055,8] ?_;refine ld ?_ (hc:=(o.le leA));refine rn [3,1061,8] ?_;refine ld ?_ (hc:=(o.le leA));refine rn [3,1067,7] ?_;refine ld ?_ (hc:=(o.le leA));refine rn [3,1073,7] ?_;refine Zq (maH p K U.er::q) func75 (Zf results75 rfl) ⟨_,rfl,cB (by rw [y]<;>(rw [cN];simp)),rfl⟩ (J3 rfl (by unfold mcL;exact leA))
def MS.all (m:Mdl)(L:List PStm)(s:MS):List Int:=((List.range s.ths.length).filter fun n=>s.can m L n).map fun (n:Nat)=>(n:Int)
theorem Lc {f:Nat->Bool}:((List.range (n+1)).filter f).map (fun (n:Nat)=>(n:Int))=((List.range n).filter f).map (fun (n:Nat)=>(n:Int))++(if f n=true then [(n:Int)] else []):=by
 rw [jU,iP,aO];congr 1
 cases h:f n<;>simp [h]
theorem Iz (hE:ME q K g m)(hQ:MQ q K sb so L)(hS: ∀ n,n<S.ths.length->Stands m (L.map Stm.er) S n)(h8:S.ths.length<=8)(hys:S.sy.ok N)(hN:N<=1000000000):CallF prog G 56 [.pointer (some ⟨p,0,none⟩)] (maH p K S::q) (Ret fun v q'=> ∃ a' c',v= .slice a' (S.all m (L.map Stm.er)).length c'/\q'=lsH I64 3 a' c' (S.all m (L.map Stm.er))::maH p K S::q):=by
 refine aB func56 ntmps56 rfl fun F cs=> ?_;refine xo 12 ?_;refine Zv call116 (aH _) (mths_ok (s:=S)) ?_;rintro _ _ ⟨rfl,rfl⟩;refine ox 3 ?_;refine aX (cC (fun (s:Nat×Option Addr×Nat)=>s.1<=S.ths.length) (fun s=> [(0,.pointer (some ⟨p,0,none⟩)),(2,.slice none 0 0),(3,.slice s.2.1 (((List.range s.1).filter fun n=>S.can m (L.map Stm.er) n).map fun (n:Nat)=>(n:Int)).length s.2.2),(6,I64 S.ths.length),(7,I64 (s.1:Int))]) (fun s=>lsH I64 3 s.2.1 s.2.2 (((List.range s.1).filter fun n=>S.can m (L.map Stm.er) n).map fun (n:Nat)=>(n:Int))::maH p K S::(q++F)) (fun s=>S.ths.length - s.1) (fun s a e=> ?_) (0,none,0) (bC _)) Zn (aM (Z1 I64 3 _) leA);try dsimp only at a e|-
 obtain t:=a;obtain ⟨j,d,c⟩:=s;dsimp only at*;refine xx 5 ?_;refine xp 8 ?_ ?_<;>intro w
 . have i:j<S.ths.length:=(by omega);obtain ⟨W,b⟩:=lM (((List.range j).filter fun n=>S.can m (L.map Stm.er) n).map fun (n:Nat)=>(n:Int));have k:W.length<=8:=(by rw [b,aI];have:=fZ (fun n=>S.can m (L.map Stm.er) n) (List.range j);rw [List.length_range] at this;omega);rw [<-b];refine xo 13 ?_;refine Zv call75 leA (Xd (n:=j) (s:=S) (L:=L) (q:=lsH I64 3 d c W::(q++F)) (hE.le leA) (hQ.le leA) (hS j i) hys hN) ?_;rintro _ _ ⟨rfl,rfl⟩;refine ox 1 ?_;refine cY 12 rfl ?_ ?_<;>intro h
   . refine xo 4 ?_;refine bU (Uk (u:=(j:Int)) I64 underlying23 Bu rfl rfl) ?_;rintro _ _ ⟨x,rfl,rfl⟩;refine bU (Yb (f:=I64) (l:=W) (m:= [(j:Int)]) underlying23 Bu rfl rfl rfl Zj ((bY _).le leA) (fun _=>rfl) (by simp only [eN];omega) (by simp only [eN];omega)) ?_;rintro _ _ ⟨r,o,rfl,rfl⟩;refine ox 7 ?_;rw [show W++ [(j:Int)]=(((List.range (j+1)).filter fun n=>S.can m (L.map Stm.er) n).map fun (n:Nat)=>(n:Int)) by rw [Lc,<-b,h];rfl];refine aX (e (j+1,r,o) (by dsimp only;omega) (by dsimp only;omega)) Zn leA
   refine xx 7 ?_;rw [show W=(((List.range (j+1)).filter fun n=>S.can m (L.map Stm.er) n).map fun (n:Nat)=>(n:Int)) by rw [Lc,<-b,h];simp];refine aX (e (j+1,d,c) (by dsimp only;omega) (by dsimp only;omega)) Zn leA
 obtain rfl:j=S.ths.length:=(by omega);refine xx 7 ?_;refine Zq (lsH I64 3 d c (S.all m (L.map Stm.er))::maH p K S::q) func56 (Zf results56 rfl) ⟨_,rfl,d,c,rfl,rfl⟩ (by unfold MS.all;exact leA)
end
def ocC (o:POut):List Value:= [I64 o.kind,I64 o.trap,I64 o.th,I64 o.stmt]
def MS.outc (m:Mdl)(L:List PStm)(s:MS):POut:=if s.out.kind=4 then s.out else if 0<(s.all m L).length then ⟨1,0,0,0⟩ else if s.ths.all (fun t=>decide (t.st=4))=true then ⟨2,0,0,0⟩ else ⟨3,0,0,0⟩
section
variable {q:List HP}{a:Nat}
abbrev AZ :=((.cells zz1.toArray 45 (0,0)):Obj)
theorem moutc_ok (hE:ME q K g m)(hQ:MQ q K sb so L)(hS: ∀ n,n<S.ths.length->Stands m (L.map Stm.er) S n)(h8:S.ths.length<=8)(hys:S.sy.ok N)(hN:N<=1000000000):CallF prog G 21 [.pointer (some ⟨p,0,none⟩)] (maH p K S::q) (Ret fun v q'=>v= .agg (ocC (S.outc m (L.map Stm.er))).toArray/\q'=maH p K S::q):=by
 refine aB func21 ntmps21 rfl fun F cs=> ?_;obtain ⟨R,a⟩:=lM (S.outc m (L.map Stm.er));rw [<-a];unfold MS.outc at a;refine Ra fun U b=> ?_
 refine xo 2 ?_;refine Zh zeroValue45 fun k=> ?_
 refine oo 5 ?_;refine bM call55 (Mm (p:=p) (K:=K) clA) ?_;refine rn [2,1006,9,0,2] ?_;have c:U.out.kind=S.out.kind:=(by rw [<-b];rfl);refine xp 13 ?_ ?_<;>intro x
 . rw [if_pos (by rw [<-c];exact x)] at a;refine rn [6,0,0,1] ?_;refine Zq (maH p K S::q) func21 (rA_ results21) ⟨_,rfl,by rw [a,<-b];rfl,rfl⟩ (J3 b (by unfold mcL;exact leA))
 rw [if_neg (by rw [<-c];exact x)] at a;refine xo 6 ?_;refine eP (q':=maH p K S::pto k AZ::(q++F)) (J3 b (by unfold mcL;exact leA)) ?_;refine Zv call56 (aH _) (Iz (S:=S) (L:=L) (q:=pto k AZ::(q++F)) (hE.le leA) (hQ.le leA) hS h8 hys hN) ?_;rintro _ _ ⟨a1,c1,rfl,rfl⟩;refine ox 3 ?_;refine xp 21 ?_ ?_<;>intro h2
 . rw [if_pos (by omega)] at a;refine rn [4,0,1] ?_;refine Zq (maH p K S::q) func21 (rA_ results21) ⟨_,rfl,by rw [a];rfl,rfl⟩
 rw [if_neg (by omega)] at a;clear b c;refine Ra fun U b=> ?_;subst b;rw [kI] at h8
 refine rn [8,0,4] ?_;refine aX (cC (fun (s:Nat)=>s<=U.ths.length/\ ∀ j,(h:j<U.ths.length)->j<s->U.ths[j].t.st=4) (fun s=> [(0,.pointer (some ⟨p,0,none⟩)),(2,pt k),(27,I64 U.ths.length),(28,I64 s)]) (fun s=>mcP p K U::lsH I64 2 U.ca U.cc U.cells::yH U.sp U.sy::rsH mtC 7 147 U.ha U.hc U.ths::stars (U.ths.map mtH)::pto k AZ::(q++F)) (fun s=>U.ths.length - s) (fun s f u=> ?_) 0 ⟨bC _,fun j _ h=>aV h (jT _)⟩) Zn leA;try dsimp only at f u|-
 obtain ⟨a0,i⟩:=f;refine xx 5 ?_;refine xp 29 ?_ ?_<;>intro h0
 . have d:s<U.ths.length:=(by omega);refine U7 (l:=U.ths) (by omega) fun ga e_=> ?_;have hr: ∀ r,Sees (rsH mtC 7 147 U.ha U.hc U.ths::r) (some ⟨ga,0,none⟩) (U.ths.flatMap mtC):=fun r=>by rw [<-e_];exact cI r
   refine rf [14,0,1,3034,2] e_ ?_;refine ld ?_ (hc:=(dW (n:=s) (hr _) leA Z8 d rfl 1 _ rfl));refine ox 2 ?_;refine xp 39 ?_ ?_<;>intro w
   . rw [if_neg (fun hh=>w (by simpa using cQ.1 hh _ (aZ (aC d))))] at a;refine rn [4,0,1] ?_;refine Zq (maH p K U.er::q) func21 (rA_ results21) ⟨_,rfl,by rw [a];rfl,rfl⟩ (J3 rfl (by unfold mcL;exact leA))
   refine xx 7 ?_;refine aX (u (s+1) ⟨by omega,fun j o h=>by by_cases e:j=s;subst e;simpa using w;exact i j o (by omega)⟩ (by omega)) Zn leA
 rw [if_pos (cQ.2 fun y hy=>by obtain ⟨z,hz,rfl⟩:=bS.1 hy;obtain ⟨j,o,rfl⟩:=fH hz;exact dA (i j o (by omega)))] at a;refine rn [5,0,1] ?_;refine Zq (maH p K U.er::q) func21 (rA_ results21) ⟨_,rfl,by rw [a];rfl,rfl⟩ (J3 rfl (by unfold mcL;exact leA))
end
end Go.Proofs.YtadahhbefdnabaaGreatDoor
