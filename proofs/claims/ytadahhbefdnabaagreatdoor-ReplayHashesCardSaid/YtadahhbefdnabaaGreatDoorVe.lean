/- Contracts. -/
import Derived.Test.YtadahhbefdnabaaGreatDoorVd
set_option maxHeartbeats 16000000
set_option maxRecDepth 100000
set_option linter.all false
namespace Go.Proofs.YtadahhbefdnabaaGreatDoor
open Go Go.RowKit Wx Go.Proofs.Tryz
attribute [local irreducible] lsH rsH stars
variable {f:Fnd}{N:Nat}{M:Hp}{n:Int}{d:PDec}{l:List Dec}
theorem Ec {M:Nat}(h:f.le N)(hn:N<=M):f.le M:=by
 obtain ⟨o,n,m,l,k,j,i,g,e,d,c,b,a⟩:=h;exact ⟨by omega,by omega,by omega,by omega,by omega,by omega,by omega,by omega,by omega,by omega,by omega,by omega,a⟩
theorem Et (h:f.le N)(w:Int):(f.fl w).le N:=by obtain ⟨x,a⟩:=f.fl_eq w;rw [a];exact h
theorem Fnd.fl_keep (f:Fnd)(w:Int):(f.fl w).locals=f.locals/\(f.fl w).stm=f.stm/\(f.fl w).names=f.names/\(f.fl w).ths=f.ths:=by obtain ⟨x,a⟩:=f.fl_eq w;rw [a];exact ⟨rfl,rfl,rfl,rfl⟩
abbrev jN:=@Fnd.fl_keep
theorem H2 {w:Int}(h:f.flaw=0):(f.fl w).flaw=w:=by unfold Fnd.fl;rw [if_pos h]
theorem Ob (h:f.le N)(d:PDec):(f.decl1 d).1.le (N+1)/\(f.decl1 d).1.locals=f.locals/\(f.decl1 d).1.stm=f.stm/\(f.decl1 d).1.names=f.names:=by
 have c:=(Et (Ec h (Nat.le_succ N)) 134);have b:=f.fl_keep 134;obtain ⟨r,q,p,o,n,m,l,k,j,i,g,e,a⟩:=h;unfold Fnd.decl1;split
 . split
   . exact ⟨c,b.1,b.2.1,b.2.2.1⟩
   exact ⟨⟨by simp;omega,by dsimp only;omega,by dsimp only;omega,by dsimp only;omega,by simp;omega,by dsimp only;omega,by dsimp only;omega,by dsimp only;omega,by dsimp only;omega,by dsimp only;omega,by dsimp only;omega,by dsimp only;omega,a⟩,rfl,rfl,rfl⟩
 split
 . split
   . exact ⟨c,b.1,b.2.1,b.2.2.1⟩
   exact ⟨⟨by dsimp only;omega,by simp;omega,by dsimp only;omega,by dsimp only;omega,by dsimp only;omega,by simp;omega,by dsimp only;omega,by dsimp only;omega,by dsimp only;omega,by dsimp only;omega,by dsimp only;omega,by dsimp only;omega,by dsimp only;omega⟩,rfl,rfl,rfl⟩
 split
 . exact ⟨⟨by dsimp only;omega,by dsimp only;omega,by dsimp only;omega,by dsimp only;omega,by dsimp only;omega,by dsimp only;omega,by simp;omega,by dsimp only;omega,by dsimp only;omega,by dsimp only;omega,by dsimp only;omega,by dsimp only;omega,a⟩,rfl,rfl,rfl⟩
 split
 . exact ⟨⟨by dsimp only;omega,by dsimp only;omega,by dsimp only;omega,by dsimp only;omega,by dsimp only;omega,by dsimp only;omega,by dsimp only;omega,by simp;omega,by dsimp only;omega,by dsimp only;omega,by dsimp only;omega,by dsimp only;omega,a⟩,rfl,rfl,rfl⟩
 split
 . split
   . exact ⟨c,b.1,b.2.1,b.2.2.1⟩
   exact ⟨⟨by dsimp only;omega,by dsimp only;omega,by simp;omega,by dsimp only;omega,by dsimp only;omega,by dsimp only;omega,by dsimp only;omega,by dsimp only;omega,by simp;omega,by dsimp only;omega,by dsimp only;omega,by dsimp only;omega,a⟩,rfl,rfl,rfl⟩
 split
 . exact ⟨⟨by dsimp only;omega,by dsimp only;omega,by dsimp only;omega,by simp;omega,by dsimp only;omega,by dsimp only;omega,by dsimp only;omega,by dsimp only;omega,by dsimp only;omega,by dsimp only;omega,by dsimp only;omega,by dsimp only;omega,a⟩,rfl,rfl,rfl⟩
 exact ⟨⟨by dsimp only;omega,by dsimp only;omega,by dsimp only;omega,by dsimp only;omega,by dsimp only;omega,by dsimp only;omega,by dsimp only;omega,by dsimp only;omega,by dsimp only;omega,by dsimp only;omega,by dsimp only;omega,by dsimp only;omega,a⟩,rfl,rfl,rfl⟩
theorem Lz (h:(f.decl1 d).2.2=true):(f.decl1 d).1.ths.length=f.ths.length+(if d.k=6 then 1 else 0)/\(f.decl1 d).1.flaw=f.flaw:=by
 unfold Fnd.decl1 at h|-;split at h
 . rename_i a;split at h
   . cases h
   rename_i b;rw [if_pos a,if_neg b,if_neg (by omega)];exact ⟨rfl,rfl⟩
 rename_i k1;rw [if_neg k1];split at h
 . rename_i a;split at h
   . cases h
   rename_i b;rw [if_pos a,if_neg b,if_neg (by omega)];exact ⟨rfl,rfl⟩
 rename_i k2;rw [if_neg k2];split at h
 . rename_i a;rw [if_pos a,if_neg (by omega)];exact ⟨rfl,rfl⟩
 rename_i i;rw [if_neg i];split at h
 . rename_i a;rw [if_pos a,if_neg (by omega)];exact ⟨rfl,rfl⟩
 rename_i g;rw [if_neg g];split at h
 . rename_i a;split at h
   . cases h
   rename_i b;rw [if_pos a,if_neg b,if_neg (by omega)];exact ⟨rfl,rfl⟩
 rename_i e;rw [if_neg e];split at h
 . rename_i a;rw [if_pos a,if_pos a];exact ⟨by simp,rfl⟩
 rename_i c;rw [if_neg c,if_neg c];exact ⟨rfl,rfl⟩
theorem Mv (h:(f.decl1 d).2.2=false):(f.decl1 d).1=f.fl 134:=by
 unfold Fnd.decl1 at h|-;(repeat' split at h)<;>first|(cases h;done)|(split<;>(try split)<;>(try split)<;>(try split)<;>(try split)<;>(try split)<;>(try split)<;>first|rfl|omega|(exfalso;omega))
theorem Fm (h:f.le N)(d:PDec):(f.decl d).le (N+1)/\(f.decl d).locals=f.locals/\(f.decl d).stm=f.stm:=by
 have k:=Ec h (Nat.le_succ N);obtain ⟨i,g,e,v⟩:=Ob h d;unfold Fnd.decl;split
 . exact ⟨Et k _,(f.fl_keep _).1,(f.fl_keep _).2.1⟩
 split
 . exact ⟨i,g,e⟩
 split
 . exact ⟨Et i _,((jN _ _).1).trans g,((jN _ _).2.1).trans e⟩
 obtain ⟨u,s,r,q,p,o,n,m,l,t,c,b,a⟩:=i;have j:=h.2.2.2.2.2.2.2.2.2.1;exact ⟨⟨u,s,r,q,p,o,n,m,l,by dsimp only;rw [v];simp;omega,c,b,a⟩,g,e⟩
theorem Ni (hf:f.flaw=0)(h:(f.decl d).flaw=0):(f.decl d).ths.length=f.ths.length+(if d.k=6 then 1 else 0):=by
 unfold Fnd.decl at h|-;split at h
 . rw [H2 hf] at h;cases h
 rename_i k1;rw [if_neg k1];split at h
 . rename_i k2;rw [Mv k2,H2 hf] at h;cases h
 rename_i k2;rw [if_neg k2];have a:=Lz (f:=f) (d:=d) (by revert k2;cases (f.decl1 d).2.2<;>simp);split at h
 . rw [H2 (a.2.trans hf)] at h;cases h
 rename_i b;rw [if_neg b];exact a.1
mutual
theorem Zx8: ∀ (x:Stm),x.sz<=x.er.nd
 | .mk k ln cl nm wt e ix body els ba bc ea ec id slot other loc=>by
  have b:=Np body;have a:=Np els;simp only [Stm.sz,Stm.er,Tj];omega
theorem Np: ∀ (l:List Stm),Zu l<=Z0 (Zk l)
 | []=>bC _
 |x::r=>by
  have b:=Zx8 x;have a:=Np r;simp only [Zu,Zk,Z0];omega
end
theorem Io (h:d.bad=false):(1<=d.k/\d.k<=6)/\(-2147483647<=d.n/\d.n<=2147483647)/\Vk d.body:=by
 unfold PDec.bad Zz5 at h;simp only [eZ,cM,iO] at h;obtain ⟨⟨⟨⟨⟨⟨⟨⟨f,e⟩,_⟩,_⟩,c⟩,b⟩,_⟩,_⟩,a⟩:=h;exact ⟨by omega,by omega,Qo a⟩
theorem parse_nd {l:Bs}{ds:List PDec}(h:Q9 l=some ds):(ds.map fun d=>Z0 d.body+1).sum<=65536:=by
 unfold Q9 at h;split at h
 . cases h
 rename_i i;split at h
 . cases h
 rename_i e b;split at h
 . cases h
 rename_i c a;split at h
 . cases h
 cases h
 have g:=(Nv b).1;have f:=(Du (aU _) a).1;omega
theorem Fe {α:Type}{f:α->Nat}{x:α}: ∀ {l:List α},x∈l->f x<=(l.map f).sum
 |y::r,h=>by
  rcases bG.1 h with rfl|h
  . simp
  have:=Fe (f:=f) h;simp only [bA,kM];omega
theorem Zkc {α:Type}{f:α->Nat}: ∀ {l:List α},l.length<=(l.map fun d=>f d+1).sum
 | []=>bC _
 |y::r=>by have:=Zkc (f:=f) (l:=r);simp only [bA,kM,aJ];omega
def thB (l:List Dec):List (Sv Stm):=(l.filter fun d=>d.k==6).map fun d=>⟨d.body,d.ba,d.bc⟩
theorem thB_snoc {k:Nat}(h:k<l.length):thB (l.take (k+1))=thB (l.take k)++(if l[k].k=6 then [⟨l[k].body,l[k].ba,l[k].bc⟩] else []):=by
 rw [aN h];unfold thB;rw [iP,aO];congr 1;by_cases hk:l[k].k=6
 . rw [if_pos hk];simp [hk]
 rw [if_neg hk];simp [hk]
theorem thB_len :(thB l).length<=l.length:=by unfold thB;rw [aI];exact fZ _ _
theorem thB_er (l:List Dec):((l.map Dec.er).filter fun d=>d.k==6).map (·.body)=(thB l).map fun x=>Zk x.l:=by
 unfold thB
 induction l with
 |nil=>rfl
 |cons d r ih=>
  rw [bA,jD,jD];have a:(Dec.er d).k=d.k:=rfl;rw [a];split
  . rw [bA,bA,bA,ih];rfl
  exact ih
theorem thB_mem {x:Sv Stm}(h:x∈thB l): ∃ d∈l,x=⟨d.body,d.ba,d.bc⟩:=by
 unfold thB at h;obtain ⟨d,a,rfl⟩:=bS.1 h;exact ⟨d,(gY.1 a).1,rfl⟩
def FC.z:FC:=⟨.z,.z,0,0,.z,.z,0,0,.z,.z,.z,.z,.z,.z,0,0,0,0,0,0⟩
def pgC (f:FC):List Value:= [f.vars.v,f.arrs.v,I64 f.mu,I64 f.co,f.chs.v,f.ths.v,I64 f.main,I64 f.stm,f.nv.v,f.na.v,f.nm.v,f.nc.v,f.nh.v]
theorem De (M:Hp):FC.z.At M:=⟨Ps M,Ps M,Ps M,Ps M,(fun x a=>(by cases a)),Ps M,Ps M,Ps M,Ps M,Ps M,Ps M⟩
theorem FC.z_le:FC.z.er.le 0:=by simp [Fnd.le,FC.er,FC.z,Sv.z]
theorem FC.At.mo {f:FC}(h:f.At M):({ f with most:=n } :FC).At M:=⟨h.vars,h.arrs,h.chs,h.ths,h.bod,h.nv,h.na,h.nm,h.nc,h.nh,h.names⟩
theorem FC.At.mn {f:FC}(h:f.At M):({ f with main:=n } :FC).At M:=⟨h.vars,h.arrs,h.chs,h.ths,h.bod,h.nv,h.na,h.nm,h.nc,h.nh,h.names⟩
theorem Oy (h: ¬f.flaw=0): ∀ l,Fnd.decls f l=f
 | []=>rfl
 |d::r=>by unfold Fnd.decls;rw [if_neg h]
theorem Mw (h: ¬f.flaw=0)(i:Nat): ∀ l,Fnd.bodies f i l=f
 | []=>rfl
 |d::r=>by unfold Fnd.bodies;rw [if_neg h]
theorem Ol:(prog.info? 128).map (fun i=>(i.zero,i.size,i.bytes))=some (some (.slice none 0 0),1,24):=by kernel_rfl
section
variable {G:World}{q:List HP}{m:List Dec}{a:Option Addr}{c:Nat}
abbrev AY :=((.cells zz8.toArray 29 (0,0)):Obj)
theorem find_ok (h:Kn q fun M=>DcsAt M a c m)(hs:((m.map Dec.er).map fun d=>Z0 d.body+1).sum<=65536):CallF prog G 91 [.slice a m.length c] (q) (Ret fun v q'=> ∃ (g:FC) (y z e:Int),v= .tuple [.agg (pgC g).toArray,.agg [Value.int .i64 y,I64 z].toArray,I64 e].toArray/\q'=fcM g::q/\(match E8 (m.map Dec.er) with|none=>e≠0|some F=>e=0/\g.er=F)):=by
 refine aB func91 ntmps91 rfl fun F cs=> ?_;have hA:=Zkw h;have s1:=Zx (f:=dcC) (sz:=6) (fun _=>rfl) m;refine jW (fun w s=>Kn.dsL (h.le leA) s) fun f3=> ?_;have w2:m.length<=65536:=by have:=Zkc (f:=fun d=>Z0 d.body) (l:=m.map Dec.er);rw [aI] at this;omega
 have o2: ∀ d∈m,Zu d.body<=65536:=fun d hd=>by have h1:=Fe (f:=fun d=>Z0 d.body+1) (aZ (f:=Dec.er) hd);have h2:=Np d.body;have h3:(Dec.er d).body=Zk d.body:=rfl;rw [h3] at h1;omega
 obtain ⟨R,hR⟩: ∃ R,E8 (m.map Dec.er)=R:=⟨_,rfl⟩;rw [hR];unfold E8 at hR;refine xo 2 ?_;refine Zh zeroValue29 fun n1=> ?_
 refine Zh zeroValue104 fun n2=> ?_
 refine oo 6 ?_;refine bM call157 (mayD_ok (h.le leA)) ?_;refine ox 2 ?_;refine cY 15 rfl ?_ ?_<;>intro h0
 . have d0:(m.map Dec.er).any PDec.bad=true:=(by cases p:(m.map Dec.er).any PDec.bad;rw [p] at h0;exact aV h0 (by decide);rfl);rw [if_pos d0] at hR;refine rn [5,0,0,2] ?_;refine cS (q':=fcM FC.z::_) (dK (fun _ _ _=>De _)) ?_;refine Zq (fcM FC.z::q) func91 (O9 results91) ⟨_,rfl,FC.z,0,0,2,rfl,rfl,by rw [<-hR];decide⟩
 have d0:(m.map Dec.er).any PDec.bad=false:=(by cases p:(m.map Dec.er).any PDec.bad;rfl;rw [p] at h0;exact aV h0 (by decide));rw [if_neg (by rw [d0];decide)] at hR;have q0: ∀ d∈m,(1<=d.k/\d.k<=6)/\(-2147483647<=d.n/\d.n<=2147483647)/\Vk (Zk d.body):=fun d hd=>Io (d:=d.er) (by rw [List.any_eq_false] at d0;simpa using d0 _ (aZ (f:=Dec.er) hd))
 refine xo 5 ?_;refine Zh zeroValue316 fun n3=> ?_
 refine rn [0,11] ?_;refine aX (cC (fun (s:(Nat×FC)×(Option Addr×Nat×List (Sv Stm))×Option Addr)=>s.1.1<=m.length/\s.2.2=a/\s.2.1.2.2=thB (m.take s.1.1)/\Fnd.decls .z (m.map Dec.er)=Fnd.decls s.1.2.er ((m.drop s.1.1).map Dec.er)/\s.1.2.er.le s.1.1/\(s.1.2.locals=0/\s.1.2.stm=0)/\(s.1.2.flaw=0->s.2.1.2.2.length=s.1.2.ths.l.length)) (fun s=> [(0,.slice s.2.2 m.length c),(2,pt n1),(3,pt n2),(4,I64 0),(5,pt n3),(6,.slice s.2.1.1 s.2.1.2.2.length s.2.1.2.1),(7,I64 (s.1.1:Int))]) (fun s=>lsH (@Sv.v Stm) 128 s.2.1.1 s.2.1.2.1 s.2.1.2.2::fcM s.1.2::pto n3 (.cells (fcC s.1.2).toArray 316 (0,0))::pto n1 AY::pto n2 Ai::(q++F)) (fun s=>m.length - s.1.1) (fun s l0 ih=> ?_) ((0,FC.z),(none,0, []),a) ⟨bC _,rfl,rfl,rfl,FC.z_le,⟨rfl,rfl⟩,fun _=>rfl⟩) Zn (aM leA (aM (Z1 (@Sv.v Stm) 128 _) (aM (dK (φ:=fun M=>FC.z.At M) (mn:=fun e h=>FC.At.mono e h) (fun _ _ _=>De _)) leA)));try dsimp only at l0 ih|-
 obtain ⟨z2,l2,p0,o0,g0,⟨n0,m0⟩,x0⟩:=l0;obtain ⟨⟨k,g⟩,⟨ab,cb,B⟩,a2⟩:=s;dsimp only at*;subst l2;have g3:B.length<=65536:=(by rw [p0];exact dR thB_len (by rw [bI];omega));refine xo 8 ?_;refine bB [23,0,2,3,4,5,6,7] ?_;apply Zg 4 27 23 rfl
 . intro g1 M1;have h1:=sp g1;refine rn [1,0,2] ?_;exact Zz M1 ⟨Yi g1,Zw⟩
 . intro g1 M1;have h1:=sp g1;refine oo 4 ?_;exact Zz M1 ⟨Yl g1,Zw⟩
 refine ox 1 ?_;refine cY 27 rfl ?_ ?_<;>intro h0
 . obtain ⟨b,h9⟩:k<m.length/\g.flaw=0:=(by rw [aR] at h0;exact ⟨by simpa using h0.1,by simpa using h0.2⟩);have u1:=q0 _ (aC b);have q1:=thB_snoc b;refine rn [5,0,1,2,3] ?_;refine Nh hA (by rw [s1];omega) fun b1 o1 e1=> ?_;subst e1;have y1: ∀ (Q:List HP),Le Q q-> ∀ (j:Nat) (v:Value),nth (dcC m[k]) j=some v->Cl Q ⟨b1,o1+(k:Int).toNat*6+j,none⟩ v:=fun Q hQ j v hv=>dW hA hQ (fun _=>rfl) b rfl j v (by rw [<-Ur];exact hv)
   refine dd [3] ?_;refine XD.rdCs 4 (us:=dcC m[k]) rfl rfl isAgg305 sizeOf305 rfl (fun k v hk=>y1 _ leA k v (by rw [Ur];exact hk)) ?_;refine Wv 5 call158 (aH _) (Zjy (f:=g) (d:=m[k]) knA (Ec g0 (by omega)) u1.1 u1.2.1) ?_;rintro _ _ ⟨o,rfl,rfl,a0⟩;refine ⟨trivial,?_⟩;refine rn [7,0,4] ?_;skip;refine rn [2,0,2] ?_;refine xp 41 ?_ ?_<;>intro h1
   . refine rn [7,0] ?_;refine bU (Yu (@Sv.v Stm) [⟨m[k].body,m[k].ba,m[k].bc⟩] underlying317 Ol rfl rfl rfl rfl rfl rfl (fun _=>rfl)) ?_;rintro _ _ ⟨gl,rfl,rfl⟩;refine bU (Yb (f:= @Sv.v Stm) (l:=B) (m:= [⟨m[k].body,m[k].ba,m[k].bc⟩]) underlying317 Ol rfl rfl rfl Zj ((bY _).le Zj) (fun _=>rfl) (by simp;omega) (by simp;omega)) ?_;rintro _ _ ⟨a3,c3,rfl,rfl⟩;refine ox 8 ?_;have t0:=Fm g0 m[k].er;rw [<-a0] at t0;obtain ⟨m1,l1,k1⟩:=t0;have j1:Fnd.decls g.er ((m.drop k).map Dec.er)=Fnd.decls o.er ((m.drop (k+1)).map Dec.er):=by rw [aP b,bA,Fnd.decls,if_pos (show g.er.flaw=0 from h9),a0]
     have k0:o.flaw=0->o.ths.l.length=g.ths.l.length+1:=fun p=>by have:=Ni (f:=g.er) (d:=m[k].er) h9 (by rw [<-a0];exact p);rw [<-a0,if_pos (show m[k].er.k=6 from (by simpa using h1:m[k].k=6))] at this;simpa [FC.er] using this
     refine aX (ih ((k+1,o),(a3,c3,B++ [⟨m[k].body,m[k].ba,m[k].bc⟩]),_) ⟨by dsimp only;omega,rfl,by dsimp only;rw [q1,if_pos (show m[k].k=6 by simpa using h1),<-p0],o0.trans j1,m1,⟨l1.trans n0,k1.trans m0⟩,fun p=>by have h1:=k0 p;have h2:=x0 h9;simp;omega⟩ (by dsimp only;omega)) Zn leA
   refine xx 8 ?_;have t0:=Fm g0 m[k].er;rw [<-a0] at t0;obtain ⟨m1,l1,k1⟩:=t0;have j1:Fnd.decls g.er ((m.drop k).map Dec.er)=Fnd.decls o.er ((m.drop (k+1)).map Dec.er):=by rw [aP b,bA,Fnd.decls,if_pos (show g.er.flaw=0 from h9),a0]
   have k0:o.flaw=0->o.ths.l.length=g.ths.l.length+0:=fun p=>by have:=Ni (f:=g.er) (d:=m[k].er) h9 (by rw [<-a0];exact p);rw [<-a0,if_neg (show ¬m[k].er.k=6 from (by simpa using h1: ¬m[k].k=6))] at this;simpa [FC.er] using this
   refine aX (ih ((k+1,o),(ab,cb,B),_) ⟨by dsimp only;omega,rfl,by dsimp only;rw [q1,if_neg (show ¬m[k].k=6 by simpa using h1),<-p0];simp,o0.trans j1,m1,⟨l1.trans n0,k1.trans m0⟩,fun p=>by have h1:=k0 p;have h2:=x0 h9;simp;omega⟩ (by dsimp only;omega)) Zn leA
 have hD:Fnd.decls .z (m.map Dec.er)=g.er:=by
  rcases dJ k m.length with b|b
  . rw [o0];exact Oy (fun hg=>by revert h0;rw [dA (show (k:Int)<m.length by omega),show g.flaw=0 from hg];decide) _
  rw [o0,cL b];rfl
 have hB:g.flaw=0->B=thB m:=fun hg=>by rw [p0,bQ];rcases dJ k m.length with b|b;(revert h0;rw [dA (show (k:Int)<m.length by omega),show g.flaw=0 from hg];intro p;exact aV p (by decide));exact b
 rw [hD,thB_er] at hR;clear ih o0;refine rn [4,0] ?_;refine bM call159 (Zvo (f:=g) (s:=J2) knA) ?_;refine ox 3 ?_;obtain ⟨A,z0⟩: ∃ A,g.er.at J2=A:=⟨_,rfl⟩;rw [z0] at hR|-;obtain ⟨f1,c0⟩: ∃ f1,(if g.er.flaw=0/\(A=0\/((g.er.names.map (·.k)).getD (A - 1) 0)≠6) then g.er.fl 133 else g.er)=f1:=⟨_,rfl⟩;rw [c0] at hR;refine lB (fun (x:FC)=> [(2,pt n1),(3,pt n2),(4,I64 0),(5,pt n3),(6,.slice ab B.length cb),(8,I64 ((A:Int) - 1))]) (fun x=>lsH (@Sv.v Stm) 128 ab cb B::fcM x::pto n3 (.cells (fcC x).toArray 316 (0,0))::pto n1 AY::pto n2 Ai::(q++F)) (fun x=>x.er=f1) (fun x j0=> ?_) fun K=> ?_
 . have hk:f1.locals=0/\f1.stm=0/\f1.names=g.er.names/\f1.ths=g.er.ths:=by rw [<-c0];split;exact ⟨(jN _ _).1.trans n0,(jN _ _).2.1.trans m0,(jN _ _).2.2.1,(jN _ _).2.2.2⟩;exact ⟨n0,m0,rfl,rfl⟩
   have s0:f1.flaw=0->g.flaw=0/\A≠0:=(by rw [<-c0];split;(rename_i p;intro hy;rw [H2 p.1] at hy;cases hy);(rename_i p;intro hy;exact ⟨hy,fun hz=>p ⟨hy,.inl hz⟩⟩));have v1:Fnd.bodies f1 0 ((thB m).map fun x=>Zk x.l)=Fnd.bodies f1 0 (B.map fun x=>Zk x.l):=(by by_cases p:f1.flaw=0;rw [hB (s0 p).1];rw [Mw p,Mw p]);have k0:f1.flaw=0->B.length<=f1.ths.length:=fun p=>(by rw [hk.2.2.2];have:=x0 (s0 p).1;simp only [FC.er,aI];omega);have r2:f1.flaw=0->B=thB m:=fun p=>hB (s0 p).1;have i3:A<=f1.names.length:=(by rw [<-z0,hk.2.2.1];exact Mn);have u2:f1.ths.length<=65536:=(by rw [hk.2.2.2];have:=g0.2.2.2.1;omega);have c2:f1.names.length<=65536:=(by rw [hk.2.2.1];have:=g0.2.2.2.2.2.2.2.2.2.1;omega)
   rw [v1] at hR;obtain ⟨j2,i2,f2,e2⟩:=hk;have s2:f1.flaw=0->A≠0:=fun p=>(s0 p).2;clear c0 hD hB s0 g0 n0 m0 x0 p0 v1 f2 e2 h0 z0
   refine xx 6 ?_;refine aX (cC (fun (s:Nat×FC)=>s.1<=B.length/\Fnd.bodies f1 0 (B.map fun x=>Zk x.l)=Fnd.bodies s.2.er s.1 ((B.drop s.1).map fun x=>Zk x.l)/\s.2.er.names=f1.names/\(s.2.er.locals=0/\0<=s.2.er.stm)/\(s.2.er.flaw=0->f1.flaw=0)/\s.2.er.ths.length=f1.ths.length) (fun s=> [(2,pt n1),(3,pt n2),(4,I64 0),(5,pt n3),(6,.slice ab B.length cb),(8,I64 ((A:Int) - 1)),(9,I64 (s.1:Int))]) (fun s=>lsH (@Sv.v Stm) 128 ab cb B::fcM s.2::pto n3 (.cells (fcC s.2).toArray 316 (0,0))::pto n1 AY::pto n2 Ai::(q++F)) (fun s=>B.length - s.1) (fun s l0 ih=> ?_) (0,x) ⟨bC _,by dsimp only;rw [j0];rfl,by dsimp only;rw [j0],by dsimp only;rw [j0,j2,i2];decide,by dsimp only;rw [j0];exact id,by dsimp only;rw [j0]⟩) Zn leA;try dsimp only at l0 ih|-
   obtain ⟨y2,w0,d1,⟨c1,v0⟩,t1,k2⟩:=l0;obtain ⟨i,g⟩:=s;dsimp only at*;refine xo 8 ?_;refine bB [75,2,3,4,5,6,8,9] ?_;apply Zg 4 79 75 rfl
   . intro g1 M1;have h1:=sp g1;refine rn [1,0,2] ?_;exact Zz M1 ⟨Yi g1,Zw⟩
   . intro g1 M1;have h1:=sp g1;refine oo 4 ?_;exact Zz M1 ⟨Yl g1,Zw⟩
   refine ox 1 ?_;refine cY 79 rfl ?_ ?_<;>intro h0
   . obtain ⟨b,h9⟩:i<B.length/\g.flaw=0:=(by rw [aR] at h0;exact ⟨by simpa using h0.1,by simpa using h0.2⟩);have i0:=t1 h9;have w1:=k0 i0;have r1: ∀ x∈B,∃ d∈m,x=⟨d.body,d.ba,d.bc⟩:=fun x p=>thB_mem (by rw [<-r2 i0];exact p);obtain ⟨d,hd,y0⟩:=r1 _ (aC b)
     obtain ⟨x2,a1⟩: ∃ y,B[i]=y:=⟨_,rfl⟩;rw [a1] at y0;have p2:Kn q fun M=>BlkAt M x2.a x2.c x2.l:=(by rw [y0];exact h.imp fun M h=>h.2 _ hd);have p1:Vk (Zk x2.l):=(by rw [y0];exact (q0 d hd).2.2);have v2:Zu x2.l<=65536:=(by rw [y0];exact o2 d hd)
     have d3:g.ths.l.length=g.er.ths.length:=(aI _).symm;have f0:g.names.l.length<=65536:=(by rw [show g.names.l=f1.names from d1];exact c2);replace c1:g.locals=0:=c1;replace v0:0<=g.stm:=v0;refine Rw (fl:= @Sv.v Stm) (l:=B) (a:=ab) (by omega) fun gb e_=> ?_;subst e_;refine rn [7,0,2,0,1,2,3,4] ?_;refine ldD 4 ?_ (hc:=(gP (n:=i) (bY _) Zj b rfl));refine dY 88 (.slice x2.a x2.l.length x2.c) rfl (by rw [a1];rfl) ?_;refine Yd (fl:= [⟨9,10,fun g=> pt g,fun g=>pto g Am⟩]) ?_;refine Td 5 ⟨⟨_,rfl,rfl,rfl,rfl,rfl,rfl,fun q=>cD zeroValue316⟩,trivial⟩ call161 (aH _) ((Zxl _).2 x2.l x2.a x2.c (aU _) p1 (f:=({ g with most:=0 } :FC)) (kX (φ:=fun M=>g.At M) knA fun M h=>FC.At.mo h) (cF p2) ⟨by dsimp only;omega,⟨by dsimp only;omega,by dsimp only;omega⟩,v0⟩) ?_ (hL:=hlR);rintro _ _ ⟨o,b2,d2,m2,rfl,rfl,r0⟩;refine ⟨trivial,?_⟩;refine Qa 6 ⟨⟨_,rfl,rfl,rfl,rfl,rfl,rfl,fun q=>cD zeroValue316⟩,trivial⟩ (Pu.move rfl) ?_;refine Qa 7 ⟨⟨_,rfl,rfl,rfl,rfl,rfl,rfl,fun q=>cD zeroValue316⟩,trivial⟩ (fP rfl rfl) ?_;refine Qa 8 ⟨⟨_,rfl,rfl,rfl,rfl,rfl,rfl,fun q=>cD zeroValue316⟩,trivial⟩ (fP rfl rfl) ?_;refine Ws (e0:=⟨9,10,fun g=> pt g,fun g=>pto g Am⟩) (hnd:=by simp) 9 ⟨⟨_,rfl,rfl,rfl,rfl,rfl,rfl,fun q=>cD zeroValue316⟩,trivial⟩ fun ga=> ?_;change XF _ _ _ _ _ _ _ [] _ _ _ ((10,pt ga)::_) _ _ (pto ga Am::_);refine eQ ?_;refine rn [11,12,0,2,0,0,5,0] ?_;have a0:o.ths.l.length=f1.ths.length:=(by rw [<-k2];have:=aQ List.length (show o.er.ths=g.er.ths from (aQ (fun x=>x.1.ths) r0).trans (iB (Zk x2.l) _).e.2.2.2.2.2.1);rw [show o.er.ths.length=o.ths.l.length from aI _] at this;exact this);refine eP (q':=rsH thC 3 218 none 0 []::_) (Zc thC 3 218 _) ?_;refine bU (Z4 (f:=thC) (l:= []) (m:=o.ths.l) underlying24 Tq rfl rfl (fun _=>rfl) rfl rfl Zj (dV (kX (φ:=fun M=>o.At M) knA fun M h=>h.ths)) (fun _=>rfl) (by simp;omega) (by simp;omega)) ?_;rintro _ _ ⟨t2,u0,rfl,rfl⟩;rw [aY];refine rn [3,0,1,2,3,4,5,6,7] ?_;have i1:i<o.ths.l.length:=(by omega);obtain ⟨y,hy⟩: ∃ y,o.ths.l[i]=y:=⟨_,rfl⟩;refine C7 (fl:=thC) (sz:=3) (l:=o.ths.l) (a:=t2) (by omega) fun gt e_=> ?_;subst e_;refine dd [7,8] ?_;refine iM 9 rfl (V4 (f:=thC) (l:=o.ths.l) (u:=⟨y.nm,y.loc,m2,b2,d2⟩) (n:=i) (k:=2) rfl rfl sizeOf128 (fun _=>rfl) rfl i1 rfl (by rw [hy];rfl) rfl rfl Zj) ?_;rintro _ _ ⟨rfl,rfl⟩;refine ⟨hlR,?_⟩;refine dd [10,11] ?_;refine iM 12 rfl (V4 (f:=thC) (l:=o.ths.l.set i ⟨y.nm,y.loc,m2,b2,d2⟩) (u:=⟨y.nm,o.most,m2,b2,d2⟩) (n:=i) (k:=1) rfl rfl sizeOf3 (fun _=>rfl) rfl (by rw [bK];exact i1) rfl (by rw [cH];rfl) rfl rfl Zj) ?_;refine kk0 ?_;refine dY 12 (.slice (some ⟨gt,0,none⟩) ((o.ths.l.set i ⟨y.nm,y.loc,m2,b2,d2⟩).set i ⟨y.nm,o.most,m2,b2,d2⟩).length u0) rfl (by rw [bK,bK]) ?_;refine rn [0,4,0,7] ?_;refine Zqb ?_;refine cS (q':=fcM ({ o with ths:=⟨(o.ths.l.set i ⟨y.nm,y.loc,m2,b2,d2⟩).set i ⟨y.nm,o.most,m2,b2,d2⟩,some ⟨gt,0,none⟩,u0⟩ } :FC)::_) (dK ((gI (φ:=fun M=>o.At M) knA (gI (svK (x:=⟨(o.ths.l.set i ⟨y.nm,y.loc,m2,b2,d2⟩).set i ⟨y.nm,o.most,m2,b2,d2⟩,some ⟨gt,0,none⟩,u0⟩) (f:=thC)) (show Kn _ fun M=>BlkAt M b2 d2 m2 from knA))).imp fun M h=>FC.At.t h.1 h.2.1 (fun z hz=>by rcases gB hz with hz|hz;rcases gB hz with hz|hz;exact h.1.bod z hz;rw [hz];exact h.2.2;rw [hz];exact h.2.2))) ?_;have q2:((o.ths.l.set i ⟨y.nm,y.loc,m2,b2,d2⟩).set i ⟨y.nm,o.most,m2,b2,d2⟩).map Th.er=(o.ths.l.map Th.er).set i ⟨y.nm,o.most,Zk m2⟩:=by rw [iW,List.map_set];rfl
     have z1:((o.ths.l.map Th.er).getD i ⟨em,0, []⟩).nm=y.nm:=by rw [gD (by simpa using i1)];simp [hy,Th.er]
     have x1:Fnd.bodies f1 0 (B.map fun x=>Zk x.l)=Fnd.bodies ({ o with ths:=⟨(o.ths.l.set i ⟨y.nm,y.loc,m2,b2,d2⟩).set i ⟨y.nm,o.most,m2,b2,d2⟩,some ⟨gt,0,none⟩,u0⟩ } :FC).er (i+1) ((B.drop (i+1)).map fun x=>Zk x.l):=by
      rw [w0,aP b,bA,Fnd.bodies,if_pos (show g.er.flaw=0 from h9),a1];dsimp only;rw [show Fnd.block { g.er with most:=0 } (Zk x2.l)=(o.er,Zk m2) from r0.symm];congr 1;simp only [FC.er,q2];rw [z1]
     refine aX (ih (i+1,({ o with ths:=⟨(o.ths.l.set i ⟨y.nm,y.loc,m2,b2,d2⟩).set i ⟨y.nm,o.most,m2,b2,d2⟩,some ⟨gt,0,none⟩,u0⟩ } :FC)) ⟨by dsimp only;omega,x1,(aQ (fun x=>x.1.names) r0).trans d1,⟨(aQ (fun x=>x.1.locals) r0).trans c1,by have h1:=(iB (Zk x2.l) ({ g with most:=0 } :FC).er).s;have h2:o.er.stm=_:=aQ (fun x=>x.1.stm) r0;show 0<=o.er.stm;rw [h2];exact Int.le_trans v0 h1⟩,fun _=>i0,by show (((o.ths.l.set i ⟨y.nm,y.loc,m2,b2,d2⟩).set i ⟨y.nm,o.most,m2,b2,d2⟩).map Th.er).length=_;rw [aI,bK,bK];exact a0⟩ (by dsimp only;omega)) Zn leA
   have hE:Fnd.bodies f1 0 (B.map fun x=>Zk x.l)=g.er:=by
    rcases dJ i B.length with b|b
    . rw [w0];exact Mw (fun hg=>by revert h0;rw [dA (show (i:Int)<B.length by omega),show g.flaw=0 from hg];decide) _ _
    rw [w0,cL b];rfl
   rw [hE] at hR;clear ih w0;refine rn [6,0,2] ?_;refine xp 113 ?_ ?_<;>intro h1
   . rw [if_pos (show g.er.flaw≠0 from h1)] at hR;refine rn [2,0,1,2,3,4,5,6,7,8,0] ?_;refine cS (q':=fcM FC.z::_) (dK (fun _ _ _=>De _)) ?_;refine Zq (fcM FC.z::q) func91 (O9 results91) ⟨_,rfl,FC.z,g.pl,g.pc,g.flaw,rfl,rfl,by rw [<-hR];exact h1⟩
   rw [if_neg (show ¬g.er.flaw≠0 from fun p=>p h1)] at hR;have i0:=t1 h1;have w1:=s2 i0;have hN:Kn (fcM g::q) fun M=>g.names.At M nmC:=kX (φ:=fun M=>g.At M) knA fun M h=>h.names;have b0:=dV hN;have r:=Zx (f:=nmC) (sz:=3) (fun _=>rfl) g.names.l
   obtain ⟨⟨nl,na,nc⟩,hf⟩: ∃ x,g.names=x:=⟨_,rfl⟩;rw [hf] at b0 r;dsimp only at b0 r;have f0:g.er.names=nl:=(by simp only [FC.er,hf]);obtain ⟨j,hj⟩: ∃ j,A=j+1:=⟨A - 1,by omega⟩;have b:j<nl.length:=(by rw [<-f0,d1];omega);refine rn [5,0] ?_;refine aW 120 (.slice na nl.length nc) rfl (by show g.names.v=_;rw [hf];rfl) ?_;refine oo 1 ?_;refine aW 121 (Al j) rfl (aQ (Value.int .i64) (by omega)) ?_;refine Ql b0 (by rw [r];omega) fun b3 o3 e3=> ?_;subst e3;refine oo 2 ?_;refine ld ?_ (hc:=(dW (n:=j) b0 leA (fun _=>rfl) b rfl 2 _ rfl));refine rn [2,0,4,0,1,0,0,2] ?_;refine cS (q':=fcM ({ g with main:=nl[j].s } :FC)::_) (dK (kX (φ:=fun M=>g.At M) knA fun M h=>FC.At.mn h)) ?_;refine Zq (fcM ({ g with main:=nl[j].s } :FC)::q) func91 (O9 results91) ⟨_,rfl,({ g with main:=nl[j].s } :FC),0,0,0,rfl,rfl,by rw [<-hR,f0,hj,fO,gD (by simpa using b)];refine ⟨rfl,?_⟩;simp [FC.er,hf]⟩
 have hN:Kn (fcM g::q) fun M=>g.names.At M nmC:=kX (φ:=fun M=>g.At M) knA fun M h=>h.names;have b0:=dV hN;have r:=Zx (f:=nmC) (sz:=3) (fun _=>rfl) g.names.l
 obtain ⟨⟨nl,na,nc⟩,hf⟩: ∃ x,g.names=x:=⟨_,rfl⟩;rw [hf] at b0 r;dsimp only at b0 r;have f0:g.er.names=nl:=by simp only [FC.er,hf]
 have j3:A<=nl.length:=by rw [<-z0,<-f0];exact Mn
 refine rn [3,0,2] ?_;refine kQ 55 rfl ?_ ?_<;>intro h1
 . replace h1:=sp h1;refine oo 3 ?_;refine kQ 58 rfl ?_ ?_<;>intro h2
   . replace h2 := sp h2; refine rn [12,0,1] ?_; refine Zv call160 (aH _) (U5 (f := g) knA) ?_; rintro _ _ ⟨o, rfl, rfl, a0⟩; refine rn [0,1] ?_; -- ['guard T', 'guard T']
     exact aX (K o (by rw [<-c0,if_pos (by exact ⟨h1,.inl (by omega)⟩)];exact a0)) Zn leA
   replace h2:=sp h2;refine rn [1,0] ?_;refine aW 60 (.slice na nl.length nc) rfl (by show g.names.v=_;rw [hf];rfl) ?_;obtain ⟨i,hi⟩: ∃ i,A=i+1:=⟨A - 1,by omega⟩;have b:i<nl.length:=by omega
   refine oo 1 ?_;refine aW 61 (Al i) rfl (aQ (Value.int .i64) (by omega)) ?_;refine Ql b0 (by rw [r];omega) fun b3 o3 e3=> ?_;subst e3;refine oo 2 ?_;refine ld ?_ (hc:=(dW (n:=i) b0 leA (fun _=>rfl) b rfl 1 _ rfl));refine ox 4 ?_;refine xp 67 ?_ ?_<;>intro h3
   . refine rn [2,0,1] ?_; refine Zv call160 (aH _) (U5 (f := g) knA) ?_; rintro _ _ ⟨o, rfl, rfl, a0⟩; refine rn [0,1] ?_; -- ['guard T', 'guard F', 'adr3', 'cond T']
     exact aX (K o (by rw [<-c0,if_pos (by refine ⟨h1,.inr ?_⟩;rw [f0,hi,fO,gD (by simpa using b)];simpa using h3)];exact a0)) Zn leA
   refine xx 2 ?_; -- ['guard T', 'guard F', 'adr3', 'cond F']
   exact aX (K g (by rw [<-c0,if_neg (by rintro ⟨_,p|p⟩;omega;revert p;rw [f0,hi,fO,gD (by simpa using b)];simpa using h3)])) Zn leA
 replace h1 := sp h1; refine ox 15 ?_; -- ['guard F']
 exact aX (K g (by rw [<-c0,if_neg (by exact fun p=>h1 p.1)])) Zn leA
variable {s:ByteArray}
theorem text_ok:CallF prog G 44 [.string s] (q) (Ret fun v q'=> ∃ (g:FC) (y z e:Int),v= .tuple [.agg (pgC g).toArray,.agg [Value.int .i64 y,I64 z].toArray,I64 e].toArray/\q'=fcM g::q/\(match Vi (bs s) with|none=>e≠0|some F=>e=0/\g.er=F)):=by
 refine aB func44 ntmps44 rfl fun F n=> ?_;obtain ⟨R,b⟩: ∃ R,Vi (bs s)=R:=⟨_,rfl⟩;rw [b];unfold Vi at b;refine xo 2 ?_;refine Zh zeroValue29 fun l=> ?_
 refine Zh zeroValue104 fun k=> ?_
 refine oo 5 ?_;refine Zv call90 (aH _) (Parse_ok) ?_;rintro _ _ (⟨f,a,c,d,rfl,rfl⟩|⟨d,y,z,e,h,rfl,rfl⟩)
 iterate 2
  focus
   rw [d] at b;dsimp only at b;refine oo 4 ?_;refine Zh zeroValue104 fun j=> ?_
   refine rn [1,0,8] ?_
  rotate_left
 . refine rn [1015,5] ?_;refine Zv call91 (aH _) (find_ok (m:=f) knA (parse_nd d)) ?_;rintro _ _ ⟨g,y,z,e,rfl,rfl,i⟩;refine rn [3,0,0,2] ?_;refine Zq (fcM g::q) func44 (O9 results44) ⟨_,rfl,g,y,z,e,rfl,rfl,by rw [<-b];exact i⟩
 refine jC 15 ?_ rfl (by rw [iA];exact h);refine rn [2,0,1,2,3,4,5,6,0] ?_;refine cS (q':=fcM FC.z::_) (dK (fun _ _ _=>De _)) ?_;refine Zq (fcM FC.z::q) func44 (O9 results44) ⟨_,rfl,FC.z,y,z,e,rfl,rfl,by rw [<-b];exact h⟩
end
end Go.Proofs.YtadahhbefdnabaaGreatDoor
namespace Go.Proofs.YtadahhbefdnabaaGreatDoor
open Go Go.RowKit Wx Go.Proofs.Tryz
variable {i c d g p n N p2:Nat}{G:World}{q r:List HP}{a b:Option Addr}{l:List (SlV Int)}{m:List Int}{t k at_ number:Int}{v:Value}
structure Ch where
 room:Int
 all:List Int
 taken:Nat
structure Sy where
 owners:List Int
 conds:List (List Int)
 chans:List Ch
variable {s s2:Sy}
def Ch.items (c:Ch):List Int:=c.all.drop c.taken
abbrev thr (t:Int):Prop:=0<=t/\t<=7
abbrev val (v:Int):Prop:= -2147483648<=v/\v<=2147483647
def ch0:Ch:=⟨1, [],0⟩
def Ch.ok (n:Nat)(c:Ch):Prop:=(1<=c.room/\c.room<=16)/\c.taken<=c.all.length/\c.all.length<=n/\(c.items.length:Int)<=c.room/\ ∀ v∈c.all,val v
structure Sy.ok (n:Nat) (s:Sy):Prop where
 no:s.owners.length<=64
 nc:s.conds.length<=64
 nh:s.chans.length<=64
 o: ∀ o∈s.owners, -1<=o/\o<=7
 c: ∀ l∈s.conds,l.length<=n/\ ∀ t∈l,thr t
 h: ∀ x∈s.chans,x.ok n
theorem Xs {α:Type}{l:List α}{d:α}(h:i<l.length):l.getD i d∈l:=by
 have:l.getD i d=l[i]:=by simp [List.getD,h]
 rw [this];exact aC _
theorem Tryz.info3:(prog.info? 3).map (fun i=>(i.zero,i.size,i.bytes))=some (some (I64 0),1,8):=by kernel_rfl
abbrev gQ:=@Tryz.info3
theorem Tryz.info2:(prog.info? 2).map (fun i=>(i.zero,i.size,i.bytes))=some (some (I64 0),1,8):=by kernel_rfl
abbrev jE:=@Tryz.info2
theorem Tryz.info268:(prog.info? 268).map (fun i=>(i.zero,i.size,i.bytes))=some (some (.agg #[.slice none 0 0]),1,24):=by kernel_rfl
abbrev iX:=@Tryz.info268
theorem Tryz.info251:(prog.info? 251).map (fun i=>(i.zero,i.size,i.bytes))=some (some (.agg #[.slice none 0 0,I64 0,I64 0]),3,40):=by kernel_rfl
abbrev gU:=@Tryz.info251
def lsV (ty:TypeId)(x:SlV Int):HP:=lsH I64 ty x.a x.c x.l
def cqs (x:SlV Int):List Value:= [.slice x.a x.l.length x.c]
structure ChC where
 q:SlV Int
 room:Int
 sent:Int
def chs (x:ChC):List Value:= [.slice x.q.a x.q.l.length x.q.c,I64 x.room,I64 x.sent]
structure SyC where
 ao:Option Addr
 co:Nat
 owners:List Int
 ac:Option Addr
 cc:Nat
 conds:List (SlV Int)
 ah:Option Addr
 ch:Nat
 chans:List ChC
variable {U σ2:SyC}
def syL (p:Nat)(s:SyC):List HP:= [pto p (.cells [.bool true,.slice s.ao s.owners.length s.co,.slice s.ac s.conds.length s.cc,.slice s.ah s.chans.length s.ch].toArray 247 (0,0)),
 lsH I64 3 s.ao s.co s.owners,rsH cqs 1 268 s.ac s.cc s.conds,stars (s.conds.map (lsV 3)),rsH chs 3 251 s.ah s.ch s.chans,stars (s.chans.map fun x=>lsV 2 x.q)]
def Ch.row (c:Ch):List Int×Int×Int:=(c.items,c.room,c.all.length)
def ChC.row (x:ChC):List Int×Int×Int:=(x.q.l,x.room,x.sent)
structure Real (U:SyC) (s:Sy):Prop where
 o:U.owners=s.owners
 c:U.conds.map (·.l)=s.conds
 h:U.chans.map ChC.row=s.chans.map Ch.row
theorem Real.lc (r:Real U s):U.conds.length=s.conds.length:=by rw [<-r.c];simp
theorem Real.lh (r:Real U s):U.chans.length=s.chans.length:=by have:=aQ List.length r.h;simpa using this
theorem Real.cl (r:Real U s)(h:i<U.conds.length):s.conds.getD i []=U.conds[i].l:=by
 have a:i<s.conds.length:=by rw [<-r.lc];exact h
 have:=aQ (·[i]?) r.c;simp only [bJ,aE h,aE a,iL] at this;rw [List.getD,aE a];exact (dT this).symm
theorem Real.hl (r:Real U s)(h:i<U.chans.length):(s.chans.getD i ch0).row=U.chans[i].row:=by
 have a:i<s.chans.length:=by rw [<-r.lh];exact h
 have:=aQ (·[i]?) r.h;simp only [bJ,aE h,aE a,iL] at this;rw [List.getD,aE a];exact (dT this).symm
section
variable {l:List Int}
theorem Hx {l:List Int}(hs:Sees q a (l.map I64))(hL:l.length<=1000000000):CallF prog G 94 [.slice a l.length c] (q) (Ret fun v q'=> ∃ a' c',v= .slice a' l.length c'/\q'=lsH I64 3 a' c' l::q):=by
 refine aB func94 ntmps94 rfl fun F k=> ?_;rcases cW l.length with b|b
 . obtain rfl:=aS b;refine xx 10 ?_;refine cY 4 rfl ?_ ?_<;>intro j
   . refine xx 5 ?_;refine Zq (lsH I64 3 none 0 []::q) func94 (Zf results94 rfl) ⟨_,rfl,none,0,rfl,rfl⟩ ((leA).trans (Z1 _ _ _))
   refine xo 4 ?_;refine bU (Ry I64 underlying23 gQ) ?_;rintro _ _ ⟨g,rfl,rfl⟩;refine oo 1 ?_;refine bU (Yb (f:=I64) (l:= []) (m:= []) underlying23 gQ rfl rfl rfl Zj (hs.le leA) (fun _=>rfl) (by simp;try omega) (by simp;try omega)) ?_;rintro _ _ ⟨e,d,rfl,rfl⟩;refine ox 2 ?_;refine Zq (lsH I64 3 e d []::q) func94 (Zf results94 rfl) ⟨_,rfl,e,d,by simp,rfl⟩
 refine Z7 hs (by simp;omega) fun n i h=> ?_;subst h;refine rn [10,1004,4] ?_;refine bU (Ry I64 underlying23 gQ) ?_;rintro _ _ ⟨g,rfl,rfl⟩;refine oo 1 ?_;refine bU (Yb (f:=I64) (l:= []) (m:=l) underlying23 gQ rfl rfl rfl Zj (hs.le leA) (fun _=>rfl) (by simp;try omega) (by simp;try omega)) ?_;rintro _ _ ⟨e,d,rfl,rfl⟩;refine ox 2 ?_;refine Zq (lsH I64 3 e d l::q) func94 (Zf results94 rfl) ⟨_,rfl,e,d,by simp,rfl⟩
theorem Jx {l:List Int}(hs:Sees q a (l.map I64))(hL:l.length<=1000000000):CallF prog G 93 [.slice a l.length c] (q) (Ret fun v q'=> ∃ a' c',v= .slice a' l.length c'/\q'=lsH I64 2 a' c' l::q):=by
 refine aB func93 ntmps93 rfl fun F k=> ?_;rcases cW l.length with b|b
 . obtain rfl:=aS b;refine xx 10 ?_;refine cY 4 rfl ?_ ?_<;>intro j
   . refine xx 5 ?_;refine Zq (lsH I64 2 none 0 []::q) func93 (Zf results93 rfl) ⟨_,rfl,none,0,rfl,rfl⟩ ((leA).trans (Z1 _ _ _))
   refine xo 4 ?_;refine bU (Ry I64 underlying22 jE) ?_;rintro _ _ ⟨g,rfl,rfl⟩;refine oo 1 ?_;refine bU (Yb (f:=I64) (l:= []) (m:= []) underlying22 jE rfl rfl rfl Zj (hs.le leA) (fun _=>rfl) (by simp;try omega) (by simp;try omega)) ?_;rintro _ _ ⟨e,d,rfl,rfl⟩;refine ox 2 ?_;refine Zq (lsH I64 2 e d []::q) func93 (Zf results93 rfl) ⟨_,rfl,e,d,by simp,rfl⟩
 refine Z7 hs (by simp;omega) fun n i h=> ?_;subst h;refine rn [10,1004,4] ?_;refine bU (Ry I64 underlying22 jE) ?_;rintro _ _ ⟨g,rfl,rfl⟩;refine oo 1 ?_;refine bU (Yb (f:=I64) (l:= []) (m:=l) underlying22 jE rfl rfl rfl Zj (hs.le leA) (fun _=>rfl) (by simp;try omega) (by simp;try omega)) ?_;rintro _ _ ⟨e,d,rfl,rfl⟩;refine ox 2 ?_;refine Zq (lsH I64 2 e d l::q) func93 (Zf results93 rfl) ⟨_,rfl,e,d,by simp,rfl⟩
theorem Zyu {l:List (SlV Int)}(hs:Sees q a (l.flatMap cqs))(hL:l.length<=1000000000):CallF prog G 192 [.slice a l.length c] (q) (Ret fun v q'=> ∃ a' c',v= .slice a' l.length c'/\q'=rsH cqs 1 268 a' c' l::q):=by
 refine aB func192 ntmps192 rfl fun F n=> ?_;rcases cW l.length with d|d
 . obtain rfl:=aS d;refine xx 10 ?_;refine cY 4 rfl ?_ ?_<;>intro k
   . refine xx 5 ?_;refine Zq (rsH cqs 1 268 none 0 []::q) func192 (Zf results192 rfl) ⟨_,rfl,none,0,rfl,rfl⟩ ((leA).trans (Zc _ _ _ _))
   refine xo 4 ?_;refine bU (U3 cqs underlying244 iX) ?_;rintro _ _ ⟨g,rfl,rfl⟩;refine oo 1 ?_;refine bU (Z4 (l:= []) (m:= []) underlying244 iX rfl rfl (fun _=>rfl) rfl rfl Zj (hs.le leA) (fun _=>rfl) (by simp;try omega) (by simp;try omega)) ?_;rintro _ _ ⟨h,e,rfl,rfl⟩;refine ox 2 ?_;refine Zq (rsH cqs 1 268 h e []::q) func192 (Zf results192 rfl) ⟨_,rfl,h,e,by simp,rfl⟩
 have b:=Zx (f:=cqs) (sz:=1) (fun _=>rfl) l;refine Z7 hs (by rw [b];omega) fun o j i=> ?_;subst i;refine rn [10,1004,4] ?_;refine bU (U3 cqs underlying244 iX) ?_;rintro _ _ ⟨g,rfl,rfl⟩;refine oo 1 ?_;refine bU (Z4 (l:= []) (m:=l) underlying244 iX rfl rfl (fun _=>rfl) rfl rfl Zj (hs.le leA) (fun _=>rfl) (by simp;try omega) (by simp;try omega)) ?_;rintro _ _ ⟨h,e,rfl,rfl⟩;refine ox 2 ?_;refine Zq (rsH cqs 1 268 h e l::q) func192 (Zf results192 rfl) ⟨_,rfl,h,e,by simp,rfl⟩
theorem Zyp {l:List ChC}(hs:Sees q a (l.flatMap chs))(hL:l.length<=1000000000):CallF prog G 193 [.slice a l.length c] (q) (Ret fun v q'=> ∃ a' c',v= .slice a' l.length c'/\q'=rsH chs 3 251 a' c' l::q):=by
 refine aB func193 ntmps193 rfl fun F n=> ?_;rcases cW l.length with d|d
 . obtain rfl:=aS d;refine xx 10 ?_;refine cY 4 rfl ?_ ?_<;>intro k
   . refine xx 5 ?_;refine Zq (rsH chs 3 251 none 0 []::q) func193 (Zf results193 rfl) ⟨_,rfl,none,0,rfl,rfl⟩ ((leA).trans (Zc _ _ _ _))
   refine xo 4 ?_;refine bU (U3 chs underlying245 gU) ?_;rintro _ _ ⟨g,rfl,rfl⟩;refine oo 1 ?_;refine bU (Z4 (l:= []) (m:= []) underlying245 gU rfl rfl (fun _=>rfl) rfl rfl Zj (hs.le leA) (fun _=>rfl) (by simp;try omega) (by simp;try omega)) ?_;rintro _ _ ⟨h,e,rfl,rfl⟩;refine ox 2 ?_;refine Zq (rsH chs 3 251 h e []::q) func193 (Zf results193 rfl) ⟨_,rfl,h,e,by simp,rfl⟩
 have b:=Zx (f:=chs) (sz:=3) (fun _=>rfl) l;refine Z7 hs (by rw [b];omega) fun o j i=> ?_;subst i;refine rn [10,1004,4] ?_;refine bU (U3 chs underlying245 gU) ?_;rintro _ _ ⟨g,rfl,rfl⟩;refine oo 1 ?_;refine bU (Z4 (l:= []) (m:=l) underlying245 gU rfl rfl (fun _=>rfl) rfl rfl Zj (hs.le leA) (fun _=>rfl) (by simp;try omega) (by simp;try omega)) ?_;rintro _ _ ⟨h,e,rfl,rfl⟩;refine ox 2 ?_;refine Zq (rsH chs 3 251 h e l::q) func193 (Zf results193 rfl) ⟨_,rfl,h,e,by simp,rfl⟩
end
section
variable {α:Type}{f:α->List Value}{sz ty:Nat}{c0:Nat}{l:List α}{u:Option Addr->Nat->α}
theorem Cl.at {o:Nat}{y:α}{k:Nat}(hs:Sees q (some ⟨g,0,none⟩) (l.flatMap f))(hf: ∀ x,(f x).length=sz)(hi:l[i]? =some y)(hk:k<sz)(hv:(f y)[k]? =some v)(ho:o=i*sz+k):Cl q ⟨g,o,none⟩ v:=by
 subst ho;have:=hs.cl (i:=i*sz+k) (u:=v) (by rw [Tm hf l i k y hk hi];exact hv);simpa using this
abbrev AQ (v0:Option Addr)(v1:List Int)(v2:Nat):=((.slice v0 v1.length v2):Value)
theorem put_ok (hi:i<l.length)(hf: ∀ x,(f x).length=sz)(hk:(f l[i])[0]? =some (AQ a m c))(hz:Nat.blt 0 sz=true)(hm:m.length<=1000000000)(hu: ∀ a' c',(f l[i]).set 0 (.slice a' (m++ [t]).length c')=f (u a' c')):CallF prog G 324 [.pointer (some ⟨g,i*sz,none⟩),I64 t] ([rsH f sz ty (some ⟨g,0,none⟩) c0 l,lsH I64 3 a c m]) (Ret fun v q'=> ∃ a' c',q'= [rsH f sz ty (some ⟨g,0,none⟩) c0 (l.set i (u a' c')),lsH I64 3 a' c' (m++ [t])]):=by
 refine aB func324 ntmps324 rfl fun F q=> ?_;have e:0<sz:=by simpa [fI] using hz
 have o:Sees (rsH f sz ty (some ⟨g,0,none⟩) c0 l::lsH I64 3 a c m::F) (some ⟨g,0,none⟩) (l.flatMap f):=cI _;have h:Cl (rsH f sz ty (some ⟨g,0,none⟩) c0 l::lsH I64 3 a c m::F) ⟨g,i*sz,none⟩ (AQ a m c):=Cl.at o hf (aE hi) e hk (by omega);change X _ _ _ _ _ _ _ _ (rsH f sz ty (some ⟨g,0,none⟩) c0 l::lsH I64 3 a c m::F);refine xo 5 ?_;refine ld ?_ (hc:=h);refine oo 1 ?_;refine bU (Uk (u:=t) I64 underlying23 gQ rfl rfl) ?_;rintro _ _ ⟨p,rfl,rfl⟩;refine bU (Yb (f:=I64) (l:=m) (m:= [t]) underlying23 gQ rfl rfl rfl Zj ((bY _).le leA) (fun _=>rfl) (by simp;omega) (by simp;omega)) ?_;rintro _ _ ⟨d,b,rfl,rfl⟩;refine oo 2 ?_;refine dM (V4 (g:=g) (f:=f) (l:=l) (u:=(u d b)) (n:=i) (k:=0) (j:=(i:Int)) (by simp [evp,lkp]) rfl sizeOf23 hf rfl hi hz (hu _ _) rfl rfl Zj) ?_;rintro _ _ ⟨rfl,rfl⟩;refine ox 1 ?_;refine Zr [rsH f sz ty (some ⟨g,0,none⟩) c0 (l.set i (u d b)),lsH I64 3 d b (m++ [t])] func324 (Yy results324) ⟨_,rfl,d,b,rfl⟩
theorem all_ok (hi:i<l.length)(hf: ∀ x,(f x).length=sz)(hk:(f l[i])[0]? =some (AQ a m c))(hz:Nat.blt 0 sz=true)(hm:m.length<=1000000000):CallF prog G 194 [.pointer (some ⟨g,i*sz,none⟩)] ([rsH f sz ty (some ⟨g,0,none⟩) c0 l,lsH I64 3 a c m]) (Ret fun v q'=> ∃ a' c',v= .slice a' m.length c'/\q'= [lsH I64 3 a' c' m,rsH f sz ty (some ⟨g,0,none⟩) c0 l,lsH I64 3 a c m]):=by
 refine aB func194 ntmps194 rfl fun F k=> ?_;have b:0<sz:=by simpa [fI] using hz
 have j:Sees (rsH f sz ty (some ⟨g,0,none⟩) c0 l::lsH I64 3 a c m::F) (some ⟨g,0,none⟩) (l.flatMap f):=cI _;have d:Cl (rsH f sz ty (some ⟨g,0,none⟩) c0 l::lsH I64 3 a c m::F) ⟨g,i*sz,none⟩ (AQ a m c):=Cl.at j hf (aE hi) b hk (by omega);change X _ _ _ _ _ _ _ _ (rsH f sz ty (some ⟨g,0,none⟩) c0 l::lsH I64 3 a c m::F);refine xo 9 ?_;refine ld ?_ (hc:=d);refine Zv call94 (aH _) (Hx (a:=a) (c:=c) (l:=m) ((bY _).le leA) (by omega)) ?_;rintro _ _ ⟨h,e,rfl,rfl⟩;refine ox 2 ?_;refine Zq [lsH I64 3 h e m,rsH f sz ty (some ⟨g,0,none⟩) c0 l,lsH I64 3 a c m] func194 (Zf results194 rfl) ⟨_,rfl,h,e,rfl,rfl⟩
theorem all64_ok (hi:i<l.length)(hf: ∀ x,(f x).length=sz)(hk:(f l[i])[0]? =some (AQ a m c))(hz:Nat.blt 0 sz=true)(hm:m.length<=1000000000):CallF prog G 195 [.pointer (some ⟨g,i*sz,none⟩)] ([rsH f sz ty (some ⟨g,0,none⟩) c0 l,lsH I64 2 a c m]) (Ret fun v q'=> ∃ a' c',v= .slice a' m.length c'/\q'= [lsH I64 2 a' c' m,rsH f sz ty (some ⟨g,0,none⟩) c0 l,lsH I64 2 a c m]):=by
 refine aB func195 ntmps195 rfl fun F k=> ?_;have b:0<sz:=by simpa [fI] using hz
 have j:Sees (rsH f sz ty (some ⟨g,0,none⟩) c0 l::lsH I64 2 a c m::F) (some ⟨g,0,none⟩) (l.flatMap f):=cI _;have d:Cl (rsH f sz ty (some ⟨g,0,none⟩) c0 l::lsH I64 2 a c m::F) ⟨g,i*sz,none⟩ (AQ a m c):=Cl.at j hf (aE hi) b hk (by omega);change X _ _ _ _ _ _ _ _ (rsH f sz ty (some ⟨g,0,none⟩) c0 l::lsH I64 2 a c m::F);refine xo 9 ?_;refine ld ?_ (hc:=d);refine Zv call93 (aH _) (Jx (a:=a) (c:=c) (l:=m) ((bY _).le leA) (by omega)) ?_;rintro _ _ ⟨h,e,rfl,rfl⟩;refine ox 2 ?_;refine Zq [lsH I64 2 h e m,rsH f sz ty (some ⟨g,0,none⟩) c0 l,lsH I64 2 a c m] func195 (Zf results195 rfl) ⟨_,rfl,h,e,rfl,rfl⟩
end
theorem Real.lo (r:Real U s):U.owners.length=s.owners.length:=by rw [r.o]
theorem Le.focV {ty:TypeId}(hi:i<l.length)(hq:Le q (stars (l.map (lsV ty))::r):=by exact Zj):Le q (lsH I64 ty l[i].a l[i].c l[i].l::stars ((l.eraseIdx i).map (lsV ty))::r):=hq.trans (Le.focus (lsV ty) hi r)
theorem Le.unfV {ty:TypeId}(hi:i<l.length)(hq:Le q (lsH I64 ty a c m::stars ((l.eraseIdx i).map (lsV ty))::r):=by exact bD Zj Zj):Le q (stars ((l.set i ⟨a,c,m⟩).map (lsV ty))::r):=hq.trans (Bh (lsV ty) hi ⟨a,c,m⟩ r)
theorem clLe {q':List HP}{A:Addr}(h:Cl q' A v)(l:Le q q'):Cl q A v:=fun G w s=>h G w (s.le l)
theorem Le.focH {ty:TypeId}{l:List ChC}(hi:i<l.length)(hq:Le q (stars (l.map fun x=>lsV ty x.q)::r):=by exact Zj):Le q (lsH I64 ty l[i].q.a l[i].q.c l[i].q.l::stars ((l.eraseIdx i).map fun x=>lsV ty x.q)::r):=hq.trans (Le.focus (fun (x:ChC)=>lsV ty x.q) hi r)
theorem Le.unfH {ty:TypeId}{l:List ChC}(hi:i<l.length)(x:ChC)(hq:Le q (lsH I64 ty x.q.a x.q.c x.q.l::stars ((l.eraseIdx i).map fun x=>lsV ty x.q)::r):=by exact bD Zj Zj):Le q (stars ((l.set i x).map fun x=>lsV ty x.q)::r):=hq.trans (Bh (fun (x:ChC)=>lsV ty x.q) hi x r)
section
variable {v:Int}
abbrev AD (v0:List HP):=(Ret fun v q'=>v= .bool true/\q'=v0)
theorem there_ok (h:Cl q ⟨p,0,none⟩ bT):CallF prog G 126 [.pointer (some ⟨p,0,none⟩)] (q) (AD q):=by
 refine aB func126 ntmps126 rfl fun F a=> ?_;refine rn [9,2005,3] ?_;refine ld ?_ (hc:=(clLe h leA));refine ox 3 ?_;refine Zq (q) func126 (Zf results126 rfl) ⟨_,rfl,rfl,rfl⟩
end
section
variable {v m:Int}
theorem Sy.ok.lenC (h:s.ok N)(hR:Real U s)(hi:i<U.conds.length)(hN:N<=1000000000):U.conds[i].l.length<=1000000000:=by
 rw [<-hR.cl hi];exact dR (h.c _ (Xs (by rw [<-hR.lc];exact hi))).1 hN
theorem Sy.ok.lenH (h:s.ok N)(hR:Real U s)(hi:i<U.chans.length)(hN:N<=1000000000):U.chans[i].q.l.length<=1000000000:=by
 have e:=aQ Prod.fst (hR.hl hi);have a:U.chans[i].q.l=(s.chans.getD i ch0).items:=e.symm;rw [a];unfold Ch.items;rw [cE];have:=(h.h _ (Xs (d:=ch0) (show i<s.chans.length by rw [<-hR.lh];exact hi))).2.2.1;omega
end
theorem Cd {α β:Type}(f:α->List β): ∀ (l:List α) (i n:Nat) (hi:i<l.length) (hn:n<(f l[i]).length),(l.flatMap f)[((l.take i).flatMap f).length+n]? =some (f l[i])[n]
 | [],_,_,hi,_=>by simp at hi
 |x::r,0,n,_,hn=>by
  simp only [fT] at hn;simp [dB,hn]
 |x::r,i+1,n,hi,hn=>by
  have:=Cd f r i n (by simpa using hi) (by simpa using hn);simp only [List.take_succ_cons,bZ,aA,fU];rw [dG (by omega),<-this];congr 1;omega
theorem If {α β:Type}(f:α->List β){l:List α}(hi:i<l.length):((l.take (i+1)).flatMap f).length=((l.take i).flatMap f).length+(f l[i]).length:=by
 rw [aN hi,eK,aA];simp
def wl (U:SyC):List Int:=U.conds.flatMap (·.l)
def w1 (x:Int):List Value:= [I64 x]
theorem P9 {α:Type}(h:α->HP)(l:List α)(hx: ∀ x∈l,∀ q,Le q (h x::q))(q:List HP):Le q (stars (l.map h)::q):=by
 induction l with
 |nil=>exact Yr q
 |cons x r ih=>exact (ih fun y a=>hx y (bX _ a)).trans ((hx x (bW ..) _).trans (U1 _ _ q))
theorem F1 {α:Type}(f d:List α)(i:Nat)(x:α)(hf:f.length=i)(hd:0<d.length):(f++d).set i x=(f++ [x])++d.drop 1:=by
 subst hf
 cases d with
 |nil=>simp at hd
 |cons y r=>simp
section
variable {v m:Int}
def sameS (s t:Sy):Prop:=s.owners=t.owners/\s.conds=t.conds/\s.chans.map Ch.row=t.chans.map Ch.row
instance (s t:Sy):Decidable (sameS s t):=by unfold sameS;exact inferInstance
end
def P1 (m c:Nat)(rooms:List Int):Sy:=⟨List.replicate m (-1),List.replicate c [],rooms.map fun r=>⟨r, [],0⟩⟩
abbrev Gu (r:Int):Prop:=1<=r/\r<=16
def Bk (m c:Int)(rooms:List Int):Prop:=(0<=m/\m<=64)/\(0<=c/\c<=64)/\rooms.length<=64/\ ∀ r∈rooms,Gu r
instance (m c:Int) (rooms:List Int):Decidable (Bk m c rooms):=by unfold Bk;exact inferInstance
def ch1 (r:Int):ChC:=⟨⟨none,0, []⟩,r,0⟩
section
variable {v m mm cc:Int}{rooms:List Int}
theorem New_no (hs:Sees q a (rooms.map I64))(ok: ¬Bk mm cc rooms):CallF prog G 53 [I64 mm,I64 cc,.slice a rooms.length c] (q) (Ret fun v q'=>v= .tuple [.pointer none,I64 2].toArray/\q'=q):=by
 refine aB func53 ntmps53 rfl fun F cs=> ?_;refine xo 11 ?_;refine bB [13,7,6,0,1,2] ?_;apply Zb 3 16 13 rfl
 . intro b d;have h:=sp b;refine oo 3 ?_;exact Zz d ⟨orF b,Zw⟩
 . intro b d;have h:=sp b;refine oo 3 ?_;exact Zz d ⟨orT b,Zw⟩
 refine oo 1 ?_;refine bB [17,7,6,0,1,2] ?_;apply Zb 3 20 17 rfl
 . intro b d;have h:=sp b;refine oo 3 ?_;exact Zz d ⟨orF b,Zw⟩
 . intro b d;have h:=sp b;refine oo 3 ?_;exact Zz d ⟨orT b,Zw⟩
 refine oo 1 ?_;refine bB [21,7,6,0,1,2] ?_;apply Zb 3 24 21 rfl
 . intro b d;have h:=sp b;refine oo 3 ?_;exact Zz d ⟨orF b,Zw⟩
 . intro b d;have h:=sp b;refine oo 3 ?_;exact Zz d ⟨orT b,Zw⟩
 refine oo 1 ?_;refine bB [25,7,6,0,1,2] ?_;apply Zb 4 29 25 rfl
 . intro b d;have h:=sp b;refine oo 4 ?_;exact Zz d ⟨orF b,Zw⟩
 . intro b d;have h:=sp b;refine oo 4 ?_;exact Zz d ⟨orT b,Zw⟩
 refine ox 1 ?_;rcases eB ((0<=mm/\mm<=64)/\(0<=cc/\cc<=64)/\rooms.length<=64) with hf|hf
 . obtain ⟨⟨z,b0⟩,⟨a0,f0⟩,hl⟩:=hf;refine gG 29 ?_;obtain ⟨M,rfl⟩:=bP z;obtain ⟨C,rfl⟩:=bP a0;refine xo 5 ?_;refine bU (Ef.make (n:=C) rfl rfl underlying244 iX rfl rfl (by omega) (by omega)) ?_;rintro _ _ ⟨g,rfl,rfl⟩;refine eP (q':=rsH cqs 1 268 (some ⟨g,0,none⟩) C (List.replicate C ⟨none,0, []⟩)::(q++F)) (by unfold rsH;rw [show (List.replicate C (⟨none,0, []⟩:SlV Int)).flatMap cqs=(List.replicate C (Value.slice none 0 0).cells.toList).flatten by simp [List.flatMap,cqs,Value.cells],cO];exact leA) ?_;refine oo 1 ?_;refine Zl fun x=> ?_
   refine ox 9 ?_;refine aX (cC (fun (s:Nat×Option Addr×Nat)=>s.1<=M) (fun s=> [(2,.slice a rooms.length c),(8,pt x),(34,I64 M),(35,I64 (s.1:Int))]) (fun s=>pto x (.cells [.bool true,.slice s.2.1 (List.replicate s.1 (-1:Int)).length s.2.2,.slice (some ⟨g,0,none⟩) C C,.slice none 0 0].toArray 247 (0,0))::lsH I64 3 s.2.1 s.2.2 (List.replicate s.1 (-1))::rsH cqs 1 268 (some ⟨g,0,none⟩) C (List.replicate C ⟨none,0, []⟩)::(q++F)) (fun s=>M - s.1) (fun s e o=> ?_) (0,none,0) (by dsimp only;omega)) Zn (aM leA (aM (Z1 I64 3 _) leA));try dsimp only at e o|-
   obtain hi:=e;obtain ⟨i,a1,c1⟩:=s;dsimp only at*;refine xx 5 ?_;refine cY 36 rfl ?_ ?_<;>intro k
   . have k:=cU k;have e0:i<M:=(by omega);refine rn [9,0] ?_;refine bU (Uk (u:= -1) I64 underlying23 gQ rfl rfl) ?_;rintro _ _ ⟨g2,rfl,rfl⟩;refine bU (Yb (f:=I64) (l:=List.replicate i (-1)) (m:= [-1]) underlying23 gQ rfl rfl rfl Zj ((bY _).le leA) (fun _=>rfl) (by simp;omega) (by simp;omega)) ?_;rintro _ _ ⟨a2,c2,rfl,rfl⟩;rw [<-lC (n:=i)];refine rn [2,0,6] ?_;refine aX (o (i+1,a2,c2) (by dsimp only;omega) (by dsimp only;omega)) Zn leA
   have k:=of_decide_eq_false k;obtain rfl:i=M:=by omega
   clear o;refine xx 10 ?_;refine aX (cC (fun (s:Nat×Option Addr×Nat)=>s.1<=rooms.length/\ ∀ r∈rooms.take s.1,Gu r) (fun s=> [(8,pt x),(47,.slice a rooms.length c),(48,I64 rooms.length),(49,I64 (s.1:Int))]) (fun s=>pto x (.cells [.bool true,.slice a1 (List.replicate i (-1:Int)).length c1,.slice (some ⟨g,0,none⟩) C C,.slice s.2.1 ((rooms.take s.1).map ch1).length s.2.2].toArray 247 (0,0))::lsH I64 3 a1 c1 (List.replicate i (-1))::rsH cqs 1 268 (some ⟨g,0,none⟩) C (List.replicate C ⟨none,0, []⟩)::rsH chs 3 251 s.2.1 s.2.2 ((rooms.take s.1).map ch1)::(q++F)) (fun s=>rooms.length - s.1) (fun s e o=> ?_) (0,none,0) ⟨by dsimp only;omega,by simp⟩) Zn (aM leA (aM (Zc chs 3 251 _) leA));try dsimp only at e o|-
   obtain ⟨d0,w⟩:=e;obtain ⟨j,a3,c3⟩:=s;dsimp only at*;refine xx 5 ?_;refine cY 50 rfl ?_ ?_<;>intro k
   . have k:=cU k;have t:j<rooms.length:=(by omega);refine Z7 (hs.le leA) (by simp;omega) fun b1 o1 e_=> ?_;subst e_;refine rn [7,0,8] ?_;refine bB [55,10,8,47,48,49] ?_;apply Zb 3 58 55 rfl
     . intro b d;have h:=sp b;refine oo 3 ?_;exact Zz d ⟨orF b,Zw⟩
     . intro b d;have h:=sp b;refine oo 3 ?_;exact Zz d ⟨orT b,Zw⟩
     refine ox 1 ?_;rcases eB (Gu rooms[j]) with hk|hk
     . refine rn [1058,7,0,2] ?_;refine bU (Yz (u:=ch1 rooms[j]) chs underlying245 gU rfl rfl (fun _=>rfl) rfl) ?_;rintro _ _ ⟨g2,rfl,rfl⟩;have c0:((rooms.take j).map ch1).length=j:=by simp;omega
       refine bU (Z4 (l:=(rooms.take j).map ch1) (m:= [ch1 rooms[j]]) underlying245 gU rfl rfl (fun _=>rfl) rfl rfl Zj ((cI _).le leA) (fun _=>rfl) (by simp;omega) (by simp;omega)) ?_;rintro _ _ ⟨a4,c4,rfl,rfl⟩;rw [show (rooms.take j).map ch1++ [ch1 rooms[j]]=(rooms.take (j+1)).map ch1 by rw [aN t,aO];rfl];refine rn [2,0,6] ?_;refine aX (o (j+1,a4,c4) ⟨by dsimp only;omega,by dsimp only;rw [aN t];intro y p;rcases bE.1 p with p|p;exact w y p;rw [bN.1 p];exact hk⟩ (by dsimp only;omega)) Zn leA
     refine rn [2058,6] ?_;refine Zq (q) func53 (Q4 results53 rfl rfl) ⟨_,rfl,rfl,rfl⟩
   have k:=of_decide_eq_false k;obtain rfl:j=rooms.length:=by omega
   rw [bV] at*;exact aV ⟨⟨by omega,by omega⟩,⟨by omega,by omega⟩,hl,w⟩ ok
 refine rn [2029,6] ?_;refine Zq (q) func53 (Q4 results53 rfl rfl) ⟨_,rfl,rfl,rfl⟩
theorem New_ok (hs:Sees q a (rooms.map I64))(ok:Bk mm cc rooms):CallF prog G 53 [I64 mm,I64 cc,.slice a rooms.length c] (q) (Ret fun v q'=> ∃ p U,Real U (P1 mm.toNat cc.toNat rooms)/\v= .tuple [.pointer (some ⟨p,0,none⟩),I64 0].toArray/\q'=syL p U++q):=by
 refine aB func53 ntmps53 rfl fun F cs=> ?_;refine xo 11 ?_;refine bB [13,7,6,0,1,2] ?_;apply Zb 3 16 13 rfl
 . intro b d;have h:=sp b;refine oo 3 ?_;exact Zz d ⟨orF b,Zw⟩
 . intro b d;have h:=sp b;refine oo 3 ?_;exact Zz d ⟨orT b,Zw⟩
 refine oo 1 ?_;refine bB [17,7,6,0,1,2] ?_;apply Zb 3 20 17 rfl
 . intro b d;have h:=sp b;refine oo 3 ?_;exact Zz d ⟨orF b,Zw⟩
 . intro b d;have h:=sp b;refine oo 3 ?_;exact Zz d ⟨orT b,Zw⟩
 refine oo 1 ?_;refine bB [21,7,6,0,1,2] ?_;apply Zb 3 24 21 rfl
 . intro b d;have h:=sp b;refine oo 3 ?_;exact Zz d ⟨orF b,Zw⟩
 . intro b d;have h:=sp b;refine oo 3 ?_;exact Zz d ⟨orT b,Zw⟩
 refine oo 1 ?_;refine bB [25,7,6,0,1,2] ?_;apply Zb 4 29 25 rfl
 . intro b d;have h:=sp b;refine oo 4 ?_;exact Zz d ⟨orF b,Zw⟩
 . intro b d;have h:=sp b;refine oo 4 ?_;exact Zz d ⟨orT b,Zw⟩
 refine ox 1 ?_;rcases eB ((0<=mm/\mm<=64)/\(0<=cc/\cc<=64)/\rooms.length<=64) with hf|hf
 . obtain ⟨⟨a0,d0⟩,⟨c0,i0⟩,hl⟩:=hf;refine gG 29 ?_;obtain ⟨M,rfl⟩:=bP a0;obtain ⟨C,rfl⟩:=bP c0;refine xo 5 ?_;refine bU (Ef.make (n:=C) rfl rfl underlying244 iX rfl rfl (by omega) (by omega)) ?_;rintro _ _ ⟨g,rfl,rfl⟩;refine eP (q':=rsH cqs 1 268 (some ⟨g,0,none⟩) C (List.replicate C ⟨none,0, []⟩)::(q++F)) (by unfold rsH;rw [show (List.replicate C (⟨none,0, []⟩:SlV Int)).flatMap cqs=(List.replicate C (Value.slice none 0 0).cells.toList).flatten by simp [List.flatMap,cqs,Value.cells],cO];exact leA) ?_;refine oo 1 ?_;refine Zl fun t=> ?_
   refine ox 9 ?_;refine aX (cC (fun (s:Nat×Option Addr×Nat)=>s.1<=M) (fun s=> [(2,.slice a rooms.length c),(8,pt t),(34,I64 M),(35,I64 (s.1:Int))]) (fun s=>pto t (.cells [.bool true,.slice s.2.1 (List.replicate s.1 (-1:Int)).length s.2.2,.slice (some ⟨g,0,none⟩) C C,.slice none 0 0].toArray 247 (0,0))::lsH I64 3 s.2.1 s.2.2 (List.replicate s.1 (-1))::rsH cqs 1 268 (some ⟨g,0,none⟩) C (List.replicate C ⟨none,0, []⟩)::(q++F)) (fun s=>M - s.1) (fun s e w=> ?_) (0,none,0) (by dsimp only;omega)) Zn (aM leA (aM (Z1 I64 3 _) leA));try dsimp only at e w|-
   obtain hi:=e;obtain ⟨i,a1,c1⟩:=s;dsimp only at*;refine xx 5 ?_;refine cY 36 rfl ?_ ?_<;>intro k
   . have k:=cU k;have g0:i<M:=(by omega);refine rn [9,0] ?_;refine bU (Uk (u:= -1) I64 underlying23 gQ rfl rfl) ?_;rintro _ _ ⟨g2,rfl,rfl⟩;refine bU (Yb (f:=I64) (l:=List.replicate i (-1)) (m:= [-1]) underlying23 gQ rfl rfl rfl Zj ((bY _).le leA) (fun _=>rfl) (by simp;omega) (by simp;omega)) ?_;rintro _ _ ⟨a2,c2,rfl,rfl⟩;rw [<-lC (n:=i)];refine rn [2,0,6] ?_;refine aX (w (i+1,a2,c2) (by dsimp only;omega) (by dsimp only;omega)) Zn leA
   have k:=of_decide_eq_false k;obtain rfl:i=M:=by omega
   clear w;refine xx 10 ?_;refine aX (cC (fun (s:Nat×Option Addr×Nat)=>s.1<=rooms.length/\ ∀ r∈rooms.take s.1,Gu r) (fun s=> [(8,pt t),(47,.slice a rooms.length c),(48,I64 rooms.length),(49,I64 (s.1:Int))]) (fun s=>pto t (.cells [.bool true,.slice a1 (List.replicate i (-1:Int)).length c1,.slice (some ⟨g,0,none⟩) C C,.slice s.2.1 ((rooms.take s.1).map ch1).length s.2.2].toArray 247 (0,0))::lsH I64 3 a1 c1 (List.replicate i (-1))::rsH cqs 1 268 (some ⟨g,0,none⟩) C (List.replicate C ⟨none,0, []⟩)::rsH chs 3 251 s.2.1 s.2.2 ((rooms.take s.1).map ch1)::(q++F)) (fun s=>rooms.length - s.1) (fun s e w=> ?_) (0,none,0) ⟨by dsimp only;omega,by simp⟩) Zn (aM leA (aM (Zc chs 3 251 _) leA));try dsimp only at e w|-
   obtain ⟨f0,b0⟩:=e;obtain ⟨j,a3,c3⟩:=s;dsimp only at*;refine xx 5 ?_;refine cY 50 rfl ?_ ?_<;>intro k
   . have k:=cU k;have o:j<rooms.length:=(by omega);refine Z7 (hs.le leA) (by simp;omega) fun b1 o1 e_=> ?_;subst e_;refine rn [7,0,8] ?_;refine bB [55,10,8,47,48,49] ?_;apply Zb 3 58 55 rfl
     . intro b d;have h:=sp b;refine oo 3 ?_;exact Zz d ⟨orF b,Zw⟩
     . intro b d;have h:=sp b;refine oo 3 ?_;exact Zz d ⟨orT b,Zw⟩
     refine ox 1 ?_;rcases eB (Gu rooms[j]) with hk|hk
     . refine rn [1058,7,0,2] ?_;refine bU (Yz (u:=ch1 rooms[j]) chs underlying245 gU rfl rfl (fun _=>rfl) rfl) ?_;rintro _ _ ⟨g2,rfl,rfl⟩;have e0:((rooms.take j).map ch1).length=j:=by simp;omega
       refine bU (Z4 (l:=(rooms.take j).map ch1) (m:= [ch1 rooms[j]]) underlying245 gU rfl rfl (fun _=>rfl) rfl rfl Zj ((cI _).le leA) (fun _=>rfl) (by simp;omega) (by simp;omega)) ?_;rintro _ _ ⟨a4,c4,rfl,rfl⟩;rw [show (rooms.take j).map ch1++ [ch1 rooms[j]]=(rooms.take (j+1)).map ch1 by rw [aN o,aO];rfl];refine rn [2,0,6] ?_;refine aX (w (j+1,a4,c4) ⟨by dsimp only;omega,by dsimp only;rw [aN o];intro y z;rcases bE.1 z with z|z;exact b0 y z;rw [bN.1 z];exact hk⟩ (by dsimp only;omega)) Zn leA
     exact aV (ok.2.2.2 _ (aC o)) hk
   have k:=of_decide_eq_false k;obtain rfl:j=rooms.length:=by omega
   rw [bV] at*;refine xx 8 ?_;refine cS (Oz (lsV 3) ⟨none,0, []⟩ (fun q=>Z1 I64 3 q) C _) ?_;refine cS (P9 (fun (x:ChC)=>lsV 2 x.q) (rooms.map ch1) (fun x hx q=>by obtain ⟨r,_,rfl⟩:=bS.1 hx;exact Z1 I64 2 q) _) ?_;refine Zq ([pto t (.cells [.bool true,.slice a1 (List.replicate i (-1:Int)).length c1,.slice (some ⟨g,0,none⟩) C C,.slice a3 (rooms.map ch1).length c3].toArray 247 (0,0)),lsH I64 3 a1 c1 (List.replicate i (-1:Int)),rsH cqs 1 268 (some ⟨g,0,none⟩) C (List.replicate C (⟨none,0, []⟩:SlV Int)),stars ((List.replicate C (⟨none,0, []⟩:SlV Int)).map (lsV 3)),rsH chs 3 251 a3 c3 (rooms.map ch1),stars ((rooms.map ch1).map fun x=>lsV 2 x.q)]++q) func53 (Q4 results53 rfl rfl) ⟨_,rfl,t,⟨a1,c1,List.replicate i (-1),some ⟨g,0,none⟩,C,List.replicate C ⟨none,0, []⟩,a3,c3,rooms.map ch1⟩,⟨rfl,by simp [P1],by simp [P1,ch1,ChC.row,Ch.row,Ch.items,Function.comp_def]⟩,rfl,by unfold syL;simp⟩
 exact aV ⟨ok.1,ok.2.1,ok.2.2.1⟩ hf
theorem Copy_ok (hR:Real U s)(hs:s.ok N)(hN:N<=1000000000):CallF prog G 122 [.pointer (some ⟨p,0,none⟩)] ((syL p U)) (Ret fun v q'=> ∃ p2 σ2,Real σ2 s/\v= .pointer (some ⟨p2,0,none⟩)/\q'=syL p2 σ2++syL p U):=by
 refine aB func122 ntmps122 rfl fun F cs=> ?_;have ho:=hR.lo;have hc:=hR.lc;have hh:=hR.lh;have l0:=hs.no;have n0:=hs.nc;have m0:=hs.nh;change X _ _ _ _ _ _ _ _ (pto p (.cells [.bool true,.slice U.ao U.owners.length U.co,.slice U.ac U.conds.length U.cc,.slice U.ah U.chans.length U.ch].toArray 247 (0,0))::lsH I64 3 U.ao U.co U.owners::rsH cqs 1 268 U.ac U.cc U.conds::stars (U.conds.map (lsV 3))::rsH chs 3 251 U.ah U.ch U.chans::stars (U.chans.map fun x=>lsV 2 x.q)::F);refine xo 8 ?_;refine bM call126 (there_ok (p:=p) clA) ?_;refine rn [2,1008,3,0,1,2,3,4,6,7,8,9,11,12,13,14] ?_;refine Wv 4 call94 (aH _) (Hx (l:=U.owners) (a:=U.ao) (c:=U.co) ((bY _).le leA) (by omega)) ?_;refine kk2 fun a0 w=> ?_
 refine Wv 9 call192 (aH _) (Zyu (l:=U.conds) (a:=U.ac) (c:=U.cc) ((cI _).le leA) (by omega)) ?_;refine kk2 fun t y=> ?_
 refine Wv 14 call193 (aH _) (Zyp (l:=U.chans) (a:=U.ah) (c:=U.ch) ((cI _).le leA) (by omega)) ?_;refine kk2 fun r ch1=> ?_
 refine dd [15] ?_;refine XD.bx 16 fun n1=> ?_;refine rn [18,0,6,0,4] ?_;refine aX (cC (fun (d:List (SlV Int))=>d.length<=U.conds.length/\d.map (fun (x:SlV Int)=>x.l)=(U.conds.take d.length).map (fun (x:SlV Int)=>x.l)) (fun d=> [(0,.pointer (some ⟨p,0,none⟩)),(3,pt n1),(30,I64 U.conds.length),(31,I64 d.length)]) (fun d=>rsH cqs 1 268 t y (d++U.conds.drop d.length)::stars (d.map (lsV 3))::pto n1 (.cells [.bool true,.slice a0 U.owners.length w,.slice t U.conds.length y,.slice r U.chans.length ch1].toArray 247 (0,0))::lsH I64 3 a0 w U.owners::rsH chs 3 251 r ch1 U.chans::pto p (.cells [.bool true,.slice U.ao U.owners.length U.co,.slice U.ac U.conds.length U.cc,.slice U.ah U.chans.length U.ch].toArray 247 (0,0))::lsH I64 3 U.ao U.co U.owners::rsH cqs 1 268 U.ac U.cc U.conds::stars (U.conds.map (lsV 3))::rsH chs 3 251 U.ah U.ch U.chans::stars (U.chans.map fun x=>lsV 2 x.q)::F) (fun d=>U.conds.length - d.length) (fun d d0 ih=> ?_) [] ⟨by simp,by simp⟩) Zn (by simp only [aY,fY,aT];exact aM leA (aM (Yr _) leA));try dsimp only at d0 ih|-
 obtain ⟨i0,f0⟩:=d0;have g0:(d++U.conds.drop d.length).length=U.conds.length:=by simp;omega
 refine xx 5 ?_;refine cY 32 rfl ?_ ?_<;>intro h0
 . have h0:=cU h0;have e:d.length<U.conds.length:=(by omega);refine U7 (l:=d++U.conds.drop d.length) (ty:=268) (fl:=cqs) (a:=t) (by omega) fun g2 e2=> ?_;rw [e2];refine U7 (l:=U.conds) (ty:=268) (fl:=cqs) (a:=U.ac) (by omega) fun g e_=> ?_;rw [e_];refine cS (Le.focV e) ?_;have k0:U.conds[d.length].l.length<=1000000000:=hs.lenC hR e hN;refine rn [9,0,1,2,3,4,5,6,7,8,9,10,11,12] ?_;refine dY 45 (.pointer (some ⟨g,d.length*1,none⟩)) rfl (by simp) ?_;refine Rl 12 call194 (all_ok (f:=cqs) (sz:=1) (ty:=268) (g:=g) (l:=U.conds) (i:=d.length) (m:=U.conds[d.length].l) (a:=U.conds[d.length].a) (c:=U.conds[d.length].c) e (fun _=>rfl) rfl rfl (by omega)) ?_;refine kd2 fun a5 z=> ?_
   refine ⟨hlA,?_⟩;refine dd [13,14,15] ?_;have j0:(d++U.conds.drop d.length)[d.length]'(by omega)=U.conds[d.length]:=by rw [iD (aU _)];simp
   refine iM 16 rfl (V4 (g:=g2) (f:=cqs) (sz:=1) (l:=d++U.conds.drop d.length) (u:=(⟨a5,z,U.conds[d.length].l⟩:SlV Int)) (n:=d.length) (k:=0) (j:=(d.length:Int)) (by simp [evp,lkp]) rfl sizeOf23 (fun _=>rfl) rfl (by omega) rfl (by rw [j0];rfl) rfl rfl Zj) ?_;refine kk0 ?_;refine rn [0,5] ?_;rw [F1 d _ d.length (⟨a5,z,U.conds[d.length].l⟩:SlV Int) rfl (by simp;omega),iE];refine cS (Le.unfV e (a:=U.conds[d.length].a) (c:=U.conds[d.length].c) (m:=U.conds[d.length].l)) ?_;rw [show U.conds.set d.length ⟨U.conds[d.length].a,U.conds[d.length].c,U.conds[d.length].l⟩=U.conds from gA e];refine cS (q':=stars ((d++ [(⟨a5,z,U.conds[d.length].l⟩:SlV Int)]).map (lsV 3))::_) (aM (show Le _ (stars (d.map (lsV 3))::(lsV 3) (⟨a5,z,U.conds[d.length].l⟩:SlV Int)::_) from bD Zj Zj) (U0 (lsV 3) d (⟨a5,z,U.conds[d.length].l⟩:SlV Int) _)) ?_;rw [<-e2,<-e_];rw [show d.length+1=(d++ [(⟨a5,z,U.conds[d.length].l⟩:SlV Int)]).length by simp];refine aX (ih (d++ [(⟨a5,z,U.conds[d.length].l⟩:SlV Int)]) ⟨by simp;omega,by rw [aA,eN,aN e,aO,aO,f0];rfl⟩ (by simp;omega)) Zn leA
 have h0:=of_decide_eq_false h0;have c0:d.length=U.conds.length:=by omega
 rw [c0,bV] at f0;rw [c0,dP,bR];clear ih g0 h0 i0;refine rn [8,0,4] ?_;refine aX (cC (fun (b:List ChC)=>b.length<=U.chans.length/\b.map (ChC.row)=(U.chans.take b.length).map (ChC.row)) (fun b=> [(0,.pointer (some ⟨p,0,none⟩)),(3,pt n1),(55,I64 U.chans.length),(56,I64 b.length)]) (fun b=>rsH chs 3 251 r ch1 (b++U.chans.drop b.length)::stars (b.map fun x=>lsV 2 x.q)::pto n1 (.cells [.bool true,.slice a0 U.owners.length w,.slice t U.conds.length y,.slice r U.chans.length ch1].toArray 247 (0,0))::lsH I64 3 a0 w U.owners::rsH cqs 1 268 t y d::stars (d.map (lsV 3))::pto p (.cells [.bool true,.slice U.ao U.owners.length U.co,.slice U.ac U.conds.length U.cc,.slice U.ah U.chans.length U.ch].toArray 247 (0,0))::lsH I64 3 U.ao U.co U.owners::rsH cqs 1 268 U.ac U.cc U.conds::stars (U.conds.map (lsV 3))::rsH chs 3 251 U.ah U.ch U.chans::stars (U.chans.map fun x=>lsV 2 x.q)::F) (fun b=>U.chans.length - b.length) (fun b d0 ih=> ?_) [] ⟨by simp,by simp⟩) Zn (by simp only [aY,fY,aT];exact aM leA (aM (Yr _) leA));try dsimp only at d0 ih|-
 obtain ⟨i0,e0⟩:=d0;have g0:(b++U.chans.drop b.length).length=U.chans.length:=by simp;omega
 refine xx 5 ?_;refine cY 57 rfl ?_ ?_<;>intro h0
 . have h0:=cU h0;have e:b.length<U.chans.length:=(by omega);refine U7 (l:=b++U.chans.drop b.length) (ty:=251) (fl:=chs) (a:=r) (by omega) fun g2 e2=> ?_;rw [e2];refine U7 (l:=U.chans) (ty:=251) (fl:=chs) (a:=U.ah) (by omega) fun g e_=> ?_;rw [e_];refine cS (Le.focH e) ?_;have k0:U.chans[b.length].q.l.length<=1000000000:=hs.lenH hR e hN;refine rn [9,0,1,2,3,4,5,6,7,8,9,10,11,12] ?_;refine dY 70 (.pointer (some ⟨g,b.length*3,none⟩)) rfl (by simp) ?_;refine Rl 12 call195 (all64_ok (f:=chs) (sz:=3) (ty:=251) (g:=g) (l:=U.chans) (i:=b.length) (m:=U.chans[b.length].q.l) (a:=U.chans[b.length].q.a) (c:=U.chans[b.length].q.c) e (fun _=>rfl) rfl rfl (by omega)) ?_;refine kd2 fun a5 z=> ?_
   refine ⟨hlA,?_⟩;refine dd [13,14,15] ?_;have j0:(b++U.chans.drop b.length)[b.length]'(by omega)=U.chans[b.length]:=by rw [iD (aU _)];simp
   refine iM 16 rfl (V4 (g:=g2) (f:=chs) (sz:=3) (l:=b++U.chans.drop b.length) (u:=(⟨⟨a5,z,U.chans[b.length].q.l⟩,U.chans[b.length].room,U.chans[b.length].sent⟩:ChC)) (n:=b.length) (k:=0) (j:=(b.length:Int)) (by simp [evp,lkp]) rfl sizeOf22 (fun _=>rfl) rfl (by omega) rfl (by rw [j0];rfl) rfl rfl Zj) ?_;refine kk0 ?_;refine rn [0,5] ?_;rw [F1 b _ b.length (⟨⟨a5,z,U.chans[b.length].q.l⟩,U.chans[b.length].room,U.chans[b.length].sent⟩:ChC) rfl (by simp;omega),iE];refine cS (Le.unfH e U.chans[b.length]) ?_;rw [show U.chans.set b.length U.chans[b.length]=U.chans from gA e];refine cS (q':=stars ((b++ [(⟨⟨a5,z,U.chans[b.length].q.l⟩,U.chans[b.length].room,U.chans[b.length].sent⟩:ChC)]).map (fun (x:ChC)=>lsV 2 x.q))::_) (aM (show Le _ (stars (b.map (fun (x:ChC)=>lsV 2 x.q))::(fun (x:ChC)=>lsV 2 x.q) (⟨⟨a5,z,U.chans[b.length].q.l⟩,U.chans[b.length].room,U.chans[b.length].sent⟩:ChC)::_) from bD Zj Zj) (U0 (fun (x:ChC)=>lsV 2 x.q) b (⟨⟨a5,z,U.chans[b.length].q.l⟩,U.chans[b.length].room,U.chans[b.length].sent⟩:ChC) _)) ?_;rw [<-e2,<-e_];rw [show b.length+1=(b++ [(⟨⟨a5,z,U.chans[b.length].q.l⟩,U.chans[b.length].room,U.chans[b.length].sent⟩:ChC)]).length by simp];refine aX (ih (b++ [(⟨⟨a5,z,U.chans[b.length].q.l⟩,U.chans[b.length].room,U.chans[b.length].sent⟩:ChC)]) ⟨by simp;omega,by rw [aA,eN,aN e,aO,aO,e0];rfl⟩ (by simp;omega)) Zn leA
 have h0:=of_decide_eq_false h0;have b0:b.length=U.chans.length:=by omega
 rw [b0,bV] at e0;rw [b0,dP,bR];clear ih g0 h0 i0;refine xx 7 ?_;refine Zq ([pto n1 (.cells [.bool true,.slice a0 U.owners.length w,.slice t U.conds.length y,.slice r U.chans.length ch1].toArray 247 (0,0)),lsH I64 3 a0 w U.owners,rsH cqs 1 268 t y d,stars (d.map (lsV 3)),rsH chs 3 251 r ch1 b,stars (b.map fun x=>lsV 2 x.q),pto p (.cells [.bool true,.slice U.ao U.owners.length U.co,.slice U.ac U.conds.length U.cc,.slice U.ah U.chans.length U.ch].toArray 247 (0,0)),lsH I64 3 U.ao U.co U.owners,rsH cqs 1 268 U.ac U.cc U.conds,stars (U.conds.map (lsV 3)),rsH chs 3 251 U.ah U.ch U.chans,stars (U.chans.map fun x=>lsV 2 x.q)]) func122 (Zf results122 rfl) ⟨_,rfl,n1,⟨a0,w,U.owners,t,y,d,r,ch1,b⟩,⟨hR.o,f0.trans hR.c,e0.trans hR.h⟩,rfl,by unfold syL;simp [c0,b0]⟩
end
def Mo (b:Bool):Int:=if b then 1 else 0
def Ms (op a b:Int):Int×Int:=
 if op=3 then (Mo (decide (a=b)),0) else if op=4 then (Mo (decide (a≠b)),0) else if op=5 then (Mo (decide (a<b)),0) else if op=6 then (Mo (decide (a<=b)),0)
 else if (op=10\/op=11)/\b=0 then (0,1)
 else let n:=if op=7 then a+b else if op=8 then a - b else if op=9 then a*b else if op=10 then a.tdiv b else a.tmod b
  if val n then (n,0) else (0,2)
def Vh (l:List Int):Int:=l.foldr (· + ·) 0
abbrev Ac:=Int×Bool×Int
abbrev Sn:=Int×Int×Int
structure PTr where
 decl:Int
 st:Int
 loc:List Int
 left:List PStm
 sp:List Int
structure POut where
 kind:Int
 trap:Int
 th:Int
 stmt:Int
 deriving DecidableEq
structure SS where
 cells:List Int
 sy:Sy
 ths:List PTr
 out:POut
structure PEv where
 th:Int
 stmt:Int
 woke:Bool
 trap:Int
 told:Bool
 outv:Int
 value:Int
 acc:List Ac
 syn:List Sn
structure PPr where
 vars:List Int
 arrs:List Int
 room:List Int
 mu:Int
 co:Int
 main:Int
 ths:List (Int×List PStm)
abbrev R5:PStm:= .mk 0 0 0 em em (.mk 0 0 em 0 false 0 []) (.mk 0 0 em 0 false 0 []) [] [] 0 0 0 false
abbrev zTr:PTr:=⟨0,0, [], [], []⟩
def SS.th (s:SS)(n:Nat):PTr:=s.ths.getD n zTr
def PTr.next (t:PTr):PStm:=t.left.headD R5
def SS.can (p:PPr)(s:SS)(n:Nat):Bool:=
 let t:=s.th n
 if s.out.kind=4\/t.st=2\/t.st=4 then false
 else match t.next with
 | .mk k _ _ _ _ _ _ _ _ _ slot other _=>
  if t.st=3 then s.sy.owners.getD other.toNat 0== -1
  else if k=6 then s.sy.owners.getD slot.toNat 0== -1||s.sy.owners.getD slot.toNat 0==n
  else if k=11 then decide (((s.sy.chans.getD slot.toNat ch0).items.length:Int)<p.room.getD slot.toNat 0)
  else if k=12 then decide (0<(s.sy.chans.getD slot.toNat ch0).items.length)
  else if k=14 then t.sp.all fun i=>(s.th i.toNat).st==4
  else true
def Ia (p:PPr)(d:Int):PTr:=
 let b:=p.ths.getD d.toNat (0, [])
 ⟨d,if b.2= [] then 4 else 1,List.replicate b.1.toNat 0,b.2, []⟩
def zEv (n id:Int):PEv:=⟨n,id,false,0,false,0,0, [], []⟩
def PStm.idn:PStm->Int
 | .mk _ _ _ _ _ _ _ _ _ id _ _ _=>id
def PStm.kd:PStm->Int
 | .mk k _ _ _ _ _ _ _ _ _ _ _ _=>k
def PStm.oth:PStm->Int
 | .mk _ _ _ _ _ _ _ _ _ _ _ other _=>other
end Go.Proofs.YtadahhbefdnabaaGreatDoor
namespace Go.Proofs.YtadahhbefdnabaaGreatDoor
open Go Go.RowKit Wx Go.Proofs.Tryz
attribute [local irreducible] lsH rsH stars
variable {a:Option Addr}{b n c pa pp sz i k o pc m1 m2 B N nb:Nat}{G w:World}{q:List HP}{op lo d:Int}{bb:Bool}{x1 v:Value}{g:FC}{M:Hp}{vs ws pre post:List Value}{x s:Stm}{l m:List Stm}{e:Ex}{L:List (Int×PStm)}{J:Nat->HP}{Jf:HP->Prop}
theorem val_mul {a b:Int}(ha:val a)(hb:val b): -4611686018427387904<=a*b/\a*b<=4611686018427387904:=by
 unfold val at ha hb;have e:a*b<=a.natAbs*b.natAbs:=by rw [<-Int.natCast_mul,<-Int.natAbs_mul];omega
 have d: -(a.natAbs*b.natAbs:Int)<=a*b:=by rw [<-Int.natCast_mul,<-Int.natAbs_mul];omega
 have c:(a.natAbs:Int)*b.natAbs<=2147483648*2147483648:=by
  rw [<-Int.natCast_mul];have:a.natAbs*b.natAbs<=2147483648*2147483648:=Nat.mul_le_mul (by omega) (by omega);omega
 omega
theorem val_div {a b:Int}(ha:val a): -2147483648<=a.tdiv b/\a.tdiv b<=2147483648:=by
 unfold val at ha;have h:=Int.natAbs_tdiv_le_natAbs a b;omega
theorem val_mod {a b:Int}(ha:val a): -2147483648<=a.tmod b/\a.tmod b<=2147483648:=by
 unfold val at ha;have h:(a.tmod b).natAbs<=a.natAbs:=by rw [Int.natAbs_tmod];exact Nat.mod_le _ _
 omega
def Oc (k:Int):PanicEntry:= { v:= .iface 284 (.agg [I64 k].toArray),recovered:=false }
def noVE:PanicEntry:= { v:= .iface 486 (.agg [].toArray),recovered:=false }
section
variable {n c u z:Int}
theorem Hi:CallF prog G 229 (AF n c) (q) (Ret fun v q'=>v= .bool (decide (0<=n/\n<c))/\q'=q):=by
 refine aB func229 ntmps229 rfl fun F e=> ?_;refine xo 9 ?_;refine bB [7,4,0,1] ?_;apply Zg 4 11 7 rfl
 . intro a b;have d:=sp a;refine oo 4 ?_;exact Zz b ⟨Yi a,Zw⟩
 . intro a b;have d:=sp a;refine oo 4 ?_;exact Zz b ⟨Yl a,Zw⟩
 refine ox 2 ?_;refine Zq (q) func229 (Zf results229 rfl) ⟨_,rfl,cB (by rw [cN];simp),rfl⟩
theorem Q8:CallF prog G 328 [.bool bb] (q) (Ret fun v q'=>v= I64 (Mo bb)/\q'=q):=by
 refine aB func328 ntmps328 rfl fun F b=> ?_;refine xx 9 ?_;refine cY 3 rfl ?_ ?_<;>intro a
 . refine xx 5 ?_;refine Zq (q) func328 (Zf results328 rfl) ⟨_,rfl,by rw [show bb=true by simpa using a];rfl,rfl⟩
 refine xx 6 ?_;refine Zq (q) func328 (Zf results328 rfl) ⟨_,rfl,by rw [show bb=false by simpa using a];rfl,rfl⟩
theorem fail_ok:CallF prog G 258 [I64 z] (q) (RP (fun _ _=>False) (fun ch q'=>ch= [Oc z]/\q'=q)):=by
 refine aB func258 ntmps258 rfl fun F a=> ?_;refine xo 4 ?_;exact Zve (Pn.panic rfl) (dF func258 (eD ⟨rfl,rfl⟩))
theorem wholeM_ok:CallF prog G 210 [I64 z] (q) (RP (fun v q'=>(val z/\v= I64 z)/\q'=q) (fun ch q'=>(¬val z/\ch= [Oc 2])/\q'=q)):=by
 refine aB func210 ntmps210 rfl fun F d=> ?_;refine xo 10 ?_;refine bB [5,2,0] ?_;apply Zb 3 8 5 rfl
 . intro a b;have c:=sp a;refine oo 3 ?_;exact Zz b ⟨orF a,Zw⟩
 . intro a b;have c:=sp a;refine oo 3 ?_;exact Zz b ⟨orT a,Zw⟩
 refine ox 1 ?_;refine xp 8 ?_ ?_<;>intro c
 . refine xo 2 ?_;refine Wl call258 (aH _) (fail_ok) ?_ ?_
   . rintro _ _ ⟨rfl,rfl⟩;exact dF func210 (eD ⟨⟨(by unfold val;omega),rfl⟩,rfl⟩)
   rintro _ _ ⟨⟩
 refine xx 7 ?_;refine Zq (q) func210 (Zf results210 rfl) (fS ⟨⟨(by unfold val;omega),rfl⟩,rfl⟩)
theorem Kw:CallF prog G 327 [I64 z] (q) (RP (fun v q'=>(val z/\v= I64 z)/\q'=q) (fun ch q'=>(¬val z/\ch= [noVE])/\q'=q)):=by
 refine aB func327 ntmps327 rfl fun F d=> ?_;refine xo 10 ?_;refine bB [5,2,0] ?_;apply Zb 3 8 5 rfl
 . intro a b;have c:=sp a;refine oo 3 ?_;exact Zz b ⟨orF a,Zw⟩
 . intro a b;have c:=sp a;refine oo 3 ?_;exact Zz b ⟨orT a,Zw⟩
 refine ox 1 ?_;refine xp 8 ?_ ?_<;>intro c
 . refine xo 4 ?_;exact Zve (Pn.panic rfl) (dF func327 (eD ⟨⟨(by unfold val;omega),rfl⟩,rfl⟩))
 refine xx 7 ?_;refine Zq (q) func327 (Zf results327 rfl) (fS ⟨⟨(by unfold val;omega),rfl⟩,rfl⟩)
end
section
variable {n c:Int}
abbrev AS (v0:Nat)(v1:Value)(v2:Int):=[.pointer (some ⟨v0,0,none⟩),v1,I64 v2]
theorem F6 (ha:CellsAt q pa 0 (AS pp x1 lo))(hp:CellsAt q pp 0 (pgC g)):CallF prog G 309 [.pointer (some ⟨pa,0,none⟩),I64 n,.bool bb] (q) (Ret fun v q'=>v= .bool (decide (0<=n/\n<if bb=true then lo else (g.vars.l.length:Int)))/\q'=q):=by
 refine aB func309 ntmps309 rfl fun F d=> ?_;refine xx 9 ?_;refine xp 7 ?_ ?_<;>intro b
 . refine rf [7,0] ha ?_;refine bM call229 (Hi) ?_;refine ox 2 ?_;refine Zq (q) func309 (Zf results309 rfl) ⟨_,rfl,by rw [if_pos b],rfl⟩
 refine rg [8,0,2,0] ha hp ?_;refine aW 21 (.slice g.vars.a g.vars.l.length g.vars.c) rfl (rfl) ?_;refine oo 1 ?_;refine bM call229 (Hi) ?_;refine ox 2 ?_;refine Zq (q) func309 (Zf results309 rfl) ⟨_,rfl,by rw [if_neg (by rw [b];decide)],rfl⟩
end
def ExAt (M:Hp)(a:Addr)(e:Ex):Prop:=SeesZ M (some a) (exC e)/\e.At M
def StAt (M:Hp)(a:Addr)(s:Stm):Prop:=SeesZ M (some a) (stC s)/\s.At M
theorem Mt (h:SeesZ M a vs)(k:SeesZ M a ws)(e:vs.length=ws.length):vs=ws:=by
 apply kC ;intro i;by_cases hi:i<vs.length
 . obtain ⟨b,o,p,ty,n,m,l⟩:=h i vs[i] (aE hi);obtain ⟨r,q,g,j,f,d,c⟩:=k i (ws[i]'(e ▸ hi)) (aE _);rw [n] at f;cases f
   rw [m] at d;cases d
   rw [l] at c;rw [aE hi,aE (e ▸ hi)];exact c
 rw [eU (by omega),eU (by omega)]
theorem E7 {α:Type}{f:α->List Value}(hf: ∀ x,(f x).length=sz){l:List α}(hi:i<l.length)(hk:k<sz):(l.flatMap f)[i*sz+k]? =(f l[i])[k]? :=by
 have h:(l.flatMap f)[i*sz+k]? =_:=aQ (fun z:List Value=>z[i*sz+k]?) (dZ (i*sz) (l.flatMap f)).symm;rw [Qu hf,dG (by rw [Zx hf,bI];rw [eW (by omega)];omega)] at h;rw [h,Zx hf,bI,eW (by omega),show i*sz+k - i*sz=k by omega,gR]
 have a:l.flatMap f=(l.take i).flatMap f++(f l[i]++(l.drop (i+1)).flatMap f):=by
  conv=>lhs;rw [<-dZ i l,eK,aP hi,bZ]
 rw [a,dG (by rw [Zx hf,bI,eW (by omega)];omega),Zx hf,bI,eW (by omega),show i*sz+k - i*sz=k by omega,
  dB (by rw [hf];exact hk)]
theorem SeesZ.row {α:Type}{f:α->List Value}(hf: ∀ x,(f x).length=sz)(h0:0<sz){l:List α}(h:SeesZ M a (l.flatMap f))(hi:i<l.length): ∃ b o,a=some ⟨b,o,none⟩/\SeesZ M (some ⟨b,o+i*sz,none⟩) (f l[i]):=by
 have n:=hf l[i];obtain ⟨b,o,r,ty,m,v,t⟩:=h (i*sz+0) ((f l[i])[0]'(by omega)) (by rw [E7 hf hi h0];exact aE (by omega));refine ⟨b,o,m,fun k u g=> ?_⟩;have e:k<sz:=by rw [<-n];exact (cA.1 g).1
 obtain ⟨w,s,c,d,j,q,p⟩:=h (i*sz+k) u (by rw [E7 hf hi e];exact g);rw [m] at j;cases j
 exact ⟨b,o+i*sz,c,d,rfl,q,by rw [fA];exact p⟩
abbrev iZ:=@SeesZ.row
theorem SeesZ.sub (h:SeesZ M (some ⟨b,o,none⟩) vs)(e:vs=pre++(ws++post)):SeesZ M (some ⟨b,o+pre.length,none⟩) ws:=fun i u c=>by
 obtain ⟨k,j,a,ty,g,f,d⟩:=h (pre.length+i) u (by rw [e,dG (by omega),show pre.length+i - pre.length=i by omega,dB (cA.1 c).1];exact c)
 cases g
 exact ⟨b,o+pre.length,a,ty,rfl,f,by rw [fA];exact d⟩
mutual
theorem Ex.uniq {M:Hp}: ∀ {x y:Ex},exC x=exC y->x.At M->y.At M->x=y
 | .mk k n nm sl lo op args aa ac,.mk k' n' nm' sl' lo' op' args' aa' ac',h,⟨h1,h2⟩,⟨g1,g2⟩=>by
  simp only [exC,jR,Value.int.injEq,Value.string.injEq,Value.bool.injEq,Value.slice.injEq,true_and,and_true] at h;obtain ⟨rfl,rfl,rfl,rfl,rfl,rfl,rfl,a,rfl⟩:=h;have e:=Mt h1.2.2 g1.2.2 (by rw [Zx Yk,Zx Yk,a]);rw [Exs.uniq e a h2 g2]
theorem Exs.uniq {M:Hp}: ∀ {l m:List Ex},l.flatMap exC=m.flatMap exC->l.length=m.length->Ex.Ats M l->Ex.Ats M m->l=m
 | [], [],_,_,_,_=>rfl
 | [],_::_,_,h,_,_=>by simp at h
 |_::_, [],_,h,_,_=>by simp at h
 |x::l,y::m,h,hl,⟨h1,h2⟩,⟨g1,g2⟩=>by
  rw [bZ,bZ] at h;obtain ⟨b,a⟩:=jS h (by rw [Yk,Yk]);rw [Ex.uniq b h1 g1,Exs.uniq a (by simpa using hl) h2 g2]
end
mutual
theorem Stm.uniq {M:Hp}: ∀ {x y:Stm},stC x=stC y->x.At M->y.At M->x=y
 | .mk k ln cl nm wt e ix body els ba bc ea ec id sl ot lo,.mk k' ln' cl' nm' wt' e' ix' body' els' ba' bc' ea' ec' id' sl' ot' lo',h,⟨h1,h2,⟨h3,h4⟩,h5,h6⟩,⟨g1,g2,⟨g3,g4⟩,g5,g6⟩=>by
  simp only [stC] at h;obtain ⟨d,m⟩:=jS h rfl;obtain ⟨l,j⟩:=jS m (by rw [Yk,Yk]);obtain ⟨i,c⟩:=jS j (by rw [Yk,Yk]);simp only [jR,Value.int.injEq,Value.string.injEq,Value.bool.injEq,Value.slice.injEq,true_and,and_true] at d c;obtain ⟨rfl,rfl,rfl,rfl,rfl⟩:=d;obtain ⟨⟨rfl,b,rfl⟩,⟨rfl,a,rfl⟩,rfl,rfl,rfl,rfl⟩:=c;have g:=Mt h3.2.2 g3.2.2 (by rw [Zx Z2,Zx Z2,b]);have f:=Mt h5.2.2 g5.2.2 (by rw [Zx Z2,Zx Z2,a]);rw [Ex.uniq l h1 g1,Ex.uniq i h2 g2,Stms.uniq g b h4 g4,Stms.uniq f a h6 g6]
theorem Stms.uniq {M:Hp}: ∀ {l m:List Stm},l.flatMap stC=m.flatMap stC->l.length=m.length->Stm.Ats M l->Stm.Ats M m->l=m
 | [], [],_,_,_,_=>rfl
 | [],_::_,_,h,_,_=>by simp at h
 |_::_, [],_,h,_,_=>by simp at h
 |x::l,y::m,h,hl,⟨h1,h2⟩,⟨g1,g2⟩=>by
  rw [bZ,bZ] at h;obtain ⟨b,a⟩:=jS h (by rw [Z2,Z2]);rw [Stm.uniq b h1 g1,Stms.uniq a (by simpa using hl) h2 g2]
end
theorem ExAt.uniq {a:Addr}{x y:Ex}(h:ExAt M a x)(k:ExAt M a y):x=y:=Ex.uniq (Mt h.1 k.1 (by rw [Yk,Yk])) h.2 k.2
theorem StAt.uniq {a:Addr}{y:Stm}(h:StAt M a x)(k:StAt M a y):x=y:=Stm.uniq (Mt h.1 k.1 (by rw [Z2,Z2])) h.2 k.2
theorem SeesZ.brn {a:Addr}(h:SeesZ M (some a) (v::vs))(l:Hle M (wh w)):Brn w a:=by
 obtain ⟨b,o,c,ty,e,d,_⟩:=h 0 v rfl
 cases e
 exact ⟨c,ty,l _ _ d⟩
theorem ExAt.brn {a:Addr}{x:Ex}(h:ExAt M a x)(l:Hle M (wh w)):Brn w a:=by cases x;exact SeesZ.brn h.1 l
theorem StAt.brn {a:Addr}(h:StAt M a x)(l:Hle M (wh w)):Brn w a:=by cases x;exact SeesZ.brn h.1 l
abbrev N5:=List (Addr×Value×Nat)
variable {es:N5}
def ExKs (M:Hp)(n:Nat)(es:N5):Prop:= ∀ e∈es,∃ x,ExAt M e.1 x/\n<x.sz
def StKs (M:Hp)(n:Nat)(es:N5):Prop:= ∀ e∈es,∃ x,StAt M e.1 x/\n<x.sz
theorem KeysAt.ex {a:Addr}{x:Ex}(h:Kn q fun M=>ExAt M a x/\ExKs M x.sz es):KeysAt q a es:=by
 rintro G w ⟨_,M,k,l,_,_,_,_,p⟩;obtain ⟨c,i⟩:=h M k p;refine ⟨c.brn l,fun e d=> ?_⟩;obtain ⟨y,b,g⟩:=i e d;exact ⟨fun f=>by have:=(f ▸ c).uniq b;subst this;exact Nat.lt_irrefl _ g,b.brn l⟩
theorem KeysAt.st {a:Addr}(h:Kn q fun M=>StAt M a x/\StKs M x.sz es):KeysAt q a es:=by
 rintro G w ⟨_,M,k,l,_,_,_,_,p⟩;obtain ⟨c,i⟩:=h M k p;refine ⟨c.brn l,fun e d=> ?_⟩;obtain ⟨y,b,g⟩:=i e d;exact ⟨fun f=>by have:=(f ▸ c).uniq b;subst this;exact Nat.lt_irrefl _ g,b.brn l⟩
theorem Bp: ∀ l:List Ex,l.length<=Wf l
 | []=>bC _
 |e::r=>by
  have h:=Bp r;have a:1<=e.sz:=by cases e;simp only [Ex.sz];omega
  simp only [Wf,aJ];omega
theorem Hs: ∀ l:List Stm,l.length<=Zu l
 | []=>bC _
 |e::r=>by
  have h:=Hs r;have a:1<=e.sz:=by cases e;simp only [Stm.sz];omega
  simp only [Zu,aJ];omega
section
variable {l:List Ex}
theorem Kn.exn {k n:Int}{nm:ByteArray}{slot:Int}{loc:Bool}(h:Kn q fun M=>Ex.Ats M l):Kn (lst (fun M=>SlAt M a c l.length (l.flatMap exC)) fG::q) fun M=>(Ex.mk k n nm slot loc op l a c).At M:=
 (Kn.here.and h.there).imp fun M h=>⟨h.1,h.2⟩
theorem Kn.blM {m:List Stm}:Kn (blM a c m::q) fun M=>BlkAt M a c m:=fJ
theorem Kn.exsM:Kn (exsM l::q) fun M=>Ex.Ats M l:=fJ
theorem Zj5:Le q (exsM []::q):=dK (fun _ _ _=>trivial)
theorem Zq1 :Le (exsM l::exM e::q) (exsM (l++ [e])::q):=by
 have h:Kn (exsM l::exM e::q) fun M=>Ex.Ats M (l++ [e]):=(Kn.exsM.and Kn.exM.there).imp fun M h=>Vr.2 fun x a=>by
  rcases bE.1 a with a|a
  . exact Vr.1 h.1 x a
  rw [bN.1 a];exact h.2
 exact aM (dK (mn:=fun l h=>jM l h) h) (cG _ ((dX _ _).trans (dX _ _)))
theorem Zq9 {m:List Ex}{s:Nat}(h:s<m.length):Z5 (m.take (s+1))=Z5 (m.take s)++ [m[s].er]:=by
 rw [Y3,Y3,aN h,aO];rfl
theorem Kn.exC {e:Ex}(h:Kn q fun M=>ExAt M ⟨b,o,none⟩ e):CellsAt q b o (exC e):=fun k v hk=>(eR (h.imp fun M h=>h.1)).cl hk
theorem Kn.stC {e:Stm}(h:Kn q fun M=>StAt M ⟨b,o,none⟩ e):CellsAt q b o (stC e):=fun k v hk=>(eR (h.imp fun M h=>h.1)).cl hk
abbrev gL:=@Kn.stC
theorem ExKs.down (h:ExKs M n es)(hk:k<=n):ExKs M k es:=fun e a=>let ⟨x,b,c⟩:=h e a;⟨x,b,by omega⟩
theorem StKs.down (h:StKs M n es)(hk:k<=n):StKs M k es:=fun e a=>let ⟨x,b,c⟩:=h e a;⟨x,b,by omega⟩
theorem ExKs.more {a:Addr}{x:Ex}(h:ExKs M n es)(hx:ExAt M a x)(hn:n<x.sz):ExKs M n (es++ [(a,v,k)]):=fun e b=>by
 rcases bE.1 b with b|b
 . exact h e b
 rw [bN.1 b];exact ⟨x,hx,hn⟩
theorem StKs.more {a:Addr}(h:StKs M n es)(hx:StAt M a x)(hn:n<x.sz):StKs M n (es++ [(a,v,k)]):=fun e b=>by
 rcases bE.1 b with b|b
 . exact h e b
 rw [bN.1 b];exact ⟨x,hx,hn⟩
end
section
variable {k1 k2:Nat}
abbrev AI (v0:Nat)(v1:Nat):=([.map (some v0),.map (some v1)]:List Value)
abbrev Ay :=((.cells [].toArray 362 (0,0)):Obj)
abbrev Ab (v0:N5)(v1:Nat):=((.map ((v0).map Q5).toArray v1):Obj)
abbrev A7 (v0:Nat)(v1:Nat)(v2:Nat):=([.pointer (some ⟨v0,0,none⟩),.pointer (some ⟨v1,v2,none⟩)]:List Value)
theorem Zqz: ∀ (N:Nat) {e:Ex} {b o:Nat} {es:N5} {k:Nat} {q:List HP},e.sz<=N->N<=1000000->CellsAt q pc 0 (AI m1 m2)->(Kn q fun M=>ExAt M ⟨b,o,none⟩ e/\ExKs M e.sz es)->CallF prog G 314 (A7 pc b o) (pto m2 (Ab es k)::q) (Ret fun v q'=> ∃ (e':Ex) (k':Nat),e'.er=e.er/\v= .agg (exC e').toArray/\q'=exM e'::pto m2 (Ab es k')::q):=fun N=>by
 induction N with
 |zero=>intro e b o es k q hs;exact aV hs (by cases e;simp only [Ex.sz];omega)
 |succ N IH=> 
 intro e b o es k q hs hN c hK;obtain ⟨w,n,j,u,lo,op,l,aa,ac⟩:=e;refine aB func314 ntmps314 rfl fun F cs=> ?_;have a:=Kn.exC (hK.imp fun M h=>h.1);have hA:Kn q fun M=>SlAt M aa ac l.length (l.flatMap exC)/\Ex.Ats M l:=hK.imp fun M h=>h.1.2;have hS:=eR (hA.imp fun M h=>h.1.2.2)
 have hl:l.length+1<=N+1:=by have:=Bp l;simp only [Ex.sz] at hs;omega
 have z:=Zx Yk l;obtain ⟨J_,hJ,_,f0,_⟩:=info_parts Qp;have t:J_.size≠0:=by rw [f0];decide
 refine xo 2 ?_;refine Zh zeroValue136 fun n1=> ?_
 refine rf [6,0,2] c ?_;refine dM (Sx underlying455 underlying396 hJ t rfl rfl rfl ((KeysAt.ex hK).le leA) Zj) ?_;rintro _ _ ⟨rfl,rfl⟩;refine rf [6,0,1] c ?_;refine XO.dfDel fun i0=> ?_;refine oo 5 ?_;refine Kr (us:=exC (.mk w n j u lo op l aa ac)) isAgg136 sizeOf136 rfl (a.le leA) ?_;refine Zh zeroValue136 fun n2=> ?_
 refine rf [0,4,0,7,0,4] a ?_;refine aX (cC (fun (s:(Nat×Nat)×Option Addr×Nat×List Ex)=>s.1.1<=l.length/\Z5 s.2.2.2=Z5 (l.take s.1.1)/\s.2.2.2.length=s.1.1) (fun s=> [(0,.pointer (some ⟨pc,0,none⟩)),(1,.pointer (some ⟨b,o,none⟩)),(4,pt n1),(5,pt n2),(28,I64 l.length),(29,I64 (s.1.1:Int))]) (fun s=>pto n2 (.cells [I64 w,I64 n,.string j,I64 u,.bool lo,I64 op,.slice s.2.1 (s.2.2.2).length s.2.2.1].toArray 136 (0,0))::pto n1 (.cells zz4.toArray 136 (0,0))::rsH exC 7 136 s.2.1 s.2.2.1 s.2.2.2::exsM s.2.2.2::pto m2 (.map (((es++ [((⟨b,o,none⟩:Addr),(.agg [].toArray:Value),k)]:N5)).map Q5).toArray s.1.2)::(q++F)) (fun s=>l.length - s.1.1) (fun s a0 ih=> ?_) ((0,k+1),none,0, []) ⟨bC _,by simp [Z5],rfl⟩) Zn (aM leA (aM (aM (Zc exC 7 136 _) Zj5) leA));try dsimp only at a0 ih|-
 obtain ⟨g0,r,c0⟩:=a0;obtain ⟨⟨i,kk⟩,a1,c1,p⟩:=s;dsimp only at*;refine xx 5 ?_;refine xp 30 ?_ ?_<;>intro h0
 . have d:i<l.length:=(by omega);obtain ⟨x,hx⟩:=lM l[i];have y:x.sz<Ex.sz (.mk w n j u lo op l aa ac):=by rw [hx];simp only [Ex.sz];have:=Y7 (aC d);omega
   refine Z7 (hS.le leA) (by rw [z];omega) fun ab ao e_=> ?_;subst e_
   have b0:Kn q fun M=>ExAt M ⟨ab,ao+(i:Int).toNat*7,none⟩ x/\ExKs M x.sz (es++ [(⟨b,o,none⟩,.agg [].toArray,k)]):=hK.imp fun M h=>by
    obtain ⟨b',o',e1,e2⟩:=iZ Yk (by decide) h.1.2.1.2.2 d
    cases e1
    refine ⟨⟨by rw [hx];exact e2,by rw [hx];exact Vr.1 h.1.2.2 _ (aC d)⟩,(h.2.down (Nat.le_of_lt y)).more h.1 y⟩
   refine rg [10,0,1,2,3,4,5,6,7,8,9,10] c a ?_;refine Yd (fl:= [⟨14,7,fun g=> pt g,fun g=>pto g Ay⟩]) ?_;refine jZ 10 ⟨⟨_,rfl,rfl,rfl,rfl,rfl,rfl,fun q=>cD zeroValue362⟩,trivial⟩ (Rd.efE (Pq underlying455 underlying396 hJ t rfl rfl ((KeysAt.ex b0).le leA) Zj zeroValue362)) ?_ (hL:=(hlG c a));rintro _ _ ⟨rfl,rfl⟩;refine ⟨(hlA (h:=by repeat first|exact trivial|refine ⟨clA,?_⟩|refine ⟨(c.le leA) 1 _ rfl,?_⟩|refine ⟨(a.le leA) 6 _ rfl,?_⟩)),?_⟩;refine Qa 11 ⟨⟨_,rfl,rfl,rfl,rfl,rfl,rfl,fun q=>cD zeroValue362⟩,trivial⟩ (Pu.move rfl) ?_ (hL:=(hlG c a));refine Qa 12 ⟨⟨_,rfl,rfl,rfl,rfl,rfl,rfl,fun q=>cD zeroValue362⟩,trivial⟩ (fP rfl rfl) ?_ (hL:=(hlG c a));refine Qa 13 ⟨⟨_,rfl,rfl,rfl,rfl,rfl,rfl,fun q=>cD zeroValue362⟩,trivial⟩ (fP rfl rfl) ?_ (hL:=(hlG c a));refine Ws (e0:=⟨14,7,fun g=> pt g,fun g=>pto g Ay⟩) (hnd:=by simp) 14 ⟨⟨_,rfl,rfl,rfl,rfl,rfl,rfl,fun q=>cD zeroValue362⟩,trivial⟩ (fun ne=> ?_) (hL:=(hlG c a));change XF _ _ _ _ _ _ _ [] _ _ _ ((7,.pointer (some ⟨ne,0,none⟩))::_) _ _ (pto ne Ay::_);refine eQ ?_ (hL:=(hlG c a));refine rf [16,17,0,5,2047,1,0,1,2,3,4,5,6,7,8,9] a ?_;refine Wv 9 call314 Zj (IH (by omega) (by omega) (c.le leA) (b0.le leA)) ?_;rintro _ _ ⟨e2,k2,d0,rfl,rfl⟩;refine ⟨(hlG c a),?_⟩;refine eE 10 rfl (Yz exC underlying134 Qp rfl rfl Yk rfl) ?_;rintro _ _ ⟨g,rfl,rfl⟩;refine ⟨(hlG c a),?_⟩;refine eE 11 rfl (Z4 (f:=exC) (l:=p) (m:= [e2]) underlying134 Qp rfl rfl Yk rfl rfl Zj ((cI _).le Zj) Ih (by simp;omega) (by simp;omega)) ?_;rintro _ _ ⟨a3,c3,rfl,rfl⟩;refine ⟨(hlG c a),?_⟩;refine rn [13,14,0,5] ?_;refine cS (q':=exsM (p++ [e2])::_) (aM (bD Zj Zj) Zq1) ?_;refine aX (ih ((i+1,k2),a3,c3,p++ [e2]) ⟨by dsimp only;omega,by dsimp only;rw [Zq9 d,<-r,<-hx,<-d0,Y3,Y3,aO];rfl,by dsimp only;rw [aA];simp [c0]⟩ (by dsimp only;omega)) Zn leA
 obtain rfl:i=l.length:=(by omega);rw [bV] at r;clear ih;refine cS (q':=rsH exC 7 136 a1 c1 p::exsM p::_) (bD Zj Zj) ?_;refine X.frzR (Kn.exn (k:=w) (n:=n) (nm:=j) (slot:=u) (loc:=lo) (op:=op) Kn.exsM) (mn:=fun l h=>Ex.At.mono l h) ?_ (hq:=aH _);refine rn [4,0,0,1] ?_;exact jA ⟨rfl,Lv.del (mt:=455) rfl underlying455 underlying396 hJ t ((KeysAt.ex hK).le leA) Zj (gE (q':=(exM (Ex.mk w n j u lo op p a1 c1)::pto m2 (Ab es kk)::q)) func314 (rA_ results314) ⟨_,rfl,(Ex.mk w n j u lo op p a1 c1),kk,by simp only [Ex.er,r],rfl,rfl⟩ leA)⟩
end
mutual
/-- Expressions that are not great. -/
def Stm.lm (B:Nat):Stm->Prop
 | .mk _ _ _ _ _ e ix body els _ _ _ _ _ _ _ _=>e.sz<=B/\ix.sz<=B/\Vx B body/\Vx B els
def Vx (B:Nat):List Stm->Prop
 | []=>True
 |s::r=>s.lm B/\Vx B r
end
theorem Ha {B:Nat}{x:Stm}: ∀ {l:List Stm},Vx B l->x∈l->x.lm B
 |y::r,⟨h1,h2⟩,h=>by
  rcases bG.1 h with rfl|h
  . exact h1
  exact Ha h2 h
theorem Zja {s:Nat}(h:s<m.length):Zk (m.take (s+1))=Zk (m.take s)++ [m[s].er]:=by
 rw [Yh,Yh,aN h,aO];rfl
theorem Wz (h:SeesZ M (some ⟨b,o,none⟩) vs)(hv:vs=pre++(exC e++post))(he:e.At M)(hn:n=o+pre.length):ExAt M ⟨b,n,none⟩ e:=hn ▸ ⟨SeesZ.sub h hv,he⟩
abbrev Ag (v0:Nat):=((.map (([]).map Q5).toArray v0):Obj)
abbrev AX (v0:Stm)(v1:Nat)(v2:N5)(v3:Nat)(v4:List HP):=(Ret fun v q'=> ∃ (s':Stm) (k1' k2':Nat),s'.er=v0.er/\v= .agg (stC s').toArray/\q'=stM s'::pto v1 (Ab v2 k1')::pto v3 (Ag k2')::v4)
def CSt (G:World)(pc m1 m2 B N:Nat):Prop:= ∀ {s:Stm} {b o:Nat} {es:N5} {k1 k2:Nat} {q:List HP},s.sz<=N->s.lm B->CellsAt q pc 0 (AI m1 m2)->(Kn q fun M=>StAt M ⟨b,o,none⟩ s/\StKs M s.sz es)->
 CallF prog G 290 (A7 pc b o) (pto m1 (Ab es k1)::pto m2 (Ag k2)::q) (AX s m1 es m2 q)
abbrev As (v0:Nat)(v1:Option Addr)(v2:List Stm)(v3:Nat):=([.pointer (some ⟨v0,0,none⟩),.slice v1 v2.length v3]:List Value)
def CSts (G:World)(pc m1 m2 B N:Nat):Prop:= ∀ {l:List Stm} {a:Option Addr} {c:Nat} {es:N5} {k1 k2:Nat} {q:List HP},Zu l<=N->Vx B l->CellsAt q pc 0 (AI m1 m2)->(Kn q fun M=>BlkAt M a c l/\StKs M (Zu l) es)->
 CallF prog G 248 (As pc a l c) (pto m1 (Ab es k1)::pto m2 (Ag k2)::q) (Ret fun v q'=> ∃ (l':List Stm) (a':Option Addr) (c':Nat) (k1' k2':Nat),Zk l'=Zk l/\v= .slice a' l'.length c'/\q'=blM a' c' l'::pto m1 (Ab es k1')::pto m2 (Ag k2')::q)
section
variable {k1 k2:Nat}
abbrev AC (v0:N5)(v1:Nat)(v2:Nat)(v3:Nat):=(v0++ [((⟨v1,v2,none⟩:Addr),(.agg [].toArray:Value),v3)]:N5)
abbrev Ar (v0)(v1)(v2)(v3)(v4):=([I64 v0,I64 v1,I64 v2,.string v3,.string v4]:List Value)
theorem cst_step (IH:CSts G pc m1 m2 B N)(hB:B<=1000000)(hs:s.sz<=N+1)(hb:s.lm B)(hc:CellsAt q pc 0 (AI m1 m2))(hK:Kn q fun M=>StAt M ⟨b,o,none⟩ s/\StKs M s.sz es):CallF prog G 290 (A7 pc b o) (pto m1 (Ab es k1)::pto m2 (Ag k2)::q) (AX s m1 es m2 q):=by
 refine aB func290 ntmps290 rfl fun F cs=> ?_;obtain ⟨k,ln,cl,z,y,⟨ek,en,t,n,u,r,el,ea,ec⟩,⟨xk,xn,w,xsl,x,v,xl,xa,xc⟩,bd,p,ba,bc,e0,d0,id,sl,ot,lo⟩:=s;obtain ⟨m0,l0,k0,j0⟩:=hb;have a0:=gL (hK.imp fun M h=>h.1);have p0:Kn q fun M=>ExAt M ⟨b,o+5,none⟩ (Ex.mk ek en t n u r el ea ec)/\ExKs M (Ex.sz (Ex.mk ek en t n u r el ea ec)) []:=hK.imp fun M h=>⟨Wz (pre:= (Ar k ln cl z y)) h.1.1 rfl h.1.2.1 rfl,fun _ h=>by cases h⟩
 have n0:Kn q fun M=>ExAt M ⟨b,o+12,none⟩ (Ex.mk xk xn w xsl x v xl xa xc)/\ExKs M (Ex.sz (Ex.mk xk xn w xsl x v xl xa xc)) []:=hK.imp fun M h=>⟨Wz (pre:= (Ar k ln cl z y)++exC (Ex.mk ek en t n u r el ea ec)) h.1.1 rfl h.1.2.2.1 rfl,fun _ h=>by cases h⟩
 have b0:Zu bd<=N/\Zu p<=N:=by simp only [Stm.sz] at hs;omega
 have q0:Kn q fun M=>BlkAt M ba bc bd/\StKs M (Zu bd) (AC es b o k1):=hK.imp fun M h=>⟨h.1.2.2.2.1,(h.2.down (by simp only [Stm.sz];omega)).more h.1 (by simp only [Stm.sz];omega)⟩
 have o0:Kn q fun M=>BlkAt M e0 d0 p/\StKs M (Zu p) (AC es b o k1):=hK.imp fun M h=>⟨⟨h.1.2.2.2.2.1,h.1.2.2.2.2.2⟩,(h.2.down (by simp only [Stm.sz];omega)).more h.1 (by simp only [Stm.sz];omega)⟩
 obtain ⟨J_,hJ,_,r0,_⟩:=info_parts V5;have c0:J_.size≠0:=by rw [r0];decide
 refine xo 2 ?_;refine Zh zeroValue138 fun n1=> ?_
 refine rf [6,0,2] hc ?_;refine dM (Sx underlying454 underlying130 hJ c0 rfl rfl rfl ((KeysAt.st hK).le leA) Zj) ?_;rintro _ _ ⟨rfl,rfl⟩;refine rf [6,0,1] hc ?_;refine XO.dfDel fun u0=> ?_;refine oo 5 ?_;refine Kr (us:=stC (.mk k ln cl z y (Ex.mk ek en t n u r el ea ec) (Ex.mk xk xn w xsl x v xl xa xc) bd p ba bc e0 d0 id sl ot lo)) isAgg138 sizeOf138 rfl (a0.le leA) ?_;refine Zh zeroValue138 fun n2=> ?_
 refine rn [0,2,0,1,2,3,4,6,7,8,9] ?_;refine Wv 4 call314 Zj (Zqz B (e:=(Ex.mk ek en t n u r el ea ec)) m0 hB (hc.le leA) (p0.le leA)) ?_;rintro _ _ ⟨⟨fk,fn,j,g,m,i,fl,fa,fc⟩,t0,g0,rfl,rfl⟩;refine ⟨trivial,?_⟩;refine dd [10] ?_;refine Wv 9 call314 Zj (Zqz B (e:=(Ex.mk xk xn w xsl x v xl xa xc)) l0 hB (hc.le leA) (n0.le leA)) ?_;rintro _ _ ⟨⟨yk,yn,d,a,f,c,yl,ya,yc⟩,s0,f0,rfl,rfl⟩;refine ⟨trivial,?_⟩;refine rf [12,13,14,0,1,0,1,2,3,4,5,7,8,9,10,11] a0 ?_;refine Wv 5 call248 (bD Zj Zj) (IH (l:=bd) (es:=(AC es b o k1)) b0.1 k0 (hc.le leA) (q0.le leA)) ?_;rintro _ _ ⟨l1,a1,c1,p1,r1,i0,rfl,rfl⟩;refine ⟨(hlF a0),?_⟩;refine dd [12] ?_;refine Wv 11 call248 (bD Zj Zj) (IH (l:=p) (es:=(AC es b o k1)) b0.2 j0 (hc.le leA) (o0.le leA)) ?_;rintro _ _ ⟨l2,a2,c2,p2,r2,h0,rfl,rfl⟩;refine ⟨trivial,?_⟩;refine rn [14,15,16,0,2,0,0,1] ?_;refine cS (q':=exM (Ex.mk fk fn j g m i fl fa fc)::exM (Ex.mk yk yn d a f c yl ya yc)::blM a1 c1 l1::blM a2 c2 l2::_) (bD Zj (bD Zj (bD Zj Zj))) ?_;refine cS (q':=stM (Stm.mk k ln cl z y (Ex.mk fk fn j g m i fl fa fc) (Ex.mk yk yn d a f c yl ya yc) l1 l2 a1 c1 a2 c2 id sl ot lo)::_) (aM (dK (φ:=fun M=>Stm.At M (Stm.mk k ln cl z y (Ex.mk fk fn j g m i fl fa fc) (Ex.mk yk yn d a f c yl ya yc) l1 l2 a1 c1 a2 c2 id sl ot lo)) (mn:=fun l h=>Stm.At.mono l h) ((Kn.exM.and (Kn.exM.there.and (Kn.blM.there.there.and Kn.blM.there.there.there))).imp fun M h=>⟨h.1,h.2.1,h.2.2.1,h.2.2.2.1,h.2.2.2.2⟩)) (cG _ ((dX _ _).trans ((dX _ _).trans ((dX _ _).trans (dX _ _)))))) ?_;exact jA ⟨rfl,Lv.del (mt:=454) rfl underlying454 underlying130 hJ c0 ((KeysAt.st hK).le leA) Zj (gE (q':=(stM (Stm.mk k ln cl z y (Ex.mk fk fn j g m i fl fa fc) (Ex.mk yk yn d a f c yl ya yc) l1 l2 a1 c1 a2 c2 id sl ot lo)::pto m1 (Ab es p2)::pto m2 (Ag r2)::q)) func290 (rA_ results290) ⟨_,rfl,(Stm.mk k ln cl z y (Ex.mk fk fn j g m i fl fa fc) (Ex.mk yk yn d a f c yl ya yc) l1 l2 a1 c1 a2 c2 id sl ot lo),p2,r2,by simp only [Stm.er,i0,h0,g0,f0],rfl,rfl⟩ leA)⟩
theorem L0 (IH:CSt G pc m1 m2 B N)(hN:N<=1000000)(hs:Zu l<=N)(hb:Vx B l)(hc:CellsAt q pc 0 (AI m1 m2))(hK:Kn q fun M=>BlkAt M a c l/\StKs M (Zu l) es):CallF prog G 248 (As pc a l c) (pto m1 (Ab es k1)::pto m2 (Ag k2)::q) (Ret fun v q'=> ∃ (l':List Stm) (a':Option Addr) (c':Nat) (k1' k2':Nat),Zk l'=Zk l/\v= .slice a' l'.length c'/\q'=blM a' c' l'::pto m1 (Ab es k1')::pto m2 (Ag k2')::q):=by
 refine aB func248 ntmps248 rfl fun F cs=> ?_;have hS:=eR (hK.imp fun M h=>h.1.1.2.2);have hl:l.length<=N:=dR (Hs l) hs;have k:=Zx Z2 l;obtain ⟨J_,hJ,_,z,_⟩:=info_parts V5;have y:J_.size≠0:=by rw [z];decide
 refine xx 16 ?_;refine aX (cC (fun (s:(Nat×Nat×Nat)×Option Addr×Nat×List Stm)=>s.1.1<=l.length/\Zk s.2.2.2=Zk (l.take s.1.1)/\s.2.2.2.length=s.1.1) (fun s=> [(0,.pointer (some ⟨pc,0,none⟩)),(1,.slice a l.length c),(5,.slice s.2.1 s.2.2.2.length s.2.2.1),(10,I64 l.length),(11,I64 (s.1.1:Int))]) (fun s=>rsH stC 25 138 s.2.1 s.2.2.1 s.2.2.2::stsM s.2.2.2::pto m1 (.map ((es).map Q5).toArray s.1.2.1)::pto m2 (.map (([]).map Q5).toArray s.1.2.2)::(q++F)) (fun s=>l.length - s.1.1) (fun s n p=> ?_) ((0,k1,k2),none,0, []) ⟨bC _,by simp [Zk],rfl⟩) Zn (aM leA (aM (aM (Zc stC 25 138 _) K9) leA));try dsimp only at n p|-
 obtain ⟨a0,e,w⟩:=n;obtain ⟨⟨i,j1,j2⟩,a1,c1,d⟩:=s;dsimp only at*;refine xx 5 ?_;refine xp 12 ?_ ?_<;>intro h0
 . have b:i<l.length:=(by omega);obtain ⟨x,j⟩:=lM l[i];have r:x.sz<=Zu l:=j ▸ Uy (aC b);have t:x.lm B:=j ▸ Ha hb (aC b);refine Z7 (hS.le leA) (by rw [k];omega) fun ab ao e_=> ?_;subst e_
   have o:Kn q fun M=>StAt M ⟨ab,ao+(i:Int).toNat*25,none⟩ x/\StKs M x.sz es:=hK.imp fun M h=>by
    obtain ⟨b',o',e1,e2⟩:=iZ Z2 (by decide) h.1.1.2.2 b
    cases e1
    exact ⟨⟨by rw [j];exact e2,by rw [j];exact Vd.1 h.1.2 _ (aC b)⟩,h.2.down r⟩
   refine rf [10,0,1,2,3,4,5,6,7] hc ?_;refine Yd (fl:= [⟨11,7,fun g=> pt g,fun g=>pto g Ay⟩]) ?_;refine jZ 7 ⟨⟨_,rfl,rfl,rfl,rfl,rfl,rfl,fun q=>cD zeroValue362⟩,trivial⟩ (Rd.efE (Pq underlying454 underlying130 hJ y rfl rfl ((KeysAt.st o).le leA) Zj zeroValue362)) ?_ (hL:=(hlF hc));refine kk0 ?_;refine Qa 8 ⟨⟨_,rfl,rfl,rfl,rfl,rfl,rfl,fun q=>cD zeroValue362⟩,trivial⟩ (Pu.move rfl) ?_;refine Qa 9 ⟨⟨_,rfl,rfl,rfl,rfl,rfl,rfl,fun q=>cD zeroValue362⟩,trivial⟩ (fP rfl rfl) ?_;refine Qa 10 ⟨⟨_,rfl,rfl,rfl,rfl,rfl,rfl,fun q=>cD zeroValue362⟩,trivial⟩ (fP rfl rfl) ?_;refine Ws (e0:=⟨11,7,fun g=> pt g,fun g=>pto g Ay⟩) (hnd:=by simp) 11 ⟨⟨_,rfl,rfl,rfl,rfl,rfl,rfl,fun q=>cD zeroValue362⟩,trivial⟩ fun ne=> ?_;change XF _ _ _ _ _ _ _ [] _ _ _ ((7,.pointer (some ⟨ne,0,none⟩))::_) _ _ (pto ne Ay::_);refine eQ ?_;refine rn [13,14,0,5,2026,7] ?_;refine Zv call290 (bD Zj Zj) (IH (s:=x) (es:=es) (by omega) t (hc.le leA) (o.le leA)) ?_;rintro _ _ ⟨s2,p2,r2,u,rfl,rfl⟩;refine bU (Yz stC underlying128 V5 rfl rfl Z2 rfl) ?_;rintro _ _ ⟨g,rfl,rfl⟩;refine bU (Z4 (f:=stC) (l:=d) (m:= [s2]) underlying128 V5 rfl rfl Z2 rfl rfl Zj ((cI _).le Zj) J5 (by simp;omega) (by simp;omega)) ?_;rintro _ _ ⟨a3,c3,rfl,rfl⟩;refine ox 7 ?_;refine cS (q':=stsM (d++ [s2])::_) (aM (bD Zj Zj) H1) ?_;refine aX (p ((i+1,p2,r2),a3,c3,d++ [s2]) ⟨by dsimp only;omega,by dsimp only;rw [Zja b,<-e,<-j,<-u,Yh,Yh,aO];rfl,by dsimp only;rw [aA];simp [w]⟩ (by dsimp only;omega)) Zn leA
 obtain rfl:i=l.length:=(by omega);rw [bV] at e;clear p;refine cS (q':=rsH stC 25 138 a1 c1 d::stsM d::_) (bD Zj Zj) ?_;refine X.frzR (Kn.blk Kn.stsM) (mn:=kZ) ?_ (hq:=aH _);refine xx 7 ?_;refine Zq (blM a1 c1 d::pto m1 (Ab es j1)::pto m2 (Ag j2)::q) func248 (Zf results248 rfl) ⟨_,rfl,d,a1,c1,j1,j2,e,rfl,rfl⟩
theorem Ic (hB:B<=1000000): ∀ N,N<=1000000->CSt G pc m1 m2 B N/\CSts G pc m1 m2 B N
 |0,_=>by
  have f:CSt G pc m1 m2 B 0:=fun {s} _ _ _ _ _ _ a=>aV a (by cases s;simp only [Stm.sz];omega)
  exact ⟨f,fun a c b d=>L0 f (by omega) a c b d⟩
 |N+1,hN=>by
  have h:CSts G pc m1 m2 B N:=(Ic hB N (by omega)).2;have e:CSt G pc m1 m2 B (N+1):=fun a c b d=>cst_step h hB a c b d
  exact ⟨e,fun a c b d=>L0 e hN a c b d⟩
end
mutual
def PStm.its:PStm->Int->List (Int×PStm)
 | .mk k ln cl nm wt e ix body els id slot other loc,d=>(d,.mk k ln cl nm wt e ix body els id slot other loc)::(Zt body (d+1)++Zt els (d+1))
def Zt:List PStm->Int->List (Int×PStm)
 | [],_=> []
 |s::r,d=>s.its d++Zt r d
end
theorem Kl: ∀ (l:List PStm) (d:Int),Zt l d=l.flatMap fun s=>s.its d
 | [],_=>rfl
 |s::r,d=>by simp only [Zt,bZ,Kl r d]
mutual
theorem Mz: ∀ (s:PStm) (d:Int),(∃ r,s.its d=(d,s)::r/\ ∀ x∈r,d<x.1)
 | .mk k ln cl nm wt e ix body els id slot other loc,d=>⟨_,rfl,fun x a=>by
  rcases bE.1 a with a|a
  . have:=Ka body (d+1) x a;omega
  have:=Ka els (d+1) x a;omega⟩
theorem Ka: ∀ (l:List PStm) (d:Int),∀ x∈Zt l d,d<=x.1
 | [],_,x,a=>by cases a
 |s::r,d,x,a=>by
  rcases bE.1 a with a|a
  . obtain ⟨t,c,b⟩:=Mz s d;rw [c] at a;rcases bG.1 a with rfl|a
    . exact bL _
    exact Int.le_of_lt (b x a)
  exact Ka r d x a
end
def Rg (l:List (Int×PStm)):List PStm:=(l.filter fun x=>x.1==1).map (·.2)
theorem G2 (a b:List (Int×PStm)):Rg (a++b)=Rg a++Rg b:=by simp [Rg]
theorem Xx: ∀ l:List PStm,Rg (Zt l 1)=l
 | []=>rfl
 |s::r=>by
  obtain ⟨t,e,d⟩:=Mz s 1
  have c:Rg t= []:=by
   unfold Rg;rw [List.map_eq_nil_iff,List.filter_eq_nil_iff];intro x a;have:=d x a;simp only [eI];omega
  have b:s.its 1= [(1,s)]++t:=e;simp only [Zt];rw [G2,b,G2,c,Xx r];rfl
theorem Zxq {l:List (Int×PStm)}(h:i<l.length):Rg (l.take (i+1))=Rg (l.take i)++(if l[i].1=1 then [l[i].2] else []):=by
 rw [aN h,G2];congr 1;unfold Rg;by_cases hx:l[i].1=1<;>simp [hx]
def itK (l:List PStm)(d:Int)(i:Nat):Nat:=((l.take i).flatMap fun s=>s.its d).length
theorem itK_step {l:List PStm}(h:i<l.length):itK l d (i+1)=itK l d i+(l[i].its d).length:=If _ h
theorem itK_all (l:List PStm)(d:Int):itK l d l.length=(Zt l d).length:=by unfold itK;rw [bV,Kl]
theorem itK_at {l:List PStm}(h:i<l.length)(hn:n<(l[i].its d).length):(Zt l d)[itK l d i+n]? =some (l[i].its d)[n]:=by
 rw [Kl];exact Cd _ l i n h hn
def Seg {α:Type}(L:List α)(k:Nat)(m:List α):Prop:= ∀ i,i<m.length->L[k+i]? =m[i]?
theorem Seg.app {α:Type}{L m n:List α}(h:Seg L k (m++n)):Seg L k m/\Seg L (k+m.length) n:=
 ⟨fun i a=>by rw [h i (by rw [aA];omega),dB a],fun i a=>by
  rw [fA,h (m.length+i) (by rw [aA];omega),dG (by omega)];congr 1;omega⟩
theorem Seg.item {l:List PStm}(h:Seg L k (Zt l d))(hi:i<l.length):Seg L (k+itK l d i) (l[i].its d):=fun n a=>by
 have b:=itK_at (d:=d) hi a;have c:=(cA.1 b).1;rw [fA,h _ c,b,aE a]
theorem Seg.self {α:Type}(L:List α):Seg L 0 L:=fun i _=>by rw [dO]
def ItR (x:Int×PStm)(vs:List Value)(A:HP):Prop:= ∃ s:Stm,s.er=x.2/\vs= [I64 x.1,.agg (stC s).toArray]/\A=stM s
section
variable {y:Nat}
abbrev AO :=((.map (([]).map Q5).toArray 0):Obj)
theorem Dj:CallF prog G 247 [] (q) (Ret fun v q'=> ∃ p m1 m2,v= .pointer (some ⟨p,0,none⟩)/\q'=pto m1 AO::pto m2 AO::pto p (.cells (AI m1 m2).toArray 457 (0,0))::q):=by
 refine aB func247 ntmps247 rfl fun F b=> ?_;refine xo 6 ?_;refine bU (kS) ?_;rintro _ _ ⟨m1,rfl,rfl⟩;refine bU (kS) ?_;rintro _ _ ⟨m2,rfl,rfl⟩;refine oo 1 ?_;refine Zl fun a=> ?_
 refine ox 2 ?_;refine Zq (pto m1 AO::pto m2 AO::pto a (.cells (AI m1 m2).toArray 457 (0,0))::q) func247 (Zf results247 rfl) ⟨_,rfl,a,m1,m2,rfl,rfl⟩
abbrev B8 (v0:List Stm)(v1:Int):=(Zt (Zk v0) v1)
abbrev Bb (v0:Value)(v1:HP->Prop)(v2:List HP)(v3:List HP):=(v0= .bool false/\ ∃ B,v1 B/\v2=B::v3)
def Wlk (G:World)(q:List HP)(y B:Nat)(L:List (Int×PStm))(J:Nat->HP)(Jf:HP->Prop)(N:Nat):Prop:= ∀ {l:List Stm} {a:Option Addr} {c:Nat} {d:Int} {k:Nat},Zu l<=N->Vx B l->(0<=d/\d+N<=2000000)->(Kn q fun M=>BlkAt M a c l)->Seg L k (B8 l d)->
 CallF prog G 250 [.slice a l.length c,I64 d,.func (.yield y) #[] #[]] (J k::q) (Ret fun v q'=>(v= .bool true/\q'=J (k+(B8 l d).length)::q)\/(Bb v Jf q' q))
abbrev Aw (v0:Nat):=((.func (.yield v0) #[] #[]):Value)
abbrev AM (v0:List (Int×PStm))(v1:World)(v2:Nat)(v3:Nat->HP)(v4:List HP)(v5:HP->Prop):=(∀ i (h:i<v0.length) vs A,ItR v0[i] vs A->CallV prog v1 (Aw v2) vs (v3 i::A::v4) (Ret fun v q'=>(v= .bool true/\q'=v3 (i+1)::v4)\/(Bb v v5 q' v4)))
theorem Zwx (hy:(AM L G y J q Jf))(IH: ∀ n,n<N->Wlk G q y B L J Jf n)(hB:B<=1000000)(hN:N<=1000000)(hs:Zu l<=N)(hb:Vx B l)(hd:0<=d/\d+N<=2000000)(hK:Kn q fun M=>BlkAt M a c l)(hL:Seg L k (B8 l d)):CallF prog G 250 [.slice a l.length c,I64 d,.func (.yield y) #[] #[]] (J k::q) (Ret fun v q'=>(v= .bool true/\q'=J (k+(B8 l d).length)::q)\/(Bb v Jf q' q)):=by
 refine aB func250 ntmps250 rfl fun F cs=> ?_;have hS:=eR (hK.imp fun M h=>h.1.2.2);have hl:l.length<=N:=dR (Hs l) hs;have g0:=Zx Z2 l;have v0:=Y9 l;refine xx 12 ?_;refine aX (cC (fun (s:Nat)=>s<=l.length) (fun s=> [(0,.slice a l.length c),(1,I64 d),(2,.func (.yield y) #[] #[]),(9,I64 l.length),(10,I64 s)]) (fun s=>J (k+itK (Zk l) d s)::(q++F)) (fun s=>l.length - s) (fun s i0 ih=> ?_) 0 (bC _)) Zn leA;try dsimp only at i0 ih|-
 obtain hi:=i0;refine xx 5 ?_;refine xp 11 ?_ ?_<;>intro h0
 . have o:s<l.length:=(by omega);have f0:s<(Zk l).length:=(by omega);have c0:(Zk l)[s]=l[s].er:=by simp only [Yh,iG]
   have f:=hL.item (i:=s) f0;rw [c0] at f;have j:=itK_step (d:=d) f0;rw [c0] at j;obtain ⟨x,hx⟩:=lM l[s];have r0:x.sz<=Zu l:=hx ▸ Uy (aC o);have d0:x.lm B:=hx ▸ Ha hb (aC o);rw [<-hx] at f j;refine Z7 (hS.le leA) (by rw [g0];omega) fun ab ao e_=> ?_;subst e_
   have p:Kn q fun M=>StAt M ⟨ab,ao+(s:Int).toNat*25,none⟩ x:=hK.imp fun M h=>by
    obtain ⟨b',o',e1,e2⟩:=iZ Z2 (by decide) h.1.2.2 o
    cases e1
    exact ⟨by rw [hx];exact e2,by rw [hx];exact Vd.1 h.2 _ (aC o)⟩
   refine rn [11,0,1,2,4,5,6] ?_;refine Wv 2 call247 (aH _) (Dj) ?_;rintro _ _ ⟨pc,m1,m2,rfl,rfl⟩;refine ⟨trivial,?_⟩;refine Wv 6 call290 (bD Zj Zj) ((Ic (m1:=m1) (m2:=m2) hB N hN).1 (s:=x) (es:= []) (by omega) d0 (dH Vb) ((p.le leA).imp fun M h=>⟨h,fun _ h=>by cases h⟩)) ?_;rintro _ _ ⟨s2,j1,j2,t0,rfl,rfl⟩;refine ⟨trivial,?_⟩
   have u:L[k+itK (Zk l) d s]? =some (d,x.er):=by
    obtain ⟨r_,e1,_⟩:=Mz x.er d;have:=f 0 (by rw [e1];exact Nat.succ_pos _);rw [e1] at this;exact this
   have q0:=hy (k+itK (Zk l) d s) (cA.1 u).1 [I64 d,.agg (stC s2).toArray] (stM s2) ⟨s2,by rw [(cA.1 u).2];exact t0,by rw [(cA.1 u).2],rfl⟩;refine XD.cV 7 q0 ?_ (hq:=(bD Zj (bD Zj leA)));rintro _ _ (⟨rfl,rfl⟩|⟨rfl,t,g,rfl⟩) _ b<;>simp only [ca,na] at b<;>subst b
   . refine ⟨trivial,?_⟩;refine rn [9,0,1021] ?_;obtain ⟨kk,ln,cl,nm,wt,⟨ek,en,m0,k0,n0,l0,el,ea,ec⟩,⟨xk,xn,a0,xsl,b0,z,xl,xa,xc⟩,w,e,ba,bc,p0,o0,id,sl,ot,lo⟩:=x;obtain ⟨z0,y0,x0,w0⟩:=d0;have j0:=gL p;have hz:Zu w+Zu e+1<=N:=(by simp only [Stm.sz] at r0;omega);have u0:PStm.its (Stm.er (.mk kk ln cl nm wt (Ex.mk ek en m0 k0 n0 l0 el ea ec) (Ex.mk xk xn a0 xsl b0 z xl xa xc) w e ba bc p0 o0 id sl ot lo)) d=(d,Stm.er (.mk kk ln cl nm wt (Ex.mk ek en m0 k0 n0 l0 el ea ec) (Ex.mk xk xn a0 xsl b0 z xl xa xc) w e ba bc p0 o0 id sl ot lo))::(Zt (Zk w) (d+1)++Zt (Zk e) (d+1)):=by simp only [Stm.er,PStm.its]
     rw [u0] at f j;rw [aJ,aA] at j;have r:=(Seg.app (m:= [_]) f).2;rw [eN] at r;obtain ⟨s0,e0⟩:=r.app;refine rf [8,0,3] j0 ?_;refine Vg call250 (IH (Zu w) (by omega) (k:=(k+itK (Zk l) d s+1)) (aU _) x0 (by omega) (p.imp fun M h=>h.2.2.2.1) s0) ?_;rintro _ _ (⟨rfl,rfl⟩|⟨rfl,t,g,rfl⟩) _ b<;>simp only [ca,na] at b<;>subst b
     . refine rf [6,0,3] j0 ?_;refine Vg call250 (IH (Zu e) (by omega) (k:=(k+itK (Zk l) d s+1+(Zt (Zk w) (d+1)).length)) (aU _) w0 (by omega) (p.imp fun M h=>⟨h.2.2.2.2.1,h.2.2.2.2.2⟩) e0) ?_;rintro _ _ (⟨rfl,rfl⟩|⟨rfl,t,g,rfl⟩) _ b<;>simp only [ca,na] at b<;>subst b
       . refine ox 10 ?_;rw [show k+itK (Zk l) d s+1+(Zt (Zk w) (d+1)).length+(Zt (Zk e) (d+1)).length=k+itK (Zk l) d (s+1) by omega];refine aX (ih (s+1) (by omega) (by omega)) Zn leA
       refine ox 8 ?_;refine Zq (t::q) func250 (Zf results250 rfl) ⟨_,rfl,.inr ⟨rfl,t,g,rfl⟩⟩
     refine ox 19 ?_;refine Zq (t::q) func250 (Zf results250 rfl) ⟨_,rfl,.inr ⟨rfl,t,g,rfl⟩⟩
   refine ⟨trivial,?_⟩;refine rn [9,0,2021,5] ?_;refine Zq (t::q) func250 (Zf results250 rfl) ⟨_,rfl,.inr ⟨rfl,t,g,rfl⟩⟩
 obtain rfl:s=l.length:=(by omega);rw [show itK (Zk l) d l.length=(B8 l d).length by rw [<-v0];exact itK_all _ _];refine xx 6 ?_;refine Zq (J (k+(B8 l d).length)::q) func250 (Zf results250 rfl) ⟨_,rfl,.inl ⟨rfl,rfl⟩⟩
theorem walk_all (hy:(AM L G y J q Jf))(hB:B<=1000000)(N:Nat)(hN:N<=1000000):Wlk G q y B L J Jf N:=by
 induction N using Nat.strongRecOn with
 |ind N IH=>exact fun a d c f e=>Zwx hy (fun n b=>IH n b (by omega)) hB hN a d c f e
abbrev B6 (v0:List Stm):=(Zt (Zk v0) 1)
abbrev AR (v0:Nat)(v1:Nat):=([.func (.yield v0) #[] #[],.pointer (some ⟨v1,0,none⟩)]:List Value)
theorem Zwu (hB:B<=1000000)(hs:Zu l<=1000000)(hb:Vx B l)(hK:Kn q fun M=>BlkAt M a c l)(hc:CellsAt q nb 0 [.slice a l.length c])
 (hy: ∀ i (h:i<(B6 l).length) vs A,ItR (B6 l)[i] vs A->CallV prog G (Aw y) vs (J i::A::q) (Ret fun v q'=>(v= .bool true/\q'=J (i+1)::q)\/(Bb v Jf q' q))):
 CallF prog G 249 (AR y nb) (J 0::q) (Ret fun _ q'=>q'=J (B6 l).length::q\/ ∃ A,Jf A/\q'=A::q):=by
 refine aB func249 ntmps249 rfl fun F g=> ?_;refine rf [1,0,1] hc ?_;refine Vg call250 (walk_all hy hB (Zu l) hs (k:=0) (aU _) hb (by omega) hK (Seg.self _)) ?_;rintro _ _ e _ d;subst d;rw [dO] at e;rcases e with ⟨rfl,rfl⟩|⟨rfl,f,b,rfl⟩
 . simp only [ca,na];refine ox 1 ?_;refine Zr (J (B6 l).length::q) func249 (Yy results249) ⟨_,rfl,.inl rfl⟩
 simp only [ca,na];refine ox 1 ?_;refine Zr (f::q) func249 (Yy results249) ⟨_,rfl,.inr ⟨f,b,rfl⟩⟩
theorem Gf (hB:B<=1000000)(hs:Zu l<=1000000)(hb:Vx B l)(hK:Kn q fun M=>BlkAt M a c l)(hc:CellsAt q nb 0 [.slice a l.length c]):IterR prog G (.func (.func 249) [].toArray (A3 nb).toArray) ItR (B6 l) q:=
 fun y J Jf hy=>gT call249 (Zwu (G:=G) (J:=J) (Jf:=Jf) hB hs hb hK hc hy)
theorem Zqm {x0 x1 x2 x4:Int}{x3:ByteArray}(hB:B<=1000000)(hs:Zu l<=1000000)(hb:Vx B l)(hK:Kn q fun M=>BlkAt M a c l):CallF prog G 187 [.agg [I64 x0,I64 x1,I64 x2,.string x3,I64 x4,.slice a l.length c].toArray] (q) (Ret fun v q'=> ∃ (l':List Stm) (a':Option Addr) (c' nb:Nat),Zk l'=Zk l/\v= .func (.func 249) [].toArray [.pointer (some ⟨nb,0,none⟩)].toArray/\q'=pto nb (.cells [.slice a' l'.length c'].toArray 128 (0,0))::blM a' c' l'::q):=by
 refine aB func187 ntmps187 rfl fun F m=> ?_;refine xo 2 ?_;refine Zl fun i=> ?_
 refine rn [3,0,2,3] ?_;refine Yd (fl:= [⟨4,3,fun g=> pt g,fun g=>pto g (.cells zz10.toArray 128 (0,0))⟩]) ?_;refine Td 0 ⟨⟨_,rfl,rfl,rfl,rfl,rfl,rfl,fun q=>cD zeroValue128⟩,trivial⟩ call247 (aH _) (Dj) ?_;rintro _ _ ⟨pc,m1,m2,rfl,rfl⟩;refine ⟨hlA,?_⟩;refine Td 3 ⟨⟨_,rfl,rfl,rfl,rfl,rfl,rfl,fun q=>cD zeroValue128⟩,trivial⟩ call248 (bD Zj Zj) ((Ic (m1:=m1) (m2:=m2) hB 1000000 (aU _)).2 (l:=l) (es:= []) hs hb (dH Vb) ((hK.le leA).imp fun M h=>⟨h,fun _ h=>by cases h⟩)) ?_;rintro _ _ ⟨b,f,e,k,j,d,rfl,rfl⟩;refine ⟨trivial,?_⟩;refine Ws (e0:=⟨4,3,fun g=> pt g,fun g=>pto g (.cells zz10.toArray 128 (0,0))⟩) (hnd:=by simp) 4 ⟨⟨_,rfl,rfl,rfl,rfl,rfl,rfl,fun q=>cD zeroValue128⟩,trivial⟩ fun nb=> ?_;change XF _ _ _ _ _ _ _ [] _ _ _ ((3,.pointer (some ⟨nb,0,none⟩))::_) _ _ (pto nb (.cells zz10.toArray 128 (0,0))::_);refine eQ ?_;refine rn [6,0,5] ?_;refine Zq (pto nb (.cells [.slice f b.length e].toArray 128 (0,0))::blM f e b::q) func187 (Zf results187 rfl) ⟨_,rfl,b,f,e,nb,d,rfl,rfl⟩
end
theorem T5:(prog.info? 218).map (fun i=>(i.zero,i.size,i.bytes))=some (some (.agg #[.string ⟨#[]⟩,I64 0,.slice none 0 0]),3,48):=by kernel_rfl
theorem Fs:(prog.info? 9).map (fun i=>(i.zero,i.size,i.bytes))=some (some (.string ⟨#[]⟩),1,16):=by kernel_rfl
abbrev zEx:Ex:= .mk 0 0 ⟨#[]⟩ 0 false 0 [] none 0
abbrev zSm:Stm:= .mk 0 0 0 ⟨#[]⟩ ⟨#[]⟩ zEx zEx [] [] none 0 none 0 0 0 0 false
mutual
theorem Pc: ∀ {x y:Ex},x.er=y.er->x.sz=y.sz
 | .mk ..,.mk ..,h=>by
  simp only [Ex.er,PEx.mk.injEq] at h;simp only [Ex.sz,Sk h.2.2.2.2.2.2]
theorem Sk: ∀ {l m:List Ex},Z5 l=Z5 m->Wf l=Wf m
 | [], [],_=>rfl
 | [],_::_,h=>by simp [Z5] at h
 |_::_, [],h=>by simp [Z5] at h
 |x::l,y::m,h=>by
  simp only [Z5,jR] at h;simp only [Wf,Pc h.1,Sk h.2]
end
mutual
theorem Zx9 {B:Nat}: ∀ {x y:Stm},x.er=y.er->y.lm B->x.lm B
 | .mk ..,.mk ..,h,⟨h1,h2,h3,h4⟩=>by
  simp only [Stm.er,PStm.mk.injEq] at h;obtain ⟨_,_,_,_,_,d,c,b,a,_⟩:=h;exact ⟨Pc d ▸ h1,Pc c ▸ h2,Ki b h3,Ki a h4⟩
theorem Ki {B:Nat}: ∀ {l m:List Stm},Zk l=Zk m->Vx B m->Vx B l
 | [],_,_,_=>trivial
 |_::_, [],h,_=>by simp [Zk] at h
 |x::l,y::m,h,⟨h1,h2⟩=>by
  simp only [Zk,jR] at h;exact ⟨Zx9 h.1 h1,Ki h.2 h2⟩
end
def cbI (B:List PStm)(k nb:Nat):HP:=ex fun x:List Stm×Option Addr×Nat=>stars [pure (Zk x.1=Rg ((Zt B 1).take k)),pto nb (.cells [.slice x.2.1 x.1.length x.2.2].toArray 128 (0,0)),rsH stC 25 138 x.2.1 x.2.2 x.1,stsM x.1]
theorem Zjn {B:List PStm}{r:List HP}(x:List Stm×Option Addr×Nat)(h:Zk x.1=Rg ((Zt B 1).take k))(hle:Le q (pto nb (.cells [.slice x.2.1 x.1.length x.2.2].toArray 128 (0,0))::rsH stC 25 138 x.2.1 x.2.2 x.1::stsM x.1::r)):Le q (cbI B k nb::r):=
 Wa x (hle.trans ((Yc h _).trans (by exact Zm [_,_,_,_] r)))
theorem X.cbI {P:Program}{f:Fc}{Q:Yw}{todo:List Item}{p:PE}{ds:List Deferred}{cs:List Frame}{B:List PStm}
 (x: ∀ (l:List Stm) (a:Option Addr) (c:Nat),Zk l=Rg ((Zt B 1).take k)->X P G f Q todo p ds cs (pto nb (.cells [.slice a l.length c].toArray 128 (0,0))::rsH stC 25 138 a c l::stsM l::q)):X P G f Q todo p ds cs (Go.Proofs.YtadahhbefdnabaaGreatDoor.cbI B k nb::q):=
 X.ex (fun s=>cS (Zy _ _) (X.pure (fun h=>x s.1 s.2.1 s.2.2 h)))
theorem ones_len (l:List (Int×PStm)):(Rg l).length<=l.length:=by unfold Rg;rw [aI];exact fZ _ _
mutual
theorem Zqn: ∀ (s:Stm) (d:Int),(s.er.its d).length=s.sz
 | .mk _ _ _ _ _ _ _ body els _ _ _ _ _ _ _ _,d=>by simp only [Stm.er,PStm.its,aJ,aA,Stm.sz,Vu body,Vu els]
theorem Vu: ∀ (l:List Stm) (d:Int),(Zt (Zk l) d).length=Zu l
 | [],_=>rfl
 |s::r,d=>by simp only [Zk,Zt,aA,Zu,Zqn s,Vu r]
end
theorem C9 (a b:List Stm):Zk (a++b)=Zk a++Zk b:=by rw [Yh,Yh,Yh,aO]
theorem X6 (hB:B<=1000000)(hs:Zu l<=1000000)(hb:Vx B l)(hK:Kn q fun M=>BlkAt M a c l):CallF prog G 108 [.slice a l.length c] (q) (Ret fun v q'=> ∃ (l':List Stm) (a':Option Addr) (c':Nat),Zk l'=Zk l/\v= .slice a' l'.length c'/\q'=blM a' c' l'::q):=by
 refine aB func108 ntmps108 rfl fun F cs=> ?_;refine xo 6 ?_;refine Zh zeroValue128 fun n1=> ?_
 refine oo 6 ?_;refine Zv call187 (aH _) (Zqm (l:=l) hB hs hb (hK.le leA)) ?_;rintro _ _ ⟨l2,a2,c2,nb,c0,rfl,rfl⟩;refine ox 2 ?_;have g0:Zu l2=Zu l:=by rw [<-Vu l2 0,<-Vu l 0,c0]
 refine cS (q':=pto nb (.cells [.slice a2 l2.length c2].toArray 128 (0,0))::_) leA (fX ?_);have f0:=Ki c0 hb;refine Zqx (xs:=Zt (Zk l2) 1) [im nb (.cells [.slice a2 l2.length c2].toArray 128 (0,0)),blM a2 c2 l2] (fun k:Nat=> [cbI (Zk l2) k n1]) (fun _ _=>False) (F:=q++F) (Gf (B:=B) (by omega) (by omega) f0 (Kn.blM.there) (dH (iT _ _ _))) rfl ?_ (by rintro _ _ _ ⟨_,_,rfl,_⟩;rfl) rfl (by rw [func108];rfl) rfl (fun i hi vs A hA l9 rec F0 j0=> ?_) (fun r=> ?_) (fun _ _ _ hJ=>hJ.elim)
 . simp only [ca,na];refine Zjn ([],none,0) (by simp [Zk,Rg]) ?_;exact aM leA (aM (Zc stC 25 138 _) (aM K9 leA))
 . obtain ⟨s2,e0,rfl,rfl⟩:=hA;obtain ⟨x,hx⟩:=lM (Zt (Zk l2) 1)[i];rw [<-hx] at e0|-;have d0:=Zxq hi;rw [<-hx] at d0;refine X.sub (p':= [(10,_),(9,_),(8,_),(3,_),(2,_)]) ⟨rfl,rfl,rfl,rfl,rfl,trivial⟩ ?_;simp only [ca,na];refine cS (q':=cbI (Zk l2) i n1::_) Zj (X.cbI (fun d a1 c1 h1=> ?_));have i0:d.length<=1000000:=by have e1:=aQ List.length h1;rw [Y9] at e1;have e2:=ones_len ((Zt (Zk l2) 1).take i);rw [bI,Vu] at e2;omega
   obtain ⟨kk,ln,cl,nm,wt,⟨ek,en,y,s,z,w,el,ea,ec⟩,⟨xk,xn,h,xsl,p,e,xl,xa,xc⟩,bd,t,ba,bc,b0,a0,id,sl,ot,lo⟩:=s2;refine xo 5 ?_;refine Zh zeroValue138 fun n2=> ?_
   refine rn [0,1] ?_;refine fM rfl leA ?_;refine xx 6 ?_;refine xp 12 ?_ ?_<;>intro h0
   . refine rn [1,0,1,2,3] ?_;refine eE 3 rfl (Yz (u:=zSm) stC underlying128 V5 rfl rfl Z2 rfl) ?_;rintro _ _ ⟨g,rfl,rfl⟩;refine ⟨hlA,?_⟩;refine eE 4 rfl (Z4 (f:=stC) (l:=d) (m:= [zSm]) underlying128 V5 rfl rfl Z2 rfl rfl Zj ((cI _).le Zj) J5 (by simp;omega) (by simp;omega)) ?_;refine kk2 fun a3 c3=> ?_
     refine C7 (l:=d++ [zSm]) (by simp) fun g3 e3=> ?_;subst e3;refine Fv 5 rfl (Pu.indexAddr rfl rfl underlying128 sizeOf138 (by omega) (by simp;omega)) ?_;refine Yd (fl:= []) (XF.two 6 7 trivial (Nd 6 (fun E=>Sw (fl:=stC) (l:=d++ [zSm]) (u:=(Stm.mk kk ln cl nm wt (Ex.mk ek en y s z w el ea ec) (Ex.mk xk xn h xsl p e xl xa xc) bd t ba bc b0 a0 id sl ot lo)) (n:=d.length) (j:=(d.length:Int)) (g:=g3) (c:=c3) (et:=138) rfl rfl sizeOf138 Z2 rfl (by simp) (J5 _) Zj E) ?_) (Nd 7 (fun E=>Ef.stE (b:=n1) (o:=0) (l:= [.slice a1 d.length c1]) (v:= .slice (some ⟨g3,0,none⟩) (d++ [zSm]).length c3) (t':=128) sizeOf128 rfl rfl rfl rfl Zj rfl E) ?_))
     focus
      rintro _ _ ⟨rfl,rfl⟩;refine ⟨trivial,eQ ?_⟩;refine stD 7 ?_
     rotate_left
     focus
      rintro _ _ ⟨rfl,rfl⟩;refine ⟨trivial,eQ ?_⟩;refine iM 6 rfl (Pl (a:=none) (fl:=stC) (l:=d++ [zSm]) (u:=(Stm.mk kk ln cl nm wt (Ex.mk ek en y s z w el ea ec) (Ex.mk xk xn h xsl p e xl xa xc) bd t ba bc b0 a0 id sl ot lo)) (n:=d.length) rfl rfl sizeOf138 Z2 rfl (by simp) (J5 _) Zj) ?_;refine kk0 ?_
     all_goals
      refine rn [0,1] ?_;rw [show (d++ [zSm]).set d.length (Stm.mk kk ln cl nm wt (Ex.mk ek en y s z w el ea ec) (Ex.mk xk xn h xsl p e xl xa xc) bd t ba bc b0 a0 id sl ot lo)=d++ [(Stm.mk kk ln cl nm wt (Ex.mk ek en y s z w el ea ec) (Ex.mk xk xn h xsl p e xl xa xc) bd t ba bc b0 a0 id sl ot lo)] by simp];refine cS (q':=stsM (d++ [(Stm.mk kk ln cl nm wt (Ex.mk ek en y s z w el ea ec) (Ex.mk xk xn h xsl p e xl xa xc) bd t ba bc b0 a0 id sl ot lo)])::_) (aM (bD Zj Zj) H1) ?_;refine gC ⟨rfl,rfl,?_⟩;simp only [ca,na];refine bD Zj (Zjn (d++ [(Stm.mk kk ln cl nm wt (Ex.mk ek en y s z w el ea ec) (Ex.mk xk xn h xsl p e xl xa xc) bd t ba bc b0 a0 id sl ot lo)],some ⟨g3,0,none⟩,c3) (by rw [C9,h1,d0,if_pos h0,<-e0];rfl) ?_);rw [show (d++ [zSm]).length=(d++ [(Stm.mk kk ln cl nm wt (Ex.mk ek en y s z w el ea ec) (Ex.mk xk xn h xsl p e xl xa xc) bd t ba bc b0 a0 id sl ot lo)]).length by simp];exact leA
   refine xx 3 ?_;refine gC ⟨rfl,rfl,?_⟩;simp only [ca,na];refine bD Zj (Zjn (d,a1,c1) (by rw [h1,d0,if_neg h0,bR]) leA)
 simp only [ca,na];refine cS (q':=cbI (Zk l2) (Zt (Zk l2) 1).length n1::_) Zj (X.cbI (fun d a1 c1 h1=> ?_));rw [bV,Xx,c0] at h1;refine cS (q':=rsH stC 25 138 a1 c1 d::stsM d::_) (bD Zj Zj) ?_;refine X.frzR (Kn.blk Kn.stsM) (mn:=kZ) ?_ (hq:=aH _);refine rn [3,0,2] ?_;exact jA ⟨rfl,Ke (q':=blM a1 c1 d::(q++F)) (gE (q':=blM a1 c1 d::q) func108 (Zf results108 rfl) ⟨_,rfl,d,a1,c1,h1,rfl,rfl⟩ leA) (hq:=bD Zj leA)⟩
theorem Uh (x:Th):(thC x).length=3:=rfl
theorem Zkd (x:Th):(thC x).all (·.oneCell')=true:=rfl
theorem Ma {l:List ByteArray}(hs:Sees q a (l.map Value.string))(hL:l.length<=1000000000):CallF prog G 109 [.slice a l.length c] (q) (Ret fun v q'=> ∃ a' c',v= .slice a' l.length c'/\q'=lsH Value.string 9 a' c' l::q):=by
 refine aB func109 ntmps109 rfl fun F k=> ?_;rcases cW l.length with b|b
 . obtain rfl:=aS b;refine xx 10 ?_;refine cY 4 rfl ?_ ?_<;>intro j
   . refine xx 5 ?_;refine Zq (lsH Value.string 9 none 0 []::q) func109 (Zf results109 rfl) ⟨_,rfl,none,0,rfl,rfl⟩ ((leA).trans (Z1 _ _ _))
   refine xo 4 ?_;refine bU (Ry Value.string underlying25 Fs) ?_;rintro _ _ ⟨g,rfl,rfl⟩;refine oo 1 ?_;refine bU (Yb (f:=Value.string) (l:= []) (m:= []) underlying25 Fs rfl rfl rfl Zj (hs.le leA) (fun _=>rfl) (by simp;try omega) (by simp;try omega)) ?_;rintro _ _ ⟨e,d,rfl,rfl⟩;refine ox 2 ?_;refine Zq (lsH Value.string 9 e d []::q) func109 (Zf results109 rfl) ⟨_,rfl,e,d,by simp,rfl⟩
 refine Z7 hs (by simp;omega) fun n i h=> ?_;subst h;refine rn [10,1004,4] ?_;refine bU (Ry Value.string underlying25 Fs) ?_;rintro _ _ ⟨g,rfl,rfl⟩;refine oo 1 ?_;refine bU (Yb (f:=Value.string) (l:= []) (m:=l) underlying25 Fs rfl rfl rfl Zj (hs.le leA) (fun _=>rfl) (by simp;try omega) (by simp;try omega)) ?_;rintro _ _ ⟨e,d,rfl,rfl⟩;refine ox 2 ?_;refine Zq (lsH Value.string 9 e d l::q) func109 (Zf results109 rfl) ⟨_,rfl,e,d,by simp,rfl⟩
theorem Zym {l:List Th}(hs:Sees q a (l.flatMap thC))(hL:l.length<=1000000000):CallF prog G 107 [.slice a l.length c] (q) (Ret fun v q'=> ∃ a' c',v= .slice a' l.length c'/\q'=rsH thC 3 218 a' c' l::q):=by
 refine aB func107 ntmps107 rfl fun F k=> ?_;rcases cW l.length with b|b
 . obtain rfl:=aS b;refine xx 10 ?_;refine cY 4 rfl ?_ ?_<;>intro j
   . refine xx 5 ?_;refine Zq (rsH thC 3 218 none 0 []::q) func107 (Zf results107 rfl) ⟨_,rfl,none,0,rfl,rfl⟩ ((leA).trans (Zc _ _ _ _))
   refine xo 4 ?_;refine bU (U3 thC underlying24 T5) ?_;rintro _ _ ⟨g,rfl,rfl⟩;refine oo 1 ?_;refine bU (Z4 (f:=thC) (l:= []) (m:= []) underlying24 T5 rfl rfl Uh rfl rfl Zj (hs.le leA) Zkd (by simp;try omega) (by simp;try omega)) ?_;rintro _ _ ⟨e,d,rfl,rfl⟩;refine ox 2 ?_;refine Zq (rsH thC 3 218 e d []::q) func107 (Zf results107 rfl) ⟨_,rfl,e,d,by simp,rfl⟩
 refine Z7 hs (by rw [Zx Uh];omega) fun n i h=> ?_;subst h;refine rn [10,1004,4] ?_;refine bU (U3 thC underlying24 T5) ?_;rintro _ _ ⟨g,rfl,rfl⟩;refine oo 1 ?_;refine bU (Z4 (f:=thC) (l:= []) (m:=l) underlying24 T5 rfl rfl Uh rfl rfl Zj (hs.le leA) Zkd (by simp;try omega) (by simp;try omega)) ?_;rintro _ _ ⟨e,d,rfl,rfl⟩;refine ox 2 ?_;refine Zq (rsH thC 3 218 e d l::q) func107 (Zf results107 rfl) ⟨_,rfl,e,d,by simp,rfl⟩
theorem thsK {l:List Th}{x:Th}(h:Ths.At M l)(hx:BlkAt M x.a x.c x.body):Ths.At M (l++ [x]):=fun y b=>by
 rcases bE.1 b with b|b
 . exact h y b
 rw [bN.1 b];exact hx
theorem Ths.At.mono {l:List Th}{M':Hp}(e:Hle M M')(h:Ths.At M l):Ths.At M' l:=fun x hx=>(h x hx).mono e
def thsM (l:List Th):HP:=lst (fun M=>Ths.At M l) fun e h=>Ths.At.mono e h
theorem Kn.thsM {q:List HP}{l:List Th}:Kn (thsM l::q) fun M=>Ths.At M l:=fJ
structure CpOk (B:Nat) (g:FC):Prop where
 l:g.vars.l.length<=1000000/\g.arrs.l.length<=1000000/\g.chs.l.length<=1000000/\g.ths.l.length<=1000000/\g.nv.l.length<=1000000/\g.na.l.length<=1000000/\g.nm.l.length<=1000000/\g.nc.l.length<=1000000/\g.nh.l.length<=1000000
 b:B<=1000000
 t: ∀ x∈g.ths.l,Zu x.body<=1000000/\Vx B x.body
abbrev AB (v0:FC):=([.agg (pgC v0).toArray]:List Value)
theorem Xk (hK:Kn q fun M=>g.At M)(hB:CpOk B g):CallF prog G 50 (AB g) (q) (Ret fun v q'=> ∃ g':FC,g'.er=g.er/\v= .agg (pgC g').toArray/\q'=fcM g'::q):=by
 refine aB func50 ntmps50 rfl fun F cs=> ?_;obtain ⟨b1,b2,b3,b4,b5,b6,b7,b8,b9⟩:=hB.l;have hV:=(dV (hK.imp fun M h=>h.vars));have hA:=(dV (hK.imp fun M h=>h.arrs));have hC:=(dV (hK.imp fun M h=>h.chs));rw [Ul] at hV hA hC;have hT:=dV (hK.imp fun M h=>h.ths);have s0:=Zx Uh g.ths.l;have i0:=dV (hK.imp fun M h=>h.nv);rw [Ut] at i0;have n0:=dV (hK.imp fun M h=>h.na);rw [Ut] at n0;have j0:=dV (hK.imp fun M h=>h.nm);rw [Ut] at j0;have m0:=dV (hK.imp fun M h=>h.nc);rw [Ut] at m0;have l0:=dV (hK.imp fun M h=>h.nh);rw [Ut] at l0;refine xo 2 ?_;refine Zl fun n1=> ?_
 refine Zh zeroValue29 fun n2=> ?_
 refine rn [3,0] ?_;refine Zh zeroValue29 fun n3=> ?_
 refine rn [0,2,0,1,2,4,5,7,8] ?_;refine Wv 2 call93 (aH _) (Jx (l:=g.vars.l) (hV.le leA) (by omega)) ?_;refine kk2 fun a1 d1=> ?_
 refine dd [9] ?_;refine Wv 5 call94 (aH _) (Hx (l:=g.arrs.l) (hA.le leA) (by omega)) ?_;refine kk2 fun a2 d2=> ?_
 refine Wv 8 call94 (aH _) (Hx (l:=g.chs.l) (hC.le leA) (by omega)) ?_;refine kk2 fun a3 d3=> ?_
 refine rn [11,12,13,14,15,0,3,0] ?_;refine Zv call107 (aH _) (Zym (l:=g.ths.l) (hT.le leA) (by omega)) ?_;rintro _ _ ⟨a4,d4,rfl,rfl⟩;refine rn [1,0,5,0,4] ?_;refine aX (cC (fun (s:Nat×List Th)=>s.1<=g.ths.l.length/\s.2.length=s.1/\s.2.map Th.er=(g.ths.l.take s.1).map Th.er) (fun s=> [(2,pt n2),(3,pt n3),(1,pt n1),(25,.slice g.ths.a g.ths.l.length g.ths.c),(26,I64 g.ths.l.length),(27,I64 (s.1:Int))]) (fun s=>pto n3 (.cells [.slice a1 g.vars.l.length d1,.slice a2 g.arrs.l.length d2,I64 g.mu,I64 g.co,.slice a3 g.chs.l.length d3,.slice a4 g.ths.l.length d4,I64 g.main,I64 g.stm,g.nv.v,g.na.v,g.nm.v,g.nc.v,g.nh.v].toArray 29 (0,0))::pto n2 AY::pto n1 (.cells [g.vars.v,g.arrs.v,I64 g.mu,I64 g.co,g.chs.v,g.ths.v,I64 g.main,I64 g.stm,g.nv.v,g.na.v,g.nm.v,g.nc.v,g.nh.v].toArray 29 (0,0))::lsH I64 2 a1 d1 g.vars.l::lsH I64 3 a2 d2 g.arrs.l::lsH I64 3 a3 d3 g.chs.l::rsH thC 3 218 a4 d4 (s.2++g.ths.l.drop s.1)::thsM s.2::(q++F)) (fun s=>g.ths.l.length - s.1) (fun s t0 ih=> ?_) (0, []) ⟨bC _,rfl,rfl⟩) Zn (aM leA (aM (dK (φ:=fun M=>Ths.At M []) (mn:=fun e h=>Ths.At.mono e h) (fun _ _ _ _ h=>by cases h)) leA));try dsimp only at t0 ih|-
 obtain ⟨w0,p0,e0⟩:=t0;obtain ⟨i,d⟩:=s;dsimp only at*;refine xx 5 ?_;refine xp 28 ?_ ?_<;>intro h0
 . have d0:i<g.ths.l.length:=(by omega);obtain ⟨y,hy⟩:=lM g.ths.l[i];have r0:=hB.t y (hy ▸ aC d0);refine Z7 (hT.le leA) (by rw [s0];omega) fun ab ao e_=> ?_;rw [e_] at hT;rw [e_];refine U7 (l:=d++g.ths.l.drop i) (by rw [aA,cE];omega) fun g4 e4=> ?_;subst e4;refine xo 8 ?_;refine Qi (n:=i) isAgg218 sizeOf218 hT d0 ?_;refine Zh zeroValue218 fun n4=> ?_
   refine rn [1,0,1,0,1,2,3,4,5] ?_;refine dY 36 (.slice y.a y.body.length y.c) rfl (by rw [hy]) ?_;refine Wv 5 call108 (aH _) (X6 (l:=y.body) (a:=y.a) (c:=y.c) hB.b r0.1 r0.2 ((hK.le leA).imp fun M h=>h.bod y (hy ▸ aC d0))) ?_;rintro _ _ ⟨l2,g0,f0,v0,rfl,rfl⟩;refine ⟨hlA,?_⟩;refine dd [6,7] ?_;refine iM 8 rfl (V4 (g:=g4) (f:=thC) (l:=d++g.ths.l.drop i) (u:= { y with body:=l2,a:=g0,c:=f0 }) (n:=i) (k:=2) (j:=(i:Int)) rfl rfl sizeOf128 Uh rfl (by rw [aA,cE];omega) rfl (by rw [show (d++g.ths.l.drop i)[i]'(by rw [aA,cE];omega)=y by rw [iD (by omega)];simp [p0,hy]];rfl) rfl rfl Zj) ?_;refine kk0 ?_;refine rn [0,5] ?_;rw [F1 d (g.ths.l.drop i) i _ p0 (by rw [cE];omega),iE];refine cS (q':=thsM (d++ [{ y with body:=l2,a:=g0,c:=f0 }])::_) (aM (bD Zj Zj) (aM (dK (φ:=fun M=>Ths.At M (d++ [{ y with body:=l2,a:=g0,c:=f0 }])) (mn:=fun e h=>Ths.At.mono e h) ((Kn.thsM.and Kn.blM.there).imp fun M h=>thsK h.1 h.2)) (cG _ ((dX _ _).trans (dX _ _))))) ?_;rw [<-e_];refine aX (ih (i+1,d++ [{ y with body:=l2,a:=g0,c:=f0 }]) ⟨by dsimp only;omega,by dsimp only;rw [aA];simp [p0],by dsimp only;rw [aN d0,aO,aO,e0,<-hy];simp only [bA,dC,Th.er,v0]⟩ (by dsimp only;omega)) Zn leA
 obtain rfl:i=g.ths.l.length:=(by omega);rw [bV] at e0;rw [dP,bR];clear ih;refine rn [5,0] ?_;refine Zh zeroValue27 fun n4=> ?_
 refine rn [0,2,0,1,2,4,5,7,8,10,11,13,14] ?_;refine Wv 2 call109 (aH _) (Ma (l:=g.nv.l) (i0.le leA) (by omega)) ?_;refine kk2 fun x m=> ?_
 refine Wv 5 call109 (aH _) (Ma (l:=g.na.l) (n0.le leA) (by omega)) ?_;refine kk2 fun c0 w=> ?_
 refine Wv 8 call109 (aH _) (Ma (l:=g.nm.l) (j0.le leA) (by omega)) ?_;refine kk2 fun z o=> ?_
 refine Wv 11 call109 (aH _) (Ma (l:=g.nc.l) (m0.le leA) (by omega)) ?_;refine kk2 fun b0 r=> ?_
 refine Wv 14 call109 (aH _) (Ma (l:=g.nh.l) (l0.le leA) (by omega)) ?_;refine kk2 fun a0 p=> ?_
 refine rn [16,17,18,0,2,0,0,1] ?_;refine J4 Ul (f':=iC) (l:=g.vars.l) (a:=a1) (c:=d1) (fe:=I64) (ty:=2) ?_;refine J4 Ul (f':=iC) (l:=g.arrs.l) (a:=a2) (c:=d2) (fe:=I64) (ty:=3) ?_;refine J4 Ul (f':=iC) (l:=g.chs.l) (a:=a3) (c:=d3) (fe:=I64) (ty:=3) ?_;refine J4 Ut (f':=sC) (l:=g.nv.l) (a:=x) (c:=m) (fe:=Value.string) (ty:=9) ?_;refine J4 Ut (f':=sC) (l:=g.na.l) (a:=c0) (c:=w) (fe:=Value.string) (ty:=9) ?_;refine J4 Ut (f':=sC) (l:=g.nm.l) (a:=z) (c:=o) (fe:=Value.string) (ty:=9) ?_;refine J4 Ut (f':=sC) (l:=g.nc.l) (a:=b0) (c:=r) (fe:=Value.string) (ty:=9) ?_;refine J4 Ut (f':=sC) (l:=g.nh.l) (a:=a0) (c:=p) (fe:=Value.string) (ty:=9) ?_;refine Zqb (f:=thC) (sz:=3) (ty:=218) (l:=d) (a:=a4) (c:=d4) ?_;obtain ⟨g2,q0⟩: ∃ g2:FC,g2=(⟨⟨g.vars.l,a1,d1⟩,⟨g.arrs.l,a2,d2⟩,g.mu,g.co,⟨g.chs.l,a3,d3⟩,⟨d,a4,d4⟩,g.main,g.stm,⟨g.nv.l,x,m⟩,⟨g.na.l,c0,w⟩,⟨g.nm.l,z,o⟩,⟨g.nc.l,b0,r⟩,⟨g.nh.l,a0,p⟩,g.names,g.cells,g.locals,g.most,g.pl,g.pc,g.flaw⟩:FC):=⟨_,rfl⟩;have o0:d.length=g.ths.l.length:=by have:=aQ List.length e0;simpa using this
 refine cS (q':=fcM g2::_) (aM (b:=svM thC ⟨d,a4,d4⟩::svM sC ⟨g.nh.l,a0,p⟩::svM sC ⟨g.nc.l,b0,r⟩::svM sC ⟨g.nm.l,z,o⟩::svM sC ⟨g.na.l,c0,w⟩::svM sC ⟨g.nv.l,x,m⟩::svM iC ⟨g.chs.l,a3,d3⟩::svM iC ⟨g.arrs.l,a2,d2⟩::svM iC ⟨g.vars.l,a1,d1⟩::thsM d::_) (bD Zj (bD Zj (bD Zj (bD Zj (bD Zj (bD Zj (bD Zj (bD Zj (bD Zj Zj))))))))) (dK (φ:=fun M=>g2.At M) (mn:=fun e h=>FC.At.mono e h) ?hk_)) ?_
 case hk_=>
  exact ((Kn.here.and (Kn.here.there.and (Kn.here.there.there.and (Kn.here.there.there.there.and (Kn.here.there.there.there.there.and (Kn.here.there.there.there.there.there.and (Kn.here.there.there.there.there.there.there.and (Kn.here.there.there.there.there.there.there.there.and (Kn.here.there.there.there.there.there.there.there.there.and (Kn.thsM.there.there.there.there.there.there.there.there.there.and ((hK.le leA)))))))))))).imp fun M ⟨k0,k1,k2,k3,k4,k5,k6,k7,k8,k9,u0⟩=>by
   rw [q0];exact ⟨k8,k7,k6,k0,k9,k5,k4,k3,k2,k1,u0.names⟩)
 refine Zq (fcM g2::q) func50 (rA_ results50) ⟨_,rfl,g2,by rw [q0];simp only [FC.er,e0],by rw [q0,<-o0];rfl,rfl⟩
structure Cn where
 v:Int
 a:Int
 mu:Int
 co:Int
 ch:Int
 th:Int
def Fnd.cn (f:Fnd):Cn:=⟨f.vars.length,f.arrs.length,f.mu,f.co,f.chs.length,f.ths.length⟩
def inB (n c:Int):Bool:=decide (0<=n/\n<c)
def Qc (c:Cn)(lo slot:Int)(loc:Bool):Bool:=inB slot (if loc=true then lo else c.v)
def Qr (c:Cn)(lo k n slot:Int)(loc:Bool)(op:Int):Int:=
 if k=1 then (if val n then 0 else -1) else if k=2 then (if Qc c lo slot loc=true then 0 else -1) else if k=3 then (if inB slot c.a=true then 1 else -1)
 else if k=4\/k=5 then 1 else if k=6 then (if 1<=op/\op<=11 then 2 else -1) else -1
mutual
def PEx.ask (c:Cn)(lo:Int):PEx->Int->Bool
 | .mk k n _ slot loc op args,d=>decide (1<=d) && decide ((args.length:Int)=Qr c lo k n slot loc op) && Ko c lo args (d - 1)
def Ko (c:Cn)(lo:Int):List PEx->Int->Bool
 | [],_=>true
 |e::r,d=>e.ask c lo d && Ko c lo r d
end
def G0 (c:Cn)(lo k:Int)(e ix:PEx)(nb ne:Nat):Bool:=
 (decide (k=4\/k=5)|| !decide (0<(nb:Int))) && (k==4|| !decide (0<(ne:Int))) && (k !=3||ix.ask c lo 24) && (!decide ((1<=k/\k<=5)\/k=11\/k=15)||e.ask c lo 24)
def Gh (c:Cn)(lo k slot other:Int)(loc:Bool):Bool:=
 if k=1 then loc && Qc c lo slot loc else if k=2 then Qc c lo slot loc else if k=3 then inB slot c.a else if k=6\/k=7 then inB slot c.mu
 else if k=8 then inB slot c.co && inB other c.mu else if k=9\/k=10 then inB slot c.co else if k=11 then inB slot c.ch else if k=12 then inB slot c.ch && Qc c lo other loc
 else if k=13 then inB slot c.th else decide (k=4\/k=5\/k=14\/k=15)
mutual
/-- Statements by their numbers from n on: the number behind them; none: they may not be. -/
def PStm.ask (c:Cn)(lo:Int):PStm->Int->Int->Option Int
 | .mk k _ _ _ _ e ix body els id slot other loc,d,n=>
  if 24<d\/n=512\/id≠n then none
  else if (G0 c lo k e ix body.length els.length && Gh c lo k slot other loc)=true then
   match Z3 c lo body (d+1) (n+1) with
   |none=>none
   |some m=>Z3 c lo els (d+1) m
  else none
def Z3 (c:Cn)(lo:Int):List PStm->Int->Int->Option Int
 | [],_,n=>some n
 |s::r,d,n=>match s.ask c lo d n with
  |none=>none
  |some m=>Z3 c lo r d m
end
def Wh (c:Cn):List PTh->Int->Option Int
 | [],n=>some n
 |t::r,n=>if t.loc<0\/32<t.loc then none else match Z3 c t.loc t.body 1 n with
  |none=>none
  |some m=>Wh c r m
def S7 (f:Fnd):Bool:=
 decide ((0<=f.mu/\f.mu<=64)/\(0<=f.co/\f.co<=64)/\f.vars.length+f.arrs.length+f.mu+f.co+f.chs.length+f.ths.length<=64/\(∀ v∈f.vars,val v)/\(∀ n∈f.arrs,1<=n/\n<=256)/\(∀ n∈f.chs,1<=n/\n<=16)/\Vh f.arrs<=256)
def Bz (f:Fnd):Bool:=S7 f && inB f.main f.ths.length && (Wh f.cn f.ths 0==some f.stm)
theorem g_th (g:FC):(g.er.ths.length:Int)=g.ths.l.length:=by show ((g.ths.l.map Th.er).length:Int)=_;rw [aI]
theorem Fr (g:FC):g.er.cn.v=g.vars.l.length:=rfl
theorem Fi (g:FC):g.er.cn.a=g.arrs.l.length:=rfl
theorem cn_ch (g:FC):g.er.cn.ch=g.chs.l.length:=rfl
theorem cn_mu (g:FC):g.er.cn.mu=g.mu:=rfl
theorem cn_co (g:FC):g.er.cn.co=g.co:=rfl
theorem cn_th (g:FC):g.er.cn.th=g.ths.l.length:=g_th g
theorem C3 {c:Cn}{lo d:Int}: ∀ {l:List PEx},Ko c lo l d=true↔ ∀ e∈l,e.ask c lo d=true
 | []=>by simp [Ko]
 |e::r=>by simp [Ko,C3 (l:=r)]
section
variable {n c:Int}
theorem Jr: ∀ (N:Nat) {e:Ex} {b o:Nat} {d:Int} {q:List HP},e.sz<=N->N<=1000000->(0<=d/\d<=24)->(Kn q fun M=>ExAt M ⟨b,o,none⟩ e)->CellsAt q pa 0 (AS pp x1 lo)->CellsAt q pp 0 (pgC g)->CallF prog G 308 [.pointer (some ⟨pa,0,none⟩),.pointer (some ⟨b,o,none⟩),I64 d] (q) (Ret fun v q'=>v= .bool (e.er.ask g.er.cn lo d)/\q'=q):=fun N=>by
 induction N with
 |zero=>intro e b o d q hs;exact aV hs (by cases e;simp only [Ex.sz];omega)
 |succ N IH=> 
 intro e b o d q hs hN hd hK ha hp;obtain ⟨ek,en,n0,j,n,m,i,ea,ec⟩:=e;refine aB func308 ntmps308 rfl fun F cs=> ?_;have d0:CellsAt q pp 0 [.slice g.vars.a g.vars.l.length g.vars.c,.slice g.arrs.a g.arrs.l.length g.arrs.c,I64 g.mu,I64 g.co,.slice g.chs.a g.chs.l.length g.chs.c,.slice g.ths.a g.ths.l.length g.ths.c,I64 g.main,I64 g.stm]:=fun k v hk=>hp k v (by revert hk;match k with|0|1|2|3|4|5|6|7=>exact fun h=>h|(k+8)=>intro h;cases h)
 have f:=Kn.exC hK;have hA:Kn q fun M=>SlAt M ea ec i.length (i.flatMap exC)/\Ex.Ats M i:=hK.imp fun M h=>h.2;have hS:=eR (hA.imp fun M h=>h.1.2.2)
 have hl:i.length+1<=N+1:=by have:=Bp i;simp only [Ex.sz] at hs;omega
 have e0:=Zx Yk i;obtain ⟨R,p⟩:=lM ((Ex.er (Ex.mk ek en n0 j n m i ea ec)).ask g.er.cn lo d);rw [<-p];simp only [Ex.er,PEx.ask,Jw] at p;refine xx 10 ?_;refine xp 10 ?_ ?_<;>intro h0
 . refine xx 5 ?_;refine Zq (q) func308 (Zf results308 rfl) ⟨_,rfl,cB (by rw [p,dQ (by omega)];rfl),rfl⟩
 rw [dA (by omega),gZ] at p;refine rf [12,0,1] f ?_;refine lB (fun (x:Int)=> [(0,.pointer (some ⟨pa,0,none⟩)),(1,.pointer (some ⟨b,o,none⟩)),(2,I64 d),(7,I64 x)]) (fun x=>q++F) (fun x=>Qr g.er.cn lo ek en j n m=x/\(0<=x/\x<=2)) (fun x i0=> ?_) fun K=> ?_
 . obtain ⟨j0,o0⟩:=i0;rw [j0] at p;refine rf [6,0,4] f ?_;refine xp 81 ?_ ?_<;>intro h1
   . refine xx 5 ?_;refine Zq (q) func308 (Zf results308 rfl) ⟨_,rfl,cB (by rw [p,dQ (by omega)];rfl),rfl⟩
   rw [dA (by omega),gZ] at p;refine rf [8,0,4] f ?_;refine aX (cC (fun (s:Nat)=>s<=i.length/\ ∀ e∈i.take s,e.er.ask g.er.cn lo (d - 1)=true) (fun s=> [(0,.pointer (some ⟨pa,0,none⟩)),(1,.pointer (some ⟨b,o,none⟩)),(2,I64 d),(86,I64 i.length),(87,I64 s)]) (fun s=>q++F) (fun s=>i.length - s) (fun s f0 ih=> ?_) 0 ⟨bC _,by simp⟩) Zn leA;try dsimp only at f0 ih|-
   obtain ⟨p0,a0⟩:=f0;refine xx 5 ?_;refine xp 88 ?_ ?_<;>intro h2
   . have t:s<i.length:=(by omega);refine Z7 (hS.le leA) (by rw [e0];omega) fun ab ao e_=> ?_;subst e_
     have k0:Kn q fun M=>ExAt M ⟨ab,ao+(s:Int).toNat*7,none⟩ i[s]:=hK.imp fun M h=>by
      obtain ⟨b',o',e1,e2⟩:=iZ Yk (by decide) h.2.1.2.2 t
      cases e1
      exact ⟨e2,Vr.1 h.2.2 _ (aC t)⟩
     have g0:i[s].sz<=N:=by have:=Y7 (aC t);simp only [Ex.sz] at hs;omega
     refine rf [15,0,4] f ?_;refine bM call308 (IH (e:=i[s]) (d:=d - 1) g0 (by omega) (by omega) (k0.le leA) (ha.le leA) (hp.le leA)) ?_;refine ox 2 ?_;refine xp 100 ?_ ?_<;>intro h3
     . refine xx 5 ?_;refine Zq (q) func308 (Zf results308 rfl) ⟨_,rfl,cB (by rw [p];symm;rw [Bool.eq_false_iff];intro k;exact aV (C3.1 k _ (by rw [Y3];exact aZ (aC t))) (by simpa using h3)),rfl⟩
     refine xx 7 ?_
     refine aX (ih (s+1) ⟨by omega,fun e y=>by
      rw [aN t] at y;rcases bE.1 y with y|y
      . exact a0 e y
      rw [bN.1 y];simpa using h3⟩ (by omega)) Zn leA
   obtain rfl:s=i.length:=(by omega);rw [bV] at a0;refine xx 6 ?_;refine Zq (q) func308 (Zf results308 rfl) ⟨_,rfl,cB (by rw [p];symm;rw [C3,Y3];intro e y;obtain ⟨z,r,rfl⟩:=bS.1 y;exact a0 z r),rfl⟩
 skip;refine xx 6 ?_;refine xp 15 ?_ ?_<;>intro g1
 . refine rf [6,0,2] f ?_;refine bB [22,7,6,0,1,2] ?_;apply Zb 6 28 22 rfl
   . intro w c0;have m0:=sp w;refine rf [3,0,2] f ?_;exact Zz c0 ⟨orF w,Zw⟩
   . intro w c0;have m0:=sp w;refine oo 6 ?_;exact Zz c0 ⟨orT w,Zw⟩
   refine ox 1 ?_;refine xp 28 ?_ ?_<;>intro g3
   . refine xx 5 ?_;refine Zq (q) func308 (Zf results308 rfl) ⟨_,rfl,cB (by rw [p];symm;have r:Qr g.er.cn lo ek en j n m= -1:=(by unfold Qr;unfold Qc inB;rw [Fr,Fi];unfold val;first|(simp_all;done)|(simp_all;omega)|((repeat' split)<;>first|rfl|omega|(exfalso;simp_all;done)|(exfalso;simp_all;omega)));rw [r,dQ (by omega)];rfl),rfl⟩
   refine xx 3 ?_;exact aX (K 0 ⟨by unfold Qr;unfold Qc inB;rw [Fr,Fi];unfold val;first|(simp_all;done)|(simp_all;omega)|((repeat' split)<;>first|rfl|omega|(exfalso;simp_all;done)|(exfalso;simp_all;omega)),by omega⟩) Zn leA
 refine xx 6 ?_;refine xp 29 ?_ ?_<;>intro g2
 . refine rf [2,0,1,2,3,4,5,6,7,8,9] f ?_;refine Ys 9 call309 (F6 (ha.le leA) (hp.le leA)) ?_;refine rn [11,0] ?_;refine xp 41 ?_ ?_<;>intro g3
   . refine xx 5 ?_;refine Zq (q) func308 (Zf results308 rfl) ⟨_,rfl,cB (by rw [p];symm;have r:Qr g.er.cn lo ek en j n m= -1:=(by unfold Qr;unfold Qc inB;rw [Fr,Fi];unfold val;first|(simp_all;done)|(simp_all;omega)|((repeat' split)<;>first|rfl|omega|(exfalso;simp_all;done)|(exfalso;simp_all;omega)));rw [r,dQ (by omega)];rfl),rfl⟩
   refine xx 3 ?_;exact aX (K 0 ⟨by unfold Qr;unfold Qc inB;rw [Fr,Fi];unfold val;first|(simp_all;done)|(simp_all;omega)|((repeat' split)<;>first|rfl|omega|(exfalso;simp_all;done)|(exfalso;simp_all;omega)),by omega⟩) Zn leA
 refine xx 6 ?_;refine xp 42 ?_ ?_<;>intro g3
 . refine rh [6,0,1,2,3,4,5,6,7,8,9,10,11,12] f ha d0 ?_;refine Ys 12 call229 (Hi) ?_ (hL:=(hlH ha d0 f));refine rn [14,0] ?_;refine xp 57 ?_ ?_<;>intro g4
   . refine xx 5 ?_;refine Zq (q) func308 (Zf results308 rfl) ⟨_,rfl,cB (by rw [p];symm;have r:Qr g.er.cn lo ek en j n m= -1:=(by unfold Qr;unfold Qc inB;rw [Fr,Fi];unfold val;first|(simp_all;done)|(simp_all;omega)|((repeat' split)<;>first|rfl|omega|(exfalso;simp_all;done)|(exfalso;simp_all;omega)));rw [r,dQ (by omega)];rfl),rfl⟩
   refine xx 3 ?_;exact aX (K 1 ⟨by unfold Qr;unfold Qc inB;rw [Fr,Fi];unfold val;first|(simp_all;done)|(simp_all;omega)|((repeat' split)<;>first|rfl|omega|(exfalso;simp_all;done)|(exfalso;simp_all;omega)),by omega⟩) Zn leA
 refine xx 7 ?_;refine xp 58 ?_ ?_<;>intro g4
 . refine xx 7 ?_;exact aX (K 1 ⟨by unfold Qr;unfold Qc inB;rw [Fr,Fi];unfold val;first|(simp_all;done)|(simp_all;omega)|((repeat' split)<;>first|rfl|omega|(exfalso;simp_all;done)|(exfalso;simp_all;omega)),by omega⟩) Zn leA
 refine xx 5 ?_;refine xp 58 ?_ ?_<;>intro g5
 . refine xx 5 ?_;exact aX (K 1 ⟨by unfold Qr;unfold Qc inB;rw [Fr,Fi];unfold val;first|(simp_all;done)|(simp_all;omega)|((repeat' split)<;>first|rfl|omega|(exfalso;simp_all;done)|(exfalso;simp_all;omega)),by omega⟩) Zn leA
 refine xx 6 ?_;refine xp 61 ?_ ?_<;>intro g6
 . refine rf [10,0,2] f ?_;refine bB [68,7,6,0,1,2] ?_;apply Zb 6 74 68 rfl
   . intro u b0;have l0:=sp u;refine rf [3,0,2] f ?_;exact Zz b0 ⟨orF u,Zw⟩
   . intro u b0;have l0:=sp u;refine oo 6 ?_;exact Zz b0 ⟨orT u,Zw⟩
   refine ox 1 ?_;refine xp 74 ?_ ?_<;>intro g8
   . refine xx 5 ?_;refine Zq (q) func308 (Zf results308 rfl) ⟨_,rfl,cB (by rw [p];symm;have r:Qr g.er.cn lo ek en j n m= -1:=(by unfold Qr;unfold Qc inB;rw [Fr,Fi];unfold val;first|(simp_all;done)|(simp_all;omega)|((repeat' split)<;>first|rfl|omega|(exfalso;simp_all;done)|(exfalso;simp_all;omega)));rw [r,dQ (by omega)];rfl),rfl⟩
   refine xx 3 ?_;exact aX (K 2 ⟨by unfold Qr;unfold Qc inB;rw [Fr,Fi];unfold val;first|(simp_all;done)|(simp_all;omega)|((repeat' split)<;>first|rfl|omega|(exfalso;simp_all;done)|(exfalso;simp_all;omega)),by omega⟩) Zn leA
 refine xx 5 ?_;refine Zq (q) func308 (Zf results308 rfl) ⟨_,rfl,cB (by rw [p];symm;have r:Qr g.er.cn lo ek en j n m= -1:=(by unfold Qr;unfold Qc inB;rw [Fr,Fi];unfold val;first|(simp_all;done)|(simp_all;omega)|((repeat' split)<;>first|rfl|omega|(exfalso;simp_all;done)|(exfalso;simp_all;omega)));rw [r,dQ (by omega)];rfl),rfl⟩
theorem parts_ok (hB:B<=1000000)(hb:s.lm B)(hK:Kn q fun M=>StAt M ⟨b,o,none⟩ s)(ha:CellsAt q pa 0 (AS pp x1 lo))(hp:CellsAt q pp 0 (pgC g)):CallF prog G 280 (A7 pa b o) (q) (Ret fun v q'=>v= .bool (match s with| .mk kk _ _ _ _ e ix bd es2 _ _ _ _ _ sl ot lo_=>G0 g.er.cn lo kk e.er ix.er bd.length es2.length)/\q'=q):=by
 refine aB func280 ntmps280 rfl fun F cs=> ?_;have e0:CellsAt q pp 0 [.slice g.vars.a g.vars.l.length g.vars.c,.slice g.arrs.a g.arrs.l.length g.arrs.c,I64 g.mu,I64 g.co,.slice g.chs.a g.chs.l.length g.chs.c,.slice g.ths.a g.ths.l.length g.ths.c,I64 g.main,I64 g.stm]:=fun k v hk=>hp k v (by revert hk;match k with|0|1|2|3|4|5|6|7=>exact fun h=>h|(k+8)=>intro h;cases h)
 obtain ⟨kk,ln,cl,nm,wt,⟨w,t,m,i,n,j,u,y,x⟩,⟨xk,xn,a0,xsl,b0,z,xl,xa,xc⟩,bd,es2,ba,bc,i0,h0,id,sl,ot,lo_⟩:=s;obtain ⟨p,c0,g0,f0⟩:=hb;have f:=gL hK;dsimp only;have r:Kn q fun M=>ExAt M ⟨b,o+5,none⟩ (Ex.mk w t m i n j u y x):=hK.imp fun M h=>Wz (pre:= (Ar kk ln cl nm wt)) h.1 rfl h.2.1 rfl
 have d0:Kn q fun M=>ExAt M ⟨b,o+12,none⟩ (Ex.mk xk xn a0 xsl b0 z xl xa xc):=hK.imp fun M h=>Wz (pre:= (Ar kk ln cl nm wt)++exC (Ex.mk w t m i n j u y x)) h.1 rfl h.2.2.1 rfl
 obtain ⟨R,hR⟩:=lM (G0 g.er.cn lo kk (Ex.er (Ex.mk w t m i n j u y x)) (Ex.er (Ex.mk xk xn a0 xsl b0 z xl xa xc)) bd.length es2.length);rw [<-hR];refine rf [17,0,8] f ?_;refine xp 13 ?_ ?_<;>intro h1
 focus
  refine rf [16,0,4] f ?_;refine bB [34,6,8,5,4,0,1] ?_;apply Zb 11 45 34 rfl
  . intro g2 M2;have h2:=sp g2;refine rf [6,0,4] f ?_;exact Zz M2 ⟨orF g2,Zw⟩
  . intro g2 M2;have h2:=sp g2;refine oo 11 ?_;exact Zz M2 ⟨orT g2,Zw⟩
  refine ox 1 ?_;refine xp 45 ?_ ?_<;>intro h2
  focus
   refine xx 5 ?_
  rotate_left
  focus
   refine xo 21 ?_;refine bM call308 (Jr B (d:=24) (e:=(Ex.mk w t m i n j u y x)) p hB (by omega) (r.le leA) (ha.le leA) (hp.le leA)) ?_;refine ox 4 ?_
 rotate_left 2
 focus
  refine xx 6 ?_;refine xp 13 ?_ ?_<;>intro h2
  focus
   refine rf [16,0,4] f ?_;refine bB [34,6,8,5,4,0,1] ?_;apply Zb 11 45 34 rfl
   . intro g3 M3;have h3:=sp g3;refine rf [6,0,4] f ?_;exact Zz M3 ⟨orF g3,Zw⟩
   . intro g3 M3;have h3:=sp g3;refine oo 11 ?_;exact Zz M3 ⟨orT g3,Zw⟩
   refine ox 1 ?_;refine xp 45 ?_ ?_<;>intro h3
   focus
    refine xx 5 ?_
   rotate_left
   focus
    refine xo 21 ?_;refine bM call308 (Jr B (d:=24) (e:=(Ex.mk w t m i n j u y x)) p hB (by omega) (r.le leA) (ha.le leA) (hp.le leA)) ?_;refine ox 4 ?_
  rotate_left 2
  focus
   refine xx 6 ?_;refine xp 13 ?_ ?_<;>intro h3
   focus
    refine rf [16,0,4] f ?_;refine bB [34,6,8,5,4,0,1] ?_;apply Zb 11 45 34 rfl
    . intro g4 M4;have h4:=sp g4;refine rf [6,0,4] f ?_;exact Zz M4 ⟨orF g4,Zw⟩
    . intro g4 M4;have h4:=sp g4;refine oo 11 ?_;exact Zz M4 ⟨orT g4,Zw⟩
    refine ox 1 ?_;refine xp 45 ?_ ?_<;>intro h4
    focus
     refine xx 5 ?_
    rotate_left
    focus
     refine xo 21 ?_;refine bM call308 (Jr B (d:=24) (e:=(Ex.mk w t m i n j u y x)) p hB (by omega) (r.le leA) (ha.le leA) (hp.le leA)) ?_;refine ox 4 ?_
   rotate_left 2
   focus
    refine xx 5 ?_;refine xp 13 ?_ ?_<;>intro h4
    focus
     refine rf [14,0,4] f ?_;refine bB [34,6,8,5,4,0,1] ?_;apply Zb 11 45 34 rfl
     . intro g5 M5;have h5:=sp g5;refine rf [6,0,4] f ?_;exact Zz M5 ⟨orF g5,Zw⟩
     . intro g5 M5;have h5:=sp g5;refine oo 11 ?_;exact Zz M5 ⟨orT g5,Zw⟩
     refine ox 1 ?_;refine xp 45 ?_ ?_<;>intro h5
     focus
      refine xx 5 ?_
     rotate_left
     focus
      refine xo 21 ?_;refine bM call308 (Jr B (d:=24) (e:=(Ex.mk w t m i n j u y x)) p hB (by omega) (r.le leA) (ha.le leA) (hp.le leA)) ?_;refine ox 4 ?_
    rotate_left 2
    focus
     refine xx 6 ?_;refine xp 18 ?_ ?_<;>intro h5
     focus
      refine rf [15,0,4] f ?_;refine bB [34,6,5,8,4,0,1] ?_;apply Zb 11 45 34 rfl
      . intro g6 M6;have h6:=sp g6;refine rf [6,0,4] f ?_;exact Zz M6 ⟨orF g6,Zw⟩
      . intro g6 M6;have h6:=sp g6;refine oo 11 ?_;exact Zz M6 ⟨orT g6,Zw⟩
      refine ox 1 ?_;refine xp 45 ?_ ?_<;>intro h6
      focus
       refine xx 5 ?_
      rotate_left
      focus
       refine xo 11 ?_;refine bM call308 (Jr B (d:=24) (e:=(Ex.mk xk xn a0 xsl b0 z xl xa xc)) c0 hB (by omega) (d0.le leA) (ha.le leA) (hp.le leA)) ?_;refine oo 2 ?_;refine bB [55,6,4,0,1] ?_;apply Zg 10 65 55 rfl
       . intro g7 M7;have h7:=sp g7;refine oo 7 ?_;refine bM call308 (Jr B (d:=24) (e:=(Ex.mk w t m i n j u y x)) p hB (by omega) (r.le leA) (ha.le leA) (hp.le leA)) ?_;refine oo 2 ?_;exact Zz M7 ⟨Yi g7,Zw⟩
       . intro g7 M7;have h7:=sp g7;refine oo 10 ?_;exact Zz M7 ⟨Yl g7,Zw⟩
       refine ox 2 ?_
     rotate_left 2
     focus
      refine xx 6 ?_;refine xp 20 ?_ ?_<;>intro h6
      focus
       refine xo 54 ?_;refine bM call308 (Jr B (d:=24) (e:=(Ex.mk w t m i n j u y x)) p hB (by omega) (r.le leA) (ha.le leA) (hp.le leA)) ?_;refine ox 4 ?_
      rotate_left
      focus
       refine xx 6 ?_;refine xp 22 ?_ ?_<;>intro h7
       focus
        refine rf [26,0,5] f ?_;refine xp 45 ?_ ?_<;>intro h8
        focus
         refine xx 5 ?_
        rotate_left
        focus
         refine xo 21 ?_;refine bM call308 (Jr B (d:=24) (e:=(Ex.mk w t m i n j u y x)) p hB (by omega) (r.le leA) (ha.le leA) (hp.le leA)) ?_;refine ox 4 ?_
       rotate_left 2
       focus
        refine rf [12,0,4] f ?_;refine bB [34,8,6,5,4,0,1] ?_;apply Zb 11 45 34 rfl
        . intro g8 M8;have h8:=sp g8;refine rf [6,0,4] f ?_;exact Zz M8 ⟨orF g8,Zw⟩
        . intro g8 M8;have h8:=sp g8;refine oo 11 ?_;exact Zz M8 ⟨orT g8,Zw⟩
        refine ox 1 ?_;refine xp 45 ?_ ?_<;>intro h8
        focus
         refine xx 5 ?_
        rotate_left
        focus
         refine xx 26 ?_
 all_goals
  refine Zq (q) func280 (Zf results280 rfl) ⟨_,rfl,cB (by rw [hR];unfold G0;first|(simp_all;done)|(rcases eB (0<(bd.length:Int)) with z1|z1<;>rcases eB (0<(es2.length:Int)) with z2|z2<;>simp_all;done)|(rcases eB (0<(bd.length:Int)) with z1|z1<;>rcases eB (0<(es2.length:Int)) with z2|z2<;>simp_all<;>omega)),rfl⟩
theorem slots_ok (hB:B<=1000000)(hb:s.lm B)(hK:Kn q fun M=>StAt M ⟨b,o,none⟩ s)(ha:CellsAt q pa 0 (AS pp x1 lo))(hp:CellsAt q pp 0 (pgC g)):CallF prog G 281 (A7 pa b o) (q) (Ret fun v q'=>v= .bool (match s with| .mk kk _ _ _ _ e ix bd es2 _ _ _ _ _ sl ot lo_=>Gh g.er.cn lo kk sl ot lo_)/\q'=q):=by
 refine aB func281 ntmps281 rfl fun F cs=> ?_;have f:CellsAt q pp 0 [.slice g.vars.a g.vars.l.length g.vars.c,.slice g.arrs.a g.arrs.l.length g.arrs.c,I64 g.mu,I64 g.co,.slice g.chs.a g.chs.l.length g.chs.c,.slice g.ths.a g.ths.l.length g.ths.c,I64 g.main,I64 g.stm]:=fun k v hk=>hp k v (by revert hk;match k with|0|1|2|3|4|5|6|7=>exact fun h=>h|(k+8)=>intro h;cases h)
 obtain ⟨kk,ln,cl,nm,wt,⟨ek,en,u,r,w,t,el,ea,ec⟩,⟨xk,xn,y,xsl,z,x,xl,xa,xc⟩,bd,es2,ba,bc,m0,l0,id,sl,ot,lo_⟩:=s;obtain ⟨d0,c0,b0,a0⟩:=hb;have d:=gL hK;dsimp only;have f0:Kn q fun M=>ExAt M ⟨b,o+5,none⟩ (Ex.mk ek en u r w t el ea ec):=hK.imp fun M h=>Wz (pre:= (Ar kk ln cl nm wt)) h.1 rfl h.2.1 rfl
 have e0:Kn q fun M=>ExAt M ⟨b,o+12,none⟩ (Ex.mk xk xn y xsl z x xl xa xc):=hK.imp fun M h=>Wz (pre:= (Ar kk ln cl nm wt)++exC (Ex.mk ek en u r w t el ea ec)) h.1 rfl h.2.2.1 rfl
 obtain ⟨R,hR⟩:=lM (Gh g.er.cn lo kk sl ot lo_);rw [<-hR];refine rg [9,0,8,0,7] ha d ?_;refine xp 14 ?_ ?_<;>intro h1
 focus
  refine rf [2,0,1,2,3,4,5] d ?_;refine XD.sb [20,4,0,1] ?_;apply Mc 1 [0,1,2,3,4,5,6,7,8,9,10,11,12,13,14,15] 31 20 rfl
  . intro p M2;have h2:=sp p;refine rf [6,7,8,9,10,11,12,13,14] d ?_;refine Ys 14 call309 (F6 (ha.le leA) (hp.le leA)) ?_ (hL:=(hlH ha f d));refine dd [15] ?_;exact V0 M2 ⟨Yi p,Zw⟩
  . intro p M2;have h2:=sp p;refine dd [5,6,7,8,9,10,11,12,13,14,15] ?_;exact V0 M2 ⟨Yl p,Zw⟩
  intro L_;refine rn [17,0] ?_
 rotate_left
 focus
  refine xx 6 ?_;refine xp 32 ?_ ?_<;>intro h2
  focus
   refine rf [2,0,1,2,3,4,5,6,7,8,9] d ?_;refine Ys 9 call309 (F6 (ha.le leA) (hp.le leA)) ?_;refine rn [11,0] ?_
  rotate_left
  focus
   refine xx 6 ?_;refine xp 44 ?_ ?_<;>intro h3
   focus
    refine rg [2,0,1,2,3,4,5,6,7,8,9] d f ?_;refine Ys 9 call229 (Hi) ?_ (hL:=(hlH ha f d));refine rn [11,0] ?_
   rotate_left
   focus
    refine xx 7 ?_;refine xp 56 ?_ ?_<;>intro h4
    focus
     refine rg [4,0,1,2,3,4,5,6,7,8] d f ?_;refine Ys 8 call229 (Hi) ?_;refine rn [10,0] ?_
    rotate_left
    focus
     refine xx 5 ?_;refine xp 56 ?_ ?_<;>intro h5
     focus
      refine rg [2,0,1,2,3,4,5,6,7,8] d f ?_;refine Ys 8 call229 (Hi) ?_;refine rn [10,0] ?_
     rotate_left
     focus
      refine xx 6 ?_;refine xp 68 ?_ ?_<;>intro h6
      focus
       refine rg [2,0,1,2,3,4,5,6,7,8] d f ?_;refine Ys 8 call229 (Hi) ?_;refine dd [9] ?_;refine XD.sb [79,5,4,1] ?_;apply Mc 1 [0,1,2,3,4,5,6,7,8,9,10,11,12,13,14,15,16,17,18,19] 89 79 rfl
       . intro n M7;have h7:=sp n;refine rg [11,12,13,14,15,16,17,18] d f ?_;refine Ys 18 call229 (Hi) ?_;refine dd [19] ?_;exact V0 M7 ⟨Yi n,Zw⟩
       . intro n M7;have h7:=sp n;refine dd [10,11,12,13,14,15,16,17,18,19] ?_;exact V0 M7 ⟨Yl n,Zw⟩
       intro L_;refine rn [21,0] ?_
      rotate_left
      focus
       refine xx 7 ?_;refine xp 90 ?_ ?_<;>intro h7
       focus
        refine rg [4,0,1,2,3,4,5,6,7,8] d f ?_;refine Ys 8 call229 (Hi) ?_;refine rn [10,0] ?_
       rotate_left
       focus
        refine xx 5 ?_;refine xp 90 ?_ ?_<;>intro h8
        focus
         refine rg [2,0,1,2,3,4,5,6,7,8] d f ?_;refine Ys 8 call229 (Hi) ?_;refine rn [10,0] ?_
        rotate_left
        focus
         refine xx 6 ?_;refine xp 102 ?_ ?_<;>intro h9
         focus
          refine rg [2,0,1,2,3,4,5,6,7,8,9] d f ?_;refine Ys 9 call229 (Hi) ?_ (hL:=(hlH ha f d));refine rn [11,0] ?_
         rotate_left
         focus
          refine xx 6 ?_;refine xp 114 ?_ ?_<;>intro k0
          focus
           refine rg [2,0,1,2,3,4,5,6,7,8,9] d f ?_;refine Ys 9 call229 (Hi) ?_ (hL:=(hlH ha f d));refine dd [10] ?_;refine XD.sb [126,4,0,1] ?_;apply Mc 1 [0,1,2,3,4,5,6,7,8,9,10,11,12,13,14,15,16,17,18,19,20,21] 137 126 rfl
           . intro i j;have m:=sp i;refine rf [12,13,14,15,16,17,18,19,20] d ?_;refine Ys 20 call309 (F6 (ha.le leA) (hp.le leA)) ?_ (hL:=(hlH ha f d));refine dd [21] ?_;exact V0 j ⟨Yi i,Zw⟩
           . intro i j;have m:=sp i;refine dd [11,12,13,14,15,16,17,18,19,20,21] ?_;exact V0 j ⟨Yl i,Zw⟩
           intro L_;refine rn [23,0] ?_
          rotate_left
          focus
           refine xx 6 ?_;refine xp 138 ?_ ?_<;>intro m
           focus
            refine rg [2,0,1,2,3,4,5,6,7,8,9] d f ?_;refine Ys 9 call229 (Hi) ?_ (hL:=(hlH ha f d));refine rn [11,0] ?_
           rotate_left
           focus
            refine xx 7 ?_;refine xp 150 ?_ ?_<;>intro j0
            focus
             refine xx 7 ?_
            rotate_left
            focus
             refine xx 6 ?_;refine xp 150 ?_ ?_<;>intro i0
             focus
              refine xx 7 ?_
             rotate_left
             focus
              refine xx 6 ?_;refine xp 150 ?_ ?_<;>intro h0
              focus
               refine xx 7 ?_
              rotate_left
              focus
               refine xx 5 ?_;refine xp 150 ?_ ?_<;>intro g0
               focus
                refine xx 5 ?_
               rotate_left
               focus
                refine xx 7 ?_
 all_goals
  refine Zq (q) func281 (Zf results281 rfl) ⟨_,rfl,cB (by rw [hR];unfold Gh;unfold Qc inB;rw [Fr,Fi,cn_ch,cn_mu,cn_co,cn_th];first|(simp_all;done)|(simp_all;omega)|(simp_all<;>omega)),rfl⟩
end
mutual
theorem Zqe {c:Cn}{lo:Int}: ∀ {s:PStm} {d n m:Int},n<=512->s.ask c lo d n=some m->n<=m/\m<=512
 | .mk ..,d,n,m,hn,h=>by
  simp only [PStm.ask] at h;split at h
  . cases h
  rename_i f;split at h
  . split at h
    . cases h
    rename_i k a;have b:=Uu (by omega) a;have e:=Uu b.2 h;omega
  cases h
theorem Uu {c:Cn}{lo:Int}: ∀ {l:List PStm} {d n m:Int},n<=512->Z3 c lo l d n=some m->n<=m/\m<=512
 | [],d,n,m,hn,h=>by simp only [Z3] at h;cases h;omega
 |s::r,d,n,m,hn,h=>by
  simp only [Z3] at h;split at h
  . cases h
  rename_i k a;have b:=Zqe hn a;have e:=Uu b.2 h;omega
end
theorem Px {c:Cn}(s:PStm)(r:List PStm)(d n:Int):Z3 c lo (s::r) d n=match s.ask c lo d n with|none=>none|some m=>Z3 c lo r d m:=by simp only [Z3]<;>rfl
theorem I3 (h:i<l.length):Zk (l.drop i)=l[i].er::Zk (l.drop (i+1)):=by rw [aP h];rfl
section
variable {n:Int}
def AskB (G:World)(B pa pp:Nat)(g:FC)(lo:Int)(N:Nat):Prop:= ∀ {l:List Stm} {a:Option Addr} {c:Nat} {d n:Int} {q:List HP},Zu l<=N->Vx B l->(1<=d/\d<=25)->(0<=n/\n<=512)->CellsAt q pp 0 (pgC g)->(Kn q fun M=>BlkAt M a c l)->
 CallF prog G 230 [.pointer (some ⟨pa,0,none⟩),.slice a l.length c,I64 d] (pto pa (.cells [.pointer (some ⟨pp,0,none⟩),I64 n,I64 lo].toArray 393 (0,0))::q) (Ret fun v q'=> ∃ n',v= .bool (Z3 g.er.cn lo (Zk l) d n).isSome/\(∀ m,Z3 g.er.cn lo (Zk l) d n=some m->n'=m)/\q'=pto pa (.cells [.pointer (some ⟨pp,0,none⟩),I64 n',I64 lo].toArray 393 (0,0))::q)
theorem ask_step (IH: ∀ N_,N_<N->AskB G B pa pp g lo N_)(hB:B<=1000000)(hN:N<=1000000)(hs:Zu l<=N)(hb:Vx B l)(hd:1<=d/\d<=25)(hn:0<=n/\n<=512)(hp:CellsAt q pp 0 (pgC g))(hK:Kn q fun M=>BlkAt M a c l):CallF prog G 230 [.pointer (some ⟨pa,0,none⟩),.slice a l.length c,I64 d] (pto pa (.cells [.pointer (some ⟨pp,0,none⟩),I64 n,I64 lo].toArray 393 (0,0))::q) (Ret fun v q'=> ∃ n',v= .bool (Z3 g.er.cn lo (Zk l) d n).isSome/\(∀ m,Z3 g.er.cn lo (Zk l) d n=some m->n'=m)/\q'=pto pa (.cells [.pointer (some ⟨pp,0,none⟩),I64 n',I64 lo].toArray 393 (0,0))::q):=by
 refine aB func230 ntmps230 rfl fun F cs=> ?_;have hS:=eR (hK.imp fun M h=>h.1.2.2);have hl:l.length<=N:=dR (Hs l) hs;have d0:=Zx Z2 l;obtain ⟨R,hR⟩:=lM (Z3 g.er.cn lo (Zk l) d n);rw [<-hR];refine xx 12 ?_;refine aX (cC (fun (s:Nat×Int)=>s.1<=l.length/\R=Z3 g.er.cn lo (Zk (l.drop s.1)) d s.2/\0<=s.2/\s.2<=512) (fun s=> [(0,.pointer (some ⟨pa,0,none⟩)),(1,.slice a l.length c),(2,I64 d),(10,I64 l.length),(11,I64 (s.1:Int))]) (fun s=>pto pa (.cells [.pointer (some ⟨pp,0,none⟩),I64 s.2,I64 lo].toArray 393 (0,0))::(q++F)) (fun s=>l.length - s.1) (fun s e0 ih=> ?_) (0,n) ⟨bC _,by rw [hR,fY],hn⟩) Zn leA;try dsimp only at e0 ih|-
 obtain ⟨v0,b,u0⟩:=e0;obtain ⟨i,e⟩:=s;dsimp only at*;refine xx 5 ?_;refine xp 12 ?_ ?_<;>intro h0
 . have f:i<l.length:=(by omega);rw [I3 f,Px] at b;obtain ⟨x,hx⟩:=lM l[i];have f0:x.sz<=Zu l:=hx ▸ Uy (aC f);have c0:x.lm B:=hx ▸ Ha hb (aC f);rw [<-hx] at b;refine Z7 (hS.le leA) (by rw [d0];omega) fun ab ao e_=> ?_;rw [e_]
   have o:Kn q fun M=>StAt M ⟨ab,ao+(i:Int).toNat*25,none⟩ x:=hK.imp fun M h=>by
    obtain ⟨b',o',e1,e2⟩:=iZ Z2 (by decide) h.1.2.2 f;rw [e_] at e1;cases e1
    exact ⟨by rw [hx];exact e2,by rw [hx];exact Vd.1 h.2 _ (aC f)⟩
   obtain ⟨kk,ln,cl,nm,wt,⟨ek,en,b1,z0,c1,a1,el,ea,ec⟩,⟨xk,xn,r0,xsl,s0,q0,xl,xa,xc⟩,bd,u,ba,bc,f1,d1,id,sl,ot,t0⟩:=x;have w:=c0;obtain ⟨y0,x0,k0,j0⟩:=c0;have y:=gL o;have hz:Zu bd+Zu u+1<=N:=(by simp only [Stm.sz] at f0;omega);simp only [Stm.er,PStm.ask,Y9] at b;refine rn [18,0,1,2,3] ?_;refine XD.sb [19,8,0,1,2,10,11] ?_;apply Tc 11 [0,1,2,3,4,5,6,7,8] 25 19 rfl
   . intro t b0;have n0:=sp t;refine rn [4,5,6,7,8,9] ?_;exact V0 b0 ⟨orF t,Zw⟩
   . intro t b0;have n0:=sp t;refine dd [3,4,5,6,7,8] ?_;exact V0 b0 ⟨orT t,Zw⟩
   intro L_;refine dd [9] ?_;refine XD.sb [26,8,0,1,2,10,11] ?_;apply Tc 0 [0,1,2,3,4,5,6,7,8,9,10,11,12,13,14,15,16,17,18,19] 36 26 rfl
   . intro r a0;have m0:=sp r;refine rf [11,12,13,14,15,16,17,18,19,20] y ?_;exact V0 a0 ⟨orF r,Zw⟩
   . intro r a0;have m0:=sp r;refine dd [10,11,12,13,14,15,16,17,18,19] ?_;exact V0 a0 ⟨orT r,Zw⟩
   intro L_;refine jV ?_;refine xp 36 ?_ ?_<;>intro g3
   . have j:24<d\/e=512\/id≠e:=(by first|omega|(simp at g3;omega));rw [if_pos j] at b;dsimp only at b;refine xx 5 ?_;refine Zq (pto pa (.cells [.pointer (some ⟨pp,0,none⟩),I64 e,I64 lo].toArray 393 (0,0))::q) func230 (Zf results230 rfl) ⟨_,rfl,_,(by rw [b];rfl),(by rw [b];intro m h;cases h),rfl⟩
   have j: ¬ (24<d\/e=512\/id≠e):=(by first|omega|(simp at g3;omega));rw [if_neg j] at b;have w0: ¬24<d/\ ¬e=512:=⟨fun k=>j (.inl k),fun k=>j (.inr (.inl k))⟩;refine rn [7,0,3,0,6] ?_;refine bM call280 (parts_ok hB w (o.le leA) (dH Vb) (hp.le leA)) ?_;refine oo 2 ?_;refine bB [48,8,0,1,2,10,11] ?_;apply Zb 5 53 48 rfl
   . intro p z;have l0:=sp p;refine oo 2 ?_;refine bM call281 (slots_ok hB w (o.le leA) (dH Vb) (hp.le leA)) ?_;refine oo 2 ?_;exact Zz z ⟨orF p,Zw⟩
   . intro p z;have l0:=sp p;refine oo 5 ?_;exact Zz z ⟨orT p,Zw⟩
   refine ox 1 ?_;refine xp 53 ?_ ?_<;>intro g5
   . rw [if_neg (by intro k;rw [aR] at k;revert g5;simp [k.1,k.2])] at b;dsimp only at b;refine xx 5 ?_;refine Zq (pto pa (.cells [.pointer (some ⟨pp,0,none⟩),I64 (e+1),I64 lo].toArray 393 (0,0))::q) func230 (Zf results230 rfl) ⟨_,rfl,_,(by rw [b];rfl),(by rw [b];intro m h;cases h),rfl⟩
   rw [if_pos (by rw [aR];simpa using g5)] at b;refine rf [8,0,2] y ?_;refine Zv call230 Zj (IH (Zu bd) (by omega) (l:=bd) (d:=d+1) (n:=(e+1)) (aU _) k0 (by omega) (by omega) (hp.le leA) ((o.le leA).imp fun M h=>h.2.2.2.1)) ?_;rintro _ _ ⟨n2,rfl,i0,rfl⟩;rcases hR2:Z3 g.er.cn lo (Zk bd) (d+1) (e+1) with _|m1
   . refine aW 61 bF rfl (by rfl) ?_;rw [hR2] at b;dsimp only at b;refine ox 18 ?_;refine Zq (pto pa (.cells [.pointer (some ⟨pp,0,none⟩),I64 n2,I64 lo].toArray 393 (0,0))::q) func230 (Zf results230 rfl) ⟨_,rfl,_,(by rw [b];rfl),(by rw [b];intro m h;cases h),rfl⟩
   refine aW 61 bT rfl (by rfl) ?_;obtain rfl:=i0 _ hR2;rw [hR2] at b;have p0:=Uu (by omega) hR2;dsimp only at b;refine rf [6,0,2] y ?_;refine Zv call230 Zj (IH (Zu u) (by omega) (l:=u) (d:=d+1) (n:=n2) (aU _) j0 (by omega) (by omega) (hp.le leA) ((o.le leA).imp fun M h=>⟨h.2.2.2.2.1,h.2.2.2.2.2⟩)) ?_;rintro _ _ ⟨n3,rfl,g0,rfl⟩;rcases hR3:Z3 g.er.cn lo (Zk u) (d+1) n2 with _|m2
   . refine aW 71 bF rfl (by rfl) ?_;rw [hR3] at b;dsimp only at b;refine ox 8 ?_;refine Zq (pto pa (.cells [.pointer (some ⟨pp,0,none⟩),I64 n3,I64 lo].toArray 393 (0,0))::q) func230 (Zf results230 rfl) ⟨_,rfl,_,(by rw [b];rfl),(by rw [b];intro m h;cases h),rfl⟩
   refine aW 71 bT rfl (by rfl) ?_;obtain rfl:=g0 _ hR3;rw [hR3] at b;have o0:=Uu (by omega) hR3;dsimp only at b;refine ox 10 ?_;rw [<-e_];refine aX (ih (i+1,n3) ⟨by dsimp only;omega,b,by dsimp only;omega,by dsimp only;omega⟩ (by dsimp only;omega)) Zn leA
 obtain rfl:i=l.length:=(by omega);rw [dP] at b;simp only [Zk,Z3] at b;refine xx 6 ?_;refine Zq (pto pa (.cells [.pointer (some ⟨pp,0,none⟩),I64 e,I64 lo].toArray 393 (0,0))::q) func230 (Zf results230 rfl) ⟨_,rfl,e,by rw [b];rfl,by rw [b];intro m h;cases h;rfl,rfl⟩
theorem ask_all (hB:B<=1000000)(N:Nat)(hN:N<=1000000):AskB G B pa pp g lo N:=by
 induction N using Nat.strongRecOn with
 |ind N IH=>exact fun b e d a c f=>ask_step (fun n a=>IH n a (by omega)) hB hN b e d a c f
end
theorem Gx (a b:List Int):Vh (a++b)=Vh a+Vh b:=by
 induction a with
 |nil=>simp [Vh]
 |cons x r ih=>simp only [Vh,bO,List.foldr_cons] at ih|-;omega
theorem Bd {l:List Int}{k:Int}(h: ∀ x∈l,0<=x/\x<=k)(hk:0<=k):0<=Vh l/\Vh l<=k*l.length:=by
 induction l with
 |nil=>simp [Vh]
 |cons x r ih=>
  have c:=h x (bW ..);have b:=ih fun y a=>h y (bX _ a)
  have e:Vh (x::r)=x+Vh r:=rfl;rw [e,aJ,Int.natCast_succ,Int.mul_add,Int.mul_one];omega
theorem Pe (hp:CellsAt q pp 0 (pgC g))(hK:Kn q fun M=>g.At M)(hl:g.vars.l.length<=1000000/\g.arrs.l.length<=1000000/\g.chs.l.length<=1000000/\g.ths.l.length<=1000000):CallF prog G 228 (A3 pp) (q) (Ret fun v q'=>v= .bool (S7 g.er)/\q'=q):=by
 refine aB func228 ntmps228 rfl fun F cs=> ?_;have n:CellsAt q pp 0 [.slice g.vars.a g.vars.l.length g.vars.c,.slice g.arrs.a g.arrs.l.length g.arrs.c,I64 g.mu,I64 g.co,.slice g.chs.a g.chs.l.length g.chs.c,.slice g.ths.a g.ths.l.length g.ths.c,I64 g.main,I64 g.stm]:=fun k v hk=>hp k v (by revert hk;match k with|0|1|2|3|4|5|6|7=>exact fun h=>h|(k+8)=>intro h;cases h)
 obtain ⟨R,hR⟩:=lM (S7 g.er);rw [<-hR];unfold S7 at hR;simp only [FC.er,aI] at hR;obtain ⟨d0,e0,g0,f0⟩:=hl;have hV:=(dV (hK.imp fun M h=>h.vars));have hA:=(dV (hK.imp fun M h=>h.arrs));have hC:=(dV (hK.imp fun M h=>h.chs));rw [Ul] at hV hA hC;refine rf [10,0,2] n ?_;refine bB [15,2,0] ?_;apply Zb 6 21 15 rfl
 . intro b d;have j:=sp b;refine rf [3,0,2] n ?_;exact Zz d ⟨orF b,Zw⟩
 . intro b d;have j:=sp b;refine oo 6 ?_;exact Zz d ⟨orT b,Zw⟩
 refine oo 1 ?_;refine bB [22,2,0] ?_;apply Zb 6 28 22 rfl
 . intro b d;have j:=sp b;refine rf [3,0,2] n ?_;exact Zz d ⟨orF b,Zw⟩
 . intro b d;have j:=sp b;refine oo 6 ?_;exact Zz d ⟨orT b,Zw⟩
 refine oo 1 ?_;refine bB [29,2,0] ?_;apply Zb 6 35 29 rfl
 . intro b d;have j:=sp b;refine rf [3,0,2] n ?_;exact Zz d ⟨orF b,Zw⟩
 . intro b d;have j:=sp b;refine oo 6 ?_;exact Zz d ⟨orT b,Zw⟩
 refine ox 1 ?_;refine xp 35 ?_ ?_<;>intro h1
 . refine xx 5 ?_;refine Zq (q) func228 (Zf results228 rfl) ⟨_,rfl,cB (by rw [hR];symm;rw [cM];intro k;have k1:=k.1;have k2:=k.2.1;(first|omega|(simp at h1;omega))),rfl⟩
 have hm:(0<=g.mu/\g.mu<=64)/\(0<=g.co/\g.co<=64):=(by first|omega|(simp at h1;omega));refine rf [4,0,1,2,3,4,5,6,7,8,9,10,11,12,13,14,15,16,17,18,19,20,21,22,23,24,25,26,27,28,29,30,31,32,33,34,0] n ?_;refine xp 69 ?_ ?_<;>intro h2
 . refine xx 5 ?_;refine Zq (q) func228 (Zf results228 rfl) ⟨_,rfl,cB (by rw [hR];symm;rw [cM];intro k;have k1:=k.2.2.1;omega),rfl⟩
 refine rf [8,0,4] n ?_;refine aX (cC (fun (s:Nat)=>s<=g.vars.l.length/\(∀ x∈g.vars.l.take s,val x)) (fun s=> [(0,.pointer (some ⟨pp,0,none⟩)),(73,.slice g.vars.a g.vars.l.length g.vars.c),(74,I64 g.vars.l.length),(75,I64 s)]) (fun s=>q++F) (fun s=>g.vars.l.length - s) (fun s p w=> ?_) 0 ⟨bC _,by simp⟩) Zn leA;try dsimp only at p w|-
 obtain ⟨c0,e⟩:=p;refine xx 5 ?_;refine xp 76 ?_ ?_<;>intro h0
 . have o:s<g.vars.l.length:=(by omega);refine Z7 (hV.le leA) (by simp;omega) fun ab ao e_=> ?_;have m:=hV;rw [e_] at m|-;refine rf [7,0] m ?_;obtain ⟨x,hx⟩:=lM g.vars.l[s];refine aW 78 (I64 x) rfl (by rw [hx]) ?_;have r:g.vars.l.take (s+1)=g.vars.l.take s++ [x]:=by rw [aN o,hx]
   refine oo 7 ?_;refine bB [81,4,0,73,74,75] ?_;apply Zb 3 84 81 rfl
   . intro b d;have j:=sp b;refine oo 3 ?_;exact Zz d ⟨orF b,Zw⟩
   . intro b d;have j:=sp b;refine oo 3 ?_;exact Zz d ⟨orT b,Zw⟩
   refine ox 1 ?_;refine xp 84 ?_ ?_<;>intro h4
   . refine xx 5 ?_;refine Zq (q) func228 (Zf results228 rfl) ⟨_,rfl,cB (by rw [hR];symm;rw [cM];intro k;have k1:=k.2.2.2.1 x (hx ▸ aC o);unfold val at k1;(first|omega|(simp at h4;omega))),rfl⟩
   have hv:val x:=(by unfold val;first|omega|(simp at h4;omega));refine xx 7 ?_;rw [<-e_]
   refine aX (w (s+1) ⟨by (try dsimp only);omega,fun y f=>by
    (try dsimp only at f)
    rw [r] at f;rcases bE.1 f with f|f
    . exact e y f
    rw [bN.1 f];exact hv⟩ (by (try dsimp only);omega)) Zn leA
 obtain rfl:s=g.vars.l.length:=(by omega);rw [bV] at e;have t:=e;clear w;refine rf [12,0,4] n ?_;refine aX (cC (fun (s:Nat×Int)=>s.1<=g.arrs.l.length/\(∀ x∈g.arrs.l.take s.1,1<=x/\x<=256)/\s.2=Vh (g.arrs.l.take s.1)) (fun s=> [(0,.pointer (some ⟨pp,0,none⟩)),(89,.slice g.arrs.a g.arrs.l.length g.arrs.c),(90,I64 g.arrs.l.length),(91,I64 (s.1:Int)),(5,I64 s.2)]) (fun s=>q++F) (fun s=>g.arrs.l.length - s.1) (fun s p w=> ?_) (0,0) ⟨bC _,by simp,by simp [Vh]⟩) Zn leA;try dsimp only at p w|-
 obtain ⟨c0,e,a0⟩:=p;obtain ⟨i,z⟩:=s;dsimp only at*;refine xx 5 ?_;refine xp 92 ?_ ?_<;>intro h0
 . have o:i<g.arrs.l.length:=(by omega);refine Z7 (hA.le leA) (by simp;omega) fun ab ao e_=> ?_;have m:=hA;rw [e_] at m|-;refine rf [7,0] m ?_;obtain ⟨x,hx⟩:=lM g.arrs.l[i];refine aW 94 (I64 x) rfl (by rw [hx]) ?_;have r:g.arrs.l.take (i+1)=g.arrs.l.take i++ [x]:=by rw [aN o,hx]
   have b0:=Bd (l:=g.arrs.l.take i) (k:=256) (fun y f=>by have:=e y f;omega) (by decide);rw [bI] at b0;have j0:(i:Int)<=64:=(by omega);have i0:((min i g.arrs.l.length:Nat):Int)=i:=(by omega);rw [i0] at b0;refine oo 8 ?_;refine bB [97,7,0,89,90,91,5] ?_;apply Zb 3 100 97 rfl
   . intro b d;have j:=sp b;refine oo 3 ?_;exact Zz d ⟨orF b,Zw⟩
   . intro b d;have j:=sp b;refine oo 3 ?_;exact Zz d ⟨orT b,Zw⟩
   refine ox 1 ?_;refine xp 100 ?_ ?_<;>intro h4
   . refine xx 5 ?_;refine Zq (q) func228 (Zf results228 rfl) ⟨_,rfl,cB (by rw [hR];symm;rw [cM];intro k;have k1:=k.2.2.2.2.1 x (hx ▸ aC o);(first|omega|(simp at h4;omega))),rfl⟩
   have hv:1<=x/\x<=256:=(by first|omega|(simp at h4;omega));refine xx 13 ?_;rw [<-e_]
   refine aX (w (i+1,z+x) ⟨by (try dsimp only);omega,fun y f=>by
    (try dsimp only at f)
    rw [r] at f;rcases bE.1 f with f|f
    . exact e y f
    rw [bN.1 f];exact hv,by dsimp only;rw [r,Gx,a0];simp [Vh]⟩ (by (try dsimp only);omega)) Zn leA
 obtain rfl:i=g.arrs.l.length:=(by omega);rw [bV] at e a0;have u:=e;clear w;have sm:=a0;subst a0;have b0:=Bd (l:=g.arrs.l) (k:=256) (fun y f=>by have:=e y f;omega) (by decide);refine rf [8,0,4] n ?_;refine aX (cC (fun (s:Nat)=>s<=g.chs.l.length/\(∀ x∈g.chs.l.take s,1<=x/\x<=16)) (fun s=> [(5,I64 (Vh g.arrs.l)),(108,.slice g.chs.a g.chs.l.length g.chs.c),(109,I64 g.chs.l.length),(110,I64 s)]) (fun s=>q++F) (fun s=>g.chs.l.length - s) (fun s p w=> ?_) 0 ⟨bC _,by simp⟩) Zn leA;try dsimp only at p w|-
 obtain ⟨c0,e⟩:=p;refine xx 5 ?_;refine xp 111 ?_ ?_<;>intro h0
 . have o:s<g.chs.l.length:=(by omega);refine Z7 (hC.le leA) (by simp;omega) fun ab ao e_=> ?_;have m:=hC;rw [e_] at m|-;refine rf [7,0] m ?_;obtain ⟨x,hx⟩:=lM g.chs.l[s];refine aW 113 (I64 x) rfl (by rw [hx]) ?_;have r:g.chs.l.take (s+1)=g.chs.l.take s++ [x]:=by rw [aN o,hx]
   refine oo 7 ?_;refine bB [116,9,5,108,109,110] ?_;apply Zb 3 119 116 rfl
   . intro b d;have j:=sp b;refine oo 3 ?_;exact Zz d ⟨orF b,Zw⟩
   . intro b d;have j:=sp b;refine oo 3 ?_;exact Zz d ⟨orT b,Zw⟩
   refine ox 1 ?_;refine xp 119 ?_ ?_<;>intro h4
   . refine xx 5 ?_;refine Zq (q) func228 (Zf results228 rfl) ⟨_,rfl,cB (by rw [hR];symm;rw [cM];intro k;have k1:=k.2.2.2.2.2.1 x (hx ▸ aC o);(first|omega|(simp at h4;omega))),rfl⟩
   have hv:1<=x/\x<=16:=(by first|omega|(simp at h4;omega));refine xx 7 ?_;rw [<-e_]
   refine aX (w (s+1) ⟨by omega,fun y f=>by
    rw [r] at f;rcases bE.1 f with f|f
    . exact e y f
    rw [bN.1 f];exact hv⟩ (by omega)) Zn leA
 obtain rfl:s=g.chs.l.length:=(by omega);rw [bV] at e;clear w;refine xx 8 ?_;refine Zq (q) func228 (Zf results228 rfl) ⟨_,rfl,cB (by rw [hR];rw [cN];simp only [cP];exact ⟨fun k=>⟨hm.1,hm.2,by omega,t,u,e,k⟩,fun k=>k.2.2.2.2.2.2⟩),rfl⟩
theorem pmay_ok (hp:CellsAt q pp 0 (pgC g))(hK:Kn q fun M=>g.At M)(hB:CpOk B g):CallF prog G 162 [.pointer (some ⟨pp,0,none⟩)] (q) (Ret fun v q'=>v= .bool (Bz g.er)/\q'=q):=by
 refine aB func162 ntmps162 rfl fun F cs=> ?_;have m:CellsAt q pp 0 [.slice g.vars.a g.vars.l.length g.vars.c,.slice g.arrs.a g.arrs.l.length g.arrs.c,I64 g.mu,I64 g.co,.slice g.chs.a g.chs.l.length g.chs.c,.slice g.ths.a g.ths.l.length g.ths.c,I64 g.main,I64 g.stm]:=fun k v hk=>hp k v (by revert hk;match k with|0|1|2|3|4|5|6|7=>exact fun h=>h|(k+8)=>intro h;cases h)
 obtain ⟨R,hR⟩:=lM (Bz g.er);rw [<-hR];unfold Bz at hR;rw [g_th,show g.er.main=g.main from rfl] at hR;obtain ⟨o,p,w,u,_⟩:=hB.l;have hT:=dV (hK.imp fun M h=>h.ths);have e0:=Zx Uh g.ths.l;refine rn [6,0,1] ?_;refine Ys 1 call228 (Pe (hp.le leA) (hK.le leA) ⟨o,p,w,u⟩) ?_;refine dd [2,3] ?_;refine XD.sb [9,2,0] ?_;apply Tc 0 [0,1,2,3,4,5,6,7,8,9,10,11,12,13,14,15] 21 9 rfl
 . intro f j;have b0:=sp f;refine rf [5,6,7,8,9,10,11,12,13] m ?_;refine Ys 13 call229 (Hi) ?_ (hL:=(hlF m));refine dd [14,15] ?_;exact V0 j ⟨orF f,Zw⟩
 . intro f j;have b0:=sp f;refine dd [4,5,6,7,8,9,10,11,12,13,14,15] ?_;exact V0 j ⟨orT f,Zw⟩
 intro L_;refine jV ?_;refine xp 21 ?_ ?_<;>intro h1
 . refine xx 5 ?_;refine Zq (q) func162 (Zf results162 rfl) ⟨_,rfl,cB (by rw [hR];unfold inB;(first|(simp_all;done)|(rcases hz1:S7 g.er<;>rcases eB (0<=g.main/\g.main<(g.ths.l.length:Int)) with z|z<;>simp_all<;>(intros;omega)))),rfl⟩
 obtain ⟨i0,y⟩:S7 g.er=true/\inB g.main g.ths.l.length=true:=(by unfold inB;(first|(simp_all;done)|(rcases hz1:S7 g.er<;>rcases eB (0<=g.main/\g.main<(g.ths.l.length:Int)) with z|z<;>simp_all<;>(intros;omega))));rw [i0,gZ,y,gZ] at hR;refine xo 6 ?_;refine Zl fun n1=> ?_
 refine rf [8,0,4] m ?_;refine aX (cC (fun (s:Nat×Int×Int)=>s.1<=g.ths.l.length/\R=(Wh g.er.cn ((g.ths.l.drop s.1).map Th.er) s.2.1==some g.stm)/\0<=s.2.1/\s.2.1<=512) (fun s=> [(0,.pointer (some ⟨pp,0,none⟩)),(3,pt n1),(29,I64 g.ths.l.length),(30,I64 (s.1:Int))]) (fun s=>pto n1 (.cells [.pointer (some ⟨pp,0,none⟩),I64 s.2.1,I64 s.2.2].toArray 393 (0,0))::(q++F)) (fun s=>g.ths.l.length - s.1) (fun s f0 ih=> ?_) (0,0,0) ⟨bC _,by rw [hR,fY];rfl,by decide⟩) Zn leA;try dsimp only at f0 ih|-
 obtain ⟨m0,e,j0⟩:=f0;obtain ⟨i,n,lo⟩:=s;dsimp only at*;refine xx 5 ?_;refine xp 31 ?_ ?_<;>intro h0
 . have r:i<g.ths.l.length:=(by omega);obtain ⟨x,hx⟩:=lM g.ths.l[i];have c0:=hB.t x (hx ▸ aC r);rw [aP r,<-hx,bA] at e;simp only [Wh] at e;rw [show (Th.er x).loc=x.loc from rfl,show (Th.er x).body=Zk x.body from rfl] at e;refine Z7 (hT.le leA) (by rw [e0];omega) fun ab ao e_=> ?_;have g0:=hT;have d0:=m;rw [e_] at g0 d0;have a0:CellsAt q ab (ao+(i:Int).toNat*3) (thC x):=by rw [hx];exact fD g0 (aH _) Uh r rfl
   have k0:Kn q fun M=>BlkAt M x.a x.c x.body:=hK.imp fun M h=>h.bod x (hx ▸ aC r)
   refine rg [14,0,10,0,2] d0 a0 ?_;refine bB [44,5,0,3,29,30] ?_;apply Zb 6 50 44 rfl
   . intro f j;have b0:=sp f;refine rf [3,0,2] a0 ?_;exact Zz j ⟨orF f,Zw⟩
   . intro f j;have b0:=sp f;refine oo 6 ?_;exact Zz j ⟨orT f,Zw⟩
   refine ox 1 ?_;refine xp 50 ?_ ?_<;>intro h2
   . refine xx 5 ?_;refine Zq (q) func162 (Zf results162 rfl) ⟨_,rfl,cB (by rw [e];rw [if_pos (by first|omega|(simp at h2;omega))];rfl),rfl⟩
   rw [if_neg (by first|omega|(simp at h2;omega))] at e;refine rf [8,0,2,0,7,0] a0 ?_;refine Zv call230 Zj (ask_all hB.b (Zu x.body) c0.1 (l:=x.body) (d:=1) (n:=n) (lo:=x.loc) (aU _) c0.2 (by decide) j0 (hp.le leA) (k0.le leA)) ?_;rintro _ _ ⟨n2,rfl,y,rfl⟩;refine ox 2 ?_;rcases hR2:Z3 g.er.cn x.loc (Zk x.body) 1 n with _|m1
   . rw [hR2] at e;dsimp only at e;refine rn [2064,5] ?_;refine Zq (q) func162 (Zf results162 rfl) ⟨_,rfl,cB (by rw [e];rfl),rfl⟩
   rw [hR2] at e;dsimp only at e;refine gG 64 ?_;obtain rfl:=y _ hR2;have l0:=Uu (by omega) hR2;refine xx 7 ?_;refine aX (ih (i+1,n2,x.loc) ⟨by dsimp only;omega,e,by dsimp only;omega,by dsimp only;omega⟩ (by dsimp only;omega)) Zn leA
 obtain rfl:i=g.ths.l.length:=(by omega);rw [dP] at e;simp only [dC,Wh] at e;refine rf [3,0,1,2,3,4,5,6,7,8,9,10,0] m ?_;refine Zq (q) func162 (Zf results162 rfl) ⟨_,rfl,cB (by rw [e,cN];simp),rfl⟩
end Go.Proofs.YtadahhbefdnabaaGreatDoor
