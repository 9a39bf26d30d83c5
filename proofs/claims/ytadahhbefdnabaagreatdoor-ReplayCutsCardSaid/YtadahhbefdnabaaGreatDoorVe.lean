/- Contracts. -/
import Derived.Test.YtadahhbefdnabaaGreatDoorVd
set_option maxHeartbeats 16000000
set_option maxRecDepth 100000
set_option linter.all false
namespace Go.Proofs.YtadahhbefdnabaaGreatDoor
open Go Go.RowKit Wx Go.Proofs.Tryz
attribute [local irreducible] lsH rsH stars
variable {f:Fnd}{N:Nat}{M:Hp}{n:Int}{d:PDec}{l:List Dec}
def Ck {M}(h:f.le N)(hn:N<=M):f.le M:=by
 obtain ⟨o,n,m,l,k,j,i,g,e,d,c,b,a⟩:=h;exact ⟨Zq,Zq,Zq,Zq,Zq,Zq,Zq,Zq,Zq,Zq,Zq,Zq,a⟩
def Cv (h:f.le N)(w:Int):(f.fl w).le N:=by obtain ⟨x,a⟩:=f.fl_eq w;rw [a];exact h
def Fnd.fl_keep (f:Fnd)(w:Int):(f.fl w).locals=f.locals/\(f.fl w).stm=f.stm/\(f.fl w).names=f.names/\(f.fl w).ths=f.ths:=by obtain ⟨x,a⟩:=f.fl_eq w;rw [a];exact ⟨rfl,rfl,rfl,rfl⟩
abbrev jT:=@Fnd.fl_keep
def N3 {w}(h:f.flaw=0):(f.fl w).flaw=w:=by unfold Fnd.fl;rw [if_pos h]
def Zzc (h:f.le N)(d:PDec):(f.decl1 d).1.le (N+1)/\(f.decl1 d).1.locals=f.locals/\(f.decl1 d).1.stm=f.stm/\(f.decl1 d).1.names=f.names:=by
 have c:=(Cv (Ck h (iZ N)) 134);have b:=f.fl_keep 134;obtain ⟨r,q,p,o,n,m,l,k,j,i,g,e,a⟩:=h;unfold Fnd.decl1;split
 . split
   . exact ⟨c,b.1,b.2.1,b.2.2.1⟩
   exact ⟨⟨Zi,Zy,Zy,Zy,Zi,Zy,Zy,Zy,Zy,Zy,Zy,Zy,a⟩,rfl,rfl,rfl⟩
 split
 . split
   . exact ⟨c,b.1,b.2.1,b.2.2.1⟩
   exact ⟨⟨Zy,Zi,Zy,Zy,Zy,Zi,Zy,Zy,Zy,Zy,Zy,Zy,Zy⟩,rfl,rfl,rfl⟩
 split
 . exact ⟨⟨Zy,Zy,Zy,Zy,Zy,Zy,Zi,Zy,Zy,Zy,Zy,Zy,a⟩,rfl,rfl,rfl⟩
 split
 . exact ⟨⟨Zy,Zy,Zy,Zy,Zy,Zy,Zy,Zi,Zy,Zy,Zy,Zy,a⟩,rfl,rfl,rfl⟩
 split
 . split
   . exact ⟨c,b.1,b.2.1,b.2.2.1⟩
   exact ⟨⟨Zy,Zy,Zi,Zy,Zy,Zy,Zy,Zy,Zi,Zy,Zy,Zy,a⟩,rfl,rfl,rfl⟩
 split
 . exact ⟨⟨Zy,Zy,Zy,Zi,Zy,Zy,Zy,Zy,Zy,Zy,Zy,Zy,a⟩,rfl,rfl,rfl⟩
 exact ⟨⟨Zy,Zy,Zy,Zy,Zy,Zy,Zy,Zy,Zy,Zy,Zy,Zy,a⟩,rfl,rfl,rfl⟩
def Oh (h:(f.decl1 d).2.2=true):(f.decl1 d).1.ths.length=f.ths.length+(if d.k=6 then 1 else 0)/\(f.decl1 d).1.flaw=f.flaw:=by
 unfold Fnd.decl1 at h|-;split at h
 . rename_i a;split at h
   . cases h
   rename_i b;rw [if_pos a,if_neg b,if_neg Zq];exact ⟨rfl,rfl⟩
 rename_i k1;rw [if_neg k1];split at h
 . rename_i a;split at h
   . cases h
   rename_i b;rw [if_pos a,if_neg b,if_neg Zq];exact ⟨rfl,rfl⟩
 rename_i k2;rw [if_neg k2];split at h
 . rename_i a;rw [if_pos a,if_neg Zq];exact ⟨rfl,rfl⟩
 rename_i i;rw [if_neg i];split at h
 . rename_i a;rw [if_pos a,if_neg Zq];exact ⟨rfl,rfl⟩
 rename_i g;rw [if_neg g];split at h
 . rename_i a;split at h
   . cases h
   rename_i b;rw [if_pos a,if_neg b,if_neg Zq];exact ⟨rfl,rfl⟩
 rename_i e;rw [if_neg e];split at h
 . rename_i a;rw [if_pos a,if_pos a];exact ⟨Zf,rfl⟩
 rename_i c;rw [if_neg c,if_neg c];exact ⟨rfl,rfl⟩
def Om (h:(f.decl1 d).2.2=false):(f.decl1 d).1=f.fl 134:=by
 unfold Fnd.decl1 at h|-;(repeat' split at h)<;>first|(cases h;done)|(split<;>(try split)<;>(try split)<;>(try split)<;>(try split)<;>(try split)<;>(try split)<;>first|rfl|omega|(exfalso;omega))
def Pq (h:f.le N)(d:PDec):(f.decl d).le (N+1)/\(f.decl d).locals=f.locals/\(f.decl d).stm=f.stm:=by
 obtain ⟨i,g,e,v⟩:=Zzc h d;unfold Fnd.decl;split
 . exact ⟨Cv (Ck h (iZ N)) _,(f.fl_keep _).1,(f.fl_keep _).2.1⟩
 split
 . exact ⟨i,g,e⟩
 split
 . exact ⟨Cv i _,((jT _ _).1).trans g,((jT _ _).2.1).trans e⟩
 obtain ⟨u,s,r,q,p,o,n,m,l,t,c,b,a⟩:=i;have j:=h.2.2.2.2.2.2.2.2.2.1;exact ⟨⟨u,s,r,q,p,o,n,m,l,by dsimp only;rw [v];simp;omega,c,b,a⟩,g,e⟩
def Ri (hf:f.flaw=0)(h:(f.decl d).flaw=0):(f.decl d).ths.length=f.ths.length+(if d.k=6 then 1 else 0):=by
 unfold Fnd.decl at h|-;split at h
 . rw [N3 hf] at h;cases h
 rename_i k1;rw [if_neg k1];split at h
 . rename_i k2;rw [Om k2,N3 hf] at h;cases h
 rename_i k2;rw [if_neg k2];have a:=Oh (f:=f) (d:=d) (by revert k2;cases (f.decl1 d).2.2<;>simp);split at h
 . rw [N3 (a.2.trans hf)] at h;cases h
 rename_i b;rw [if_neg b];exact a.1
mutual
def Zhh: ∀ (x:Stm),x.sz<=x.er.nd
 | .mk k ln cl nm wt e ix body els ba bc ea ec id slot other loc=>by
  have b:=Ru body;have a:=Ru els;simp only [Stm.sz,Stm.er,Bj];omega
def Ru: ∀ (l:List Stm),Zn l<=Yg (Zk l)
 | []=>aZ _
 |x::r=>by
  have b:=Zhh x;have a:=Ru r;simp only [Zn,Zk,Yg];omega
end
def Zq8 (h:d.bad=false):(1<=d.k/\d.k<=6)/\(-2147483647<=d.n/\d.n<=2147483647)/\V0 d.body:=by
 unfold PDec.bad Zwh at h;simp only [jL,dG,Bool.not_eq_false'] at h;obtain ⟨⟨⟨⟨⟨⟨⟨⟨f,e⟩,_⟩,_⟩,c⟩,b⟩,_⟩,_⟩,a⟩:=h;exact ⟨Zq,Zq,Kk a⟩
def parse_nd {l}{ds}(h:Kd l=some ds):(ds.map fun d=>Yg d.body+1).sum<=65536:=by
 unfold Kd at h;split at h
 . cases h
 rename_i i;split at h
 . cases h
 rename_i e b;split at h
 . cases h
 rename_i c a;split at h
 . cases h
 cases h
 have g:=(T9 b).1;have f:=(F8 (aS _) a).1;omega
theorem Pb {α:Type}{f:α->Nat}{x}: ∀ {l:List α},x∈l->f x<=(l.map f).sum
 |y::r,h=>by
  rcases bS.1 h with rfl|h
  . simp
  have:=Pb (f:=f) h;simp only [bG,lU];omega
def Zym {α:Type}{f:α->Nat}: ∀ {l:List α},l.length<=(l.map fun d=>f d+1).sum
 | []=>aZ _
 |y::r=>by have:=Zym (f:=f) (l:=r);simp only [bG,lU,aJ];omega
def thB (l:List Dec):List (Sv Stm):=(l.filter fun d=>d.k==6).map fun d=>⟨d.body,d.ba,d.bc⟩
def thB_snoc {k:Nat}(h:k<l.length):thB (l.take (k+1))=thB (l.take k)++(if l[k].k=6 then [⟨l[k].body,l[k].ba,l[k].bc⟩] else []):=by
 rw [aM h];unfold thB;rw [iS,aN];congr 1;by_cases hk:l[k].k=6
 . rw [if_pos hk];simp [hk]
 rw [if_neg hk];simp [hk]
def thB_len :(thB l).length<=l.length:=by unfold thB;rw [aI];exact gB _ _
def thB_er (l:List Dec):((l.map Dec.er).filter fun d=>d.k==6).map (·.body)=(thB l).map fun x=>Zk x.l:=by
 unfold thB
 induction l with
 |nil=>rfl
 |cons d r ih=>
  rw [bG,jM,jM];have a:(Dec.er d).k=d.k:=rfl;rw [a];split
  . rw [bG,bG,bG,ih];rfl
  exact ih
def thB_mem {x:Sv Stm}(h:x∈thB l): ∃ d∈l,x=⟨d.body,d.ba,d.bc⟩:=by
 unfold thB at h;obtain ⟨d,a,rfl⟩:=cF.1 h;exact ⟨d,(List.mem_filter.1 a).1,rfl⟩
def FC.z:FC:=⟨.z,.z,0,0,.z,.z,0,0,.z,.z,.z,.z,.z,.z,0,0,0,0,0,0⟩
def pgC (f:FC):List Value:= [f.vars.v,f.arrs.v,I64 f.mu,I64 f.co,f.chs.v,f.ths.v,I64 f.main,I64 f.stm,f.nv.v,f.na.v,f.nm.v,f.nc.v,f.nh.v]
def Gr (M:Hp):FC.z.At M:=⟨I6 M,I6 M,I6 M,I6 M,(fun x a=>(by cases a)),I6 M,I6 M,I6 M,I6 M,I6 M,I6 M⟩
def FC.z_le:FC.z.er.le 0:=by simp [Fnd.le,FC.er,FC.z,Sv.z]
def FC.At.mo {f:FC}(h:f.At M):({ f with most:=n } :FC).At M:=⟨h.vars,h.arrs,h.chs,h.ths,h.bod,h.nv,h.na,h.nm,h.nc,h.nh,h.names⟩
def FC.At.mn {f:FC}(h:f.At M):({ f with main:=n } :FC).At M:=⟨h.vars,h.arrs,h.chs,h.ths,h.bod,h.nv,h.na,h.nm,h.nc,h.nh,h.names⟩
def Zzd (h: ¬f.flaw=0): ∀ l,Fnd.decls f l=f
 | []=>rfl
 |d::r=>by unfold Fnd.decls;rw [if_neg h]
def Tx (h: ¬f.flaw=0)(i:Nat): ∀ l,Fnd.bodies f i l=f
 | []=>rfl
 |d::r=>by unfold Fnd.bodies;rw [if_neg h]
def Zz1:(prog.info? 128).map (fun i=>(i.zero,i.size,i.bytes))=some (some (.slice none 0 0),1,24):=by kernel_rfl
section
variable {G:World}{q:List HP}{m:List Dec}{a:Option Addr}{c:Nat}
def find_ok (h:Kn q fun M=>DcsAt M a c m)(hs:((m.map Dec.er).map fun d=>Yg d.body+1).sum<=65536):CF G 91 (Ae a m c) (q) (Ret fun v q'=> ∃ (g:FC) (y z e:Int),v= .tuple [.agg (pgC g).toArray,.agg [Value.int .i64 y,I64 z].toArray,I64 e].toArray/\q'=fcM g::q/\(match Ci (m.map Dec.er) with|none=>e≠0|some F=>e=0/\g.er=F)):=by
 refine aE ntmps91 fun F cs=> ?_;have hA:=Zx6 h;have r1:=Zx (f:=dcC) (sz:=6) (fun _=>rfl) m;refine gW (fun w s=>Kn.dsL (h.le leA) s) fun d3=> ?_;have v2:m.length<=65536:=by have:=Zym (f:=fun d=>Yg d.body) (l:=m.map Dec.er);rw [aI] at this;omega
 have l2: ∀ d∈m,Zn d.body<=65536:=fun d hd=>by have h1:=Pb (f:=fun d=>Yg d.body+1) (cW (f:=Dec.er) hd);have h2:=Ru d.body;have h3:(Dec.er d).body=Zk d.body:=rfl;rw [h3] at h1;omega
 obtain ⟨R,hR⟩: ∃ R,Ci (m.map Dec.er)=R:=⟨_,rfl⟩;rw [hR];unfold Ci at hR;refine Zo zeroValue29 fun n1=> ?_
 refine Zo zeroValue104 fun n2=> ?_
 refine Zz ?_;apply bD (mayD_ok (h.le leA));refine Wg ?_ ?_<;>intro h0
 . have d0:(m.map Dec.er).any PDec.bad=true:=(by cases p:(m.map Dec.er).any PDec.bad;rw [p] at h0;exact aV h0 Zw;rfl);rw [if_pos d0] at hR;refine Zz ?_;apply cE (q':=fcM FC.z::_) (dP (fun _ _ _=>Gr _));refine Zm (fcM FC.z::q) ?_;exact ⟨_,rfl,FC.z,0,0,2,rfl,rfl,by rw [<-hR];decide⟩
 have d0:(m.map Dec.er).any PDec.bad=false:=(by cases p:(m.map Dec.er).any PDec.bad;rfl;rw [p] at h0;exact aV h0 Zw);rw [if_neg (by rw [d0];decide)] at hR;have q0: ∀ d∈m,(1<=d.k/\d.k<=6)/\(-2147483647<=d.n/\d.n<=2147483647)/\V0 (Zk d.body):=fun d hd=>Zq8 (d:=d.er) (by rw [List.any_eq_false] at d0;simpa using d0 _ (cW (f:=Dec.er) hd))
 refine Zo zeroValue316 fun n3=> ?_
 refine Zz ?_;refine cH (bW (fun (s:(Nat×FC)×(Option Addr×Nat×List (Sv Stm))×Option Addr)=>s.1.1<=m.length/\s.2.2=a/\s.2.1.2.2=thB (m.take s.1.1)/\Fnd.decls .z (m.map Dec.er)=Fnd.decls s.1.2.er ((m.drop s.1.1).map Dec.er)/\s.1.2.er.le s.1.1/\(s.1.2.locals=0/\s.1.2.stm=0)/\(s.1.2.flaw=0->s.2.1.2.2.length=s.1.2.ths.l.length)) (fun s=> [(0,.slice s.2.2 m.length c),(2,pt n1),(3,pt n2),(4,I64 0),(5,pt n3),(6,.slice s.2.1.1 s.2.1.2.2.length s.2.1.2.1),(7,I64 (s.1.1:Int))]) (fun s=>lsH (@Sv.v Stm) 128 s.2.1.1 s.2.1.2.1 s.2.1.2.2::fcM s.1.2::pC n3 (fcC s.1.2) 316::pC n1 zz7 29::pC n2 zz4 104::(q++F)) (fun s=>m.length - s.1.1) (fun s l0 ih=> ?_) ((0,FC.z),(none,0, []),a) ⟨aZ _,rfl,rfl,rfl,FC.z_le,⟨rfl,rfl⟩,fun _=>rfl⟩) Z5 (aK leA (aK (Yy (@Sv.v Stm) 128 _) (aK (dP (φ:=fun M=>FC.z.At M) (mn:=fun e h=>FC.At.mono e h) (fun _ _ _=>Gr _)) leA)));try dsimp only at l0 ih|-
 obtain ⟨y2,k2,p0,o0,g0,⟨n0,m0⟩,x0⟩:=l0;obtain ⟨⟨k,g⟩,⟨ab,cb,B⟩,a2⟩:=s;dsimp only at*;subst k2;have f3:B.length<=65536:=(by rw [p0];exact dO thB_len (by rw [bB];omega));refine Zz ?_;refine' Vo ?_;refine Wg ?_ ?_<;>intro h0
 . obtain ⟨b,h9⟩:k<m.length/\g.flaw=0:=(by rw [bA] at h0;exact ⟨by simpa using h0.1,by simpa using h0.2⟩);have t1:=q0 _ (aC b);have p1:=thB_snoc b;refine Zz ?_;refine Rh hA (by rw [r1];omega) fun b1 o1 e1=> ?_;subst e1;have x1: ∀ (Q:List HP),Le Q q-> ∀ (j:Nat) (v:Value),nth (dcC m[k]) j=some v->Cl Q ⟨b1,o1+(k:Int).toNat*6+j,none⟩ v:=fun Q hQ j v hv=>cX hA hQ (fun _=>rfl) b rfl j v (by rw [<-Qi];exact hv)
   refine Zz ?_;refine iP 4 (us:=dcC m[k]) rfl rfl isAgg305 sizeOf305 rfl (fun k v hk=>x1 _ leA k v (by rw [Qi];exact hk)) ?_;apply Wk 5 (aG _) (Zw7 (f:=g) (d:=m[k]) knA (Ck g0 Zq) t1.1 t1.2.1);rintro _ _ ⟨o,rfl,rfl,a0⟩;refine ⟨trivial,?_⟩;refine rn [7,0,4] ?_;skip;refine rn [2,0,2] ?_;refine xp 41 ?_ ?_<;>intro h1
   . refine Zz ?_;refine bU (Qu (@Sv.v Stm) [⟨m[k].body,m[k].ba,m[k].bc⟩] underlying317 Zz1 rfl rfl rfl rfl rfl rfl (fun _=>rfl)) ?_;rintro _ _ ⟨gl,rfl,rfl⟩;refine bU (Wu (f:= @Sv.v Stm) (l:=B) (m:= [⟨m[k].body,m[k].ba,m[k].bc⟩]) underlying317 Zz1 rfl rfl rfl Zj ((bV _).le Zj) (fun _=>rfl) Zi Zi) ?_;rintro _ _ ⟨a3,c3,rfl,rfl⟩;refine Zz ?_;have t0:=Pq g0 m[k].er;rw [<-a0] at t0;obtain ⟨l1,k1,j1⟩:=t0;have i1:Fnd.decls g.er ((m.drop k).map Dec.er)=Fnd.decls o.er ((m.drop (k+1)).map Dec.er):=by rw [aP b,bG,Fnd.decls,if_pos (show g.er.flaw=0 from h9),a0]
     have k0:o.flaw=0->o.ths.l.length=g.ths.l.length+1:=fun p=>by have:=Ri (f:=g.er) (d:=m[k].er) h9 (by rw [<-a0];exact p);rw [<-a0,if_pos (show m[k].er.k=6 from (by simpa using h1:m[k].k=6))] at this;simpa [FC.er] using this
     refine Zs (ih ((k+1,o),(a3,c3,B++ [⟨m[k].body,m[k].ba,m[k].bc⟩]),_) ⟨Zy,rfl,by dsimp only;rw [p1,if_pos (show m[k].k=6 by simpa using h1),<-p0],o0.trans i1,l1,⟨k1.trans n0,j1.trans m0⟩,fun p=>by have h1:=k0 p;have h2:=x0 h9;simp;omega⟩ Zy)
   refine Zz ?_;have t0:=Pq g0 m[k].er;rw [<-a0] at t0;obtain ⟨l1,k1,j1⟩:=t0;have i1:Fnd.decls g.er ((m.drop k).map Dec.er)=Fnd.decls o.er ((m.drop (k+1)).map Dec.er):=by rw [aP b,bG,Fnd.decls,if_pos (show g.er.flaw=0 from h9),a0]
   have k0:o.flaw=0->o.ths.l.length=g.ths.l.length+0:=fun p=>by have:=Ri (f:=g.er) (d:=m[k].er) h9 (by rw [<-a0];exact p);rw [<-a0,if_neg (show ¬m[k].er.k=6 from (by simpa using h1: ¬m[k].k=6))] at this;simpa [FC.er] using this
   refine Zs (ih ((k+1,o),(ab,cb,B),_) ⟨Zy,rfl,by dsimp only;rw [p1,if_neg (show ¬m[k].k=6 by simpa using h1),<-p0];simp,o0.trans i1,l1,⟨k1.trans n0,j1.trans m0⟩,fun p=>by have h1:=k0 p;have h2:=x0 h9;simp;omega⟩ Zy)
 have hD:Fnd.decls .z (m.map Dec.er)=g.er:=by
  rcases dN k m.length with b|b
  . rw [o0];exact Zzd (fun hg=>by revert h0;rw [dB (show (k:Int)<m.length by omega),show g.flaw=0 from hg];decide) _
  rw [o0,cN b];rfl
 have hB:g.flaw=0->B=thB m:=fun hg=>by rw [p0,bX];rcases dN k m.length with b|b;(revert h0;rw [dB (show (k:Int)<m.length by omega),show g.flaw=0 from hg];intro p;exact aV p Zw);exact b
 rw [hD,thB_er] at hR;clear ih o0;refine Zz ?_;apply bD (Zb1 (f:=g) (s:=Ml) knA);apply ox 3;obtain ⟨A,z0⟩: ∃ A,g.er.at Ml=A:=⟨_,rfl⟩;rw [z0] at hR|-;obtain ⟨f1,c0⟩: ∃ f1,(if g.er.flaw=0/\(A=0\/((g.er.names.map (·.k)).getD (A - 1) 0)≠6) then g.er.fl 133 else g.er)=f1:=⟨_,rfl⟩;rw [c0] at hR;refine iG (fun (x:FC)=> [(2,pt n1),(3,pt n2),(4,I64 0),(5,pt n3),(6,.slice ab B.length cb),(8,I64 ((A:Int) - 1))]) (fun x=>lsH (@Sv.v Stm) 128 ab cb B::fcM x::pC n3 (fcC x) 316::pC n1 zz7 29::pC n2 zz4 104::(q++F)) (fun x=>x.er=f1) (fun x j0=> ?_) fun K=> ?_
 . have hk:f1.locals=0/\f1.stm=0/\f1.names=g.er.names/\f1.ths=g.er.ths:=by rw [<-c0];split;exact ⟨(jT _ _).1.trans n0,(jT _ _).2.1.trans m0,(jT _ _).2.2.1,(jT _ _).2.2.2⟩;exact ⟨n0,m0,rfl,rfl⟩
   have s0:f1.flaw=0->g.flaw=0/\A≠0:=(by rw [<-c0];split;(rename_i p;intro hy;rw [N3 p.1] at hy;cases hy);(rename_i p;intro hy;exact ⟨hy,fun hz=>p ⟨hy,.inl hz⟩⟩));have u1:Fnd.bodies f1 0 ((thB m).map fun x=>Zk x.l)=Fnd.bodies f1 0 (B.map fun x=>Zk x.l):=(by by_cases p:f1.flaw=0;rw [hB (s0 p).1];rw [Tx p,Tx p]);have k0:f1.flaw=0->B.length<=f1.ths.length:=fun p=>(by rw [hk.2.2.2];have:=x0 (s0 p).1;simp only [FC.er,aI];omega);have q2:f1.flaw=0->B=thB m:=fun p=>hB (s0 p).1;have g3:A<=f1.names.length:=(by rw [<-z0,hk.2.2.1];exact Bp);have t2:f1.ths.length<=65536:=(by rw [hk.2.2.2];have:=g0.2.2.2.1;omega);have z1:f1.names.length<=65536:=(by rw [hk.2.2.1];have:=g0.2.2.2.2.2.2.2.2.2.1;omega)
   rw [u1] at hR;obtain ⟨i2,f2,e2,c2⟩:=hk;have r2:f1.flaw=0->A≠0:=fun p=>(s0 p).2;clear c0 hD hB s0 g0 n0 m0 x0 p0 u1 e2 c2 h0 z0
   refine Zs (bW (fun (s:Nat×FC)=>s.1<=B.length/\Fnd.bodies f1 0 (B.map fun x=>Zk x.l)=Fnd.bodies s.2.er s.1 ((B.drop s.1).map fun x=>Zk x.l)/\s.2.er.names=f1.names/\(s.2.er.locals=0/\0<=s.2.er.stm)/\(s.2.er.flaw=0->f1.flaw=0)/\s.2.er.ths.length=f1.ths.length) (fun s=> [(2,pt n1),(3,pt n2),(4,I64 0),(5,pt n3),(6,.slice ab B.length cb),(8,I64 ((A:Int) - 1)),(9,I64 (s.1:Int))]) (fun s=>lsH (@Sv.v Stm) 128 ab cb B::fcM s.2::pC n3 (fcC s.2) 316::pC n1 zz7 29::pC n2 zz4 104::(q++F)) (fun s=>B.length - s.1) (fun s l0 ih=> ?_) (0,x) ⟨aZ _,by dsimp only;rw [j0];rfl,by dsimp only;rw [j0],by dsimp only;rw [j0,i2,f2];decide,by dsimp only;rw [j0];exact id,by dsimp only;rw [j0]⟩);try dsimp only at l0 ih|-
   obtain ⟨w2,w0,d1,⟨c1,v0⟩,s1,j2⟩:=l0;obtain ⟨i,g⟩:=s;dsimp only at*;refine Zz ?_;refine' Vo ?_;refine Wg ?_ ?_<;>intro h0
   . obtain ⟨b,h9⟩:i<B.length/\g.flaw=0:=(by rw [bA] at h0;exact ⟨by simpa using h0.1,by simpa using h0.2⟩);have i0:=s1 h9;have v1:=k0 i0;have q1: ∀ x∈B,∃ d∈m,x=⟨d.body,d.ba,d.bc⟩:=fun x p=>thB_mem (by rw [<-q2 i0];exact p);obtain ⟨d,hd,y0⟩:=q1 _ (aC b)
     obtain ⟨x2,a1⟩: ∃ y,B[i]=y:=⟨_,rfl⟩;rw [a1] at y0;have o2:Kn q fun M=>BlkAt M x2.a x2.c x2.l:=(by rw [y0];exact h.imp fun M h=>h.2 _ hd);have m1:V0 (Zk x2.l):=(by rw [y0];exact (q0 d hd).2.2);have u2:Zn x2.l<=65536:=(by rw [y0];exact l2 d hd)
     have z2:g.ths.l.length=g.er.ths.length:=(aI _).symm;have f0:g.names.l.length<=65536:=(by rw [show g.names.l=f1.names from d1];exact z1);replace c1:g.locals=0:=c1;replace v0:0<=g.stm:=v0;refine Uz (fl:= @Sv.v Stm) (l:=B) (a:=ab) Zq fun gb e_=> ?_;subst e_;refine Zz ?_;refine ldD 4 ?_ (hc:=(gF (n:=i) (bV _) Zj b rfl));refine dW 88 (.slice x2.a x2.l.length x2.c) rfl (by rw [a1];rfl) ?_;refine Vd (fl:= [⟨9,10,fun g=> pt g,fun g=>pC g zz6 316⟩]) ?_;refine Bi 5 ⟨flA zeroValue316,trivial⟩ (aG _) ((Zg5 _).2 x2.l x2.a x2.c (aS _) m1 (f:=({ g with most:=0 } :FC)) (lB (φ:=fun M=>g.At M) knA fun M h=>FC.At.mo h) (cO o2) ⟨Zy,⟨Zy,Zy⟩,v0⟩) ?_ (hL:=hlR);rintro _ _ ⟨o,b2,d2,m2,rfl,rfl,r0⟩;refine ⟨trivial,?_⟩;refine Kq 6 ⟨flA zeroValue316,trivial⟩ (Pu.move rfl) ?_;refine Kq 7 ⟨flA zeroValue316,trivial⟩ (fP rfl rfl) ?_;refine Kq 8 ⟨flA zeroValue316,trivial⟩ (fP rfl rfl) ?_;refine Qs (e0:=⟨9,10,fun g=> pt g,fun g=>pC g zz6 316⟩) (hnd:=by simp) 9 ⟨flA zeroValue316,trivial⟩ fun ga=> ?_;change XF _ _ _ _ _ _ _ [] _ _ _ ((10,pt ga)::_) _ _ (pC ga zz6 316::_);refine fR ?_;refine rn [11,12,0,2,0,0,5,0] ?_;have a0:o.ths.l.length=f1.ths.length:=(by rw [<-j2];have:=aQ List.length (show o.er.ths=g.er.ths from (aQ (fun x=>x.1.ths) r0).trans (gZ (Zk x2.l) _).e.2.2.2.2.2.1);rw [show o.er.ths.length=o.ths.l.length from aI _] at this;exact this);apply eN (q':=rsH thC 3 218 none 0 []::_) (Zc thC 3 218 _);apply bU (Z9 (f:=thC) (l:= []) (m:=o.ths.l) underlying24 R9 rfl rfl (fun _=>rfl) rfl rfl Zj (eB (lB (φ:=fun M=>o.At M) knA fun M h=>h.ths)) (fun _=>rfl) Zi Zi);rintro _ _ ⟨s2,u0,rfl,rfl⟩;rw [bL];refine Zz ?_;have g1:i<o.ths.l.length:=Zq;obtain ⟨y,hy⟩: ∃ y,o.ths.l[i]=y:=⟨_,rfl⟩;refine Iw (fl:=thC) (sz:=3) (l:=o.ths.l) (a:=s2) Zq fun gt e_=> ?_;subst e_;refine Zz ?_;refine gL 9 rfl (Wq (f:=thC) (l:=o.ths.l) (u:=⟨y.nm,y.loc,m2,b2,d2⟩) (n:=i) (k:=2) rfl rfl sizeOf128 (fun _=>rfl) rfl g1 rfl (by rw [hy];rfl) rfl rfl Zj) ?_;rintro _ _ ⟨rfl,rfl⟩;refine ⟨hlR,?_⟩;refine Zz ?_;refine gL 12 rfl (Wq (f:=thC) (l:=o.ths.l.set i ⟨y.nm,y.loc,m2,b2,d2⟩) (u:=⟨y.nm,o.most,m2,b2,d2⟩) (n:=i) (k:=1) rfl rfl sizeOf3 (fun _=>rfl) rfl (by rw [aR];exact g1) rfl (by rw [aY];rfl) rfl rfl Zj) ?_;refine kk0 ?_;refine dW 12 (.slice (some ⟨gt,0,none⟩) ((o.ths.l.set i ⟨y.nm,y.loc,m2,b2,d2⟩).set i ⟨y.nm,o.most,m2,b2,d2⟩).length u0) rfl (by rw [aR,aR]) ?_;refine Zz ?_;refine Zkr ?_;refine cE (q':=fcM ({ o with ths:=⟨(o.ths.l.set i ⟨y.nm,y.loc,m2,b2,d2⟩).set i ⟨y.nm,o.most,m2,b2,d2⟩,some ⟨gt,0,none⟩,u0⟩ } :FC)::_) (dP ((gG (φ:=fun M=>o.At M) knA (gG (svK (x:=⟨(o.ths.l.set i ⟨y.nm,y.loc,m2,b2,d2⟩).set i ⟨y.nm,o.most,m2,b2,d2⟩,some ⟨gt,0,none⟩,u0⟩) (f:=thC)) (show Kn _ fun M=>BlkAt M b2 d2 m2 from knA))).imp fun M h=>FC.At.t h.1 h.2.1 (fun z hz=>by rcases cT hz with hz|hz;rcases cT hz with hz|hz;exact h.1.bod z hz;rw [hz];exact h.2.2;rw [hz];exact h.2.2))) ?_;have p2:((o.ths.l.set i ⟨y.nm,y.loc,m2,b2,d2⟩).set i ⟨y.nm,o.most,m2,b2,d2⟩).map Th.er=(o.ths.l.map Th.er).set i ⟨y.nm,o.most,Zk m2⟩:=by rw [eV,iF];rfl
     have y1:((o.ths.l.map Th.er).getD i ⟨em,0, []⟩).nm=y.nm:=by rw [gD (by simpa using g1)];simp [hy,Th.er]
     have w1:Fnd.bodies f1 0 (B.map fun x=>Zk x.l)=Fnd.bodies ({ o with ths:=⟨(o.ths.l.set i ⟨y.nm,y.loc,m2,b2,d2⟩).set i ⟨y.nm,o.most,m2,b2,d2⟩,some ⟨gt,0,none⟩,u0⟩ } :FC).er (i+1) ((B.drop (i+1)).map fun x=>Zk x.l):=by
      rw [w0,aP b,bG,Fnd.bodies,if_pos (show g.er.flaw=0 from h9),a1];dsimp only;rw [show Fnd.block { g.er with most:=0 } (Zk x2.l)=(o.er,Zk m2) from r0.symm];congr 1;simp only [FC.er,p2];rw [y1]
     refine Zs (ih (i+1,({ o with ths:=⟨(o.ths.l.set i ⟨y.nm,y.loc,m2,b2,d2⟩).set i ⟨y.nm,o.most,m2,b2,d2⟩,some ⟨gt,0,none⟩,u0⟩ } :FC)) ⟨Zy,w1,(aQ (fun x=>x.1.names) r0).trans d1,⟨(aQ (fun x=>x.1.locals) r0).trans c1,by have h1:=(gZ (Zk x2.l) ({ g with most:=0 } :FC).er).s;have h2:o.er.stm=_:=aQ (fun x=>x.1.stm) r0;show 0<=o.er.stm;rw [h2];exact Int.le_trans v0 h1⟩,fun _=>i0,by show (((o.ths.l.set i ⟨y.nm,y.loc,m2,b2,d2⟩).set i ⟨y.nm,o.most,m2,b2,d2⟩).map Th.er).length=_;rw [aI,aR,aR];exact a0⟩ Zy)
   have hE:Fnd.bodies f1 0 (B.map fun x=>Zk x.l)=g.er:=by
    rcases dN i B.length with b|b
    . rw [w0];exact Tx (fun hg=>by revert h0;rw [dB (show (i:Int)<B.length by omega),show g.flaw=0 from hg];decide) _ _
    rw [w0,cN b];rfl
   rw [hE] at hR;clear ih w0;refine Zp ?_ ?_<;>intro h1
   . rw [if_pos (show g.er.flaw≠0 from h1)] at hR;refine rn [2,0,1,2,3,4,5,6,7,8,0] ?_;apply cE (q':=fcM FC.z::_) (dP (fun _ _ _=>Gr _));refine Zm (fcM FC.z::q) ?_;exact ⟨_,rfl,FC.z,g.pl,g.pc,g.flaw,rfl,rfl,by rw [<-hR];exact h1⟩
   rw [if_neg (show ¬g.er.flaw≠0 from fun p=>p h1)] at hR;have i0:=s1 h1;have v1:=r2 i0;have hN:Kn (fcM g::q) fun M=>g.names.At M nmC:=lB (φ:=fun M=>g.At M) knA fun M h=>h.names;have b0:=eB hN;have r:=Zx (f:=nmC) (sz:=3) (fun _=>rfl) g.names.l
   obtain ⟨⟨nl,na,nc⟩,hf⟩: ∃ x,g.names=x:=⟨_,rfl⟩;rw [hf] at b0 r;dsimp only at b0 r;have f0:g.er.names=nl:=(by simp only [FC.er,hf]);obtain ⟨j,hj⟩: ∃ j,A=j+1:=⟨A - 1,Zq⟩;have b:j<nl.length:=(by rw [<-f0,d1];omega);refine Ye ?_;refine aX 120 (.slice na nl.length nc) rfl (by show g.names.v=_;rw [hf];rfl) ?_;refine Ye ?_;apply aX 121 (Ad j) rfl (aQ (Value.int .i64) Zq);refine J9 b0 (by rw [r];omega) fun b3 o3 e3=> ?_;subst e3;apply oo 2;refine ld ?_ (hc:=(cX (n:=j) b0 leA (fun _=>rfl) b rfl 2 _ rfl));refine Zz ?_;apply cE (q':=fcM ({ g with main:=nl[j].s } :FC)::_) (dP (lB (φ:=fun M=>g.At M) knA fun M h=>FC.At.mn h));refine Zl (fcM ({ g with main:=nl[j].s } :FC)::q) func91 (rAAT_ results91) ⟨_,rfl,({ g with main:=nl[j].s } :FC),0,0,0,rfl,rfl,by rw [<-hR,f0,hj,iT,gD (by simpa using b)];refine ⟨rfl,?_⟩;simp [FC.er,hf]⟩
 have hN:Kn (fcM g::q) fun M=>g.names.At M nmC:=lB (φ:=fun M=>g.At M) knA fun M h=>h.names;have b0:=eB hN;have r:=Zx (f:=nmC) (sz:=3) (fun _=>rfl) g.names.l
 obtain ⟨⟨nl,na,nc⟩,hf⟩: ∃ x,g.names=x:=⟨_,rfl⟩;rw [hf] at b0 r;dsimp only at b0 r;have f0:g.er.names=nl:=by simp only [FC.er,hf]
 have i3:A<=nl.length:=by rw [<-z0,<-f0];exact Bp
 refine Zz ?_;refine kT 55 rfl ?_ ?_<;>intro h1
 . replace h1:=sp h1;refine Zz ?_;refine kT 58 rfl ?_ ?_<;>intro h2
   . replace h2 := sp h2; refine Zz ?_; apply Zv (aG _) (Jz (f := g) knA); rintro _ _ ⟨o, rfl, rfl, a0⟩; refine rn [0,1] ?_; -- ['guard T', 'guard T']
     exact cH (K o (by rw [<-c0,if_pos (by exact ⟨h1,.inl Zq⟩)];exact a0)) Z5 leA
   replace h2:=sp h2;refine Ye ?_;refine aX 60 (.slice na nl.length nc) rfl (by show g.names.v=_;rw [hf];rfl) ?_;obtain ⟨i,hi⟩: ∃ i,A=i+1:=⟨A - 1,Zq⟩;have b:i<nl.length:=Zq;refine Ye ?_;apply aX 61 (Ad i) rfl (aQ (Value.int .i64) Zq);refine J9 b0 (by rw [r];omega) fun b3 o3 e3=> ?_;subst e3;apply oo 2;refine ld ?_ (hc:=(cX (n:=i) b0 leA (fun _=>rfl) b rfl 1 _ rfl));refine Zp ?_ ?_<;>intro h3
   . refine Zz ?_; apply Zv (aG _) (Jz (f := g) knA); rintro _ _ ⟨o, rfl, rfl, a0⟩; refine rn [0,1] ?_; -- ['guard T', 'guard F', 'adr3', 'cond T']
     exact cH (K o (by rw [<-c0,if_pos (by refine ⟨h1,.inr ?_⟩;rw [f0,hi,iT,gD (by simpa using b)];simpa using h3)];exact a0)) Z5 leA
   apply xx 2; -- ['guard T', 'guard F', 'adr3', 'cond F']
   exact cH (K g (by rw [<-c0,if_neg (by rintro ⟨_,p|p⟩;omega;revert p;rw [f0,hi,iT,gD (by simpa using b)];simpa using h3)])) Z5 leA
 replace h1 := sp h1; apply ox 15; -- ['guard F']
 exact cH (K g (by rw [<-c0,if_neg (by exact fun p=>h1 p.1)])) Z5 leA
variable {s:ByteArray}
def text_ok:CF G 44 [.string s] (q) (Ret fun v q'=> ∃ (g:FC) (y z e:Int),v= .tuple [.agg (pgC g).toArray,.agg [Value.int .i64 y,I64 z].toArray,I64 e].toArray/\q'=fcM g::q/\(match U6 (bs s) with|none=>e≠0|some F=>e=0/\g.er=F)):=by
 refine aE ntmps44 fun F n=> ?_;obtain ⟨R,b⟩: ∃ R,U6 (bs s)=R:=⟨_,rfl⟩;rw [b];unfold U6 at b;refine Zo zeroValue29 fun l=> ?_
 refine Zo zeroValue104 fun k=> ?_
 refine Zz ?_;apply Zv (aG _) (Parse_ok);rintro _ _ (⟨f,a,c,d,rfl,rfl⟩|⟨d,y,z,e,h,rfl,rfl⟩)
 . rw [d] at b;dsimp only at b;refine Zo zeroValue104 fun i=> ?_
   refine Zz ?_;apply Zv (aG _) (find_ok (m:=f) knA (parse_nd d));rintro _ _ ⟨g,y,z,e,rfl,rfl,j⟩;refine Zm (fcM g::q) ?_;exact ⟨_,rfl,g,y,z,e,rfl,rfl,by rw [<-b];exact j⟩
 rw [d] at b;dsimp only at b;refine Zo zeroValue104 fun i=> ?_
 refine rn [1,0,8] ?_;refine iJ 15 ?_ rfl (by rw [jI];exact h);refine rn [2,0,1,2,3,4,5,6,0] ?_;apply cE (q':=fcM FC.z::_) (dP (fun _ _ _=>Gr _));refine Zm (fcM FC.z::q) ?_;exact ⟨_,rfl,FC.z,y,z,e,rfl,rfl,by rw [<-b];exact h⟩
end
end Go.Proofs.YtadahhbefdnabaaGreatDoor
namespace Go.Proofs.YtadahhbefdnabaaGreatDoor
open Go Go.RowKit Wx Go.Proofs.Tryz
variable {n i c d g p N p2:Nat}{m rooms:List Int}{k t at_ number:Int}{G:World}{q r:List HP}{a b:Option Addr}{l:List (SlV Int)}{v:Value}
structure Ch where
 room:Int
 all:List Int
 taken:Nat
structure Sy where
 owners:List Int
 conds:List (List Int)
 chans:List Ch
variable {s s2:Sy}
def Ch.items (c:Ch):List Int:=c.all.drop c.taken
abbrev inR (k:Int)(n:Nat):Prop:=0<=k/\k<n
abbrev thr (t:Int):Prop:=0<=t/\t<=7
abbrev val (v:Int):Prop:= -2147483648<=v/\v<=2147483647
def Jp (s:Sy)(m t:Int):Sy×Bool×Int:=
 if inR m s.owners.length then if thr t then if s.owners.getD m.toNat 0= -1 then ({ s with owners:=s.owners.set m.toNat t },true,0) else (s,false,0) else (s,false,2) else (s,false,4)
def Vv (s:Sy)(m t:Int):Sy×Int:=
 if inR m s.owners.length then if thr t then if s.owners.getD m.toNat 0=t then ({ s with owners:=s.owners.set m.toNat (-1) },0) else (s,140) else (s,2) else (s,4)
def H4 (s:Sy)(k t:Int):Sy×Int:=
 if inR k s.conds.length then if thr t then if ∃ l∈s.conds,t∈l then (s,141) else ({ s with conds:=s.conds.set k.toNat (s.conds.getD k.toNat []++ [t]) },0) else (s,2) else (s,4)
def Yc (s:Sy)(k:Int):Sy×Int×Int:=
 if inR k s.conds.length then if s.conds.getD k.toNat []= [] then (s, -1,0) else ({ s with conds:=s.conds.set k.toNat ((s.conds.getD k.toNat []).drop 1) },(s.conds.getD k.toNat []).headD 0,0) else (s, -1,4)
def Hc (s:Sy)(k:Int):Sy×List Int×Int:=
 if inR k s.conds.length then ({ s with conds:=s.conds.set k.toNat [] },s.conds.getD k.toNat [],0) else (s, [],4)
def ch0:Ch:=⟨1, [],0⟩
def Qo (s:Sy)(q v:Int):Sy×Int×Int:=
 if inR q s.chans.length then if val v then if ((s.chans.getD q.toNat ch0).items.length:Int)<(s.chans.getD q.toNat ch0).room then
  ({ s with chans:=s.chans.set q.toNat { s.chans.getD q.toNat ch0 with all:=(s.chans.getD q.toNat ch0).all++ [v] } },(s.chans.getD q.toNat ch0).all.length,0) else (s, -1,0) else (s, -1,2) else (s, -1,4)
def Qz (s:Sy)(q:Int):Sy×Int×Int×Int:=
 if inR q s.chans.length then if (s.chans.getD q.toNat ch0).items= [] then (s,0, -1,0) else
  ({ s with chans:=s.chans.set q.toNat { s.chans.getD q.toNat ch0 with taken:=(s.chans.getD q.toNat ch0).taken+1 } },(s.chans.getD q.toNat ch0).all.getD (s.chans.getD q.toNat ch0).taken 0,(s.chans.getD q.toNat ch0).taken,0) else (s,0, -1,4)
def Ch.ok (n:Nat)(c:Ch):Prop:=(1<=c.room/\c.room<=16)/\c.taken<=c.all.length/\c.all.length<=n/\(c.items.length:Int)<=c.room/\ ∀ v∈c.all,val v
structure Sy.ok (n:Nat) (s:Sy):Prop where
 no:s.owners.length<=64
 nc:s.conds.length<=64
 nh:s.chans.length<=64
 o: ∀ o∈s.owners, -1<=o/\o<=7
 c: ∀ l∈s.conds,l.length<=n/\ ∀ t∈l,thr t
 h: ∀ x∈s.chans,x.ok n
def Sy.ok.mono {m}(h:s.ok n)(l:n<=m):s.ok m:=
 ⟨h.no,h.nc,h.nh,h.o,fun x hx=>⟨dO (h.c x hx).1 l,(h.c x hx).2⟩,fun x hx=>let ⟨a,b,c,d,e⟩:=h.h x hx;⟨a,b,dO c l,d,e⟩⟩
def Uu {α:Type}{l:List α}{d}(h:i<l.length):l.getD i d∈l:=by
 have:l.getD i d=l[i]:=by simp [List.getD,h]
 rw [this];exact aC _
def M4 (h:inR k n):k.toNat<n:=by omega
def Zjl (h:s.ok n)(m t:Int):(Jp s m t).1.ok n:=by
 unfold Jp;split
 . split
   . split
     . rename_i _ e _;exact ⟨by simpa using h.no,h.nc,h.nh,fun o d=>by rcases cT d with d|rfl;exact h.o o d;omega,h.c,h.h⟩
     exact h
   exact h
 exact h
def waitS_ok (h:s.ok n)(k t:Int):(H4 s k t).1.ok (n+1):=by
 unfold H4;split
 . rename_i f;split
   . rename_i e;split
     . exact h.mono Zq
     refine ⟨h.no,by simpa using h.nc,h.nh,h.o,fun l b=> ?_,(h.mono (iZ n)).h⟩;rcases cT b with b|rfl
     . exact (h.mono (iZ n)).c l b
     obtain ⟨i,g⟩:=h.c _ (Uu (d:= []) (M4 f));refine ⟨by rw [aA];simp only [aJ,aT];omega,fun x a=> ?_⟩;rcases bP.1 a with a|a
     . exact g x a
     rw [bE.1 a];exact e
   exact h.mono Zq
 exact h.mono Zq
def Zv0 (h:s.ok n)(k:Int):(Yc s k).1.ok n:=by
 unfold Yc;split
 . rename_i e;split
   . exact h
   refine ⟨h.no,by simpa using h.nc,h.nh,h.o,fun l a=> ?_,h.h⟩;rcases cT a with a|rfl
   . exact h.c l a
   obtain ⟨g,f⟩:=h.c _ (Uu (d:= []) (M4 e));exact ⟨by rw [bY];omega,fun x b=>f x (List.mem_of_mem_drop b)⟩
 exact h
def allS_ok (h:s.ok n)(k:Int):(Hc s k).1.ok n:=by
 unfold Hc;split
 . refine ⟨h.no,by simpa using h.nc,h.nh,h.o,fun l a=> ?_,h.h⟩;rcases cT a with a|rfl
   . exact h.c l a
   simp
 exact h
def sendS_ok (h:s.ok n)(q v:Int):(Qo s q v).1.ok (n+1):=by
 unfold Qo;split
 . rename_i f;split
   . rename_i e;split
     . rename_i b;refine ⟨h.no,h.nc,by simpa using h.nh,h.o,(h.mono (iZ n)).c,fun x a=> ?_⟩;rcases cT a with a|rfl
       . exact (h.mono (iZ n)).h x a
       obtain ⟨i,l,k,j,g⟩:=h.h _ (Uu (d:=ch0) (M4 f));unfold Ch.items at b;rw [bY] at b;refine ⟨i,by dsimp only;rw [aA];omega,by dsimp only;rw [aA,cI];omega,?_,fun x a=> ?_⟩
       . unfold Ch.items;dsimp only;rw [bY,aA,cI];omega
       rcases bP.1 a with a|a
       . exact g x a
       rw [bE.1 a];exact e
     exact h.mono Zq
   exact h.mono Zq
 exact h.mono Zq
def recvS_ok (h:s.ok n)(q:Int):(Qz s q).1.ok n:=by
 unfold Qz;split
 . rename_i g;split
   . exact h
   rename_i f;refine ⟨h.no,h.nc,by simpa using h.nh,h.o,h.c,fun x a=> ?_⟩;rcases cT a with a|rfl
   . exact h.h x a
   obtain ⟨k,l,j,e,i⟩:=h.h _ (Uu (d:=ch0) (M4 g));have b:0<(s.chans.getD q.toNat ch0).items.length:=List.length_pos_iff.2 f;unfold Ch.items at b e;rw [bY] at b e;refine ⟨k,Zy,j,?_,i⟩;unfold Ch.items;dsimp only;rw [bY];omega
 exact h
def Tryz.info3:(prog.info? 3).map (fun i=>(i.zero,i.size,i.bytes))=some (some (I64 0),1,8):=by kernel_rfl
abbrev gP:=@Tryz.info3
def Tryz.info2:(prog.info? 2).map (fun i=>(i.zero,i.size,i.bytes))=some (some (I64 0),1,8):=by kernel_rfl
abbrev iA:=@Tryz.info2
def Tryz.info268:(prog.info? 268).map (fun i=>(i.zero,i.size,i.bytes))=some (some (.agg #[.slice none 0 0]),1,24):=by kernel_rfl
abbrev jG:=@Tryz.info268
def Tryz.info251:(prog.info? 251).map (fun i=>(i.zero,i.size,i.bytes))=some (some (.agg #[.slice none 0 0,I64 0,I64 0]),3,40):=by kernel_rfl
abbrev gQ:=@Tryz.info251
def lsV (ty:TypeId)(x:SlV Int):HP:=lsH I64 ty x.a x.c x.l
def cqs (x:SlV Int):List Value:= [.slice x.a x.l.length x.c]
structure ChC where
 q:SlV Int
 room:Int
 sent:Int
def chs (x:ChC):List Value:= [.slice x.q.a x.q.l.length x.q.c,I64 x.room,I64 x.sent]
structure SyC where
 ao:Option Addr
 co:Nat
 owners:List Int
 ac:Option Addr
 cc:Nat
 conds:List (SlV Int)
 ah:Option Addr
 ch:Nat
 chans:List ChC
variable {σ σ2:SyC}
def syL (p:Nat)(s:SyC):List HP:= [pC p [.bool true,.slice s.ao s.owners.length s.co,.slice s.ac s.conds.length s.cc,.slice s.ah s.chans.length s.ch] 247,
 lsH I64 3 s.ao s.co s.owners,rsH cqs 1 268 s.ac s.cc s.conds,stars (s.conds.map (lsV 3)),rsH chs 3 251 s.ah s.ch s.chans,stars (s.chans.map fun x=>lsV 2 x.q)]
def Ch.row (c:Ch):List Int×Int×Int:=(c.items,c.room,c.all.length)
def ChC.row (x:ChC):List Int×Int×Int:=(x.q.l,x.room,x.sent)
structure Real (σ:SyC) (s:Sy):Prop where
 o:σ.owners=s.owners
 c:σ.conds.map (·.l)=s.conds
 h:σ.chans.map ChC.row=s.chans.map Ch.row
def Real.lc (r:Real σ s):σ.conds.length=s.conds.length:=by rw [<-r.c];simp
def Real.lh (r:Real σ s):σ.chans.length=s.chans.length:=by have:=aQ List.length r.h;simpa using this
def Real.cl (r:Real σ s)(h:i<σ.conds.length):s.conds.getD i []=σ.conds[i].l:=by
 have a:i<s.conds.length:=by rw [<-r.lc];exact h
 have:=aQ (·[i]?) r.c;simp only [bZ,aB h,aB a,jU] at this;rw [List.getD,aB a];exact (dR this).symm
def Real.hl (r:Real σ s)(h:i<σ.chans.length):(s.chans.getD i ch0).row=σ.chans[i].row:=by
 have a:i<s.chans.length:=by rw [<-r.lh];exact h
 have:=aQ (·[i]?) r.h;simp only [bZ,aB h,aB a,jU] at this;rw [List.getD,aB a];exact (dR this).symm
def Eo {α β:Type}(f:α->β)(l:List α)(i:Nat)(x:α):(l.set i x).map f=(l.map f).set i (f x):=by simp
section
variable {l:List Int}
def Ha {l}(hs:Sees q a (l.map I64))(hL:l.length<=1000000000):CF G 94 [.slice a l.length c] (q) (Ret fun v q'=> ∃ a' c',v= .slice a' l.length c'/\q'=lsH I64 3 a' c' l::q):=by
 refine aE ntmps94 fun F k=> ?_;rcases cQ l.length with b|b
 . obtain rfl:=aW b;refine Wg ?_ ?_<;>intro j
   . refine Zg ?_;exact ⟨_,⟨_,rfl,none,0,rfl,rfl⟩,((leA).trans (Yy _ _ _))⟩
   refine Zz ?_;apply bU (Dd I64 underlying23 gP);rintro _ _ ⟨g,rfl,rfl⟩;refine Zz ?_;apply bU (Wu (f:=I64) (l:= []) (m:= []) underlying23 gP rfl rfl rfl Zj (hs.le leA) (fun _=>rfl) Qw Qw);rintro _ _ ⟨e,d,rfl,rfl⟩;refine Zg ?_;exact ⟨_,⟨_,rfl,e,d,Zf,rfl⟩,leA⟩
 refine Yq hs Zi fun n i h=> ?_;subst h;refine Zz ?_;apply bU (Dd I64 underlying23 gP);rintro _ _ ⟨g,rfl,rfl⟩;refine Zz ?_;apply bU (Wu (f:=I64) (l:= []) (m:=l) underlying23 gP rfl rfl rfl Zj (hs.le leA) (fun _=>rfl) Qw Qw);rintro _ _ ⟨e,d,rfl,rfl⟩;refine Zg ?_;exact ⟨_,⟨_,rfl,e,d,Zf,rfl⟩,leA⟩
def Jh {l}(hs:Sees q a (l.map I64))(hL:l.length<=1000000000):CF G 93 [.slice a l.length c] (q) (Ret fun v q'=> ∃ a' c',v= .slice a' l.length c'/\q'=lsH I64 2 a' c' l::q):=by
 refine aE ntmps93 fun F k=> ?_;rcases cQ l.length with b|b
 . obtain rfl:=aW b;refine Wg ?_ ?_<;>intro j
   . refine Zg ?_;exact ⟨_,⟨_,rfl,none,0,rfl,rfl⟩,((leA).trans (Yy _ _ _))⟩
   refine Zz ?_;apply bU (Dd I64 underlying22 iA);rintro _ _ ⟨g,rfl,rfl⟩;refine Zz ?_;apply bU (Wu (f:=I64) (l:= []) (m:= []) underlying22 iA rfl rfl rfl Zj (hs.le leA) (fun _=>rfl) Qw Qw);rintro _ _ ⟨e,d,rfl,rfl⟩;refine Zg ?_;exact ⟨_,⟨_,rfl,e,d,Zf,rfl⟩,leA⟩
 refine Yq hs Zi fun n i h=> ?_;subst h;refine Zz ?_;apply bU (Dd I64 underlying22 iA);rintro _ _ ⟨g,rfl,rfl⟩;refine Zz ?_;apply bU (Wu (f:=I64) (l:= []) (m:=l) underlying22 iA rfl rfl rfl Zj (hs.le leA) (fun _=>rfl) Qw Qw);rintro _ _ ⟨e,d,rfl,rfl⟩;refine Zg ?_;exact ⟨_,⟨_,rfl,e,d,Zf,rfl⟩,leA⟩
def Zh2 {l}(hs:Sees q a (l.flatMap cqs))(hL:l.length<=1000000000):CF G 192 [.slice a l.length c] (q) (Ret fun v q'=> ∃ a' c',v= .slice a' l.length c'/\q'=rsH cqs 1 268 a' c' l::q):=by
 refine aE ntmps192 fun F n=> ?_;rcases cQ l.length with d|d
 . obtain rfl:=aW d;refine Wg ?_ ?_<;>intro k
   . refine Zg ?_;exact ⟨_,⟨_,rfl,none,0,rfl,rfl⟩,((leA).trans (Zc _ _ _ _))⟩
   refine Zz ?_;apply bU (Q7 cqs underlying244 jG);rintro _ _ ⟨g,rfl,rfl⟩;refine Zz ?_;apply bU (Z9 (l:= []) (m:= []) underlying244 jG rfl rfl (fun _=>rfl) rfl rfl Zj (hs.le leA) (fun _=>rfl) Qw Qw);rintro _ _ ⟨h,e,rfl,rfl⟩;refine Zg ?_;exact ⟨_,⟨_,rfl,h,e,Zf,rfl⟩,leA⟩
 refine Yq hs (by rw [Zx (f:=cqs) (sz:=1) (fun _=>rfl) l];omega) fun o j i=> ?_;subst i;refine Zz ?_;apply bU (Q7 cqs underlying244 jG);rintro _ _ ⟨g,rfl,rfl⟩;refine Zz ?_;apply bU (Z9 (l:= []) (m:=l) underlying244 jG rfl rfl (fun _=>rfl) rfl rfl Zj (hs.le leA) (fun _=>rfl) Qw Qw);rintro _ _ ⟨h,e,rfl,rfl⟩;refine Zg ?_;exact ⟨_,⟨_,rfl,h,e,Zf,rfl⟩,leA⟩
def Zh1 {l}(hs:Sees q a (l.flatMap chs))(hL:l.length<=1000000000):CF G 193 [.slice a l.length c] (q) (Ret fun v q'=> ∃ a' c',v= .slice a' l.length c'/\q'=rsH chs 3 251 a' c' l::q):=by
 refine aE ntmps193 fun F n=> ?_;rcases cQ l.length with d|d
 . obtain rfl:=aW d;refine Wg ?_ ?_<;>intro k
   . refine Zg ?_;exact ⟨_,⟨_,rfl,none,0,rfl,rfl⟩,((leA).trans (Zc _ _ _ _))⟩
   refine Zz ?_;apply bU (Q7 chs underlying245 gQ);rintro _ _ ⟨g,rfl,rfl⟩;refine Zz ?_;apply bU (Z9 (l:= []) (m:= []) underlying245 gQ rfl rfl (fun _=>rfl) rfl rfl Zj (hs.le leA) (fun _=>rfl) Qw Qw);rintro _ _ ⟨h,e,rfl,rfl⟩;refine Zg ?_;exact ⟨_,⟨_,rfl,h,e,Zf,rfl⟩,leA⟩
 refine Yq hs (by rw [Zx (f:=chs) (sz:=3) (fun _=>rfl) l];omega) fun o j i=> ?_;subst i;refine Zz ?_;apply bU (Q7 chs underlying245 gQ);rintro _ _ ⟨g,rfl,rfl⟩;refine Zz ?_;apply bU (Z9 (l:= []) (m:=l) underlying245 gQ rfl rfl (fun _=>rfl) rfl rfl Zj (hs.le leA) (fun _=>rfl) Qw Qw);rintro _ _ ⟨h,e,rfl,rfl⟩;refine Zg ?_;exact ⟨_,⟨_,rfl,h,e,Zf,rfl⟩,leA⟩
end
section
variable {α:Type}{f:α->List Value}{sz ty:Nat}{c0:Nat}{l:List α}{u:Option Addr->Nat->α}
def Zyv (hs:Sees q (some ⟨g,0,none⟩) (m.map I64))(hi:i<m.length):Cl q ⟨g,i*1,none⟩ (I64 m[i]):=by
 have:=hs.cl (i:=i) (u:=I64 m[i]) (by simp [hi]);simpa using this
def Cl.at {o}{y}{k}(hs:Sees q (some ⟨g,0,none⟩) (l.flatMap f))(hf: ∀ x,(f x).length=sz)(hi:l[i]? =some y)(hk:k<sz)(hv:(f y)[k]? =some v)(ho:o=i*sz+k):Cl q ⟨g,o,none⟩ v:=by
 subst ho;have:=hs.cl (i:=i*sz+k) (u:=v) (by rw [Bm hf l i k y hk hi];exact hv);simpa using this
abbrev iB:=@Cl.at
abbrev Aj {β:Type}(v0:Option Addr)(v1:List β)(v2:Nat):=((.slice v0 v1.length v2):Value)
def put_ok (hi:i<l.length)(hf: ∀ x,(f x).length=sz)(hk:(f l[i])[0]? =some (Aj a m c))(hz:Nat.blt 0 sz=true)(hm:m.length<=1000000000)(hu: ∀ a' c',(f l[i]).set 0 (.slice a' (m++ [t]).length c')=f (u a' c')):CF G 324 [.pointer (some ⟨g,i*sz,none⟩),I64 t] ([rsH f sz ty (some ⟨g,0,none⟩) c0 l,lsH I64 3 a c m]) (Ret fun v q'=> ∃ a' c',q'= [rsH f sz ty (some ⟨g,0,none⟩) c0 (l.set i (u a' c')),lsH I64 3 a' c' (m++ [t])]):=by
 refine aE ntmps324 fun F p=> ?_
 have hc:Cl (rsH f sz ty (some ⟨g,0,none⟩) c0 l::lsH I64 3 a c m::F) ⟨g,i*sz,none⟩ (Aj a m c):=iB (bJ _) hf (aB hi) (by simpa [gX] using hz) hk Zq;change X _ _ _ _ _ _ _ _ (rsH f sz ty (some ⟨g,0,none⟩) c0 l::lsH I64 3 a c m::F);apply xo 5;refine ld ?_ (hc:=hc);refine Zz ?_;apply bU (Qd (u:=t) I64 underlying23 gP rfl rfl);rintro _ _ ⟨o,rfl,rfl⟩;apply bU (Wu (f:=I64) (l:=m) (m:= [t]) underlying23 gP rfl rfl rfl Zj ((bV _).le leA) (fun _=>rfl) Zi Zi);rintro _ _ ⟨e,d,rfl,rfl⟩;refine Zz ?_;apply cU (Wq (g:=g) (f:=f) (l:=l) (u:=(u e d)) (n:=i) (k:=0) (j:=(i:Int)) (by simp [evp,lkp]) rfl sizeOf23 hf rfl hi hz (hu _ _) rfl rfl Zj);rintro _ _ ⟨rfl,rfl⟩;refine Zg ?_;exact ⟨_,⟨_,rfl,e,d,rfl⟩,leA⟩
abbrev AI (v0:Nat)(v1:Nat)(v2:Nat):=([.pointer (some ⟨v0,v1*v2,none⟩)]:List Value)
def all_ok (hi:i<l.length)(hf: ∀ x,(f x).length=sz)(hk:(f l[i])[0]? =some (Aj a m c))(hz:Nat.blt 0 sz=true)(hm:m.length<=1000000000):CF G 194 (AI g i sz) ([rsH f sz ty (some ⟨g,0,none⟩) c0 l,lsH I64 3 a c m]) (Ret fun v q'=> ∃ a' c',v= .slice a' m.length c'/\q'= [lsH I64 3 a' c' m,rsH f sz ty (some ⟨g,0,none⟩) c0 l,lsH I64 3 a c m]):=by
 refine aE ntmps194 fun F j=> ?_
 have hc:Cl (rsH f sz ty (some ⟨g,0,none⟩) c0 l::lsH I64 3 a c m::F) ⟨g,i*sz,none⟩ (Aj a m c):=iB (bJ _) hf (aB hi) (by simpa [gX] using hz) hk Zq;change X _ _ _ _ _ _ _ _ (rsH f sz ty (some ⟨g,0,none⟩) c0 l::lsH I64 3 a c m::F);apply xo 9;refine ld ?_ (hc:=hc);apply Zv (aG _) (Ha (a:=a) (c:=c) (l:=m) ((bV _).le leA) Zq);rintro _ _ ⟨h,e,rfl,rfl⟩;refine Zg ?_;exact ⟨_,⟨_,rfl,h,e,rfl,rfl⟩,leA⟩
def take_no (hi:i<l.length)(hf: ∀ x,(f x).length=sz)(hk:(f l[i])[0]? =some (Aj a m c))(hz:Nat.blt 0 sz=true)(hm:m.length<=1000000000)(he:m= []):CR G 300 (AI g i sz) ([rsH f sz ty (some ⟨g,0,none⟩) c0 l,lsH I64 3 a c m]) (.tuple [I64 0,.bool false].toArray):=by
 refine aE ntmps300 fun F h=> ?_
 have hc:Cl (rsH f sz ty (some ⟨g,0,none⟩) c0 l::lsH I64 3 a c m::F) ⟨g,i*sz,none⟩ (Aj a m c):=iB (bJ _) hf (aB hi) (by simpa [gX] using hz) hk Zq;change X _ _ _ _ _ _ _ _ (rsH f sz ty (some ⟨g,0,none⟩) c0 l::lsH I64 3 a c m::F);have e:m.length=0:=by rw [he];rfl
 apply xo 15;refine ld ?_ (hc:=hc);refine Zz ?_;refine iJ 11 ?_ rfl (by simp [e]);refine Zg ?_;exact ⟨_,⟨_,rfl,rfl,rfl⟩,leA⟩
def take_ok (hi:i<l.length)(hf: ∀ x,(f x).length=sz)(hk:(f l[i])[0]? =some (Aj a m c))(hz:Nat.blt 0 sz=true)(hm:m.length<=1000000000)(he:m≠ [])(hu: ∀ a' c',(f l[i]).set 0 (.slice a' (m.drop 1).length c')=f (u a' c')):CF G 300 (AI g i sz) ([rsH f sz ty (some ⟨g,0,none⟩) c0 l,lsH I64 3 a c m]) (Ret fun v q'=> ∃ a' c',v= .tuple [I64 (m.headD 0),.bool true].toArray/\q'= [rsH f sz ty (some ⟨g,0,none⟩) c0 (l.set i (u a' c')),lsH I64 3 a' c' (m.drop 1)]):=by
 refine aE ntmps300 fun F cs=> ?_
 have hc:Cl (rsH f sz ty (some ⟨g,0,none⟩) c0 l::lsH I64 3 a c m::F) ⟨g,i*sz,none⟩ (Aj a m c):=iB (bJ _) hf (aB hi) (by simpa [gX] using hz) hk Zq;change X _ _ _ _ _ _ _ _ (rsH f sz ty (some ⟨g,0,none⟩) c0 l::lsH I64 3 a c m::F);obtain ⟨e,d,rfl⟩: ∃ x r,m=x::r:=by cases m with|nil=>exact aV rfl he|cons x r=>exact ⟨x,r,rfl⟩
 have z:(e::d).length=d.length+1:=rfl;apply xo 15;refine ld ?_ (hc:=hc);refine rn [3,1011] ?_;refine Uz (l:=e::d) Zf fun o e_=> ?_;subst e_;refine gW (fun w s=>(s.le (show Le _ (lsH I64 3 (some ⟨o,0,none⟩) c (e::d)::_) from Zj)).lsLen) fun h=> ?_;have b:Sees (rsH f sz ty (some ⟨g,0,none⟩) c0 l::lsH I64 3 (some ⟨o,0,none⟩) c (e::d)::F) (some ⟨o,0,none⟩) ((e::d).map I64):=(bV _).le leA;apply xo 7;refine ld ?_ (hc:=(by first|exact hc|exact (Sees.at (j:=0) (n:=0) b rfl Zf)));apply oo 1;refine ld ?_ (hc:=(by first|exact hc|exact (Sees.at (j:=0) (n:=0) b rfl Zf)));apply oo 8;refine ld ?_ (hc:=(by first|exact hc|exact (Sees.at (j:=0) (n:=0) b rfl Zf)));refine Zz ?_;apply aX 24 (.slice (I7 (some ⟨o,0,none⟩) c 1 1) d.length (c - 1)) rfl Zf;refine Zv (aG _) (Ha (l:=d) (a:=I7 (some ⟨o,0,none⟩) c 1 1) (c:=c - 1) (by have:=b.suf (l:=1) (c:=c) (sz:=1) (by simp at h|-;omega);simpa using this) (by simp at hm;omega)) ?_;rintro _ _ ⟨t,q,rfl,rfl⟩;refine Zz ?_;apply cU (Wq (g:=g) (f:=f) (l:=l) (u:=(u t q)) (n:=i) (k:=0) (j:=(i:Int)) (by simp [evp,lkp]) rfl sizeOf23 hf rfl hi hz (hu _ _) rfl rfl Zj);rintro _ _ ⟨rfl,rfl⟩;refine Zg ?_;exact ⟨_,⟨_,rfl,t,q,rfl,rfl⟩,leA⟩
def put64_ok (hi:i<l.length)(hf: ∀ x,(f x).length=sz)(hk:(f l[i])[0]? =some (Aj a m c))(hz:Nat.blt 0 sz=true)(hm:m.length<=1000000000)(hu: ∀ a' c',(f l[i]).set 0 (.slice a' (m++ [t]).length c')=f (u a' c')):CF G 301 [.pointer (some ⟨g,i*sz,none⟩),I64 t] ([rsH f sz ty (some ⟨g,0,none⟩) c0 l,lsH I64 2 a c m]) (Ret fun v q'=> ∃ a' c',q'= [rsH f sz ty (some ⟨g,0,none⟩) c0 (l.set i (u a' c')),lsH I64 2 a' c' (m++ [t])]):=by
 refine aE ntmps301 fun F p=> ?_
 have hc:Cl (rsH f sz ty (some ⟨g,0,none⟩) c0 l::lsH I64 2 a c m::F) ⟨g,i*sz,none⟩ (Aj a m c):=iB (bJ _) hf (aB hi) (by simpa [gX] using hz) hk Zq;change X _ _ _ _ _ _ _ _ (rsH f sz ty (some ⟨g,0,none⟩) c0 l::lsH I64 2 a c m::F);apply xo 5;refine ld ?_ (hc:=hc);refine Zz ?_;apply bU (Qd (u:=t) I64 underlying22 iA rfl rfl);rintro _ _ ⟨o,rfl,rfl⟩;apply bU (Wu (f:=I64) (l:=m) (m:= [t]) underlying22 iA rfl rfl rfl Zj ((bV _).le leA) (fun _=>rfl) Zi Zi);rintro _ _ ⟨e,d,rfl,rfl⟩;refine Zz ?_;apply cU (Wq (g:=g) (f:=f) (l:=l) (u:=(u e d)) (n:=i) (k:=0) (j:=(i:Int)) (by simp [evp,lkp]) rfl sizeOf22 hf rfl hi hz (hu _ _) rfl rfl Zj);rintro _ _ ⟨rfl,rfl⟩;refine Zg ?_;exact ⟨_,⟨_,rfl,e,d,rfl⟩,leA⟩
def Zkn (hi:i<l.length)(hf: ∀ x,(f x).length=sz)(hk:(f l[i])[0]? =some (Aj a m c))(hz:Nat.blt 0 sz=true)(hm:m.length<=1000000000):CF G 195 (AI g i sz) ([rsH f sz ty (some ⟨g,0,none⟩) c0 l,lsH I64 2 a c m]) (Ret fun v q'=> ∃ a' c',v= .slice a' m.length c'/\q'= [lsH I64 2 a' c' m,rsH f sz ty (some ⟨g,0,none⟩) c0 l,lsH I64 2 a c m]):=by
 refine aE ntmps195 fun F j=> ?_
 have hc:Cl (rsH f sz ty (some ⟨g,0,none⟩) c0 l::lsH I64 2 a c m::F) ⟨g,i*sz,none⟩ (Aj a m c):=iB (bJ _) hf (aB hi) (by simpa [gX] using hz) hk Zq;change X _ _ _ _ _ _ _ _ (rsH f sz ty (some ⟨g,0,none⟩) c0 l::lsH I64 2 a c m::F);apply xo 9;refine ld ?_ (hc:=hc);apply Zv (aG _) (Jh (a:=a) (c:=c) (l:=m) ((bV _).le leA) Zq);rintro _ _ ⟨h,e,rfl,rfl⟩;refine Zg ?_;exact ⟨_,⟨_,rfl,h,e,rfl,rfl⟩,leA⟩
def Zfr (hi:i<l.length)(hf: ∀ x,(f x).length=sz)(hk:(f l[i])[0]? =some (Aj a m c))(hz:Nat.blt 0 sz=true)(hm:m.length<=1000000000)(he:m= []):CR G 302 (AI g i sz) ([rsH f sz ty (some ⟨g,0,none⟩) c0 l,lsH I64 2 a c m]) (.tuple [I64 0,.bool false].toArray):=by
 refine aE ntmps302 fun F h=> ?_
 have hc:Cl (rsH f sz ty (some ⟨g,0,none⟩) c0 l::lsH I64 2 a c m::F) ⟨g,i*sz,none⟩ (Aj a m c):=iB (bJ _) hf (aB hi) (by simpa [gX] using hz) hk Zq;change X _ _ _ _ _ _ _ _ (rsH f sz ty (some ⟨g,0,none⟩) c0 l::lsH I64 2 a c m::F);have e:m.length=0:=by rw [he];rfl
 apply xo 15;refine ld ?_ (hc:=hc);refine Zz ?_;refine iJ 11 ?_ rfl (by simp [e]);refine Zg ?_;exact ⟨_,⟨_,rfl,rfl,rfl⟩,leA⟩
def Zft (hi:i<l.length)(hf: ∀ x,(f x).length=sz)(hk:(f l[i])[0]? =some (Aj a m c))(hz:Nat.blt 0 sz=true)(hm:m.length<=1000000000)(he:m≠ [])(hu: ∀ a' c',(f l[i]).set 0 (.slice a' (m.drop 1).length c')=f (u a' c')):CF G 302 (AI g i sz) ([rsH f sz ty (some ⟨g,0,none⟩) c0 l,lsH I64 2 a c m]) (Ret fun v q'=> ∃ a' c',v= .tuple [I64 (m.headD 0),.bool true].toArray/\q'= [rsH f sz ty (some ⟨g,0,none⟩) c0 (l.set i (u a' c')),lsH I64 2 a' c' (m.drop 1)]):=by
 refine aE ntmps302 fun F cs=> ?_
 have hc:Cl (rsH f sz ty (some ⟨g,0,none⟩) c0 l::lsH I64 2 a c m::F) ⟨g,i*sz,none⟩ (Aj a m c):=iB (bJ _) hf (aB hi) (by simpa [gX] using hz) hk Zq;change X _ _ _ _ _ _ _ _ (rsH f sz ty (some ⟨g,0,none⟩) c0 l::lsH I64 2 a c m::F);obtain ⟨e,d,rfl⟩: ∃ x r,m=x::r:=by cases m with|nil=>exact aV rfl he|cons x r=>exact ⟨x,r,rfl⟩
 have z:(e::d).length=d.length+1:=rfl;apply xo 15;refine ld ?_ (hc:=hc);refine rn [3,1011] ?_;refine Uz (l:=e::d) Zf fun o e_=> ?_;subst e_;refine gW (fun w s=>(s.le (show Le _ (lsH I64 2 (some ⟨o,0,none⟩) c (e::d)::_) from Zj)).lsLen) fun h=> ?_;have b:Sees (rsH f sz ty (some ⟨g,0,none⟩) c0 l::lsH I64 2 (some ⟨o,0,none⟩) c (e::d)::F) (some ⟨o,0,none⟩) ((e::d).map I64):=(bV _).le leA;apply xo 7;refine ld ?_ (hc:=(by first|exact hc|exact (Sees.at (j:=0) (n:=0) b rfl Zf)));apply oo 1;refine ld ?_ (hc:=(by first|exact hc|exact (Sees.at (j:=0) (n:=0) b rfl Zf)));apply oo 8;refine ld ?_ (hc:=(by first|exact hc|exact (Sees.at (j:=0) (n:=0) b rfl Zf)));refine Zz ?_;apply aX 24 (.slice (I7 (some ⟨o,0,none⟩) c 1 1) d.length (c - 1)) rfl Zf;refine Zv (aG _) (Jh (l:=d) (a:=I7 (some ⟨o,0,none⟩) c 1 1) (c:=c - 1) (by have:=b.suf (l:=1) (c:=c) (sz:=1) (by simp at h|-;omega);simpa using this) (by simp at hm;omega)) ?_;rintro _ _ ⟨t,q,rfl,rfl⟩;refine Zz ?_;apply cU (Wq (g:=g) (f:=f) (l:=l) (u:=(u t q)) (n:=i) (k:=0) (j:=(i:Int)) (by simp [evp,lkp]) rfl sizeOf22 hf rfl hi hz (hu _ _) rfl rfl Zj);rintro _ _ ⟨rfl,rfl⟩;refine Zg ?_;exact ⟨_,⟨_,rfl,t,q,rfl,rfl⟩,leA⟩
end
def N9 (s:Sy)(m:Int):Int×Int:=if inR m s.owners.length then (s.owners.getD m.toNat 0,0) else (0,4)
def K8 (s:Sy)(k:Int):List Int×Int:=if inR k s.chans.length then ((s.chans.getD k.toNat ch0).items,0) else ([],4)
def Lw (s:Sy)(k:Int):Int×Int:=if inR k s.chans.length then ((s.chans.getD k.toNat ch0).room,0) else (0,4)
def Real.ol (r:Real σ s)(h:i<σ.owners.length):s.owners.getD i 0=σ.owners[i]:=by rw [<-r.o];simp [List.getD,h]
def Real.lo (r:Real σ s):σ.owners.length=s.owners.length:=by rw [r.o]
def Gt {ty}(hi:i<l.length)(hq:Le q (stars (l.map (lsV ty))::r):=by exact Zj):Le q (lsH I64 ty l[i].a l[i].c l[i].l::stars ((l.eraseIdx i).map (lsV ty))::r):=hq.trans (kG (lsV ty) hi r)
def Gd {ty}(hi:i<l.length)(hq:Le q (lsH I64 ty a c m::stars ((l.eraseIdx i).map (lsV ty))::r):=by exact bC Zj Zj):Le q (stars ((l.set i ⟨a,c,m⟩).map (lsV ty))::r):=hq.trans (Fv (lsV ty) hi ⟨a,c,m⟩ r)
def U5 {q'}{A}(h:Cl q' A v)(l:Le q q'):Cl q A v:=fun G w s=>h G w (s.le l)
def Po {ty}{l:List ChC}(hi:i<l.length)(hq:Le q (stars (l.map fun x=>lsV ty x.q)::r):=by exact Zj):Le q (lsH I64 ty l[i].q.a l[i].q.c l[i].q.l::stars ((l.eraseIdx i).map fun x=>lsV ty x.q)::r):=hq.trans (kG (fun (x:ChC)=>lsV ty x.q) hi r)
def Gc {ty}{l:List ChC}(hi:i<l.length)(x:ChC)(hq:Le q (lsH I64 ty x.q.a x.q.c x.q.l::stars ((l.eraseIdx i).map fun x=>lsV ty x.q)::r):=by exact bC Zj Zj):Le q (stars ((l.set i x).map fun x=>lsV ty x.q)::r):=hq.trans (Fv (fun (x:ChC)=>lsV ty x.q) hi x r)
section
variable {v:Int}
def Z6 (h:Cl q ⟨p,0,none⟩ bT):CR G 126 [pt p] (q) bT:=by
 refine We ntmps126 fun F a=> ?_;refine ld ?_ (hc:=(U5 h leA));exact Vz q
def V8 (h:Cl q ⟨p,0,none⟩ bT)(h1:Cl q ⟨p,1,none⟩ (.slice a n c)):CR G 201 [pt p] (q) (.slice a n c):=by
 refine We ntmps201 fun F b=> ?_;refine Wb (Z6 (U5 h leA)) ?_;refine ld ?_ (hc:=(U5 h1 leA));exact Vz q
def Qj (h:Cl q ⟨p,0,none⟩ bT)(h1:Cl q ⟨p,2,none⟩ (.slice a n c)):CR G 299 [pt p] (q) (.slice a n c):=by
 refine We ntmps299 fun F b=> ?_;refine Wb (Z6 (U5 h leA)) ?_;refine ld ?_ (hc:=(U5 h1 leA));exact Vz q
def Wm (h:Cl q ⟨p,0,none⟩ bT)(h1:Cl q ⟨p,3,none⟩ (.slice a n c)):CR G 203 [pt p] (q) (.slice a n c):=by
 refine We ntmps203 fun F b=> ?_;refine Wb (Z6 (U5 h leA)) ?_;refine ld ?_ (hc:=(U5 h1 leA));exact Vz q
abbrev Ah :=((.tuple [.pointer none,I64 4].toArray):Value)
def Zws (h:Cl q ⟨p,0,none⟩ bT)(hn:n<=1000000)(hr: ¬inR at_ n):CR G 200 [pt p,.slice a n c,I64 at_,I64 0,I64 0] (q) Ah:=by
 refine aE ntmps200 fun F b=> ?_;try unfold inR at hr
 try unfold thr at hb
 try unfold val at hb
 refine Zz ?_;rcases bK (at_<0) with k1|k1
 . refine Zz ?_;apply bD (Z6 (U5 h leA));exact Vz q
 refine Zz ?_;apply bD (Z6 (U5 h leA));exact Vz q
abbrev AF (v0:Nat)(v1:Nat)(v2:Nat)(v3:Nat)(v4:Int):=[pt v0,.slice (some ⟨v1,0,none⟩) v2 v3,I64 v4,I64 0,I64 0]
abbrev Aq (v0)(v1):=((.tuple [.pointer (some ⟨v0,v1*1,none⟩),I64 0].toArray):Value)
def Zg1 (h:Cl q ⟨p,0,none⟩ bT)(hn:n<=1000000)(hr:i<n)(hb:True):CR G 200 (AF p g n c i) (q) (Aq g i):=by
 refine aE ntmps200 fun F a=> ?_;try unfold inR at hr
 try unfold thr at hb
 try unfold val at hb
 refine Zz ?_;apply bD (Z6 (U5 h leA));refine Zm (q) ?_;exact ⟨_,rfl,Zf,rfl⟩
def Ss (h:Cl q ⟨p,0,none⟩ bT)(hn:n<=1000000)(hr: ¬inR at_ n):CR G 200 [pt p,.slice a n c,I64 at_,I64 1,I64 number] (q) Ah:=by
 refine aE ntmps200 fun F e=> ?_;try unfold inR at hr
 try unfold thr at hb
 try unfold val at hb
 refine Zz ?_;rcases bK (number<0) with d|d
 . refine Zz ?_;rcases bK (at_<0) with k1|k1
   . refine Zz ?_;apply bD (Z6 (U5 h leA));exact Vz q
   refine Zz ?_;apply bD (Z6 (U5 h leA));exact Vz q
 rcases bK (number>7) with b|b
 iterate 2
  focus
   refine Zz ?_;rcases bK (at_<0) with k1|k1
   . refine Zz ?_;apply bD (Z6 (U5 h leA));exact Vz q
   refine Zz ?_;apply bD (Z6 (U5 h leA));refine Zm (q) ?_
  rotate_left
 . exact ⟨_,rfl,rfl,rfl⟩
 exact ⟨_,rfl,rfl,rfl⟩
abbrev AJ :=((.tuple [.pointer none,I64 2].toArray):Value)
def So (h:Cl q ⟨p,0,none⟩ bT)(hn:n<=1000000)(hr:i<n)(hb: ¬ (thr number)):CR G 200 [pt p,.slice a n c,I64 i,I64 1,I64 number] (q) AJ:=by
 refine aE ntmps200 fun F d=> ?_;try unfold inR at hr
 try unfold thr at hb
 try unfold val at hb
 refine Zz ?_;rcases bK (number<0) with b|b
 . refine Zz ?_;apply bD (Z6 (U5 h leA));exact Vz q
 refine Zz ?_;apply bD (Z6 (U5 h leA));exact Vz q
def Xx (h:Cl q ⟨p,0,none⟩ bT)(hn:n<=1000000)(hr:i<n)(hb:thr number):CR G 200 [pt p,.slice (some ⟨g,0,none⟩) n c,I64 i,I64 1,I64 number] (q) (Aq g i):=by
 refine aE ntmps200 fun F a=> ?_;try unfold inR at hr
 try unfold thr at hb
 try unfold val at hb
 refine Zz ?_;apply bD (Z6 (U5 h leA));refine Zm (q) ?_;exact ⟨_,rfl,Zf,rfl⟩
def Se (h:Cl q ⟨p,0,none⟩ bT)(hn:n<=1000000)(hr: ¬inR at_ n):CR G 298 [pt p,.slice a n c,I64 at_,I64 0,I64 0] (q) Ah:=by
 refine aE ntmps298 fun F b=> ?_;try unfold inR at hr
 try unfold thr at hb
 try unfold val at hb
 refine Zz ?_;rcases bK (at_<0) with k1|k1
 . refine Zz ?_;apply bD (Z6 (U5 h leA));exact Vz q
 refine Zz ?_;apply bD (Z6 (U5 h leA));exact Vz q
def Xy (h:Cl q ⟨p,0,none⟩ bT)(hn:n<=1000000)(hr:i<n)(hb:True):CR G 298 (AF p g n c i) (q) (Aq g i):=by
 refine aE ntmps298 fun F a=> ?_;try unfold inR at hr
 try unfold thr at hb
 try unfold val at hb
 refine Zz ?_;apply bD (Z6 (U5 h leA));refine Zm (q) ?_;exact ⟨_,rfl,Zf,rfl⟩
def Zw0 (h:Cl q ⟨p,0,none⟩ bT)(hn:n<=1000000)(hr: ¬inR at_ n):CR G 298 [pt p,.slice a n c,I64 at_,I64 1,I64 number] (q) Ah:=by
 refine aE ntmps298 fun F e=> ?_;try unfold inR at hr
 try unfold thr at hb
 try unfold val at hb
 refine Zz ?_;rcases bK (number<0) with d|d
 . refine Zz ?_;rcases bK (at_<0) with k1|k1
   . refine Zz ?_;apply bD (Z6 (U5 h leA));exact Vz q
   refine Zz ?_;apply bD (Z6 (U5 h leA));exact Vz q
 rcases bK (number>7) with b|b
 iterate 2
  focus
   refine Zz ?_;rcases bK (at_<0) with k1|k1
   . refine Zz ?_;apply bD (Z6 (U5 h leA));exact Vz q
   refine Zz ?_;apply bD (Z6 (U5 h leA));refine Zm (q) ?_
  rotate_left
 . exact ⟨_,rfl,rfl,rfl⟩
 exact ⟨_,rfl,rfl,rfl⟩
def Zw1 (h:Cl q ⟨p,0,none⟩ bT)(hn:n<=1000000)(hr:i<n)(hb: ¬ (thr number)):CR G 298 [pt p,.slice a n c,I64 i,I64 1,I64 number] (q) AJ:=by
 refine aE ntmps298 fun F d=> ?_;try unfold inR at hr
 try unfold thr at hb
 try unfold val at hb
 refine Zz ?_;rcases bK (number<0) with b|b
 . refine Zz ?_;apply bD (Z6 (U5 h leA));exact Vz q
 refine Zz ?_;apply bD (Z6 (U5 h leA));exact Vz q
def Zg3 (h:Cl q ⟨p,0,none⟩ bT)(hn:n<=1000000)(hr:i<n)(hb:thr number):CR G 298 [pt p,.slice (some ⟨g,0,none⟩) n c,I64 i,I64 1,I64 number] (q) (Aq g i):=by
 refine aE ntmps298 fun F a=> ?_;try unfold inR at hr
 try unfold thr at hb
 try unfold val at hb
 refine Zz ?_;apply bD (Z6 (U5 h leA));refine Zm (q) ?_;exact ⟨_,rfl,Zf,rfl⟩
def E8 (h:Cl q ⟨p,0,none⟩ bT)(hn:n<=1000000)(hr: ¬inR at_ n):CR G 202 [pt p,.slice a n c,I64 at_,I64 0,I64 0] (q) Ah:=by
 refine aE ntmps202 fun F b=> ?_;try unfold inR at hr
 try unfold thr at hb
 try unfold val at hb
 refine Zz ?_;rcases bK (at_<0) with k1|k1
 . refine Zz ?_;apply bD (Z6 (U5 h leA));exact Vz q
 refine Zz ?_;apply bD (Z6 (U5 h leA));exact Vz q
def G7 (h:Cl q ⟨p,0,none⟩ bT)(hn:n<=1000000)(hr:i<n)(hb:True):CR G 202 (AF p g n c i) (q) (.tuple [.pointer (some ⟨g,i*3,none⟩),I64 0].toArray):=by
 refine aE ntmps202 fun F a=> ?_;try unfold inR at hr
 try unfold thr at hb
 try unfold val at hb
 refine Zz ?_;apply bD (Z6 (U5 h leA));refine Zm (q) ?_;exact ⟨_,rfl,Zf,rfl⟩
def Zwo (h:Cl q ⟨p,0,none⟩ bT)(hn:n<=1000000)(hr: ¬inR at_ n):CR G 202 [pt p,.slice a n c,I64 at_,I64 2,I64 number] (q) Ah:=by
 refine aE ntmps202 fun F e=> ?_;try unfold inR at hr
 try unfold thr at hb
 try unfold val at hb
 refine Zz ?_;rcases bK (number< -2147483648) with d|d
 . refine Zz ?_;rcases bK (at_<0) with k1|k1
   . refine Zz ?_;apply bD (Z6 (U5 h leA));exact Vz q
   refine Zz ?_;apply bD (Z6 (U5 h leA));exact Vz q
 rcases bK (number>2147483647) with b|b
 iterate 2
  focus
   refine Zz ?_;rcases bK (at_<0) with k1|k1
   . refine Zz ?_;apply bD (Z6 (U5 h leA));exact Vz q
   refine Zz ?_;apply bD (Z6 (U5 h leA));refine Zm (q) ?_
  rotate_left
 . exact ⟨_,rfl,rfl,rfl⟩
 exact ⟨_,rfl,rfl,rfl⟩
def Zwe (h:Cl q ⟨p,0,none⟩ bT)(hn:n<=1000000)(hr:i<n)(hb: ¬ (val number)):CR G 202 [pt p,.slice a n c,I64 i,I64 2,I64 number] (q) AJ:=by
 refine aE ntmps202 fun F d=> ?_;try unfold inR at hr
 try unfold thr at hb
 try unfold val at hb
 refine Zz ?_;rcases bK (number< -2147483648) with b|b
 . refine Zz ?_;apply bD (Z6 (U5 h leA));exact Vz q
 refine Zz ?_;apply bD (Z6 (U5 h leA));exact Vz q
def Zg2 (h:Cl q ⟨p,0,none⟩ bT)(hn:n<=1000000)(hr:i<n)(hb:val number):CR G 202 [pt p,.slice (some ⟨g,0,none⟩) n c,I64 i,I64 2,I64 number] (q) (.tuple [.pointer (some ⟨g,i*3,none⟩),I64 0].toArray):=by
 refine aE ntmps202 fun F a=> ?_;try unfold inR at hr
 try unfold thr at hb
 try unfold val at hb
 refine Zz ?_;apply bD (Z6 (U5 h leA));refine Zm (q) ?_;exact ⟨_,rfl,Zf,rfl⟩
end
section
variable {v m:Int}
abbrev A8 (v0)(v1:SyC)(v2)(v3):=([.bool true,.slice (some ⟨v0,0,none⟩) v1.owners.length v1.co,.slice v2 v1.conds.length v1.cc,.slice v3 v1.chans.length v1.ch]:List Value)
abbrev A7 (v0:SyC):=(v0.conds.map (lsV 3))
abbrev A5 (v0:SyC):=(v0.chans.map fun x=>lsV 2 x.q)
abbrev A2 (v0)(v1:SyC)(v2)(v3):=([.bool true,.slice v0 v1.owners.length v1.co,.slice v2 v1.conds.length v1.cc,.slice v3 v1.chans.length v1.ch]:List Value)
def Owner_ok (hR:Real σ s)(hs:s.ok N)(hN:N<=1000000000):CF G 133 [pt p,I64 m] ((syL p σ)) (Ret fun v q'=>v= .tuple [I64 (N9 s m).1,I64 (N9 s m).2].toArray/\q'=syL p σ):=by
 refine aE ntmps133 fun F o=> ?_;have e:=hR.lo;have hc:=hR.lc;have n:=hR.lh;have h:=hs.no;have k:=hs.nc;have j:=hs.nh;change X _ _ _ _ _ _ _ _ (pC p (A2 σ.ao σ σ.ac σ.ah) 247::lsH I64 3 σ.ao σ.co σ.owners::rsH cqs 1 268 σ.ac σ.cc σ.conds::stars (A7 σ)::rsH chs 3 251 σ.ah σ.ch σ.chans::stars (A5 σ)::F);rcases bK (inR m σ.owners.length) with b|b
 . have a:inR m s.owners.length:=by rw [<-e];exact b
   obtain ⟨i,rfl⟩:=aU b.1;have d:i<σ.owners.length:=(by have:=b.2;omega);refine Uz (l:=σ.owners) Zq fun g f=> ?_;rw [f];refine Zz ?_;refine Wb (V8 clA clA) ?_;apply bD (Zg1 (p:=p) clA Zq d trivial);refine Ye ?_;have c:Sees (pC p (A8 g σ σ.ac σ.ah) 247::lsH I64 3 (some ⟨g,0,none⟩) σ.co σ.owners::rsH cqs 1 268 σ.ac σ.cc σ.conds::stars (A7 σ)::rsH chs 3 251 σ.ah σ.ch σ.chans::stars (A5 σ)::F) (some ⟨g,0,none⟩) (σ.owners.map I64):=(bV _).le leA;refine Ye ?_;refine ld ?_ (hc:=(Zyv c d));refine Zz ?_;rw [show N9 s (i:Int)=(σ.owners[i],0) from (if_pos a).trans (by rw [<-hR.ol d];rfl)];refine Zg ?_;exact ⟨_,⟨_,rfl,rfl,by unfold syL;rw [f]⟩,leA⟩
 have a: ¬inR m s.owners.length:=by rw [<-e];exact b
 refine Zz ?_;refine Wb (V8 clA clA) ?_;refine Wb (Zws (p:=p) clA Zq b) ?_;rw [show N9 s m=(0,4) from if_neg a];refine Zg ?_;exact ⟨_,⟨_,rfl,rfl,rfl⟩,leA⟩
abbrev Am (v0:Nat)(v1:Int)(v2:Int):=[pt v0,I64 v1,I64 v2]
def Lock_ok (hR:Real σ s)(hs:s.ok N)(hN:N<=1000000000):CF G 295 (Am p m t) ((syL p σ)) (Ret fun v q'=> ∃ σ',Real σ' (Jp s m t).1/\v= .tuple [.bool (Jp s m t).2.1,I64 (Jp s m t).2.2].toArray/\q'=syL p σ'):=by
 refine aE ntmps295 fun F cs=> ?_;have y:=hR.lo;have hc:=hR.lc;have hh:=hR.lh;have a0:=hs.no;have c0:=hs.nc;have b0:=hs.nh;change X _ _ _ _ _ _ _ _ (pC p (A2 σ.ao σ σ.ac σ.ah) 247::lsH I64 3 σ.ao σ.co σ.owners::rsH cqs 1 268 σ.ac σ.cc σ.conds::stars (A7 σ)::rsH chs 3 251 σ.ah σ.ch σ.chans::stars (A5 σ)::F);rcases bK (inR m σ.owners.length) with b|b
 . have a:inR m s.owners.length:=by rw [<-y];exact b
   obtain ⟨i,rfl⟩:=aU b.1;have r:i<σ.owners.length:=(by have:=b.2;omega);rcases bK (thr t) with d|d
   . refine Uz (l:=σ.owners) Zq fun g z=> ?_;rw [z];refine Zz ?_;refine Wb (V8 clA clA) ?_;apply bD (Xx (p:=p) clA Zq r d);apply oo 12;have x:Sees (pC p (A8 g σ σ.ac σ.ah) 247::lsH I64 3 (some ⟨g,0,none⟩) σ.co σ.owners::rsH cqs 1 268 σ.ac σ.cc σ.conds::stars (A7 σ)::rsH chs 3 251 σ.ah σ.ch σ.chans::stars (A5 σ)::F) (some ⟨g,0,none⟩) (σ.owners.map I64):=(bV _).le leA;have w:=Zyv x r;have q:=hR.ol r;apply Ew 21;rcases bK (σ.owners[i]= -1) with k|k
     . apply oo 2;refine ld ?_ (hc:=w);apply ox 3;refine Wc 26 ?_ rfl (by simp [k]);refine Zz ?_;apply cU (Mh (f:=I64) (l:=σ.owners) (u:=t) (n:=i) (g:=g) (j:=(i:Int)) (by simp [evp,lkp]) rfl sizeOf3 rfl r rfl rfl Zj);rintro _ _ ⟨rfl,rfl⟩;refine Ye ?_;rw [show Jp s (i:Int) t=({ s with owners:=s.owners.set i t },true,0) from (if_pos a).trans ((if_pos d).trans (if_pos (q.trans k)))];refine Zl [pC p (A8 g σ σ.ac σ.ah) 247,lsH I64 3 (some ⟨g,0,none⟩) σ.co (σ.owners.set i t),rsH cqs 1 268 σ.ac σ.cc σ.conds,stars (A7 σ),rsH chs 3 251 σ.ah σ.ch σ.chans,stars (A5 σ)] func295 (res2 results295 rfl rfl) ⟨_,rfl, { σ with ao:=(some ⟨g,0,none⟩),owners:=σ.owners.set i (t) },⟨by show σ.owners.set i (t)=s.owners.set i (t);rw [hR.o],hR.c,hR.h⟩,rfl,by unfold syL;simp⟩
     apply oo 2;refine ld ?_ (hc:=w);refine Ye ?_;refine iJ 26 ?_ rfl (by simp [k]);refine Ye ?_;rw [show Jp s (i:Int) t=(s,false,0) from (if_pos a).trans ((if_pos d).trans (if_neg (fun e=>k (q.symm.trans e))))];refine Zg ?_;exact ⟨_,⟨_,rfl,σ,hR,rfl,by unfold syL;rw [z]⟩,leA⟩
   refine Zz ?_;refine Wb (V8 clA clA) ?_;refine Wb (So (p:=p) clA Zq r d) ?_;rw [show Jp s _ t=(s,false,2) from (if_pos a).trans (if_neg d)];refine Zg ?_;exact ⟨_,⟨_,rfl,σ,hR,rfl,rfl⟩,leA⟩
 have a: ¬inR m s.owners.length:=by rw [<-y];exact b
 refine Zz ?_;refine Wb (V8 clA clA) ?_;refine Wb (Ss (p:=p) clA Zq b) ?_;rw [show Jp s _ t=(s,false,4) from if_neg a];refine Zg ?_;exact ⟨_,⟨_,rfl,σ,hR,rfl,rfl⟩,leA⟩
def Zhg (hR:Real σ s)(hs:s.ok N)(hN:N<=1000000000):CF G 296 (Am p m t) ((syL p σ)) (Ret fun v q'=> ∃ σ',Real σ' (Vv s m t).1/\v= I64 (Vv s m t).2/\q'=syL p σ'):=by
 refine aE ntmps296 fun F cs=> ?_;have y:=hR.lo;have hc:=hR.lc;have hh:=hR.lh;have a0:=hs.no;have c0:=hs.nc;have b0:=hs.nh;change X _ _ _ _ _ _ _ _ (pC p (A2 σ.ao σ σ.ac σ.ah) 247::lsH I64 3 σ.ao σ.co σ.owners::rsH cqs 1 268 σ.ac σ.cc σ.conds::stars (A7 σ)::rsH chs 3 251 σ.ah σ.ch σ.chans::stars (A5 σ)::F);rcases bK (inR m σ.owners.length) with b|b
 . have a:inR m s.owners.length:=by rw [<-y];exact b
   obtain ⟨i,rfl⟩:=aU b.1;have r:i<σ.owners.length:=(by have:=b.2;omega);rcases bK (thr t) with d|d
   . refine Uz (l:=σ.owners) Zq fun g z=> ?_;rw [z];refine Zz ?_;refine Wb (V8 clA clA) ?_;apply bD (Xx (p:=p) clA Zq r d);apply ox 12;have w:Sees (pC p (A8 g σ σ.ac σ.ah) 247::lsH I64 3 (some ⟨g,0,none⟩) σ.co σ.owners::rsH cqs 1 268 σ.ac σ.cc σ.conds::stars (A7 σ)::rsH chs 3 251 σ.ah σ.ch σ.chans::stars (A5 σ)::F) (some ⟨g,0,none⟩) (σ.owners.map I64):=(bV _).le leA;have x:=Zyv w r;have q:=hR.ol r;refine rn [1019,7] ?_;refine ld ?_ (hc:=x);refine Zz ?_;rcases bK (σ.owners[i]=t) with k|k
     . refine Wc 25 ?_ rfl (by simp [k]);refine Zz ?_;apply cU (Mh (f:=I64) (l:=σ.owners) (u:= -1) (n:=i) (g:=g) (j:=(i:Int)) (by simp [evp,lkp]) rfl sizeOf3 rfl r rfl rfl Zj);rintro _ _ ⟨rfl,rfl⟩;refine Zz ?_;rw [show Vv s (i:Int) t=({ s with owners:=s.owners.set i (-1) },0) from (if_pos a).trans ((if_pos d).trans (if_pos (q.trans k)))];refine Zm [pC p (A8 g σ σ.ac σ.ah) 247,lsH I64 3 (some ⟨g,0,none⟩) σ.co (σ.owners.set i (-1)),rsH cqs 1 268 σ.ac σ.cc σ.conds,stars (A7 σ),rsH chs 3 251 σ.ah σ.ch σ.chans,stars (A5 σ)] ?_;exact ⟨_,rfl, { σ with ao:=(some ⟨g,0,none⟩),owners:=σ.owners.set i (-1) },⟨by show σ.owners.set i (-1)=s.owners.set i (-1);rw [hR.o],hR.c,hR.h⟩,rfl,by unfold syL;simp⟩
     refine iJ 25 ?_ rfl (by simp [k]);refine Zz ?_;rw [show Vv s (i:Int) t=(s,140) from (if_pos a).trans ((if_pos d).trans (if_neg (fun e=>k (q.symm.trans e))))];refine Zg ?_;exact ⟨_,⟨_,rfl,σ,hR,rfl,by unfold syL;rw [z]⟩,leA⟩
   refine Zz ?_;refine Wb (V8 clA clA) ?_;refine Wb (So (p:=p) clA Zq r d) ?_;rw [show Vv s _ t=(s,2) from (if_pos a).trans (if_neg d)];refine Zg ?_;exact ⟨_,⟨_,rfl,σ,hR,rfl,rfl⟩,leA⟩
 have a: ¬inR m s.owners.length:=by rw [<-y];exact b
 refine Zz ?_;refine Wb (V8 clA clA) ?_;refine Wb (Ss (p:=p) clA Zq b) ?_;rw [show Vv s _ t=(s,4) from if_neg a];refine Zg ?_;exact ⟨_,⟨_,rfl,σ,hR,rfl,rfl⟩,leA⟩
def Sy.ok.lenC (h:s.ok N)(hR:Real σ s)(hi:i<σ.conds.length)(hN:N<=1000000000):σ.conds[i].l.length<=1000000000:=by
 rw [<-hR.cl hi];exact dO (h.c _ (Uu (by rw [<-hR.lc];exact hi))).1 hN
def Sy.ok.lenH (h:s.ok N)(hR:Real σ s)(hi:i<σ.chans.length)(hN:N<=1000000000):σ.chans[i].q.l.length<=1000000000:=by
 have a:σ.chans[i].q.l=(s.chans.getD i ch0).items:=(aQ Prod.fst (hR.hl hi)).symm;rw [a];unfold Ch.items;rw [bY];have:=(h.h _ (Uu (d:=ch0) (show i<s.chans.length by rw [<-hR.lh];exact hi))).2.2.1;omega
def Zhf (hR:Real σ s)(hs:s.ok N)(hN:N<=1000000000):CF G 134 [pt p,I64 k] ((syL p σ)) (Ret fun v q'=> ∃ a' c',v= .tuple [.slice a' (K8 s k).1.length c',I64 (K8 s k).2].toArray/\q'=lsH I64 2 a' c' (K8 s k).1::syL p σ):=by
 refine aE ntmps134 fun F cs=> ?_;have y:=hR.lo;have z:=hR.lc;have n:=hR.lh;have r:=hs.no;have u:=hs.nc;have t:=hs.nh;change X _ _ _ _ _ _ _ _ (pC p (A2 σ.ao σ σ.ac σ.ah) 247::lsH I64 3 σ.ao σ.co σ.owners::rsH cqs 1 268 σ.ac σ.cc σ.conds::stars (A7 σ)::rsH chs 3 251 σ.ah σ.ch σ.chans::stars (A5 σ)::F);rcases bK (inR k σ.chans.length) with e|e
 . have b:inR k s.chans.length:=by rw [<-n];exact e
   obtain ⟨i,rfl⟩:=aU e.1;have d:i<σ.chans.length:=(by have:=e.2;omega);refine Vq (l:=σ.chans) Zq fun g o=> ?_;rw [o];have h:σ.chans[i].q.l.length<=1000000000:=hs.lenH hR d hN;have j:(s.chans.getD i ch0).items=σ.chans[i].q.l:=aQ Prod.fst (hR.hl d);refine Zz ?_;refine Wb (Wm clA clA) ?_;apply bD (G7 (p:=p) clA Zq d trivial);refine rn [12,1017] ?_;apply cE (Po d);refine Zz ?_;refine aX 21 (.pointer (some ⟨g,i*3,none⟩)) rfl Zf ?_;refine Wn (Zkn (f:=chs) (sz:=3) (ty:=251) (l:=σ.chans) (i:=i) (m:=σ.chans[i].q.l) (a:=σ.chans[i].q.a) (c:=σ.chans[i].q.c) d (fun _=>rfl) rfl rfl (by have:=h;omega)) ?_;refine kd2 fun x w=> ?_
   refine Zz ?_;rw [show K8 s (i:Int)=(σ.chans[i].q.l,0) from (if_pos b).trans (by rw [<-j];rfl)];apply cE (Gc d σ.chans[i]);rw [show σ.chans.set i σ.chans[i]=σ.chans from eG d];refine Zg ?_;exact ⟨_,⟨_,rfl,x,w,rfl,by unfold syL;rw [o]⟩,leA⟩
 have b: ¬inR k s.chans.length:=by rw [<-n];exact e
 refine Zz ?_;refine Wb (Wm clA clA) ?_;refine Wb (E8 (p:=p) clA Zq e) ?_;rw [show K8 s k=([],4) from if_neg b];refine Zg ?_;exact ⟨_,⟨_,rfl,none,0,rfl,rfl⟩,((leA).trans (aK (Yy I64 2 _) leA))⟩
end
section
variable {v m:Int}
def Real.setC (hR:Real σ s)(i:Nat)(x:SlV Int)(ac:Option Addr):Real { σ with ac:=ac,conds:=σ.conds.set i x } { s with conds:=s.conds.set i x.l } :=
 ⟨hR.o,by show (σ.conds.set i x).map _=_;rw [Eo,hR.c],hR.h⟩
def Real.setH (hR:Real σ s)(i:Nat)(x:ChC)(y:Ch)(h:x.row=y.row)(ah:Option Addr):Real { σ with ah:=ah,chans:=σ.chans.set i x } { s with chans:=s.chans.set i y } :=
 ⟨hR.o,hR.c,by show (σ.chans.set i x).map _=(s.chans.set i y).map _;rw [Eo,Eo,hR.h,h]⟩
def G0 {c:Ch}{x:ChC}(h:c.row=x.row):c.items=x.q.l/\c.room=x.room/\(c.all.length:Int)=x.sent:=by
 unfold Ch.row ChC.row at h;simp only [iM] at h;exact h
abbrev Ab (v0)(v1:SyC)(v2)(v3):=([.bool true,.slice v0 v1.owners.length v1.co,.slice (some ⟨v2,0,none⟩) v1.conds.length v1.cc,.slice v3 v1.chans.length v1.ch]:List Value)
def All_ok (hR:Real σ s)(hs:s.ok N)(hN:N<=1000000000):CF G 265 [pt p,I64 k] ((syL p σ)) (Ret fun v q'=> ∃ σ' a' c',Real σ' (Hc s k).1/\v= .tuple [.slice a' (Hc s k).2.1.length c',I64 (Hc s k).2.2].toArray/\q'=lsH I64 3 a' c' (Hc s k).2.1::syL p σ'):=by
 refine aE ntmps265 fun F cs=> ?_;have z:=hR.lo;have o:=hR.lc;have hh:=hR.lh;have t:=hs.no;have x:=hs.nc;have w:=hs.nh;change X _ _ _ _ _ _ _ _ (pC p (A2 σ.ao σ σ.ac σ.ah) 247::lsH I64 3 σ.ao σ.co σ.owners::rsH cqs 1 268 σ.ac σ.cc σ.conds::stars (A7 σ)::rsH chs 3 251 σ.ah σ.ch σ.chans::stars (A5 σ)::F);rcases bK (inR k σ.conds.length) with e|e
 . have b:inR k s.conds.length:=by rw [<-o];exact e
   obtain ⟨i,rfl⟩:=aU e.1;have d:i<σ.conds.length:=(by have:=e.2;omega);refine Vq (l:=σ.conds) Zq fun g y=> ?_;rw [y];have h:=hs.lenC hR d hN;refine Zz ?_;refine Wb (Qj clA clA) ?_;apply bD (Xy (p:=p) clA Zq d trivial);refine rn [12,1018] ?_;apply cE (Gt d);refine Zz ?_;refine aX 22 (.pointer (some ⟨g,i*1,none⟩)) rfl Zf ?_;apply Wn (all_ok (f:=cqs) (sz:=1) (ty:=268) (l:=σ.conds) (i:=i) (m:=σ.conds[i].l) (a:=σ.conds[i].a) (c:=σ.conds[i].c) d (fun _=>rfl) rfl rfl Zq);refine kd2 fun r q=> ?_
   refine Zz ?_;refine cU (Wq (g:=g) (f:=cqs) (sz:=1) (l:=σ.conds) (u:=⟨none,0, []⟩) (n:=i) (k:=0) (j:=(i:Int)) (by simp [evp,lkp]) rfl sizeOf23 (fun _=>rfl) rfl d rfl rfl rfl rfl Zj) ?_;rintro _ _ ⟨rfl,rfl⟩;refine Zz ?_;rw [show Hc s (i:Int)=({ s with conds:=s.conds.set i [] },σ.conds[i].l,0) from (if_pos b).trans (by rw [<-hR.cl d];rfl)];apply cE (Yy I64 3 _);apply cE (Gd d (a:=none) (c:=0) (m:= []));refine Zm (lsH I64 3 r q σ.conds[i].l:: [pC p (Ab σ.ao σ g σ.ah) 247,lsH I64 3 σ.ao σ.co σ.owners,rsH cqs 1 268 (some ⟨g,0,none⟩) σ.cc (σ.conds.set i ⟨none,0, []⟩),stars ((σ.conds.set i ⟨none,0, []⟩).map (lsV 3)),rsH chs 3 251 σ.ah σ.ch σ.chans,stars (A5 σ)]) ?_;exact ⟨_,rfl, { σ with ac:=(some ⟨g,0,none⟩),conds:=σ.conds.set i ⟨none,0, []⟩ },r,q,hR.setC i ⟨none,0, []⟩ _,rfl,by unfold syL;simp⟩
 have b: ¬inR k s.conds.length:=by rw [<-o];exact e
 refine Zz ?_;refine Wb (Qj clA clA) ?_;refine Wb (Se (p:=p) clA Zq e) ?_;rw [show Hc s k=(s, [],4) from if_neg b];refine Zg ?_;exact ⟨_,⟨_,rfl,σ,none,0,hR,rfl,rfl⟩,((leA).trans (aK (Yy I64 3 _) leA))⟩
def Zhn (hR:Real σ s)(hs:s.ok N)(hN:N<=1000000000):CF G 263 [pt p,I64 k] ((syL p σ)) (Ret fun v q'=> ∃ σ',Real σ' (Yc s k).1/\v= .tuple [I64 (max (Yc s k).2.1 0),.bool (decide (0<=(Yc s k).2.1)),I64 (Yc s k).2.2].toArray/\q'=syL p σ'):=by
 refine aE ntmps263 fun F cs=> ?_;have ho:=hR.lo;have w:=hR.lc;have hh:=hR.lh;have a0:=hs.no;have c0:=hs.nc;have b0:=hs.nh;change X _ _ _ _ _ _ _ _ (pC p [.bool true,.slice σ.ao σ.owners.length σ.co,.slice σ.ac σ.conds.length σ.cc,.slice σ.ah σ.chans.length σ.ch] 247::lsH I64 3 σ.ao σ.co σ.owners::rsH cqs 1 268 σ.ac σ.cc σ.conds::stars (σ.conds.map (lsV 3))::rsH chs 3 251 σ.ah σ.ch σ.chans::stars (σ.chans.map fun x=>lsV 2 x.q)::F);rcases bK (inR k σ.conds.length) with j|j
 . have d:inR k s.conds.length:=by rw [<-w];exact j
   obtain ⟨i,rfl⟩:=aU j.1;have b:i<σ.conds.length:=(by have:=j.2;omega);refine Vq (l:=σ.conds) Zq fun g e_=> ?_;rw [e_];have y:=hs.lenC hR b hN;have h:=hR.cl b;refine Zz ?_;refine Wb (Qj clA clA) ?_;apply bD (Xy (p:=p) clA Zq b trivial);refine rn [12,1020] ?_;apply cE (Gt b);refine Zz ?_;rcases bK (σ.conds[i].l= []) with n|n
   . refine aX 25 (.pointer (some ⟨g,i*1,none⟩)) rfl Zf ?_;apply Wn (take_no (f:=cqs) (sz:=1) (ty:=268) (l:=σ.conds) (i:=i) (m:=σ.conds[i].l) (a:=σ.conds[i].a) (c:=σ.conds[i].c) b (fun _=>rfl) rfl rfl Zq n);refine kd0 ?_;refine Zz ?_;apply cE (Gd b (a:=σ.conds[i].a) (c:=σ.conds[i].c) (m:=σ.conds[i].l));rw [show σ.conds.set i ⟨σ.conds[i].a,σ.conds[i].c,σ.conds[i].l⟩=σ.conds from eG b];rw [show Yc s (i:Int)=(s, -1,0) from (if_pos d).trans (if_pos (h.trans n))];refine Zg ?_;exact ⟨_,⟨_,rfl,σ,hR,rfl,by unfold syL;rw [e_]⟩,leA⟩
   refine aX 25 (.pointer (some ⟨g,i*1,none⟩)) rfl Zf ?_;refine Wn (take_ok (f:=cqs) (sz:=1) (ty:=268) (l:=σ.conds) (i:=i) (m:=σ.conds[i].l) (a:=σ.conds[i].a) (c:=σ.conds[i].c) (u:=(fun a c=>⟨a,c,σ.conds[i].l.drop 1⟩)) b (fun _=>rfl) rfl rfl Zq n (fun _ _=>rfl)) ?_;refine kd2 fun t o=> ?_
   refine Zz ?_;apply cE (Gd b (a:=t) (c:=o) (m:=σ.conds[i].l.drop 1))
   have h0:0<=σ.conds[i].l.headD 0:=by
    have z:=hs.c σ.conds[i].l (by rw [<-h];exact Uu (by rw [<-w];exact b))
    cases hL:σ.conds[i].l with
    |nil=>exact aV hL n
    |cons x r=>rw [hL] at z;exact (z.2 x (bO ..)).1
   rw [show Yc s (i:Int)=({ s with conds:=s.conds.set i (σ.conds[i].l.drop 1) },σ.conds[i].l.headD 0,0) from (if_pos d).trans ((if_neg (fun e=>n (h.symm.trans e))).trans (by rw [<-h];rfl))];refine Zm [pC p [.bool true,.slice σ.ao σ.owners.length σ.co,.slice (some ⟨g,0,none⟩) σ.conds.length σ.cc,.slice σ.ah σ.chans.length σ.ch] 247,lsH I64 3 σ.ao σ.co σ.owners,rsH cqs 1 268 (some ⟨g,0,none⟩) σ.cc (σ.conds.set i ⟨t,o,σ.conds[i].l.drop 1⟩),stars ((σ.conds.set i ⟨t,o,σ.conds[i].l.drop 1⟩).map (lsV 3)),rsH chs 3 251 σ.ah σ.ch σ.chans,stars (σ.chans.map fun x=>lsV 2 x.q)] ?_;exact ⟨_,rfl, { σ with ac:=(some ⟨g,0,none⟩),conds:=σ.conds.set i ⟨t,o,σ.conds[i].l.drop 1⟩ },hR.setC i ⟨t,o,σ.conds[i].l.drop 1⟩ _,by dsimp only;rw [lF h0,dB h0],by unfold syL;simp⟩
 have d: ¬inR k s.conds.length:=by rw [<-w];exact j
 refine Zz ?_;refine Wb (Qj clA clA) ?_;refine Wb (Se (p:=p) clA Zq j) ?_;rw [show Yc s k=(s, -1,4) from if_neg d];refine Zg ?_;exact ⟨_,⟨_,rfl,σ,hR,rfl,rfl⟩,leA⟩
def Room_ok (hR:Real σ s)(hs:s.ok N)(hN:N<=1000000000):CF G 135 [pt p,I64 k] ((syL p σ)) (Ret fun v q'=>v= .tuple [I64 (Lw s k).1,I64 (Lw s k).2].toArray/\q'=syL p σ):=by
 refine aE ntmps135 fun F t=> ?_;have r:=hR.lo;have hc:=hR.lc;have e:=hR.lh;have j:=hs.no;have n:=hs.nc;have m:=hs.nh;change X _ _ _ _ _ _ _ _ (pC p (A2 σ.ao σ σ.ac σ.ah) 247::lsH I64 3 σ.ao σ.co σ.owners::rsH cqs 1 268 σ.ac σ.cc σ.conds::stars (A7 σ)::rsH chs 3 251 σ.ah σ.ch σ.chans::stars (A5 σ)::F);rcases bK (inR k σ.chans.length) with b|b
 . have a:inR k s.chans.length:=by rw [<-e];exact b
   obtain ⟨i,rfl⟩:=aU b.1;have d:i<σ.chans.length:=(by have:=b.2;omega);refine Vq (l:=σ.chans) Zq fun g f=> ?_;rw [f];refine Zz ?_;refine Wb (Wm clA clA) ?_;apply bD (G7 (p:=p) clA Zq d trivial);refine Ye ?_;obtain ⟨q,h,o⟩:=G0 (hR.hl d);have c:Sees (pC p [.bool true,.slice σ.ao σ.owners.length σ.co,.slice σ.ac σ.conds.length σ.cc,.slice (some ⟨g,0,none⟩) σ.chans.length σ.ch] 247::lsH I64 3 σ.ao σ.co σ.owners::rsH cqs 1 268 σ.ac σ.cc σ.conds::stars (A7 σ)::rsH chs 3 251 (some ⟨g,0,none⟩) σ.ch σ.chans::stars (A5 σ)::F) (some ⟨g,0,none⟩) (σ.chans.flatMap chs):=(bJ _).le leA;refine Ye ?_;refine ld ?_ (hc:=(iB (k:=1) c (fun _=>rfl) (aB d) Zq rfl rfl));refine Zz ?_;rw [show Lw s (i:Int)=(σ.chans[i].room,0) from (if_pos a).trans (by rw [<-h];rfl)];refine Zg ?_;exact ⟨_,⟨_,rfl,rfl,by unfold syL;rw [f]⟩,leA⟩
 have a: ¬inR k s.chans.length:=by rw [<-e];exact b
 refine Zz ?_;refine Wb (Wm clA clA) ?_;refine Wb (E8 (p:=p) clA Zq b) ?_;rw [show Lw s k=(0,4) from if_neg a];refine Zg ?_;exact ⟨_,⟨_,rfl,rfl,rfl⟩,leA⟩
def Recv_ok (hR:Real σ s)(hs:s.ok N)(hN:N<=1000000000):CF G 267 [pt p,I64 k] ((syL p σ)) (Ret fun v q'=> ∃ σ',Real σ' (Qz s k).1/\v= .tuple [I64 (Qz s k).2.1,I64 (max (Qz s k).2.2.1 0),.bool (decide (0<=(Qz s k).2.2.1)),I64 (Qz s k).2.2.2].toArray/\q'=syL p σ'):=by
 refine aE ntmps267 fun F cs=> ?_;have ho:=hR.lo;have hc:=hR.lc;have hh:=hR.lh;have k0:=hs.no;have m0:=hs.nc;have l0:=hs.nh;change X _ _ _ _ _ _ _ _ (pC p [.bool true,.slice σ.ao σ.owners.length σ.co,.slice σ.ac σ.conds.length σ.cc,.slice σ.ah σ.chans.length σ.ch] 247::lsH I64 3 σ.ao σ.co σ.owners::rsH cqs 1 268 σ.ac σ.cc σ.conds::stars (σ.conds.map (lsV 3))::rsH chs 3 251 σ.ah σ.ch σ.chans::stars (σ.chans.map fun x=>lsV 2 x.q)::F);rcases bK (inR k σ.chans.length) with r|r
 . have n:inR k s.chans.length:=by rw [<-hh];exact r
   obtain ⟨i,rfl⟩:=aU r.1;have b:i<σ.chans.length:=(by have:=r.2;omega);refine Vq (l:=σ.chans) Zq fun g e_=> ?_;rw [e_];have e0:=hs.lenH hR b hN;obtain ⟨r1,r2,r3⟩:=G0 (hR.hl b);obtain ⟨⟨j0,i0⟩,h0,n0,a0,g0⟩:=(hs.h _ (Uu (d:=ch0) (show i<s.chans.length by rw [<-hh];exact b)));have o:(s.chans.getD i ch0).all.drop (s.chans.getD i ch0).taken=σ.chans[i].q.l:=r1;have w:=aQ List.length o;rw [bY] at w;have f0:(σ.chans[i].q.l.length:Int)<=σ.chans[i].room:=by rw [<-r1,<-r2];exact a0
   refine Zz ?_;refine Wb (Wm clA clA) ?_;apply bD (G7 (p:=p) clA Zq b trivial);refine Ye ?_;have j:Sees (pC p [.bool true,.slice σ.ao σ.owners.length σ.co,.slice σ.ac σ.conds.length σ.cc,.slice (some ⟨g,0,none⟩) σ.chans.length σ.ch] 247::lsH I64 3 σ.ao σ.co σ.owners::rsH cqs 1 268 σ.ac σ.cc σ.conds::stars (σ.conds.map (lsV 3))::rsH chs 3 251 (some ⟨g,0,none⟩) σ.ch σ.chans::stars (σ.chans.map fun x=>lsV 2 x.q)::F) (some ⟨g,0,none⟩) (σ.chans.flatMap chs):=(bJ _).le leA;refine Ye ?_;refine ldD 3 ?_ (hc:=(by first|exact (iB (k:=2) j (fun _=>rfl) (aB b) Zq rfl rfl)|exact (iB (k:=0) j (fun _=>rfl) (aB b) Zq rfl rfl)));refine Zz ?_;refine ldD 8 ?_ (hc:=(by first|exact (iB (k:=2) j (fun _=>rfl) (aB b) Zq rfl rfl)|exact (iB (k:=0) j (fun _=>rfl) (aB b) Zq rfl rfl)));refine Zz ?_;apply eN (Po b);rcases bK (σ.chans[i].q.l= []) with t|t
   . refine aX 38 (.pointer (some ⟨g,i*3,none⟩)) rfl Zf ?_;apply Wn (Zfr (f:=chs) (sz:=3) (ty:=251) (l:=σ.chans) (i:=i) (m:=σ.chans[i].q.l) (a:=σ.chans[i].q.a) (c:=σ.chans[i].q.c) b (fun _=>rfl) rfl rfl Zq t);refine kd0 ?_;refine Zz ?_;apply cE (Gc b σ.chans[i]);rw [show σ.chans.set i σ.chans[i]=σ.chans from eG b];rw [show Qz s (i:Int)=(s,0, -1,0) from (if_pos n).trans (if_pos (r1.trans t))];refine Zg ?_;exact ⟨_,⟨_,rfl,σ,hR,rfl,by unfold syL;rw [e_]⟩,leA⟩
   refine aX 38 (.pointer (some ⟨g,i*3,none⟩)) rfl Zf ?_;refine Wn (Zft (f:=chs) (sz:=3) (ty:=251) (l:=σ.chans) (i:=i) (m:=σ.chans[i].q.l) (a:=σ.chans[i].q.a) (c:=σ.chans[i].q.c) (u:=(fun a c=>⟨⟨a,c,σ.chans[i].q.l.drop 1⟩,σ.chans[i].room,σ.chans[i].sent⟩)) b (fun _=>rfl) rfl rfl Zq t (fun _ _=>rfl)) ?_;refine kd2 fun z y=> ?_
   refine Zz ?_;refine cE (Gc b (⟨⟨z,y,σ.chans[i].q.l.drop 1⟩,σ.chans[i].room,σ.chans[i].sent⟩:ChC)) ?_;have d0:0<σ.chans[i].q.l.length:=List.length_pos_iff.2 t;have b0:(s.chans.getD i ch0).all.getD (s.chans.getD i ch0).taken 0=σ.chans[i].q.l.headD 0:=by rw [<-o,List.headD_eq_head?_getD,List.head?_drop,aH]
   rw [show Qz s (i:Int)=({ s with chans:=s.chans.set i { s.chans.getD i ch0 with taken:=(s.chans.getD i ch0).taken+1 } },σ.chans[i].q.l.headD 0,((s.chans.getD i ch0).taken:Int),0) from (if_pos n).trans ((if_neg (fun e=>t (r1.symm.trans e))).trans (by rw [<-b0];rfl))];refine Zm [pC p [.bool true,.slice σ.ao σ.owners.length σ.co,.slice σ.ac σ.conds.length σ.cc,.slice (some ⟨g,0,none⟩) σ.chans.length σ.ch] 247,lsH I64 3 σ.ao σ.co σ.owners,rsH cqs 1 268 σ.ac σ.cc σ.conds,stars (σ.conds.map (lsV 3)),rsH chs 3 251 (some ⟨g,0,none⟩) σ.ch (σ.chans.set i (⟨⟨z,y,σ.chans[i].q.l.drop 1⟩,σ.chans[i].room,σ.chans[i].sent⟩:ChC)),stars ((σ.chans.set i (⟨⟨z,y,σ.chans[i].q.l.drop 1⟩,σ.chans[i].room,σ.chans[i].sent⟩:ChC)).map fun x=>lsV 2 x.q)] ?_;exact ⟨_,rfl, { σ with ah:=(some ⟨g,0,none⟩),chans:=σ.chans.set i (⟨⟨z,y,σ.chans[i].q.l.drop 1⟩,σ.chans[i].room,σ.chans[i].sent⟩:ChC) },hR.setH i (⟨⟨z,y,σ.chans[i].q.l.drop 1⟩,σ.chans[i].room,σ.chans[i].sent⟩:ChC) _ (by unfold Ch.row ChC.row Ch.items;dsimp only;rw [<-r2,<-r3,<-o,fZ]) _,by dsimp only;rw [lF Zq,dB Zq,show ((σ.chans[i]).sent - (σ.chans[i].q.l.length:Int))=((s.chans.getD i ch0).taken:Int) by omega],by unfold syL;simp⟩
 have n: ¬inR k s.chans.length:=by rw [<-hh];exact r
 refine Zz ?_;refine Wb (Wm clA clA) ?_;refine Wb (E8 (p:=p) clA Zq r) ?_;rw [show Qz s k=(s,0, -1,4) from if_neg n];refine Zg ?_;exact ⟨_,⟨_,rfl,σ,hR,rfl,rfl⟩,leA⟩
def Send_ok (hR:Real σ s)(hs:s.ok N)(hN:N<=1000000000):CF G 266 (Am p k t) ((syL p σ)) (Ret fun v q'=> ∃ σ',Real σ' (Qo s k t).1/\v= .tuple [I64 (max (Qo s k t).2.1 0),.bool (decide (0<=(Qo s k t).2.1)),I64 (Qo s k t).2.2].toArray/\q'=syL p σ'):=by
 refine aE ntmps266 fun F cs=> ?_;have ho:=hR.lo;have hc:=hR.lc;have hh:=hR.lh;have o0:=hs.no;have q0:=hs.nc;have p0:=hs.nh;change X _ _ _ _ _ _ _ _ (pC p [.bool true,.slice σ.ao σ.owners.length σ.co,.slice σ.ac σ.conds.length σ.cc,.slice σ.ah σ.chans.length σ.ch] 247::lsH I64 3 σ.ao σ.co σ.owners::rsH cqs 1 268 σ.ac σ.cc σ.conds::stars (σ.conds.map (lsV 3))::rsH chs 3 251 σ.ah σ.ch σ.chans::stars (σ.chans.map fun x=>lsV 2 x.q)::F);rcases bK (inR k σ.chans.length) with hr|hr
 . have r:inR k s.chans.length:=by rw [<-hh];exact hr
   obtain ⟨i,rfl⟩:=aU hr.1;have o:i<σ.chans.length:=(by have:=hr.2;omega);rcases bK (val t) with hg|hg
   . refine Vq (l:=σ.chans) Zq fun g e_=> ?_;rw [e_];have j0:=hs.lenH hR o hN;obtain ⟨r1,r2,r3⟩:=G0 (hR.hl o);have i0:=hs.h _ (Uu (d:=ch0) (show i<s.chans.length by rw [<-hh];exact o));obtain ⟨⟨n0,m0⟩,d0,r0,h0,l0⟩:=i0;have c0:(s.chans.getD i ch0).all.drop (s.chans.getD i ch0).taken=σ.chans[i].q.l:=r1;have b0:=aQ List.length c0;rw [bY] at b0;have k0:(σ.chans[i].q.l.length:Int)<=σ.chans[i].room:=by rw [<-r1,<-r2];exact h0
     refine Zz ?_;refine Wb (Wm clA clA) ?_;apply bD (Zg2 (p:=p) clA Zq o hg);refine Ye ?_;apply XD.kf 22;have w:Sees (pC p [.bool true,.slice σ.ao σ.owners.length σ.co,.slice σ.ac σ.conds.length σ.cc,.slice (some ⟨g,0,none⟩) σ.chans.length σ.ch] 247::lsH I64 3 σ.ao σ.co σ.owners::rsH cqs 1 268 σ.ac σ.cc σ.conds::stars (σ.conds.map (lsV 3))::rsH chs 3 251 (some ⟨g,0,none⟩) σ.ch σ.chans::stars (σ.chans.map fun x=>lsV 2 x.q)::F) (some ⟨g,0,none⟩) (σ.chans.flatMap chs):=(bJ _).le leA;refine Ye ?_;refine ldD 7 ?_ (hc:=(by first|exact (iB (k:=1) w (fun _=>rfl) (aB o) Zq rfl rfl)|exact (iB (k:=0) w (fun _=>rfl) (aB o) Zq rfl rfl)));refine Zz ?_;refine ldD 12 ?_ (hc:=(by first|exact (iB (k:=1) w (fun _=>rfl) (aB o) Zq rfl rfl)|exact (iB (k:=0) w (fun _=>rfl) (aB o) Zq rfl rfl)));refine Zz ?_;rcases bK ((σ.chans[i].q.l.length:Int)<σ.chans[i].room) with hx|hx
     . apply Wc 34;apply cE (Po o);refine Zz ?_;refine aX 38 (.pointer (some ⟨g,i*3,none⟩)) rfl Zf ?_;refine Wn (put64_ok (t:=t) (f:=chs) (sz:=3) (ty:=251) (l:=σ.chans) (i:=i) (m:=σ.chans[i].q.l) (a:=σ.chans[i].q.a) (c:=σ.chans[i].q.c) (u:=(fun a c=>⟨⟨a,c,σ.chans[i].q.l++ [t]⟩,σ.chans[i].room,σ.chans[i].sent⟩)) o (fun _=>rfl) rfl rfl Zq (fun _ _=>rfl)) ?_;rintro _ _ ⟨e,b,rfl⟩ _ e_;simp only [ca,na] at e_;subst e_;have z:i<(σ.chans.set i (⟨⟨e,b,σ.chans[i].q.l++ [t]⟩,σ.chans[i].room,σ.chans[i].sent⟩:ChC)).length:=by rw [aR];exact o
       have a0:(σ.chans.set i (⟨⟨e,b,σ.chans[i].q.l++ [t]⟩,σ.chans[i].room,σ.chans[i].sent⟩:ChC))[i]'z=(⟨⟨e,b,σ.chans[i].q.l++ [t]⟩,σ.chans[i].room,σ.chans[i].sent⟩:ChC):=aY _;have g0:Sees (rsH chs 3 251 (some ⟨g,0,none⟩) σ.ch (σ.chans.set i (⟨⟨e,b,σ.chans[i].q.l++ [t]⟩,σ.chans[i].room,σ.chans[i].sent⟩:ChC))::F) (some ⟨g,0,none⟩) ((σ.chans.set i (⟨⟨e,b,σ.chans[i].q.l++ [t]⟩,σ.chans[i].room,σ.chans[i].sent⟩:ChC)).flatMap chs):=bJ _;have f0: ∀ q,Le q (rsH chs 3 251 (some ⟨g,0,none⟩) σ.ch (σ.chans.set i (⟨⟨e,b,σ.chans[i].q.l++ [t]⟩,σ.chans[i].room,σ.chans[i].sent⟩:ChC))::F)->Sees q (some ⟨g,0,none⟩) ((σ.chans.set i (⟨⟨e,b,σ.chans[i].q.l++ [t]⟩,σ.chans[i].room,σ.chans[i].sent⟩:ChC)).flatMap chs):=fun q h=>g0.le h
       refine Zz ?_;refine ld ?_ (hc:=(show Cl _ _ (I64 σ.chans[i].sent) from iB (k:=2) (y:=(⟨⟨e,b,σ.chans[i].q.l++ [t]⟩,σ.chans[i].room,σ.chans[i].sent⟩:ChC)) (f0 _ leA) (fun _=>rfl) (by rw [aB z,a0]) Zq rfl rfl));refine Zz ?_;refine cU (Wq (g:=g) (f:=chs) (sz:=3) (l:=σ.chans.set i (⟨⟨e,b,σ.chans[i].q.l++ [t]⟩,σ.chans[i].room,σ.chans[i].sent⟩:ChC)) (u:=(⟨⟨e,b,σ.chans[i].q.l++ [t]⟩,σ.chans[i].room,σ.chans[i].sent+1⟩:ChC)) (n:=i) (k:=2) (j:=(i:Int)) (by simp [evp,lkp]) rfl sizeOf3 (fun _=>rfl) rfl z rfl (by rw [a0];rfl) rfl rfl Zj) ?_;rintro _ _ ⟨rfl,rfl⟩;rw [eV]
       refine Zz ?_;refine ld ?_ (hc:=(show Cl _ _ (I64 (σ.chans[i].sent+1)) from iB (k:=2) (y:=(⟨⟨e,b,σ.chans[i].q.l++ [t]⟩,σ.chans[i].room,σ.chans[i].sent+1⟩:ChC)) ((fun q h=>(bJ F).le h) _ leA) (fun _=>rfl) (by rw [jA o]) Zq rfl rfl));refine Zz ?_;refine cE (Gc o (⟨⟨e,b,σ.chans[i].q.l++ [t]⟩,σ.chans[i].room,σ.chans[i].sent+1⟩:ChC)) ?_;rw [show Qo s (i:Int) t=({ s with chans:=s.chans.set i { s.chans.getD i ch0 with all:=(s.chans.getD i ch0).all++ [t] } },((s.chans.getD i ch0).all.length:Int),0) from ((if_pos r).trans ((if_pos hg).trans ((if_pos (by rw [show (s.chans.getD (Int.toNat ((i:Nat):Int)) ch0).items=_ from r1,show (s.chans.getD (Int.toNat ((i:Nat):Int)) ch0).room=_ from r2];exact hx)).trans rfl)))];refine Zm [pC p [.bool true,.slice σ.ao σ.owners.length σ.co,.slice σ.ac σ.conds.length σ.cc,.slice (some ⟨g,0,none⟩) σ.chans.length σ.ch] 247,lsH I64 3 σ.ao σ.co σ.owners,rsH cqs 1 268 σ.ac σ.cc σ.conds,stars (σ.conds.map (lsV 3)),rsH chs 3 251 (some ⟨g,0,none⟩) σ.ch (σ.chans.set i (⟨⟨e,b,σ.chans[i].q.l++ [t]⟩,σ.chans[i].room,σ.chans[i].sent+1⟩:ChC)),stars ((σ.chans.set i (⟨⟨e,b,σ.chans[i].q.l++ [t]⟩,σ.chans[i].room,σ.chans[i].sent+1⟩:ChC)).map fun x=>lsV 2 x.q)] ?_;exact ⟨_,rfl, { σ with ah:=(some ⟨g,0,none⟩),chans:=σ.chans.set i (⟨⟨e,b,σ.chans[i].q.l++ [t]⟩,σ.chans[i].room,σ.chans[i].sent+1⟩:ChC) },hR.setH i (⟨⟨e,b,σ.chans[i].q.l++ [t]⟩,σ.chans[i].room,σ.chans[i].sent+1⟩:ChC) _ (by unfold Ch.row ChC.row Ch.items;dsimp only;rw [<-r2,<-r3,<-c0,List.drop_append_of_le_length d0,aA];rfl) _,by dsimp only;rw [lF Zq,dB Zq,show σ.chans[i].sent+1 - 1=((s.chans.getD i ch0).all.length:Int) by omega],by unfold syL;simp⟩
     refine Zz ?_;rw [show Qo s (i:Int) t=(s, -1,0) from ((if_pos r).trans ((if_pos hg).trans (if_neg (by rw [show (s.chans.getD (Int.toNat ((i:Nat):Int)) ch0).items=_ from r1,show (s.chans.getD (Int.toNat ((i:Nat):Int)) ch0).room=_ from r2];exact hx))))];refine Zg ?_;exact ⟨_,⟨_,rfl,σ,hR,rfl,by unfold syL;rw [e_]⟩,leA⟩
   refine Zz ?_;refine Wb (Wm clA clA) ?_;apply bD (Zwe (p:=p) clA Zq o hg);refine rn [8,0,1,2,3] ?_;apply XD.kt 22;refine Zz ?_;rw [show Qo s _ t=(s, -1,2) from (if_pos r).trans (if_neg hg)];refine Zg ?_;exact ⟨_,⟨_,rfl,σ,hR,rfl,rfl⟩,leA⟩
 have r: ¬inR k s.chans.length:=by rw [<-hh];exact hr
 refine Zz ?_;refine Wb (Wm clA clA) ?_;apply bD (Zwo (p:=p) clA Zq hr);refine rn [8,0,1,2,3] ?_;apply XD.kt 22;refine Zz ?_;rw [show Qo s _ t=(s, -1,4) from if_neg r];refine Zg ?_;exact ⟨_,⟨_,rfl,σ,hR,rfl,rfl⟩,leA⟩
end
def E7 {α β:Type}(f:α->List β): ∀ (l:List α) (i n:Nat) (hi:i<l.length) (hn:n<(f l[i]).length),(l.flatMap f)[((l.take i).flatMap f).length+n]? =some (f l[i])[n]
 | [],_,_,hi,_=>by simp at hi
 |x::r,0,n,_,hn=>by
  simp only [fU] at hn;simp [dX,hn]
 |x::r,i+1,n,hi,hn=>by
  have:=E7 f r i n (by simpa using hi) (by simpa using hn);simp only [lM,cM,aA,fV];rw [dT Zq,<-this];congr 1;omega
def F4 {α β:Type}(f:α->List β){l:List α}(hi:i<l.length):((l.take (i+1)).flatMap f).length=((l.take i).flatMap f).length+(f l[i]).length:=by
 rw [aM hi,eJ,aA];simp
def wl (σ:SyC):List Int:=σ.conds.flatMap (·.l)
def wK (σ:SyC)(i:Nat):Nat:=((σ.conds.take i).flatMap (·.l)).length
def wK_get (hi:i<σ.conds.length)(hn:n<σ.conds[i].l.length):wK σ i+n<(wl σ).length/\(wl σ)[wK σ i+n]? =some σ.conds[i].l[n]:=by
 have:=E7 (fun x:SlV Int=>x.l) σ.conds i n hi hn;exact ⟨(cL.1 this).1,this⟩
def wK_step (hi:i<σ.conds.length):wK σ (i+1)=wK σ i+σ.conds[i].l.length:=F4 _ hi
def w1 (x:Int):List Value:= [I64 x]
section
variable {b0:Nat}{v m:Int}
abbrev Ai (v0:Nat):=((.func (.yield v0) #[] #[]):Value)
abbrev AN (v0:Nat)(v1:Nat):=[.func (.yield v0) #[] #[],pt v1]
def Zzl {y:Nat}{J:Nat->HP}{Jf:HP->Prop}(hC:σ.conds.length<=1000)(hL: ∀ x∈σ.conds,x.l.length<=1000000000)
 (hy: ∀ i (h:i<((wl σ).map w1).length),CallV prog G (Ai y) ((wl σ).map w1)[i] (J i:: [pC b0 [pt p] 124,pC p (A2 σ.ao σ σ.ac σ.ah) 247,lsH I64 3 σ.ao σ.co σ.owners,rsH cqs 1 268 σ.ac σ.cc σ.conds,stars (A7 σ),rsH chs 3 251 σ.ah σ.ch σ.chans,stars (A5 σ)]) (Ret fun v q=>(v= .bool true/\q=J (i+1):: [pC b0 [pt p] 124,pC p (A2 σ.ao σ σ.ac σ.ah) 247,lsH I64 3 σ.ao σ.co σ.owners,rsH cqs 1 268 σ.ac σ.cc σ.conds,stars (A7 σ),rsH chs 3 251 σ.ah σ.ch σ.chans,stars (A5 σ)])\/(v= .bool false/\ ∃ A,Jf A/\q=A:: [pC b0 [pt p] 124,pC p (A2 σ.ao σ σ.ac σ.ah) 247,lsH I64 3 σ.ao σ.co σ.owners,rsH cqs 1 268 σ.ac σ.cc σ.conds,stars (A7 σ),rsH chs 3 251 σ.ah σ.ch σ.chans,stars (A5 σ)]))):
 CF G 329 (AN y b0) (J 0:: [pC b0 [pt p] 124,pC p (A2 σ.ao σ σ.ac σ.ah) 247,lsH I64 3 σ.ao σ.co σ.owners,rsH cqs 1 268 σ.ac σ.cc σ.conds,stars (A7 σ),rsH chs 3 251 σ.ah σ.ch σ.chans,stars (A5 σ)]) (Ret fun _ q=>q=J (wl σ).length:: [pC b0 [pt p] 124,pC p (A2 σ.ao σ σ.ac σ.ah) 247,lsH I64 3 σ.ao σ.co σ.owners,rsH cqs 1 268 σ.ac σ.cc σ.conds,stars (A7 σ),rsH chs 3 251 σ.ah σ.ch σ.chans,stars (A5 σ)]\/ ∃ A,Jf A/\q=A:: [pC b0 [pt p] 124,pC p (A2 σ.ao σ σ.ac σ.ah) 247,lsH I64 3 σ.ao σ.co σ.owners,rsH cqs 1 268 σ.ac σ.cc σ.conds,stars (A7 σ),rsH chs 3 251 σ.ah σ.ch σ.chans,stars (A5 σ)]):=by
 refine aE ntmps329 fun F cs=> ?_;change X _ _ _ _ _ _ _ _ (J 0::pC b0 [pt p] 124::pC p (A2 σ.ao σ σ.ac σ.ah) 247::lsH I64 3 σ.ao σ.co σ.owners::rsH cqs 1 268 σ.ac σ.cc σ.conds::stars (A7 σ)::rsH chs 3 251 σ.ah σ.ch σ.chans::stars (A5 σ)::F);have m:=Zx (f:=cqs) (sz:=1) (fun _=>rfl) σ.conds;have j:Sees (pC b0 [pt p] 124::pC p (A2 σ.ao σ σ.ac σ.ah) 247::lsH I64 3 σ.ao σ.co σ.owners::rsH cqs 1 268 σ.ac σ.cc σ.conds::stars (A7 σ)::rsH chs 3 251 σ.ah σ.ch σ.chans::stars (A5 σ)::F) σ.ac (σ.conds.flatMap cqs):=(bJ _).le leA;have z: ∀ i (h:i<σ.conds.length),Sees (pC b0 [pt p] 124::pC p (A2 σ.ao σ σ.ac σ.ah) 247::lsH I64 3 σ.ao σ.co σ.owners::rsH cqs 1 268 σ.ac σ.cc σ.conds::stars (A7 σ)::rsH chs 3 251 σ.ah σ.ch σ.chans::stars (A5 σ)::F) σ.conds[i].a (σ.conds[i].l.map I64):=fun i h=>((bV _).le (Gt (ty:=3) h))
 refine Zs (bW (fun (s:Nat)=>s<=σ.conds.length) (fun s=> [(0,.func (.yield y) #[] #[]),(10,.slice σ.ac σ.conds.length σ.cc),(11,I64 σ.conds.length),(12,I64 s)]) (fun s=>J (wK σ s)::pC b0 [pt p] 124::pC p (A2 σ.ao σ σ.ac σ.ah) 247::lsH I64 3 σ.ao σ.co σ.owners::rsH cqs 1 268 σ.ac σ.cc σ.conds::stars (A7 σ)::rsH chs 3 251 σ.ah σ.ch σ.chans::stars (A5 σ)::F) (fun s=>σ.conds.length - s) (fun s b ih=> ?_) 0 Zq);try dsimp only at b ih|-
 obtain hi:=b;refine Wg ?_ ?_<;>intro u
 . have u:=cY u;have d:s<σ.conds.length:=Zq;have c0:=hL _ (aC d);refine Yq (j.le (leA)) (by rw [m];omega) fun b1 w r=> ?_;rw [r] at j;rw [r];refine Zz ?_;apply Jb (n:=s) isAgg268 sizeOf268 j d;refine Zo zeroValue268 fun n1=> ?_
   refine Zs (bW (fun (n:Nat)=>n<=σ.conds[s].l.length) (fun n=> [(0,.func (.yield y) #[] #[]),(10,.slice (some ⟨b1,w,none⟩) σ.conds.length σ.cc),(11,I64 σ.conds.length),(12,I64 s),(18,.slice σ.conds[s].a σ.conds[s].l.length σ.conds[s].c),(19,I64 (σ.conds[s].l.length:Int)),(20,I64 n)]) (fun n=>J (wK σ s+n)::pC b0 [pt p] 124::pC p [.bool true,.slice σ.ao σ.owners.length σ.co,.slice (some ⟨b1,w,none⟩) σ.conds.length σ.cc,.slice σ.ah σ.chans.length σ.ch] 247::lsH I64 3 σ.ao σ.co σ.owners::rsH cqs 1 268 (some ⟨b1,w,none⟩) σ.cc σ.conds::stars (A7 σ)::rsH chs 3 251 σ.ah σ.ch σ.chans::stars (A5 σ)::F) (fun n=>σ.conds[s].l.length - n) (fun n b k=> ?_) 0 Zq);try dsimp only at b k|-
   obtain d0:=b;refine Wg ?_ ?_<;>intro t
   . have t:=cY t;have a0:n<σ.conds[s].l.length:=Zq;obtain ⟨hk,hg⟩:=wK_get d a0;have e:=hy (wK σ s+n) (by simpa using hk);rw [show ((wl σ).map w1)[wK σ s+n]'(by simpa using hk)=w1 σ.conds[s].l[n] by rw [fN];congr 1;exact dR ((aB hk).symm.trans hg)] at e;rw [r] at e;have g:=z s d;rw [r] at g;refine Yq (g.le leA) Zi fun b2 o2 e2=> ?_;rw [e2] at g;rw [e2];refine Zz ?_;apply XO.cV e;rintro _ _ (⟨rfl,rfl⟩|⟨rfl,A,hA,rfl⟩) _ o<;>simp only [ca,na] at o<;>subst o
     . refine Zz ?_;rw [<-e2];refine Zs (k (n+1) Zq Zq)
     refine Zg ?_;exact ⟨_,⟨_,rfl,.inr ⟨A,hA,rfl⟩⟩,leA⟩
   have t:=of_decide_eq_false t;obtain rfl:n=σ.conds[s].l.length:=Zq;refine Zz ?_;rw [<-wK_step d,<-r];refine Zs (ih (s+1) Zq Zq)
 have u:=of_decide_eq_false u;obtain rfl:s=σ.conds.length:=Zq;refine Zz ?_;rw [show wK σ σ.conds.length=(wl σ).length by unfold wK wl;rw [bR]];refine Zg ?_;exact ⟨_,⟨_,rfl,.inl rfl⟩,leA⟩
def Xo (hC:σ.conds.length<=1000)(hL: ∀ x∈σ.conds,x.l.length<=1000000000):Iter prog G (.func (.func 329) [].toArray [pt b0].toArray) ((wl σ).map w1) [pC b0 [pt p] 124,pC p (A2 σ.ao σ σ.ac σ.ah) 247,lsH I64 3 σ.ao σ.co σ.owners,rsH cqs 1 268 σ.ac σ.cc σ.conds,stars (A7 σ),rsH chs 3 251 σ.ah σ.ch σ.chans,stars (A5 σ)]:=by
 intro y J Jf a;have:=gA call329 (Zzl (G:=G) (b0:=b0) (p:=p) (σ:=σ) (J:=J) (Jf:=Jf) hC hL a);rw [aI];exact this
def Zvi:CF G 323 [pt p] (q) (Ret fun v q'=> ∃ b0,v= .func (.func 329) [].toArray [pt b0].toArray/\q'=pC b0 [pt p] 124::q):=by
 refine aE ntmps323 fun F b=> ?_;refine Yb fun a=> ?_
 refine Zg ?_;exact ⟨_,⟨_,rfl,a,rfl,rfl⟩,leA⟩
def Real.wl_mem (hR:Real σ s)(t:Int):t∈wl σ↔ ∃ l∈s.conds,t∈l:=by
 rw [<-hR.c];unfold wl;simp only [List.mem_flatMap,cF];exact ⟨fun ⟨x,a,h⟩=>⟨_,⟨x,a,rfl⟩,h⟩,fun ⟨_,⟨x,a,rfl⟩,h⟩=>⟨x,a,h⟩⟩
def Wait_ok (hR:Real σ s)(hs:s.ok N)(hN:N<=1000000000):CF G 297 (Am p k t) ((syL p σ)) (Ret fun v q'=> ∃ σ',Real σ' (H4 s k t).1/\v= I64 (H4 s k t).2/\q'=syL p σ'):=by
 refine aE ntmps297 fun F cs=> ?_;have ho:=hR.lo;have hc:=hR.lc;have hh:=hR.lh;have a0:=hs.no;have l0:=hs.nc;have k0:=hs.nh;change X _ _ _ _ _ _ _ _ (pC p (A2 σ.ao σ σ.ac σ.ah) 247::lsH I64 3 σ.ao σ.co σ.owners::rsH cqs 1 268 σ.ac σ.cc σ.conds::stars (A7 σ)::rsH chs 3 251 σ.ah σ.ch σ.chans::stars (A5 σ)::F);rcases bK (inR k σ.conds.length) with w|w
 . have b:inR k s.conds.length:=by rw [<-hc];exact w
   obtain ⟨i,rfl⟩:=aU w.1;have o:i<σ.conds.length:=(by have:=w.2;omega);rcases bK (thr t) with z|z
   . have i0:=hs.lenC hR o hN;have e0:=hR.cl o;refine Vq (l:=σ.conds) Zq fun g e_=> ?_;rw [e_];refine Yb fun n1=> ?_
     refine Zo zeroValue34 fun n2=> ?_
     refine rn [2,0,1,2,4,5] ?_;apply Yf 2 (Qj (p:=p) (a:=(some ⟨g,0,none⟩)) (n:=σ.conds.length) (c:=σ.cc) clA clA);apply Yf 5 (Zg3 (p:=p) clA Zq o z);refine Zz ?_;apply Wn (Zvi (q:= []) (p:=p));refine kd1 fun b0=> ?_
     refine Zz ?_;have g0: ∀ x∈σ.conds,x.l.length<=1000000000:=fun x hx=>by obtain ⟨j,d,rfl⟩:=jK.1 hx;have:=hs.lenC hR d hN;omega
     refine X.range [pC b0 [pt p] 124,pC p (Ab σ.ao σ g σ.ah) 247,lsH I64 3 σ.ao σ.co σ.owners,rsH cqs 1 268 (some ⟨g,0,none⟩) σ.cc σ.conds,stars (A7 σ),rsH chs 3 251 σ.ah σ.ch σ.chans,stars (A5 σ)] (fun k:Nat=> [Wx.pure (∀ m (h:m<(wl σ).length),m<k->(wl σ)[m]≠t),pC n1 [I64 t] 3,pC n2 zz5 34]) (fun e qs=>e= .ret/\t∈wl σ/\qs= [pC n1 [I64 t] 3,pC n2 [I64 141] 34]) (F:=F) (Xo (σ:= { σ with ac:=(some ⟨g,0,none⟩) }) (by show σ.conds.length<=_;omega) g0) rfl ?_ (by intro x hx;obtain ⟨y,_,rfl⟩:=cF.1 hx;rfl) rfl (by rw [func297];rfl) rfl (fun j d l2 rec F0 m0=> ?_) (fun r=> ?_) fun r c2 j0 hJ=> ?_
     . simp only [ca,na];refine aK ?_ (Yu (fun j h d=>by omega) _);exact leA
     . have d0:j<(wl σ).length:=by have h:=d;rw [aI] at h;exact h
       rw [show ((wl { σ with ac:=some ⟨g,0,none⟩ }).map w1)[j]'d=w1 (wl σ)[j] from fN ..];refine X.sub (p':= [(24,_),(23,_),(7,_),(6,_),(5,_)]) ⟨rfl,rfl,rfl,rfl,rfl,trivial⟩ ?_;simp only [ca,na];refine cE (q':=Wx.pure (∀ m (h:m<(wl σ).length),m<j->(wl σ)[m]≠t)::lp rec l2 .ready none::_) leA (kP (fun hP=> ?_));refine Zz ?_;apply gE rfl leA;refine Wg ?_ ?_<;>intro h0
       . have h0:(wl σ)[j]=t:=by simpa using h0
         refine Zz ?_;refine iH ⟨rfl,rfl,_,⟨rfl,h0 ▸ aC d0,rfl⟩,?_⟩;simp only [ca,na];exact leA
       have h0:(wl σ)[j]≠t:=by simpa using h0
       refine Zz ?_;refine gK ⟨rfl,rfl,?_⟩;simp only [ca,na];have f0:(∀ m (h:m<(wl σ).length),m<(j+1)->(wl σ)[m]≠t):=fun k h hk=>(dN k j).elim (hP k h) (fun h1=>by have c0:k=j:=Zq;subst c0;exact h0)
       refine bC Zj (aK ?_ (Yu f0 _));exact leA
     . simp only [ca,na,aI];refine cE (q':=Wx.pure (∀ m (h:m<(wl σ).length),m<(wl σ).length->(wl σ)[m]≠t)::_) Zj (kP (fun hP=> ?_));have a0: ¬∃ l∈s.conds,t∈l:=by rw [<-hR.wl_mem];intro hm;obtain ⟨j,d,e⟩:=jK.1 hm;exact hP j d d e
       apply cE (Gt (l:=σ.conds) o);refine Zz ?_;refine dW 30 (.pointer (some ⟨g,i*1,none⟩)) rfl Zf ?_;refine Q2 4 (put_ok (f:=cqs) (sz:=1) (ty:=268) (l:=σ.conds) (i:=i) (t:=t) (m:=σ.conds[i].l) (a:=σ.conds[i].a) (c:=σ.conds[i].c) (u:=fun a c=>⟨a,c,σ.conds[i].l++ [t]⟩) o (fun _=>rfl) rfl rfl Zq (fun _ _=>rfl)) ?_;rintro _ _ ⟨a2,c2,rfl⟩ _ e_;simp only [ca,na] at e_;subst e_;refine ⟨trivial,?_⟩;refine Zz ?_;apply cE (Gd o (a:=a2) (c:=c2) (m:=σ.conds[i].l++ [t]));rw [show H4 s (i:Int) t=({ s with conds:=s.conds.set i (σ.conds[i].l++ [t]) },0) from (if_pos b).trans ((if_pos z).trans ((if_neg a0).trans (by rw [<-e0];rfl)))];refine iH ⟨rfl,Kx ?_⟩;exact fS (q':= [pC p (Ab σ.ao σ g σ.ah) 247,lsH I64 3 σ.ao σ.co σ.owners,rsH cqs 1 268 (some ⟨g,0,none⟩) σ.cc (σ.conds.set i ⟨a2,c2,σ.conds[i].l++ [t]⟩),stars ((σ.conds.set i ⟨a2,c2,σ.conds[i].l++ [t]⟩).map (lsV 3)),rsH chs 3 251 σ.ah σ.ch σ.chans,stars (A5 σ)]) func297 (Lf results297 (eD rfl (iO isAgg34 clA) fM)) ⟨_,rfl, { σ with ac:=(some ⟨g,0,none⟩),conds:=σ.conds.set i ⟨a2,c2,σ.conds[i].l++ [t]⟩ },hR.setC i ⟨a2,c2,σ.conds[i].l++ [t]⟩ _,rfl,by unfold syL;simp⟩ leA
     obtain ⟨rfl,hm,rfl⟩:=hJ;simp only [ca,na];rw [show H4 s (i:Int) t=(s,141) from (if_pos b).trans ((if_pos z).trans (if_pos ((hR.wl_mem t).1 hm)))];refine iH ⟨rfl,Kx ?_⟩;exact fS (q':= [pC p (Ab σ.ao σ g σ.ah) 247,lsH I64 3 σ.ao σ.co σ.owners,rsH cqs 1 268 (some ⟨g,0,none⟩) σ.cc σ.conds,stars (A7 σ),rsH chs 3 251 σ.ah σ.ch σ.chans,stars (A5 σ)]) func297 (Lf results297 (eD rfl (iO isAgg34 clA) fM)) ⟨_,rfl,σ,hR,rfl,by unfold syL;rw [e_]⟩ leA
   refine Yb fun n1=> ?_
   refine Zo zeroValue34 fun n2=> ?_
   refine rn [2,0,1,2,4,5] ?_;apply Yf 2 (Qj (p:=p) (a:=σ.ac) (n:=σ.conds.length) (c:=σ.cc) clA clA);apply Yf 5 (Zw1 (p:=p) clA Zq o z);refine Zz ?_;rw [show H4 s _ t=(s,2) from (if_pos b).trans (if_neg z)];refine Zg ?_;exact ⟨_,⟨_,rfl,σ,hR,rfl,rfl⟩,leA⟩
 have b: ¬inR k s.conds.length:=by rw [<-hc];exact w
 refine Yb fun n1=> ?_
 refine Zo zeroValue34 fun n2=> ?_
 refine rn [2,0,1,2,4,5] ?_;apply Yf 2 (Qj (p:=p) (a:=σ.ac) (n:=σ.conds.length) (c:=σ.cc) clA clA);apply Yf 5 (Zw0 (p:=p) clA Zq w);refine Zz ?_;rw [show H4 s _ t=(s,4) from if_neg b];refine Zg ?_;exact ⟨_,⟨_,rfl,σ,hR,rfl,rfl⟩,leA⟩
end
def Of {α:Type}(h:α->HP)(l:List α)(hx: ∀ x∈l,∀ q,Le q (h x::q))(q:List HP):Le q (stars (l.map h)::q):=by
 induction l with
 |nil=>exact Y9 q
 |cons x r ih=>exact (ih fun y a=>hx y (bQ _ a)).trans ((hx x (bO ..) _).trans (Q5 _ _ q))
def Pf {α:Type}(f d:List α)(i:Nat)(x:α)(hf:f.length=i)(hd:0<d.length):(f++d).set i x=(f++ [x])++d.drop 1:=by
 subst hf
 cases d with
 |nil=>simp at hd
 |cons y r=>simp
section
variable {v m:Int}
def sameS (s t:Sy):Prop:=s.owners=t.owners/\s.conds=t.conds/\s.chans.map Ch.row=t.chans.map Ch.row
instance (s t:Sy):Decidable (sameS s t):=by unfold sameS;exact inferInstance
end
def Fr (m c:Nat)(rooms:List Int):Sy:=⟨List.replicate m (-1),List.replicate c [],rooms.map fun r=>⟨r, [],0⟩⟩
abbrev Lx (r:Int):Prop:=1<=r/\r<=16
def Bn (m c:Int)(rooms:List Int):Prop:=(0<=m/\m<=64)/\(0<=c/\c<=64)/\rooms.length<=64/\ ∀ r∈rooms,Lx r
instance (m c:Int) (rooms:List Int):Decidable (Bn m c rooms):=by unfold Bn;exact inferInstance
def newS_ok {m:Nat}(h:Bn m c rooms):(Fr m c rooms).ok 0:=by
 obtain ⟨⟨_,n⟩,⟨_,k⟩,j,i⟩:=h;refine ⟨by simp [Fr];omega,by simp [Fr];omega,by simp [Fr];omega,fun o f=> ?_,fun l g=> ?_,fun x d=> ?_⟩
 . have:=(List.mem_replicate.1 f).2;omega
 . have:=(List.mem_replicate.1 g).2;subst this;simp
 obtain ⟨r,e,rfl⟩:=cF.1 d;obtain ⟨a,b⟩:=i r e;exact ⟨⟨a,b⟩,Zf,Zf,by simp [Ch.items];omega,Zf⟩
def ch1 (r:Int):ChC:=⟨⟨none,0, []⟩,r,0⟩
section
variable {v m mm cc:Int}
def New_no (hs:Sees q a (rooms.map I64))(ok: ¬Bn mm cc rooms):CR G 53 [I64 mm,I64 cc,.slice a rooms.length c] (q) (.tuple [.pointer none,I64 2].toArray):=by
 refine We ntmps53 fun F cs=> ?_;refine' Yi ?_;refine Zz ?_;refine' Yi ?_;refine Zz ?_;refine' Yi ?_;refine Zz ?_;refine' Yi ?_;refine Zz ?_;rcases bK ((0<=mm/\mm<=64)/\(0<=cc/\cc<=64)/\rooms.length<=64) with x|x
 . obtain ⟨⟨t,a0⟩,⟨v,e0⟩,hl⟩:=x;refine Ye ?_;obtain ⟨M,rfl⟩:=aU t;obtain ⟨C,rfl⟩:=aU v;refine Ye ?_;apply bU (Ef.make (n:=C) rfl rfl underlying244 jG rfl rfl Zq Zq);rintro _ _ ⟨g,rfl,rfl⟩;refine eN (q':=rsH cqs 1 268 (some ⟨g,0,none⟩) C (List.replicate C ⟨none,0, []⟩)::(q++F)) (by unfold rsH;rw [show (List.replicate C (⟨none,0, []⟩:SlV Int)).flatMap cqs=(List.replicate C (Value.slice none 0 0).cells.toList).flatten by simp [List.flatMap,cqs,Value.cells],dA];exact leA) ?_;refine Yb fun p=> ?_
   refine Zz ?_;refine cH (bW (fun (s:Nat×Option Addr×Nat)=>s.1<=M) (fun s=> [(2,.slice a rooms.length c),(8,pt p),(34,I64 M),(35,I64 (s.1:Int))]) (fun s=>pC p [.bool true,.slice s.2.1 (List.replicate s.1 (-1:Int)).length s.2.2,.slice (some ⟨g,0,none⟩) C C,.slice none 0 0] 247::lsH I64 3 s.2.1 s.2.2 (List.replicate s.1 (-1))::rsH cqs 1 268 (some ⟨g,0,none⟩) C (List.replicate C ⟨none,0, []⟩)::(q++F)) (fun s=>M - s.1) (fun s b e=> ?_) (0,none,0) Zy) Z5 (aK leA (aK (Yy I64 3 _) leA));try dsimp only at b e|-
   obtain hi:=b;obtain ⟨i,a1,z⟩:=s;dsimp only at*;refine Wg ?_ ?_<;>intro d
   . have d:=cY d;have d0:i<M:=Zq;refine Zz ?_;apply bU (Qd (u:= -1) I64 underlying23 gP rfl rfl);rintro _ _ ⟨g2,rfl,rfl⟩;apply bU (Wu (f:=I64) (l:=List.replicate i (-1)) (m:= [-1]) underlying23 gP rfl rfl rfl Zj ((bV _).le leA) (fun _=>rfl) Zi Zi);rintro _ _ ⟨a2,c2,rfl,rfl⟩;rw [<-lG (n:=i)];refine Zs (e (i+1,a2,c2) Zy Zy)
   have d:=of_decide_eq_false d;obtain rfl:i=M:=Zq;clear e;refine Zz ?_;refine cH (bW (fun (s:Nat×Option Addr×Nat)=>s.1<=rooms.length/\ ∀ r∈rooms.take s.1,Lx r) (fun s=> [(8,pt p),(47,.slice a rooms.length c),(48,I64 rooms.length),(49,I64 (s.1:Int))]) (fun s=>pC p [.bool true,.slice a1 (List.replicate i (-1:Int)).length z,.slice (some ⟨g,0,none⟩) C C,.slice s.2.1 ((rooms.take s.1).map ch1).length s.2.2] 247::lsH I64 3 a1 z (List.replicate i (-1))::rsH cqs 1 268 (some ⟨g,0,none⟩) C (List.replicate C ⟨none,0, []⟩)::rsH chs 3 251 s.2.1 s.2.2 ((rooms.take s.1).map ch1)::(q++F)) (fun s=>rooms.length - s.1) (fun s b e=> ?_) (0,none,0) ⟨Zy,Zf⟩) Z5 (aK leA (aK (Zc chs 3 251 _) leA));try dsimp only at b e|-
   obtain ⟨c0,o⟩:=b;obtain ⟨j,a3,c3⟩:=s;dsimp only at*;refine Wg ?_ ?_<;>intro d
   . have d:=cY d;have k:j<rooms.length:=Zq;refine Yq (hs.le leA) Zi fun b1 o1 e_=> ?_;subst e_;refine Zz ?_;refine' Yi ?_;refine Zz ?_;rcases bK (Lx rooms[j]) with w|w
     . refine Zz ?_;apply bU (Yw (u:=ch1 rooms[j]) chs underlying245 gQ rfl rfl (fun _=>rfl) rfl);rintro _ _ ⟨g2,rfl,rfl⟩;have b0:((rooms.take j).map ch1).length=j:=by simp;omega
       apply bU (Z9 (l:=(rooms.take j).map ch1) (m:= [ch1 rooms[j]]) underlying245 gQ rfl rfl (fun _=>rfl) rfl rfl Zj ((bJ _).le leA) (fun _=>rfl) Zi Zi);rintro _ _ ⟨a4,c4,rfl,rfl⟩;rw [show (rooms.take j).map ch1++ [ch1 rooms[j]]=(rooms.take (j+1)).map ch1 by rw [aM k,aN];rfl];refine Zs (e (j+1,a4,c4) ⟨Zy,by dsimp only;rw [aM k];intro y h;rcases bP.1 h with h|h;exact o y h;rw [bE.1 h];exact w⟩ Zy)
     exact Vz q
   have d:=of_decide_eq_false d;obtain rfl:j=rooms.length:=Zq;rw [bR] at*;exact aV ⟨⟨Zq,Zq⟩,⟨Zq,Zq⟩,hl,o⟩ ok
 exact Vz q
def New_ok (hs:Sees q a (rooms.map I64))(ok:Bn mm cc rooms):CF G 53 [I64 mm,I64 cc,.slice a rooms.length c] (q) (Ret fun v q'=> ∃ p σ,Real σ (Fr mm.toNat cc.toNat rooms)/\v= .tuple [pt p,I64 0].toArray/\q'=syL p σ++q):=by
 refine We ntmps53 fun F cs=> ?_;refine' Yi ?_;refine Zz ?_;refine' Yi ?_;refine Zz ?_;refine' Yi ?_;refine Zz ?_;refine' Yi ?_;refine Zz ?_;rcases bK ((0<=mm/\mm<=64)/\(0<=cc/\cc<=64)/\rooms.length<=64) with hf|hf
 . obtain ⟨⟨z,c0⟩,⟨b0,g0⟩,hl⟩:=hf;refine Ye ?_;obtain ⟨M,rfl⟩:=aU z;obtain ⟨C,rfl⟩:=aU b0;refine Ye ?_;apply bU (Ef.make (n:=C) rfl rfl underlying244 jG rfl rfl Zq Zq);rintro _ _ ⟨g,rfl,rfl⟩;refine eN (q':=rsH cqs 1 268 (some ⟨g,0,none⟩) C (List.replicate C ⟨none,0, []⟩)::(q++F)) (by unfold rsH;rw [show (List.replicate C (⟨none,0, []⟩:SlV Int)).flatMap cqs=(List.replicate C (Value.slice none 0 0).cells.toList).flatten by simp [List.flatMap,cqs,Value.cells],dA];exact leA) ?_;refine Yb fun h=> ?_
   refine Zz ?_;refine cH (bW (fun (s:Nat×Option Addr×Nat)=>s.1<=M) (fun s=> [(2,.slice a rooms.length c),(8,pt h),(34,I64 M),(35,I64 (s.1:Int))]) (fun s=>pC h [.bool true,.slice s.2.1 (List.replicate s.1 (-1:Int)).length s.2.2,.slice (some ⟨g,0,none⟩) C C,.slice none 0 0] 247::lsH I64 3 s.2.1 s.2.2 (List.replicate s.1 (-1))::rsH cqs 1 268 (some ⟨g,0,none⟩) C (List.replicate C ⟨none,0, []⟩)::(q++F)) (fun s=>M - s.1) (fun s b k=> ?_) (0,none,0) Zy) Z5 (aK leA (aK (Yy I64 3 _) leA));try dsimp only at b k|-
   obtain hi:=b;obtain ⟨i,w,t⟩:=s;dsimp only at*;refine Wg ?_ ?_<;>intro d
   . have d:=cY d;have f0:i<M:=Zq;refine Zz ?_;apply bU (Qd (u:= -1) I64 underlying23 gP rfl rfl);rintro _ _ ⟨g2,rfl,rfl⟩;apply bU (Wu (f:=I64) (l:=List.replicate i (-1)) (m:= [-1]) underlying23 gP rfl rfl rfl Zj ((bV _).le leA) (fun _=>rfl) Zi Zi);rintro _ _ ⟨a2,c2,rfl,rfl⟩;rw [<-lG (n:=i)];refine Zs (k (i+1,a2,c2) Zy Zy)
   have d:=of_decide_eq_false d;obtain rfl:i=M:=Zq;clear k;refine Zz ?_;refine cH (bW (fun (s:Nat×Option Addr×Nat)=>s.1<=rooms.length/\ ∀ r∈rooms.take s.1,Lx r) (fun s=> [(8,pt h),(47,.slice a rooms.length c),(48,I64 rooms.length),(49,I64 (s.1:Int))]) (fun s=>pC h [.bool true,.slice w (List.replicate i (-1:Int)).length t,.slice (some ⟨g,0,none⟩) C C,.slice s.2.1 ((rooms.take s.1).map ch1).length s.2.2] 247::lsH I64 3 w t (List.replicate i (-1))::rsH cqs 1 268 (some ⟨g,0,none⟩) C (List.replicate C ⟨none,0, []⟩)::rsH chs 3 251 s.2.1 s.2.2 ((rooms.take s.1).map ch1)::(q++F)) (fun s=>rooms.length - s.1) (fun s b k=> ?_) (0,none,0) ⟨Zy,Zf⟩) Z5 (aK leA (aK (Zc chs 3 251 _) leA));try dsimp only at b k|-
   obtain ⟨e0,a0⟩:=b;obtain ⟨j,a3,c3⟩:=s;dsimp only at*;refine Wg ?_ ?_<;>intro d
   . have d:=cY d;have e:j<rooms.length:=Zq;refine Yq (hs.le leA) Zi fun b1 o1 e_=> ?_;subst e_;refine Zz ?_;refine' Yi ?_;refine Zz ?_;rcases bK (Lx rooms[j]) with hk|hk
     . refine Zz ?_;apply bU (Yw (u:=ch1 rooms[j]) chs underlying245 gQ rfl rfl (fun _=>rfl) rfl);rintro _ _ ⟨g2,rfl,rfl⟩;have d0:((rooms.take j).map ch1).length=j:=by simp;omega
       apply bU (Z9 (l:=(rooms.take j).map ch1) (m:= [ch1 rooms[j]]) underlying245 gQ rfl rfl (fun _=>rfl) rfl rfl Zj ((bJ _).le leA) (fun _=>rfl) Zi Zi);rintro _ _ ⟨a4,c4,rfl,rfl⟩;rw [show (rooms.take j).map ch1++ [ch1 rooms[j]]=(rooms.take (j+1)).map ch1 by rw [aM e,aN];rfl];refine Zs (k (j+1,a4,c4) ⟨Zy,by dsimp only;rw [aM e];intro y o;rcases bP.1 o with o|o;exact a0 y o;rw [bE.1 o];exact hk⟩ Zy)
     exact aV (ok.2.2.2 _ (aC e)) hk
   have d:=of_decide_eq_false d;obtain rfl:j=rooms.length:=Zq;rw [bR] at*;refine Zz ?_;refine cE (Zzm (lsV 3) ⟨none,0, []⟩ (fun q=>Yy I64 3 q) C _) ?_;refine cE (Of (fun (x:ChC)=>lsV 2 x.q) (rooms.map ch1) (fun x hx q=>by obtain ⟨r,_,rfl⟩:=cF.1 hx;exact Yy I64 2 q) _) ?_;refine Zm ([pC h [.bool true,.slice w (List.replicate i (-1:Int)).length t,.slice (some ⟨g,0,none⟩) C C,.slice a3 (rooms.map ch1).length c3] 247,lsH I64 3 w t (List.replicate i (-1:Int)),rsH cqs 1 268 (some ⟨g,0,none⟩) C (List.replicate C (⟨none,0, []⟩:SlV Int)),stars ((List.replicate C (⟨none,0, []⟩:SlV Int)).map (lsV 3)),rsH chs 3 251 a3 c3 (rooms.map ch1),stars ((rooms.map ch1).map fun x=>lsV 2 x.q)]++q) ?_;exact ⟨_,rfl,h,⟨w,t,List.replicate i (-1),some ⟨g,0,none⟩,C,List.replicate C ⟨none,0, []⟩,a3,c3,rooms.map ch1⟩,⟨rfl,by simp [Fr],by simp [Fr,ch1,ChC.row,Ch.row,Ch.items,Function.comp_def]⟩,rfl,by unfold syL;simp⟩
 exact aV ⟨ok.1,ok.2.1,ok.2.2.1⟩ hf
def Copy_ok (hR:Real σ s)(hs:s.ok N)(hN:N<=1000000000):CF G 122 [pt p] ((syL p σ)) (Ret fun v q'=> ∃ p2 σ2,Real σ2 s/\v= pt p2/\q'=syL p2 σ2++syL p σ):=by
 refine aE ntmps122 fun F cs=> ?_;have ho:=hR.lo;have hc:=hR.lc;have hh:=hR.lh;have l0:=hs.no;have n0:=hs.nc;have m0:=hs.nh;change X _ _ _ _ _ _ _ _ (pC p (A2 σ.ao σ σ.ac σ.ah) 247::lsH I64 3 σ.ao σ.co σ.owners::rsH cqs 1 268 σ.ac σ.cc σ.conds::stars (A7 σ)::rsH chs 3 251 σ.ah σ.ch σ.chans::stars (A5 σ)::F);refine Zz ?_;apply bD (Z6 (p:=p) clA);refine rn [2,1008,3,0,1,2,3,4,6,7,8,9,11,12,13,14] ?_;apply Wk 4 (aG _) (Ha (l:=σ.owners) (a:=σ.ao) (c:=σ.co) ((bV _).le leA) Zq);refine kk2 fun a0 w=> ?_
 apply Wk 9 (aG _) (Zh2 (l:=σ.conds) (a:=σ.ac) (c:=σ.cc) ((bJ _).le leA) Zq);refine kk2 fun t y=> ?_
 apply Wk 14 (aG _) (Zh1 (l:=σ.chans) (a:=σ.ah) (c:=σ.ch) ((bJ _).le leA) Zq);refine kk2 fun r ch1=> ?_
 refine Zz ?_;refine XD.bx 16 fun n1=> ?_;refine Zz ?_;refine cH (bW (fun (d:List (SlV Int))=>d.length<=σ.conds.length/\d.map (fun (x:SlV Int)=>x.l)=(σ.conds.take d.length).map (fun (x:SlV Int)=>x.l)) (fun d=> [(0,pt p),(3,pt n1),(30,I64 σ.conds.length),(31,I64 d.length)]) (fun d=>rsH cqs 1 268 t y (d++σ.conds.drop d.length)::stars (d.map (lsV 3))::pC n1 [.bool true,.slice a0 σ.owners.length w,.slice t σ.conds.length y,.slice r σ.chans.length ch1] 247::lsH I64 3 a0 w σ.owners::rsH chs 3 251 r ch1 σ.chans::pC p (A2 σ.ao σ σ.ac σ.ah) 247::lsH I64 3 σ.ao σ.co σ.owners::rsH cqs 1 268 σ.ac σ.cc σ.conds::stars (A7 σ)::rsH chs 3 251 σ.ah σ.ch σ.chans::stars (A5 σ)::F) (fun d=>σ.conds.length - d.length) (fun d d0 ih=> ?_) [] ⟨Zf,Zf⟩) Z5 (by simp only [bL,iD,aT];exact aK leA (aK (Y9 _) leA));try dsimp only at d0 ih|-
 obtain ⟨i0,f0⟩:=d0;have g0:(d++σ.conds.drop d.length).length=σ.conds.length:=by simp;omega
 refine Wg ?_ ?_<;>intro h0
 . have h0:=cY h0;have e:d.length<σ.conds.length:=Zq;refine Vq (l:=d++σ.conds.drop d.length) (ty:=268) (fl:=cqs) (a:=t) Zq fun g2 e2=> ?_;rw [e2];refine Vq (l:=σ.conds) (ty:=268) (fl:=cqs) (a:=σ.ac) Zq fun g e_=> ?_;rw [e_];apply cE (Gt e);have k0:σ.conds[d.length].l.length<=1000000000:=hs.lenC hR e hN;refine Zz ?_;refine dW 45 (.pointer (some ⟨g,d.length*1,none⟩)) rfl Zf ?_;apply Q2 12 (all_ok (f:=cqs) (sz:=1) (ty:=268) (g:=g) (l:=σ.conds) (i:=d.length) (m:=σ.conds[d.length].l) (a:=σ.conds[d.length].a) (c:=σ.conds[d.length].c) e (fun _=>rfl) rfl rfl Zq);refine kd2 fun a5 z=> ?_
   refine ⟨hlA,?_⟩;refine Zz ?_;have j0:(d++σ.conds.drop d.length)[d.length]'Zq=σ.conds[d.length]:=by rw [fI (aS _)];simp
   refine gL 16 rfl (Wq (g:=g2) (f:=cqs) (sz:=1) (l:=d++σ.conds.drop d.length) (u:=(⟨a5,z,σ.conds[d.length].l⟩:SlV Int)) (n:=d.length) (k:=0) (j:=(d.length:Int)) (by simp [evp,lkp]) rfl sizeOf23 (fun _=>rfl) rfl Zq rfl (by rw [j0];rfl) rfl rfl Zj) ?_;refine kk0 ?_;refine Zz ?_;rw [Pf d _ d.length (⟨a5,z,σ.conds[d.length].l⟩:SlV Int) rfl Zi,fZ];apply cE (Gd e (a:=σ.conds[d.length].a) (c:=σ.conds[d.length].c) (m:=σ.conds[d.length].l));rw [show σ.conds.set d.length ⟨σ.conds[d.length].a,σ.conds[d.length].c,σ.conds[d.length].l⟩=σ.conds from eG e];refine cE (q':=stars ((d++ [(⟨a5,z,σ.conds[d.length].l⟩:SlV Int)]).map (lsV 3))::_) (aK (show Le _ (stars (d.map (lsV 3))::(lsV 3) (⟨a5,z,σ.conds[d.length].l⟩:SlV Int)::_) from bC Zj Zj) (Q4 (lsV 3) d (⟨a5,z,σ.conds[d.length].l⟩:SlV Int) _)) ?_;rw [<-e2,<-e_];rw [show d.length+1=(d++ [(⟨a5,z,σ.conds[d.length].l⟩:SlV Int)]).length by simp];refine Zs (ih (d++ [(⟨a5,z,σ.conds[d.length].l⟩:SlV Int)]) ⟨Zi,by rw [aA,cI,aM e,aN,aN,f0];rfl⟩ Zi)
 have h0:=of_decide_eq_false h0;have c0:d.length=σ.conds.length:=Zq;rw [c0,bR] at f0;rw [c0,dU,cA];clear ih g0 h0 i0;refine Zz ?_;refine cH (bW (fun (b:List ChC)=>b.length<=σ.chans.length/\b.map (ChC.row)=(σ.chans.take b.length).map (ChC.row)) (fun b=> [(0,pt p),(3,pt n1),(55,I64 σ.chans.length),(56,I64 b.length)]) (fun b=>rsH chs 3 251 r ch1 (b++σ.chans.drop b.length)::stars (b.map fun x=>lsV 2 x.q)::pC n1 [.bool true,.slice a0 σ.owners.length w,.slice t σ.conds.length y,.slice r σ.chans.length ch1] 247::lsH I64 3 a0 w σ.owners::rsH cqs 1 268 t y d::stars (d.map (lsV 3))::pC p (A2 σ.ao σ σ.ac σ.ah) 247::lsH I64 3 σ.ao σ.co σ.owners::rsH cqs 1 268 σ.ac σ.cc σ.conds::stars (A7 σ)::rsH chs 3 251 σ.ah σ.ch σ.chans::stars (A5 σ)::F) (fun b=>σ.chans.length - b.length) (fun b d0 ih=> ?_) [] ⟨Zf,Zf⟩) Z5 (by simp only [bL,iD,aT];exact aK leA (aK (Y9 _) leA));try dsimp only at d0 ih|-
 obtain ⟨i0,e0⟩:=d0;have g0:(b++σ.chans.drop b.length).length=σ.chans.length:=by simp;omega
 refine Wg ?_ ?_<;>intro h0
 . have h0:=cY h0;have e:b.length<σ.chans.length:=Zq;refine Vq (l:=b++σ.chans.drop b.length) (ty:=251) (fl:=chs) (a:=r) Zq fun g2 e2=> ?_;rw [e2];refine Vq (l:=σ.chans) (ty:=251) (fl:=chs) (a:=σ.ah) Zq fun g e_=> ?_;rw [e_];apply cE (Po e);have k0:σ.chans[b.length].q.l.length<=1000000000:=hs.lenH hR e hN;refine Zz ?_;refine dW 70 (.pointer (some ⟨g,b.length*3,none⟩)) rfl Zf ?_;apply Q2 12 (Zkn (f:=chs) (sz:=3) (ty:=251) (g:=g) (l:=σ.chans) (i:=b.length) (m:=σ.chans[b.length].q.l) (a:=σ.chans[b.length].q.a) (c:=σ.chans[b.length].q.c) e (fun _=>rfl) rfl rfl Zq);refine kd2 fun a5 z=> ?_
   refine ⟨hlA,?_⟩;refine Zz ?_;have j0:(b++σ.chans.drop b.length)[b.length]'Zq=σ.chans[b.length]:=by rw [fI (aS _)];simp
   refine gL 16 rfl (Wq (g:=g2) (f:=chs) (sz:=3) (l:=b++σ.chans.drop b.length) (u:=(⟨⟨a5,z,σ.chans[b.length].q.l⟩,σ.chans[b.length].room,σ.chans[b.length].sent⟩:ChC)) (n:=b.length) (k:=0) (j:=(b.length:Int)) (by simp [evp,lkp]) rfl sizeOf22 (fun _=>rfl) rfl Zq rfl (by rw [j0];rfl) rfl rfl Zj) ?_;refine kk0 ?_;refine Zz ?_;rw [Pf b _ b.length (⟨⟨a5,z,σ.chans[b.length].q.l⟩,σ.chans[b.length].room,σ.chans[b.length].sent⟩:ChC) rfl Zi,fZ];apply cE (Gc e σ.chans[b.length]);rw [show σ.chans.set b.length σ.chans[b.length]=σ.chans from eG e];refine cE (q':=stars ((b++ [(⟨⟨a5,z,σ.chans[b.length].q.l⟩,σ.chans[b.length].room,σ.chans[b.length].sent⟩:ChC)]).map (fun (x:ChC)=>lsV 2 x.q))::_) (aK (show Le _ (stars (b.map (fun (x:ChC)=>lsV 2 x.q))::(fun (x:ChC)=>lsV 2 x.q) (⟨⟨a5,z,σ.chans[b.length].q.l⟩,σ.chans[b.length].room,σ.chans[b.length].sent⟩:ChC)::_) from bC Zj Zj) (Q4 (fun (x:ChC)=>lsV 2 x.q) b (⟨⟨a5,z,σ.chans[b.length].q.l⟩,σ.chans[b.length].room,σ.chans[b.length].sent⟩:ChC) _)) ?_;rw [<-e2,<-e_];rw [show b.length+1=(b++ [(⟨⟨a5,z,σ.chans[b.length].q.l⟩,σ.chans[b.length].room,σ.chans[b.length].sent⟩:ChC)]).length by simp];refine Zs (ih (b++ [(⟨⟨a5,z,σ.chans[b.length].q.l⟩,σ.chans[b.length].room,σ.chans[b.length].sent⟩:ChC)]) ⟨Zi,by rw [aA,cI,aM e,aN,aN,e0];rfl⟩ Zi)
 have h0:=of_decide_eq_false h0;have b0:b.length=σ.chans.length:=Zq;rw [b0,bR] at e0;rw [b0,dU,cA];clear ih g0 h0 i0;refine Zm ([pC n1 [.bool true,.slice a0 σ.owners.length w,.slice t σ.conds.length y,.slice r σ.chans.length ch1] 247,lsH I64 3 a0 w σ.owners,rsH cqs 1 268 t y d,stars (d.map (lsV 3)),rsH chs 3 251 r ch1 b,stars (b.map fun x=>lsV 2 x.q),pC p (A2 σ.ao σ σ.ac σ.ah) 247,lsH I64 3 σ.ao σ.co σ.owners,rsH cqs 1 268 σ.ac σ.cc σ.conds,stars (A7 σ),rsH chs 3 251 σ.ah σ.ch σ.chans,stars (A5 σ)]) ?_;exact ⟨_,rfl,n1,⟨a0,w,σ.owners,t,y,d,r,ch1,b⟩,⟨hR.o,f0.trans hR.c,e0.trans hR.h⟩,rfl,by unfold syL;simp [c0,b0]⟩
end
def He (b:Bool):Int:=if b then 1 else 0
def Uf (op a b:Int):Int×Int:=
 if op=3 then (He (decide (a=b)),0) else if op=4 then (He (decide (a≠b)),0) else if op=5 then (He (decide (a<b)),0) else if op=6 then (He (decide (a<=b)),0)
 else if (op=10\/op=11)/\b=0 then (0,1)
 else let n:=if op=7 then a+b else if op=8 then a - b else if op=9 then a*b else if op=10 then a.tdiv b else a.tmod b
  if val n then (n,0) else (0,2)
def Wy (l:List Int):Int:=l.foldr (· + ·) 0
abbrev Ac:=Int×Bool×Int
abbrev Sn:=Int×Int×Int
structure PTr where
 decl:Int
 st:Int
 loc:List Int
 left:List PStm
 sp:List Int
structure POut where
 kind:Int
 trap:Int
 th:Int
 stmt:Int
 deriving DecidableEq
structure SS where
 cells:List Int
 sy:Sy
 ths:List PTr
 out:POut
structure PEv where
 th:Int
 stmt:Int
 woke:Bool
 trap:Int
 told:Bool
 outv:Int
 value:Int
 acc:List Ac
 syn:List Sn
structure PPr where
 vars:List Int
 arrs:List Int
 room:List Int
 mu:Int
 co:Int
 main:Int
 ths:List (Int×List PStm)
abbrev Hs:PStm:= .mk 0 0 0 em em (.mk 0 0 em 0 false 0 []) (.mk 0 0 em 0 false 0 []) [] [] 0 0 0 false
abbrev zTr:PTr:=⟨0,0, [], [], []⟩
def SS.th (s:SS)(n:Nat):PTr:=s.ths.getD n zTr
def PTr.next (t:PTr):PStm:=t.left.headD Hs
def SS.can (p:PPr)(s:SS)(n:Nat):Bool:=
 let t:=s.th n
 if s.out.kind=4\/t.st=2\/t.st=4 then false
 else match t.next with
 | .mk k _ _ _ _ _ _ _ _ _ slot other _=>
  if t.st=3 then s.sy.owners.getD other.toNat 0== -1
  else if k=6 then s.sy.owners.getD slot.toNat 0== -1||s.sy.owners.getD slot.toNat 0==n
  else if k=11 then decide (((s.sy.chans.getD slot.toNat ch0).items.length:Int)<p.room.getD slot.toNat 0)
  else if k=12 then decide (0<(s.sy.chans.getD slot.toNat ch0).items.length)
  else if k=14 then t.sp.all fun i=>(s.th i.toNat).st==4
  else true
def Zq6 (p:PPr)(d:Int):PTr:=
 let b:=p.ths.getD d.toNat (0, [])
 ⟨d,if b.2= [] then 4 else 1,List.replicate b.1.toNat 0,b.2, []⟩
def zEv (n id:Int):PEv:=⟨n,id,false,0,false,0,0, [], []⟩
def PStm.idn:PStm->Int
 | .mk _ _ _ _ _ _ _ _ _ id _ _ _=>id
def PStm.kd:PStm->Int
 | .mk k _ _ _ _ _ _ _ _ _ _ _ _=>k
def PStm.oth:PStm->Int
 | .mk _ _ _ _ _ _ _ _ _ _ _ other _=>other
end Go.Proofs.YtadahhbefdnabaaGreatDoor
namespace Go.Proofs.YtadahhbefdnabaaGreatDoor
open Go Go.RowKit Wx Go.Proofs.Tryz
attribute [local irreducible] lsH rsH stars
variable {a:Option Addr}{b n c sz i k o s pc m1 m2 B N nb:Nat}{G w:World}{q:List HP}{op d:Int}{bb:Bool}{v:Value}{M:Hp}{vs ws pre post:List Value}{x:Stm}{l:List PStm}{m:List Stm}{e:Ex}{L:List (Int×PStm)}{J:Nat->HP}{Jf:HP->Prop}
def Zyx {a b}(ha:val a)(hb:val b): -4611686018427387904<=a*b/\a*b<=4611686018427387904:=by
 unfold val at ha hb;have e:a*b<=a.natAbs*b.natAbs:=by rw [<-Int.natCast_mul,<-Int.natAbs_mul];omega
 have d: -(a.natAbs*b.natAbs:Int)<=a*b:=by rw [<-Int.natCast_mul,<-Int.natAbs_mul];omega
 have c:(a.natAbs:Int)*b.natAbs<=2147483648*2147483648:=by
  rw [<-Int.natCast_mul];have:a.natAbs*b.natAbs<=2147483648*2147483648:=Nat.mul_le_mul Zq Zq;omega
 omega
def Zyb {a b:Int}(ha:val a): -2147483648<=a.tdiv b/\a.tdiv b<=2147483648:=by
 unfold val at ha;have h:=Int.natAbs_tdiv_le_natAbs a b;omega
def Zyy {a b:Int}(ha:val a): -2147483648<=a.tmod b/\a.tmod b<=2147483648:=by
 unfold val at ha;have h:(a.tmod b).natAbs<=a.natAbs:=by rw [Int.natAbs_tmod];exact Nat.mod_le _ _
 omega
def P5 (k:Int):PanicEntry:= { v:= .iface 284 (.agg [I64 k].toArray),recovered:=false }
def noVE:PanicEntry:= { v:= .iface 486 (.agg [].toArray),recovered:=false }
section
variable {n c u z:Int}
def Nr:CR G 229 [I64 n,I64 c] (q) (.bool (decide (0<=n/\n<c))):=by
 refine We ntmps229 fun F a=> ?_;refine' Vo ?_;refine Zm (q) ?_;exact ⟨_,rfl,cB (by rw [cD];simp),rfl⟩
def Gi:CR G 211 [.bool bb] (q) (I64 (He bb)):=by
 refine aE ntmps211 fun F b=> ?_;refine Wg ?_ ?_<;>intro a
 . refine Zm (q) ?_;exact ⟨_,rfl,by rw [show bb=true by simpa using a];rfl,rfl⟩
 refine Zm (q) ?_;exact ⟨_,rfl,by rw [show bb=false by simpa using a];rfl,rfl⟩
def Km:CR G 328 [.bool bb] (q) (I64 (He bb)):=by
 refine aE ntmps328 fun F b=> ?_;refine Wg ?_ ?_<;>intro a
 . refine Zm (q) ?_;exact ⟨_,rfl,by rw [show bb=true by simpa using a];rfl,rfl⟩
 refine Zm (q) ?_;exact ⟨_,rfl,by rw [show bb=false by simpa using a];rfl,rfl⟩
def Rk:CF G 258 [I64 z] (q) (RP (fun _ _=>False) (fun ch q'=>ch= [P5 z]/\q'=q)):=by
 refine We ntmps258 fun F a=> ?_;exact Zb2 (Pn.panic rfl) (cZ func258 (dZ ⟨rfl,rfl⟩))
def Mn:CF G 210 [I64 z] (q) (RP (fun v q'=>(val z/\v= I64 z)/\q'=q) (fun ch q'=>(¬val z/\ch= [P5 2])/\q'=q)):=by
 refine We ntmps210 fun F b=> ?_;refine' Yi ?_;refine Zp ?_ ?_<;>intro a
 . refine Zz ?_;refine Vj (aG _) (Rk) ?_ ?_
   . rintro _ _ ⟨rfl,rfl⟩;exact cZ func210 (dZ ⟨⟨(by unfold val;omega),rfl⟩,rfl⟩)
   rintro _ _ ⟨⟩
 refine Zm (q) ?_;exact (dC ⟨⟨(by unfold val;omega),rfl⟩,rfl⟩)
def Mp:CF G 327 [I64 z] (q) (RP (fun v q'=>(val z/\v= I64 z)/\q'=q) (fun ch q'=>(¬val z/\ch= [noVE])/\q'=q)):=by
 refine We ntmps327 fun F b=> ?_;refine' Yi ?_;refine Zp ?_ ?_<;>intro a
 . refine Zz ?_;exact Zb2 (Pn.panic rfl) (cZ func327 (dZ ⟨⟨(by unfold val;omega),rfl⟩,rfl⟩))
 refine Zm (q) ?_;exact (dC ⟨⟨(by unfold val;omega),rfl⟩,rfl⟩)
end
section
variable {n c lo:Int}{pa pp:Nat}{x1:Value}{g:FC}
def Pl (ha:CellsAt q pa 0 [pt pp,x1,I64 lo])(hp:CellsAt q pp 0 (pgC g)):CR G 309 [pt pa,I64 n,.bool bb] (q) (.bool (decide (0<=n/\n<if bb=true then lo else (g.vars.l.length:Int)))):=by
 refine aE ntmps309 fun F d=> ?_;refine Zp ?_ ?_<;>intro b
 . refine Zz ?_;apply bD (Nr);refine Zm (q) ?_;exact ⟨_,rfl,by rw [if_pos b],rfl⟩
 refine Ye ?_;apply aX 21 (.slice g.vars.a g.vars.l.length g.vars.c) rfl (rfl);refine Ye ?_;apply bD (Nr);refine Zm (q) ?_;exact ⟨_,rfl,by rw [if_neg (by rw [b];decide)],rfl⟩
end
def ExAt (M:Hp)(a:Addr)(e:Ex):Prop:=SeesZ M (some a) (exC e)/\e.At M
def StAt (M:Hp)(a:Addr)(s:Stm):Prop:=SeesZ M (some a) (stC s)/\s.At M
def Tc (h:SeesZ M a vs)(k:SeesZ M a ws)(e:vs.length=ws.length):vs=ws:=by
 apply kM ;intro i;by_cases hi:i<vs.length
 . obtain ⟨b,o,p,ty,n,m,l⟩:=h i vs[i] (aB hi);obtain ⟨r,q,g,j,f,d,c⟩:=k i (ws[i]'(e ▸ hi)) (aB _);rw [n] at f;cases f
   rw [m] at d;cases d
   rw [l] at c;rw [aB hi,aB (e ▸ hi)];exact c
 rw [eK Zq,eK Zq]
def Cr {α:Type}{f:α->List Value}(hf: ∀ x,(f x).length=sz){l:List α}(hi:i<l.length)(hk:k<sz):(l.flatMap f)[i*sz+k]? =(f l[i])[k]? :=by
 have h:(l.flatMap f)[i*sz+k]? =_:=aQ (fun z:List Value=>z[i*sz+k]?) (dJ (i*sz) (l.flatMap f)).symm;rw [Ul hf,dT (by rw [Zx hf,bB];rw [fG Zq];omega)] at h;rw [h,Zx hf,bB,fG Zq,show i*sz+k - i*sz=k by omega,lP]
 have a:l.flatMap f=(l.take i).flatMap f++(f l[i]++(l.drop (i+1)).flatMap f):=by
  conv=>lhs;rw [<-dJ i l,eJ,aP hi,cM]
 rw [a,dT (by rw [Zx hf,bB,fG Zq];omega),Zx hf,bB,fG Zq,show i*sz+k - i*sz=k by omega,
  dX (by rw [hf];exact hk)]
theorem SeesZ.row {α:Type}{f}(hf: ∀ x,(f x).length=sz)(h0:0<sz){l:List α}(h:SeesZ M a (l.flatMap f))(hi:i<l.length): ∃ b o,a=some ⟨b,o,none⟩/\SeesZ M (some ⟨b,o+i*sz,none⟩) (f l[i]):=by
 have n:=hf l[i];obtain ⟨b,o,r,ty,m,v,t⟩:=h (i*sz+0) ((f l[i])[0]'Zq) (by rw [Cr hf hi h0];exact aB Zq);refine ⟨b,o,m,fun k u g=> ?_⟩;have e:k<sz:=by rw [<-n];exact (cL.1 g).1
 obtain ⟨w,s,c,d,j,q,p⟩:=h (i*sz+k) u (by rw [Cr hf hi e];exact g);rw [m] at j;cases j
 exact ⟨b,o+i*sz,c,d,rfl,q,by rw [fW];exact p⟩
abbrev jH:=@SeesZ.row
theorem SeesZ.sub (h:SeesZ M (some ⟨b,o,none⟩) vs)(e:vs=pre++(ws++post)):SeesZ M (some ⟨b,o+pre.length,none⟩) ws:=fun i u c=>by
 obtain ⟨k,j,a,ty,g,f,d⟩:=h (pre.length+i) u (by rw [e,dT Zq,show pre.length+i - pre.length=i by omega,dX (cL.1 c).1];exact c)
 cases g
 exact ⟨b,o+pre.length,a,ty,rfl,f,by rw [fW];exact d⟩
mutual
def Ex.uniq {M}: ∀ {x y},exC x=exC y->x.At M->y.At M->x=y
 | .mk k n nm sl lo op args aa ac,.mk k' n' nm' sl' lo' op' args' aa' ac',h,⟨h1,h2⟩,⟨g1,g2⟩=>by
  simp only [exC,jY,Value.int.injEq,Value.string.injEq,Value.bool.injEq,Value.slice.injEq,true_and,and_true] at h;obtain ⟨rfl,rfl,rfl,rfl,rfl,rfl,rfl,a,rfl⟩:=h;rw [Exs.uniq (Tc h1.2.2 g1.2.2 (by rw [Zx Yn,Zx Yn,a])) a h2 g2]
def Exs.uniq {M}: ∀ {l m},l.flatMap exC=m.flatMap exC->l.length=m.length->Ex.Ats M l->Ex.Ats M m->l=m
 | [], [],_,_,_,_=>rfl
 | [],_::_,_,h,_,_=>by simp at h
 |_::_, [],_,h,_,_=>by simp at h
 |x::l,y::m,h,hl,⟨h1,h2⟩,⟨g1,g2⟩=>by
  rw [cM,cM] at h;obtain ⟨b,a⟩:=jZ h (by rw [Yn,Yn]);rw [Ex.uniq b h1 g1,Exs.uniq a (by simpa using hl) h2 g2]
end
mutual
def Stm.uniq {M}: ∀ {x y},stC x=stC y->x.At M->y.At M->x=y
 | .mk k ln cl nm wt e ix body els ba bc ea ec id sl ot lo,.mk k' ln' cl' nm' wt' e' ix' body' els' ba' bc' ea' ec' id' sl' ot' lo',h,⟨h1,h2,⟨h3,h4⟩,h5,h6⟩,⟨g1,g2,⟨g3,g4⟩,g5,g6⟩=>by
  simp only [stC] at h;obtain ⟨d,m⟩:=jZ h rfl;obtain ⟨l,j⟩:=jZ m (by rw [Yn,Yn]);obtain ⟨i,c⟩:=jZ j (by rw [Yn,Yn]);simp only [jY,Value.int.injEq,Value.string.injEq,Value.bool.injEq,Value.slice.injEq,true_and,and_true] at d c;obtain ⟨rfl,rfl,rfl,rfl,rfl⟩:=d;obtain ⟨⟨rfl,b,rfl⟩,⟨rfl,a,rfl⟩,rfl,rfl,rfl,rfl⟩:=c;rw [Ex.uniq l h1 g1,Ex.uniq i h2 g2,Stms.uniq (Tc h3.2.2 g3.2.2 (by rw [Zx Z7,Zx Z7,b])) b h4 g4,Stms.uniq (Tc h5.2.2 g5.2.2 (by rw [Zx Z7,Zx Z7,a])) a h6 g6]
def Stms.uniq {M}: ∀ {l m},l.flatMap stC=m.flatMap stC->l.length=m.length->Stm.Ats M l->Stm.Ats M m->l=m
 | [], [],_,_,_,_=>rfl
 | [],_::_,_,h,_,_=>by simp at h
 |_::_, [],_,h,_,_=>by simp at h
 |x::l,y::m,h,hl,⟨h1,h2⟩,⟨g1,g2⟩=>by
  rw [cM,cM] at h;obtain ⟨b,a⟩:=jZ h (by rw [Z7,Z7]);rw [Stm.uniq b h1 g1,Stms.uniq a (by simpa using hl) h2 g2]
end
def ExAt.uniq {a}{x y}(h:ExAt M a x)(k:ExAt M a y):x=y:=Ex.uniq (Tc h.1 k.1 (by rw [Yn,Yn])) h.2 k.2
def StAt.uniq {a}{y}(h:StAt M a x)(k:StAt M a y):x=y:=Stm.uniq (Tc h.1 k.1 (by rw [Z7,Z7])) h.2 k.2
def SeesZ.brn {a:Addr}(h:SeesZ M (some a) (v::vs))(l:Hle M (wh w)):Brn w a:=by
 obtain ⟨b,o,c,ty,e,d,_⟩:=h 0 v rfl
 cases e
 exact ⟨c,ty,l _ _ d⟩
def ExAt.brn {a}{x}(h:ExAt M a x)(l:Hle M (wh w)):Brn w a:=by cases x;exact SeesZ.brn h.1 l
def StAt.brn {a}(h:StAt M a x)(l:Hle M (wh w)):Brn w a:=by cases x;exact SeesZ.brn h.1 l
abbrev B8:=List (Addr×Value×Nat)
variable {es:B8}
def ExKs (M:Hp)(n:Nat)(es:B8):Prop:= ∀ e∈es,∃ x,ExAt M e.1 x/\n<x.sz
def StKs (M:Hp)(n:Nat)(es:B8):Prop:= ∀ e∈es,∃ x,StAt M e.1 x/\n<x.sz
def KeysAt.ex {a}{x}(h:Kn q fun M=>ExAt M a x/\ExKs M x.sz es):KeysAt q a es:=by
 rintro G w ⟨_,M,k,l,_,_,_,_,p⟩;obtain ⟨c,i⟩:=h M k p;refine ⟨c.brn l,fun e d=> ?_⟩;obtain ⟨y,b,g⟩:=i e d;exact ⟨fun f=>by have:=(f ▸ c).uniq b;subst this;exact Nat.lt_irrefl _ g,b.brn l⟩
def KeysAt.st {a}(h:Kn q fun M=>StAt M a x/\StKs M x.sz es):KeysAt q a es:=by
 rintro G w ⟨_,M,k,l,_,_,_,_,p⟩;obtain ⟨c,i⟩:=h M k p;refine ⟨c.brn l,fun e d=> ?_⟩;obtain ⟨y,b,g⟩:=i e d;exact ⟨fun f=>by have:=(f ▸ c).uniq b;subst this;exact Nat.lt_irrefl _ g,b.brn l⟩
def Fx: ∀ l:List Ex,l.length<=Wo l
 | []=>aZ _
 |e::r=>by
  have h:=Fx r;have a:1<=e.sz:=by cases e;simp only [Ex.sz];omega
  simp only [Wo,aJ];omega
def Na: ∀ l:List Stm,l.length<=Zn l
 | []=>aZ _
 |e::r=>by
  have h:=Na r;have a:1<=e.sz:=by cases e;simp only [Stm.sz];omega
  simp only [Zn,aJ];omega
section
variable {l:List Ex}
def Kn.exn {k n}{nm}{slot}{loc}(h:Kn q fun M=>Ex.Ats M l):Kn (lst (fun M=>SlAt M a c l.length (l.flatMap exC)) fD::q) fun M=>(Ex.mk k n nm slot loc op l a c).At M:=
 (Kn.here.and h.there).imp fun M h=>⟨h.1,h.2⟩
def Kn.blM {m}:Kn (blM a c m::q) fun M=>BlkAt M a c m:=fJ
def Kn.exsM:Kn (exsM l::q) fun M=>Ex.Ats M l:=fJ
def Zxl:Le q (exsM []::q):=dP (fun _ _ _=>trivial)
def Zvv :Le (exsM l::exM e::q) (exsM (l++ [e])::q):=by
 have h:Kn (exsM l::exM e::q) fun M=>Ex.Ats M (l++ [e]):=(Kn.exsM.and Kn.exM.there).imp fun M h=>Ub.2 fun x a=>by
  rcases bP.1 a with a|a
  . exact Ub.1 h.1 x a
  rw [bE.1 a];exact h.2
 exact aK (dP (mn:=fun l h=>jS l h) h) (cC _ ((dS _ _).trans (dS _ _)))
def Zvm {m:List Ex}(h:s<m.length):Yj (m.take (s+1))=Yj (m.take s)++ [m[s].er]:=by
 rw [Ww,Ww,aM h,aN];rfl
def Kn.exC {e}(h:Kn q fun M=>ExAt M ⟨b,o,none⟩ e):CellsAt q b o (exC e):=fun k v hk=>(eP (h.imp fun M h=>h.1)).cl hk
def Kn.stC {e}(h:Kn q fun M=>StAt M ⟨b,o,none⟩ e):CellsAt q b o (stC e):=fun k v hk=>(eP (h.imp fun M h=>h.1)).cl hk
abbrev gM:=@Kn.stC
def ExKs.down (h:ExKs M n es)(hk:k<=n):ExKs M k es:=fun e he=>let ⟨x,h1,h2⟩:=h e he;⟨x,h1,Zq⟩
def StKs.down (h:StKs M n es)(hk:k<=n):StKs M k es:=fun e he=>let ⟨x,h1,h2⟩:=h e he;⟨x,h1,Zq⟩
def ExKs.more {a:Addr}{x:Ex}(h:ExKs M n es)(hx:ExAt M a x)(hn:n<x.sz):ExKs M n (es++ [(a,v,k)]):=fun e b=>by
 rcases bP.1 b with b|b
 . exact h e b
 rw [bE.1 b];exact ⟨x,hx,hn⟩
def StKs.more {a:Addr}(h:StKs M n es)(hx:StAt M a x)(hn:n<x.sz):StKs M n (es++ [(a,v,k)]):=fun e b=>by
 rcases bP.1 b with b|b
 . exact h e b
 rw [bE.1 b];exact ⟨x,hx,hn⟩
end
section
variable {k1 k2:Nat}
abbrev Ar (v0:B8)(v1:Nat):=((.map ((v0).map U3).toArray v1):Obj)
abbrev Aa (v0:Nat)(v1:Nat)(v2:Nat):=[pt v0,.pointer (some ⟨v1,v2,none⟩)]
def Zkg: ∀ (N:Nat) {e} {b o} {es} {k} {q},e.sz<=N->N<=1000000->CellsAt q pc 0 [.map (some m1),.map (some m2)]->(Kn q fun M=>ExAt M ⟨b,o,none⟩ e/\ExKs M e.sz es)->CF G 314 (Aa pc b o) (pto m2 (Ar es k)::q) (Ret fun v q'=> ∃ (e':Ex) (k':Nat),e'.er=e.er/\v= .agg (exC e').toArray/\q'=exM e'::pto m2 (Ar es k')::q):=fun N=>by
 induction N with
 |zero=>intro e b o es k q hs;exact aV hs (by cases e;simp only [Ex.sz];omega)
 |succ N IH=> 
 intro e b o es k q hs hN c hK;obtain ⟨u,n,nm,t,lo,op,l,aa,ac⟩:=e;refine aE ntmps314 fun F cs=> ?_;have a:=Kn.exC (hK.imp fun M h=>h.1);have hA:Kn q fun M=>SlAt M aa ac l.length (l.flatMap exC)/\Ex.Ats M l:=hK.imp fun M h=>h.1.2;have hS:=eP (hA.imp fun M h=>h.1.2.2)
 have hl:l.length+1<=N+1:=by have:=Fx l;simp only [Ex.sz] at hs;omega
 have y:=Zx Yn l;obtain ⟨J_,hJ,_,d0,_⟩:=info_parts Jl;have r:J_.size≠0:=by rw [d0];decide
 refine Zo zeroValue136 fun n1=> ?_
 refine Zz ?_;apply cU (Xl underlying455 underlying396 hJ r rfl rfl rfl ((KeysAt.ex hK).le leA) Zj);rintro _ _ ⟨rfl,rfl⟩;refine Zz ?_;refine XO.dfDel fun g0=> ?_;refine Zz ?_;apply H2 (us:=exC (.mk u n nm t lo op l aa ac)) isAgg136 sizeOf136 rfl (a.le leA);refine Zo zeroValue136 fun n2=> ?_
 refine Zz ?_;refine cH (bW (fun (s:(Nat×Nat)×Option Addr×Nat×List Ex)=>s.1.1<=l.length/\Yj s.2.2.2=Yj (l.take s.1.1)/\s.2.2.2.length=s.1.1) (fun s=> [(0,pt pc),(1,.pointer (some ⟨b,o,none⟩)),(4,pt n1),(5,pt n2),(28,I64 l.length),(29,I64 (s.1.1:Int))]) (fun s=>pC n2 [I64 u,I64 n,.string nm,I64 t,.bool lo,I64 op,.slice s.2.1 (s.2.2.2).length s.2.2.1] 136::pC n1 zz3 136::rsH exC 7 136 s.2.1 s.2.2.1 s.2.2.2::exsM s.2.2.2::pto m2 (.map (((es++ [((⟨b,o,none⟩:Addr),(.agg [].toArray:Value),k)]:B8)).map U3).toArray s.1.2)::(q++F)) (fun s=>l.length - s.1.1) (fun s z ih=> ?_) ((0,k+1),none,0, []) ⟨aZ _,by simp [Yj],rfl⟩) Z5 (aK leA (aK (aK (Zc exC 7 136 _) Zxl) leA));try dsimp only at z ih|-
 obtain ⟨f0,p,b0⟩:=z;obtain ⟨⟨i,kk⟩,a1,c1,j⟩:=s;dsimp only at*;refine Zp ?_ ?_<;>intro h0
 . have d:i<l.length:=Zq;obtain ⟨x,hx⟩:=lV l[i];have w:x.sz<Ex.sz (.mk u n nm t lo op l aa ac):=by rw [hx];simp only [Ex.sz];have:=Wd (aC d);omega
   refine Yq (hS.le leA) (by rw [y];omega) fun ab ao e_=> ?_;subst e_
   have a0:Kn q fun M=>ExAt M ⟨ab,ao+(i:Int).toNat*7,none⟩ x/\ExKs M x.sz (es++ [(⟨b,o,none⟩,.agg [].toArray,k)]):=hK.imp fun M h=>by
    obtain ⟨b',o',e1,e2⟩:=jH Yn Zw h.1.2.1.2.2 d
    cases e1
    refine ⟨⟨by rw [hx];exact e2,by rw [hx];exact Ub.1 h.1.2.2 _ (aC d)⟩,(h.2.down (Nat.le_of_lt w)).more h.1 w⟩
   refine Zz ?_;refine Vd (fl:= [⟨14,7,fun g=> pt g,fun g=>pC g [] 362⟩]) ?_;refine XF.ef 10 ⟨flA zeroValue362,trivial⟩ (Rd.efE (If underlying455 underlying396 hJ r rfl rfl ((KeysAt.ex a0).le leA) Zj zeroValue362)) ?_ (hL:=(hlG c a));rintro _ _ ⟨rfl,rfl⟩;refine ⟨(hlA (h:=by repeat first|exact trivial|refine ⟨clA,?_⟩|refine ⟨(c.le leA) 1 _ rfl,?_⟩|refine ⟨(a.le leA) 6 _ rfl,?_⟩)),?_⟩;refine Kq 11 ⟨flA zeroValue362,trivial⟩ (Pu.move rfl) ?_ (hL:=(hlG c a));refine Kq 12 ⟨flA zeroValue362,trivial⟩ (fP rfl rfl) ?_ (hL:=(hlG c a));refine Kq 13 ⟨flA zeroValue362,trivial⟩ (fP rfl rfl) ?_ (hL:=(hlG c a));refine Qs (e0:=⟨14,7,fun g=> pt g,fun g=>pC g [] 362⟩) (hnd:=by simp) 14 ⟨flA zeroValue362,trivial⟩ (fun ne=> ?_) (hL:=(hlG c a));change XF _ _ _ _ _ _ _ [] _ _ _ ((7,pt ne)::_) _ _ (pC ne [] 362::_);refine fR ?_ (hL:=(hlG c a));refine rf [16,17,0,5,2047,1,0,1,2,3,4,5,6,7,8,9] a ?_;apply Wk 9 Zj (IH Zq Zq (c.le leA) (a0.le leA));rintro _ _ ⟨e2,k2,c0,rfl,rfl⟩;refine ⟨(hlG c a),?_⟩;apply eT 10 rfl (Yw exC underlying134 Jl rfl rfl Yn rfl);rintro _ _ ⟨g,rfl,rfl⟩;refine ⟨(hlG c a),?_⟩;apply eT 11 rfl (Z9 (f:=exC) (l:=j) (m:= [e2]) underlying134 Jl rfl rfl Yn rfl rfl Zj ((bJ _).le Zj) Zqs Zi Zi);rintro _ _ ⟨a3,c3,rfl,rfl⟩;refine ⟨(hlG c a),?_⟩;refine Zz ?_;apply cE (q':=exsM (j++ [e2])::_) (aK (bC Zj Zj) Zvv);refine Zs (ih ((i+1,k2),a3,c3,j++ [e2]) ⟨Zy,by dsimp only;rw [Zvm d,<-p,<-hx,<-c0,Ww,Ww,aN];rfl,by dsimp only;rw [aA];simp [b0]⟩ Zy)
 obtain rfl:i=l.length:=Zq;rw [bR] at p;clear ih;apply cE (q':=rsH exC 7 136 a1 c1 j::exsM j::_) (bC Zj Zj);refine X.frzR (Kn.exn (k:=u) (n:=n) (nm:=nm) (slot:=t) (loc:=lo) (op:=op) Kn.exsM) (mn:=fun l h=>Ex.At.mono l h) ?_ (hq:=aG _);refine Zz ?_;exact iH ⟨rfl,Lv.del (mt:=455) rfl underlying455 underlying396 hJ r ((KeysAt.ex hK).le leA) Zj (fS (q':=(exM (Ex.mk u n nm t lo op j a1 c1)::pto m2 (Ar es kk)::q)) func314 (rA_ results314) ⟨_,rfl,(Ex.mk u n nm t lo op j a1 c1),kk,by simp only [Ex.er,p],rfl,rfl⟩ leA)⟩
end
mutual
/-- Expressions that are not great. -/
def Stm.lm (B:Nat):Stm->Prop
 | .mk _ _ _ _ _ e ix body els _ _ _ _ _ _ _ _=>e.sz<=B/\ix.sz<=B/\V1 B body/\V1 B els
def V1 (B:Nat):List Stm->Prop
 | []=>True
 |s::r=>s.lm B/\V1 B r
end
def Nl {B}{x}: ∀ {l},V1 B l->x∈l->x.lm B
 |y::r,⟨h1,h2⟩,h=>by
  rcases bS.1 h with rfl|h
  . exact h1
  exact Nl h2 h
def Zxm (h:s<m.length):Zk (m.take (s+1))=Zk (m.take s)++ [m[s].er]:=by
 rw [Yl,Yl,aM h,aN];rfl
def Wl (h:SeesZ M (some ⟨b,o,none⟩) vs)(hv:vs=pre++(exC e++post))(he:e.At M)(hn:n=o+pre.length):ExAt M ⟨b,n,none⟩ e:=hn ▸ ⟨SeesZ.sub h hv,he⟩
def CSt (G:World)(pc m1 m2 B N:Nat):Prop:= ∀ {s:Stm} {b o:Nat} {es:B8} {k1 k2:Nat} {q:List HP},s.sz<=N->s.lm B->CellsAt q pc 0 [.map (some m1),.map (some m2)]->(Kn q fun M=>StAt M ⟨b,o,none⟩ s/\StKs M s.sz es)->
 CF G 290 [pt pc,.pointer (some ⟨b,o,none⟩)] (pto m1 (.map ((es).map U3).toArray k1)::pto m2 (.map (([]).map U3).toArray k2)::q) (Ret fun v q'=> ∃ (s':Stm) (k1' k2':Nat),s'.er=s.er/\v= .agg (stC s').toArray/\q'=stM s'::pto m1 (.map ((es).map U3).toArray k1')::pto m2 (.map (([]).map U3).toArray k2')::q)
def CSts (G:World)(pc m1 m2 B N:Nat):Prop:= ∀ {l:List Stm} {a:Option Addr} {c:Nat} {es:B8} {k1 k2:Nat} {q:List HP},Zn l<=N->V1 B l->CellsAt q pc 0 [.map (some m1),.map (some m2)]->(Kn q fun M=>BlkAt M a c l/\StKs M (Zn l) es)->
 CF G 248 [pt pc,.slice a l.length c] (pto m1 (.map ((es).map U3).toArray k1)::pto m2 (.map (([]).map U3).toArray k2)::q) (Ret fun v q'=> ∃ (l':List Stm) (a':Option Addr) (c':Nat) (k1' k2':Nat),Zk l'=Zk l/\v= .slice a' l'.length c'/\q'=blM a' c' l'::pto m1 (.map ((es).map U3).toArray k1')::pto m2 (.map (([]).map U3).toArray k2')::q)
section
variable {k1 k2:Nat}
abbrev AD (v0:Nat):=((.map (([]).map U3).toArray v0):Obj)
abbrev Ay (v0:B8)(v1:Nat)(v2:Nat)(v3:Nat):=(v0++ [((⟨v1,v2,none⟩:Addr),(.agg [].toArray:Value),v3)]:B8)
abbrev A3 (v0)(v1)(v2)(v3)(v4):=([I64 v0,I64 v1,I64 v2,.string v3,.string v4]:List Value)
def cst_step {s}(IH:CSts G pc m1 m2 B N)(hB:B<=1000000)(hs:s.sz<=N+1)(hb:s.lm B)(hc:CellsAt q pc 0 [.map (some m1),.map (some m2)])(hK:Kn q fun M=>StAt M ⟨b,o,none⟩ s/\StKs M s.sz es):CF G 290 (Aa pc b o) (pto m1 (Ar es k1)::pto m2 (AD k2)::q) (Ret fun v q'=> ∃ (s':Stm) (k1' k2':Nat),s'.er=s.er/\v= .agg (stC s').toArray/\q'=stM s'::pto m1 (Ar es k1')::pto m2 (AD k2')::q):=by
 refine aE ntmps290 fun F cs=> ?_;obtain ⟨k,ln,cl,nm,z,⟨ek,en,t,n,u,r,el,ea,ec⟩,⟨xk,xn,x,xsl,y,w,xl,xa,xc⟩,bd,p,ba,bc,e0,d0,id,sl,ot,lo⟩:=s;have a0:=gM (hK.imp fun M h=>h.1)
 have b0:Zn bd<=N/\Zn p<=N:=by simp only [Stm.sz] at hs;omega
 obtain ⟨J_,hJ,_,r0,_⟩:=info_parts Us;have c0:J_.size≠0:=by rw [r0];decide
 refine Zo zeroValue138 fun n1=> ?_
 refine Zz ?_;apply cU (Xl underlying454 underlying130 hJ c0 rfl rfl rfl ((KeysAt.st hK).le leA) Zj);rintro _ _ ⟨rfl,rfl⟩;refine Zz ?_;refine XO.dfDel fun u0=> ?_;refine Zz ?_;apply H2 (us:=stC (.mk k ln cl nm z (Ex.mk ek en t n u r el ea ec) (Ex.mk xk xn x xsl y w xl xa xc) bd p ba bc e0 d0 id sl ot lo)) isAgg138 sizeOf138 rfl (a0.le leA);refine Zo zeroValue138 fun n2=> ?_
 refine rn [0,2,0,1,2,3,4,6,7,8,9] ?_;apply Wk 4 Zj (Zkg B (e:=(Ex.mk ek en t n u r el ea ec)) hb.1 hB (hc.le leA) ((hK.imp fun M h=>⟨Wl (pre:= (A3 k ln cl nm z)) h.1.1 rfl h.1.2.1 rfl,fun _ h=>by cases h⟩).le leA));rintro _ _ ⟨⟨fk,fn,j,g,m,i,fl,fa,fc⟩,t0,g0,rfl,rfl⟩;refine ⟨trivial,?_⟩;apply dd [10];apply Wk 9 Zj (Zkg B (e:=(Ex.mk xk xn x xsl y w xl xa xc)) hb.2.1 hB (hc.le leA) ((hK.imp fun M h=>⟨Wl (pre:= (A3 k ln cl nm z)++exC (Ex.mk ek en t n u r el ea ec)) h.1.1 rfl h.1.2.2.1 rfl,fun _ h=>by cases h⟩).le leA));rintro _ _ ⟨⟨yk,yn,d,a,f,c,yl,ya,yc⟩,s0,f0,rfl,rfl⟩;refine ⟨trivial,?_⟩;refine rf [12,13,14,0,1,0,1,2,3,4,5,7,8,9,10,11] a0 ?_;refine Wk 5 (bC Zj Zj) (IH (l:=bd) (es:=(Ay es b o k1)) b0.1 hb.2.2.1 (hc.le leA) ((hK.imp fun M h=>⟨h.1.2.2.2.1,(h.2.down (by simp only [Stm.sz];omega)).more h.1 (by simp only [Stm.sz];omega)⟩).le leA)) ?_;rintro _ _ ⟨l1,a1,c1,p1,r1,i0,rfl,rfl⟩;refine ⟨(hlF a0),?_⟩;apply dd [12];refine Wk 11 (bC Zj Zj) (IH (l:=p) (es:=(Ay es b o k1)) b0.2 hb.2.2.2 (hc.le leA) ((hK.imp fun M h=>⟨⟨h.1.2.2.2.2.1,h.1.2.2.2.2.2⟩,(h.2.down (by simp only [Stm.sz];omega)).more h.1 (by simp only [Stm.sz];omega)⟩).le leA)) ?_;rintro _ _ ⟨l2,a2,c2,p2,r2,h0,rfl,rfl⟩;refine ⟨trivial,?_⟩;refine Zz ?_;apply cE (q':=exM (Ex.mk fk fn j g m i fl fa fc)::exM (Ex.mk yk yn d a f c yl ya yc)::blM a1 c1 l1::blM a2 c2 l2::_) (bC Zj (bC Zj (bC Zj Zj)));refine cE (q':=stM (Stm.mk k ln cl nm z (Ex.mk fk fn j g m i fl fa fc) (Ex.mk yk yn d a f c yl ya yc) l1 l2 a1 c1 a2 c2 id sl ot lo)::_) (aK (dP (φ:=fun M=>Stm.At M (Stm.mk k ln cl nm z (Ex.mk fk fn j g m i fl fa fc) (Ex.mk yk yn d a f c yl ya yc) l1 l2 a1 c1 a2 c2 id sl ot lo)) (mn:=fun l h=>Stm.At.mono l h) ((Kn.exM.and (Kn.exM.there.and (Kn.blM.there.there.and Kn.blM.there.there.there))).imp fun M h=>⟨h.1,h.2.1,h.2.2.1,h.2.2.2.1,h.2.2.2.2⟩)) (cC _ ((dS _ _).trans ((dS _ _).trans ((dS _ _).trans (dS _ _)))))) ?_;exact iH ⟨rfl,Lv.del (mt:=454) rfl underlying454 underlying130 hJ c0 ((KeysAt.st hK).le leA) Zj (fS (q':=(stM (Stm.mk k ln cl nm z (Ex.mk fk fn j g m i fl fa fc) (Ex.mk yk yn d a f c yl ya yc) l1 l2 a1 c1 a2 c2 id sl ot lo)::pto m1 (Ar es p2)::pto m2 (AD r2)::q)) func290 (rA_ results290) ⟨_,rfl,(Stm.mk k ln cl nm z (Ex.mk fk fn j g m i fl fa fc) (Ex.mk yk yn d a f c yl ya yc) l1 l2 a1 c1 a2 c2 id sl ot lo),p2,r2,by simp only [Stm.er,i0,h0,g0,f0],rfl,rfl⟩ leA)⟩
def Xg {l:List Stm}(IH:CSt G pc m1 m2 B N)(hN:N<=1000000)(hs:Zn l<=N)(hb:V1 B l)(hc:CellsAt q pc 0 [.map (some m1),.map (some m2)])(hK:Kn q fun M=>BlkAt M a c l/\StKs M (Zn l) es):CF G 248 [pt pc,.slice a l.length c] (pto m1 (Ar es k1)::pto m2 (AD k2)::q) (Ret fun v q'=> ∃ (l':List Stm) (a':Option Addr) (c':Nat) (k1' k2':Nat),Zk l'=Zk l/\v= .slice a' l'.length c'/\q'=blM a' c' l'::pto m1 (Ar es k1')::pto m2 (AD k2')::q):=by
 refine aE ntmps248 fun F cs=> ?_;have hS:=eP (hK.imp fun M h=>h.1.1.2.2);have hl:l.length<=N:=dO (Na l) hs;have k:=Zx Z7 l;obtain ⟨J_,hJ,_,z,_⟩:=info_parts Us;have y:J_.size≠0:=by rw [z];decide
 refine Zz ?_;refine cH (bW (fun (s:(Nat×Nat×Nat)×Option Addr×Nat×List Stm)=>s.1.1<=l.length/\Zk s.2.2.2=Zk (l.take s.1.1)/\s.2.2.2.length=s.1.1) (fun s=> [(0,pt pc),(1,.slice a l.length c),(5,.slice s.2.1 s.2.2.2.length s.2.2.1),(10,I64 l.length),(11,I64 (s.1.1:Int))]) (fun s=>rsH stC 25 138 s.2.1 s.2.2.1 s.2.2.2::stsM s.2.2.2::pto m1 (.map ((es).map U3).toArray s.1.2.1)::pto m2 (.map (([]).map U3).toArray s.1.2.2)::(q++F)) (fun s=>l.length - s.1.1) (fun s n p=> ?_) ((0,k1,k2),none,0, []) ⟨aZ _,by simp [Zk],rfl⟩) Z5 (aK leA (aK (aK (Zc stC 25 138 _) Nv) leA));try dsimp only at n p|-
 obtain ⟨a0,d,w⟩:=n;obtain ⟨⟨i,j1,j2⟩,a1,c1,e⟩:=s;dsimp only at*;refine Zp ?_ ?_<;>intro h0
 . have b:i<l.length:=Zq;obtain ⟨x,j⟩:=lV l[i];have r:x.sz<=Zn l:=j ▸ Qx (aC b);have t:x.lm B:=j ▸ Nl hb (aC b);refine Yq (hS.le leA) (by rw [k];omega) fun ab ao e_=> ?_;subst e_
   have o:Kn q fun M=>StAt M ⟨ab,ao+(i:Int).toNat*25,none⟩ x/\StKs M x.sz es:=hK.imp fun M h=>by
    obtain ⟨b',o',e1,e2⟩:=jH Z7 Zw h.1.1.2.2 b
    cases e1
    exact ⟨⟨by rw [j];exact e2,by rw [j];exact Uk.1 h.1.2 _ (aC b)⟩,h.2.down r⟩
   refine Zz ?_;refine Vd (fl:= [⟨11,7,fun g=> pt g,fun g=>pC g [] 362⟩]) ?_;refine XF.ef 7 ⟨flA zeroValue362,trivial⟩ (Rd.efE (If underlying454 underlying130 hJ y rfl rfl ((KeysAt.st o).le leA) Zj zeroValue362)) ?_ (hL:=(hlF hc));refine kk0 ?_;refine Kq 8 ⟨flA zeroValue362,trivial⟩ (Pu.move rfl) ?_;refine Kq 9 ⟨flA zeroValue362,trivial⟩ (fP rfl rfl) ?_;refine Kq 10 ⟨flA zeroValue362,trivial⟩ (fP rfl rfl) ?_;refine Qs (e0:=⟨11,7,fun g=> pt g,fun g=>pC g [] 362⟩) (hnd:=by simp) 11 ⟨flA zeroValue362,trivial⟩ fun ne=> ?_;change XF _ _ _ _ _ _ _ [] _ _ _ ((7,pt ne)::_) _ _ (pC ne [] 362::_);refine fR ?_;refine rn [13,14,0,5,2026,7] ?_;apply Zv (bC Zj Zj) (IH (s:=x) (es:=es) Zq t (hc.le leA) (o.le leA));rintro _ _ ⟨s2,p2,r2,u,rfl,rfl⟩;apply bU (Yw stC underlying128 Us rfl rfl Z7 rfl);rintro _ _ ⟨g,rfl,rfl⟩;apply bU (Z9 (f:=stC) (l:=e) (m:= [s2]) underlying128 Us rfl rfl Z7 rfl rfl Zj ((bJ _).le Zj) Mz Zi Zi);rintro _ _ ⟨a3,c3,rfl,rfl⟩;refine Zz ?_;apply cE (q':=stsM (e++ [s2])::_) (aK (bC Zj Zj) N2);refine Zs (p ((i+1,p2,r2),a3,c3,e++ [s2]) ⟨Zy,by dsimp only;rw [Zxm b,<-d,<-j,<-u,Yl,Yl,aN];rfl,by dsimp only;rw [aA];simp [w]⟩ Zy)
 obtain rfl:i=l.length:=Zq;rw [bR] at d;clear p;apply cE (q':=rsH stC 25 138 a1 c1 e::stsM e::_) (bC Zj Zj);refine X.frzR (Kn.blk Kn.stsM) (mn:=lE) ?_ (hq:=aG _);refine Zg ?_;exact ⟨_,⟨_,rfl,e,a1,c1,j1,j2,d,rfl,rfl⟩,leA⟩
def Zqe (hB:B<=1000000): ∀ N,N<=1000000->CSt G pc m1 m2 B N/\CSts G pc m1 m2 B N
 |0,_=>by
  have f:CSt G pc m1 m2 B 0:=fun {s} _ _ _ _ _ _ a=>aV a (by cases s;simp only [Stm.sz];omega)
  exact ⟨f,fun a c b d=>Xg f Zq a c b d⟩
 |N+1,hN=>by
  have e:CSt G pc m1 m2 B (N+1):=fun a c b d=>cst_step ((Zqe hB N Zq).2) hB a c b d
  exact ⟨e,fun a c b d=>Xg e hN a c b d⟩
end
mutual
def PStm.its:PStm->Int->List (Int×PStm)
 | .mk k ln cl nm wt e ix body els id slot other loc,d=>(d,.mk k ln cl nm wt e ix body els id slot other loc)::(Zt body (d+1)++Zt els (d+1))
def Zt:List PStm->Int->List (Int×PStm)
 | [],_=> []
 |s::r,d=>s.its d++Zt r d
end
def M9: ∀ (l:List PStm) (d:Int),Zt l d=l.flatMap fun s=>s.its d
 | [],_=>rfl
 |s::r,d=>by simp only [Zt,cM,M9 r d]
mutual
def Tv: ∀ (s:PStm) (d:Int),(∃ r,s.its d=(d,s)::r/\ ∀ x∈r,d<x.1)
 | .mk k ln cl nm wt e ix body els id slot other loc,d=>⟨_,rfl,fun x a=>by
  rcases bP.1 a with a|a
  . have:=Nq body (d+1) x a;omega
  have:=Nq els (d+1) x a;omega⟩
def Nq: ∀ (l:List PStm) (d:Int),∀ x∈Zt l d,d<=x.1
 | [],_,x,a=>by cases a
 |s::r,d,x,a=>by
  rcases bP.1 a with a|a
  . obtain ⟨t,c,b⟩:=Tv s d;rw [c] at a;rcases bS.1 a with rfl|a
    . exact bI _
    exact Int.le_of_lt (b x a)
  exact Nq r d x a
end
def Dr (l:List (Int×PStm)):List PStm:=(l.filter fun x=>x.1==1).map (·.2)
def Ls (a b:List (Int×PStm)):Dr (a++b)=Dr a++Dr b:=by simp [Dr]
def Zjx: ∀ l:List PStm,Dr (Zt l 1)=l
 | []=>rfl
 |s::r=>by
  obtain ⟨t,e,d⟩:=Tv s 1
  have c:Dr t= []:=by
   unfold Dr;rw [List.map_eq_nil_iff,List.filter_eq_nil_iff];intro x a;have:=d x a;simp only [fH];omega
  have b:s.its 1= [(1,s)]++t:=e;simp only [Zt];rw [Ls,b,Ls,c,Zjx r];rfl
def Zgy {l:List (Int×PStm)}(h:i<l.length):Dr (l.take (i+1))=Dr (l.take i)++(if l[i].1=1 then [l[i].2] else []):=by
 rw [aM h,Ls];congr 1;unfold Dr;by_cases hx:l[i].1=1<;>simp [hx]
def itK (l:List PStm)(d:Int)(i:Nat):Nat:=((l.take i).flatMap fun s=>s.its d).length
def itK_step (h:i<l.length):itK l d (i+1)=itK l d i+(l[i].its d).length:=F4 _ h
def itK_all (l:List PStm)(d:Int):itK l d l.length=(Zt l d).length:=by unfold itK;rw [bR,M9]
def itK_at (h:i<l.length)(hn:n<(l[i].its d).length):(Zt l d)[itK l d i+n]? =some (l[i].its d)[n]:=by
 rw [M9];exact E7 _ l i n h hn
def Seg {α:Type}(L:List α)(k:Nat)(m:List α):Prop:= ∀ i,i<m.length->L[k+i]? =m[i]?
def Seg.app {α}{L m n:List α}(h:Seg L k (m++n)):Seg L k m/\Seg L (k+m.length) n:=
 ⟨fun i a=>by rw [h i (by rw [aA];omega),dX a],fun i a=>by
  rw [fW,h (m.length+i) (by rw [aA];omega),dT Zq];congr 1;omega⟩
def Seg.item (h:Seg L k (Zt l d))(hi:i<l.length):Seg L (k+itK l d i) (l[i].its d):=fun n a=>by
 have b:=itK_at (d:=d) hi a;rw [fW,h _ ((cL.1 b).1),b,aB a]
def Seg.self {α}(L:List α):Seg L 0 L:=fun i _=>by rw [eE]
def ItR (x:Int×PStm)(vs:List Value)(A:HP):Prop:= ∃ s:Stm,s.er=x.2/\vs= [I64 x.1,.agg (stC s).toArray]/\A=stM s
section
variable {y:Nat}{l:List Stm}
def Fi:CF G 247 [] (q) (Ret fun v q'=> ∃ p m1 m2,v= pt p/\q'=pto m1 (.map (([]).map U3).toArray 0)::pto m2 (.map (([]).map U3).toArray 0)::pC p [.map (some m1),.map (some m2)] 457::q):=by
 refine We ntmps247 fun F b=> ?_;apply bU (kV);rintro _ _ ⟨m1,rfl,rfl⟩;apply bU (kV);rintro _ _ ⟨m2,rfl,rfl⟩;refine Yb fun a=> ?_
 refine Zg ?_;exact ⟨_,⟨_,rfl,a,m1,m2,rfl,rfl⟩,leA⟩
def Wlk (G:World)(q:List HP)(y B:Nat)(L:List (Int×PStm))(J:Nat->HP)(Jf:HP->Prop)(N:Nat):Prop:= ∀ {l:List Stm} {a:Option Addr} {c:Nat} {d:Int} {k:Nat},Zn l<=N->V1 B l->(0<=d/\d+N<=2000000)->(Kn q fun M=>BlkAt M a c l)->Seg L k (Zt (Zk l) d)->
 CF G 250 [.slice a l.length c,I64 d,.func (.yield y) #[] #[]] (J k::q) (Ret fun v q'=>(v= .bool true/\q'=J (k+(Zt (Zk l) d).length)::q)\/(v= .bool false/\ ∃ B,Jf B/\q'=B::q))
abbrev AK (v0:List (Int×PStm))(v1:World)(v2:Nat)(v3:Nat->HP)(v4:List HP)(v5:HP->Prop):=(∀ i (h:i<v0.length) vs A,ItR v0[i] vs A->CallV prog v1 (Ai v2) vs (v3 i::A::v4) (Ret fun v q'=>(v= .bool true/\q'=v3 (i+1)::v4)\/(v= .bool false/\ ∃ B,v5 B/\q'=B::v4)))
def Zfh (hy:(AK L G y J q Jf))(IH: ∀ n,n<N->Wlk G q y B L J Jf n)(hB:B<=1000000)(hN:N<=1000000)(hs:Zn l<=N)(hb:V1 B l)(hd:0<=d/\d+N<=2000000)(hK:Kn q fun M=>BlkAt M a c l)(hL:Seg L k (Zt (Zk l) d)):CF G 250 [.slice a l.length c,I64 d,.func (.yield y) #[] #[]] (J k::q) (Ret fun v q'=>(v= .bool true/\q'=J (k+(Zt (Zk l) d).length)::q)\/(v= .bool false/\ ∃ B,Jf B/\q'=B::q)):=by
 refine aE ntmps250 fun F cs=> ?_;have hl:l.length<=N:=dO (Na l) hs;have g0:=Zx Z7 l;have u0:=Wr l;refine Zs (bW (fun (s:Nat)=>s<=l.length) (fun s=> [(0,.slice a l.length c),(1,I64 d),(2,.func (.yield y) #[] #[]),(9,I64 l.length),(10,I64 s)]) (fun s=>J (k+itK (Zk l) d s)::(q++F)) (fun s=>l.length - s) (fun s i0 ih=> ?_) 0 (aZ _));try dsimp only at i0 ih|-
 obtain hi:=i0;refine Zp ?_ ?_<;>intro h0
 . have o:s<l.length:=Zq;have f0:s<(Zk l).length:=Zq;have c0:(Zk l)[s]=l[s].er:=by simp only [Yl,fN]
   have f:=hL.item (i:=s) f0;rw [c0] at f;have j:=itK_step (d:=d) f0;rw [c0] at j;obtain ⟨x,hx⟩:=lV l[s];have q0:x.sz<=Zn l:=hx ▸ Qx (aC o);have d0:x.lm B:=hx ▸ Nl hb (aC o);rw [<-hx] at f j;refine Yq ((eP (hK.imp fun M h=>h.1.2.2)).le leA) (by rw [g0];omega) fun ab ao e_=> ?_;subst e_
   have p:Kn q fun M=>StAt M ⟨ab,ao+(s:Int).toNat*25,none⟩ x:=hK.imp fun M h=>by
    obtain ⟨b',o',e1,e2⟩:=jH Z7 Zw h.1.2.2 o
    cases e1
    exact ⟨by rw [hx];exact e2,by rw [hx];exact Uk.1 h.2 _ (aC o)⟩
   refine rn [11,0,1,2,4,5,6] ?_;apply Wk 2 (aG _) (Fi);rintro _ _ ⟨pc,m1,m2,rfl,rfl⟩;refine ⟨trivial,?_⟩;refine Wk 6 (bC Zj Zj) ((Zqe (m1:=m1) (m2:=m2) hB N hN).1 (s:=x) (es:= []) Zq d0 (dK V2) ((p.le leA).imp fun M h=>⟨h,fun _ h=>by cases h⟩)) ?_;rintro _ _ ⟨s2,j1,j2,s0,rfl,rfl⟩;refine ⟨trivial,?_⟩
   have u:L[k+itK (Zk l) d s]? =some (d,x.er):=by
    obtain ⟨r_,e1,_⟩:=Tv x.er d;have:=f 0 (by rw [e1];exact Nat.succ_pos _);rw [e1] at this;exact this
   have p0:=hy (k+itK (Zk l) d s) (cL.1 u).1 [I64 d,.agg (stC s2).toArray] (stM s2) ⟨s2,by rw [(cL.1 u).2];exact s0,by rw [(cL.1 u).2],rfl⟩;refine XD.cV 7 p0 ?_ (hq:=(bC Zj (bC Zj leA)));rintro _ _ (⟨rfl,rfl⟩|⟨rfl,t,g,rfl⟩) _ b<;>simp only [ca,na] at b<;>subst b
   . refine ⟨trivial,?_⟩;refine Zz ?_;obtain ⟨kk,ln,cl,nm,wt,⟨ek,en,l0,j0,m0,k0,el,ea,ec⟩,⟨xk,xn,a0,xsl,b0,z,xl,xa,xc⟩,w,e,ba,bc,o0,n0,id,sl,ot,lo⟩:=x;have z0:=gM p;have hz:Zn w+Zn e+1<=N:=(by simp only [Stm.sz] at q0;omega);have t0:PStm.its (Stm.er (.mk kk ln cl nm wt (Ex.mk ek en l0 j0 m0 k0 el ea ec) (Ex.mk xk xn a0 xsl b0 z xl xa xc) w e ba bc o0 n0 id sl ot lo)) d=(d,Stm.er (.mk kk ln cl nm wt (Ex.mk ek en l0 j0 m0 k0 el ea ec) (Ex.mk xk xn a0 xsl b0 z xl xa xc) w e ba bc o0 n0 id sl ot lo))::(Zt (Zk w) (d+1)++Zt (Zk e) (d+1)):=by simp only [Stm.er,PStm.its]
     rw [t0] at f j;rw [aJ,aA] at j;have r:=(Seg.app (m:= [_]) f).2;rw [cI] at r;refine Zz ?_;apply Wn (IH (Zn w) Zq (k:=(k+itK (Zk l) d s+1)) (aS _) d0.2.2.1 Zq (p.imp fun M h=>h.2.2.2.1) r.app.1);rintro _ _ (⟨rfl,rfl⟩|⟨rfl,t,g,rfl⟩) _ b<;>simp only [ca,na] at b<;>subst b
     . refine Zz ?_;refine Wn (IH (Zn e) Zq (k:=(k+itK (Zk l) d s+1+(Zt (Zk w) (d+1)).length)) (aS _) d0.2.2.2 Zq (p.imp fun M h=>⟨h.2.2.2.2.1,h.2.2.2.2.2⟩) r.app.2) ?_;rintro _ _ (⟨rfl,rfl⟩|⟨rfl,t,g,rfl⟩) _ b<;>simp only [ca,na] at b<;>subst b
       . refine Zz ?_;rw [show k+itK (Zk l) d s+1+(Zt (Zk w) (d+1)).length+(Zt (Zk e) (d+1)).length=k+itK (Zk l) d (s+1) by omega];refine Zs (ih (s+1) Zq Zq)
       refine Zm (t::q) ?_;exact ⟨_,rfl,.inr ⟨rfl,t,g,rfl⟩⟩
     refine Zm (t::q) ?_;exact ⟨_,rfl,.inr ⟨rfl,t,g,rfl⟩⟩
   refine ⟨trivial,?_⟩;refine Zm (t::q) ?_;exact ⟨_,rfl,.inr ⟨rfl,t,g,rfl⟩⟩
 obtain rfl:s=l.length:=Zq;rw [show itK (Zk l) d l.length=(Zt (Zk l) d).length by rw [<-u0];exact itK_all _ _];refine Zg ?_;exact ⟨_,⟨_,rfl,.inl ⟨rfl,rfl⟩⟩,leA⟩
def walk_all (hy:(AK L G y J q Jf))(hB:B<=1000000)(N:Nat)(hN:N<=1000000):Wlk G q y B L J Jf N:=by
 induction N using Nat.strongRecOn with
 |ind N IH=>exact fun a d c f e=>Zfh hy (fun n b=>IH n b Zq) hB hN a d c f e
abbrev AA (v0:List Stm):=(Zt (Zk v0) 1)
def Zfs (hB:B<=1000000)(hs:Zn l<=1000000)(hb:V1 B l)(hK:Kn q fun M=>BlkAt M a c l)(hc:CellsAt q nb 0 (Ae a l c))
 (hy: ∀ i (h:i<(AA l).length) vs A,ItR (AA l)[i] vs A->CallV prog G (Ai y) vs (J i::A::q) (Ret fun v q'=>(v= .bool true/\q'=J (i+1)::q)\/(v= .bool false/\ ∃ B,Jf B/\q'=B::q))):
 CF G 249 (AN y nb) (J 0::q) (Ret fun _ q'=>q'=J (AA l).length::q\/ ∃ A,Jf A/\q'=A::q):=by
 refine We ntmps249 fun F g=> ?_;apply Wn (walk_all hy hB (Zn l) hs (k:=0) (aS _) hb Zq hK (Seg.self _));rintro _ _ e _ d;subst d;rw [eE] at e;rcases e with ⟨rfl,rfl⟩|⟨rfl,f,b,rfl⟩
 . simp only [ca,na];refine Zg ?_;exact ⟨_,⟨_,rfl,.inl rfl⟩,leA⟩
 simp only [ca,na];refine Zm (f::q) ?_;exact ⟨_,rfl,.inr ⟨f,b,rfl⟩⟩
def P9 (hB:B<=1000000)(hs:Zn l<=1000000)(hb:V1 B l)(hK:Kn q fun M=>BlkAt M a c l)(hc:CellsAt q nb 0 (Ae a l c)):IterR prog G (.func (.func 249) [].toArray [pt nb].toArray) ItR (AA l) q:=
 fun y J Jf hy=>gA call249 (Zfs (G:=G) (J:=J) (Jf:=Jf) hB hs hb hK hc hy)
def Zks {x0 x1 x2 x4:Int}{x3:ByteArray}(hB:B<=1000000)(hs:Zn l<=1000000)(hb:V1 B l)(hK:Kn q fun M=>BlkAt M a c l):CF G 187 [.agg [I64 x0,I64 x1,I64 x2,.string x3,I64 x4,.slice a l.length c].toArray] (q) (Ret fun v q'=> ∃ (l':List Stm) (a':Option Addr) (c' nb:Nat),Zk l'=Zk l/\v= .func (.func 249) [].toArray [pt nb].toArray/\q'=pC nb (Ae a' l' c') 128::blM a' c' l'::q):=by
 refine aE ntmps187 fun F m=> ?_;refine Yb fun i=> ?_
 refine rn [3,0,2,3] ?_;refine Vd (fl:= [⟨4,3,fun g=> pt g,fun g=>pC g zz9 128⟩]) ?_;refine Bi 0 ⟨flA zeroValue128,trivial⟩ (aG _) (Fi) ?_;rintro _ _ ⟨pc,m1,m2,rfl,rfl⟩;refine ⟨hlA,?_⟩;refine Bi 3 ⟨flA zeroValue128,trivial⟩ (bC Zj Zj) ((Zqe (m1:=m1) (m2:=m2) hB 1000000 (aS _)).2 (l:=l) (es:= []) hs hb (dK V2) ((hK.le leA).imp fun M h=>⟨h,fun _ h=>by cases h⟩)) ?_;rintro _ _ ⟨d,f,e,k,j,b,rfl,rfl⟩;refine ⟨trivial,?_⟩;refine Qs (e0:=⟨4,3,fun g=> pt g,fun g=>pC g zz9 128⟩) (hnd:=by simp) 4 ⟨flA zeroValue128,trivial⟩ fun nb=> ?_;change XF _ _ _ _ _ _ _ [] _ _ _ ((3,pt nb)::_) _ _ (pC nb zz9 128::_);refine fR ?_;refine Zg ?_;exact ⟨_,⟨_,rfl,d,f,e,nb,b,rfl,rfl⟩,leA⟩
end
end Go.Proofs.YtadahhbefdnabaaGreatDoor
